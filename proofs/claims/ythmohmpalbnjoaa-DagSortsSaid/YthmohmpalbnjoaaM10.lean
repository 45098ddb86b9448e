/-
  A part of the proof: the way through what stands ahead, step by step; heads met in whatever order. No condition of its own.
-/
import Derived.Test.YthmohmpalbnjoaaM7
import Derived.Test.YthmohmpalbnjoaaM9
set_option linter.unusedVariables false
set_option linter.unusedSimpArgs false
namespace Go.Proofs.Ythmohmpalbnjoaa.V
open Go
/-- seen, and still to do -/
structure PS (m : Gm) (ids Sn T : List Str) : Prop where
  r1 : ∀ x ∈ Sn, Reach m ids x
  r2 : ∀ x ∈ T, x ∈ m.keys → Reach m ids x
  r3 : ∀ x ∈ ids, x ∈ m.keys → x ∈ Sn ∨ x ∈ T
  r4 : ∀ z ∈ Sn, ∀ x ∈ m.ahd z, x ∈ Sn ∨ x ∈ T
theorem PS.init {m : Gm} {ids : List Str} : PS m ids [] ids := ⟨by simp, fun x h1 h2 => .base h1 h2, fun x h _ => .inr h, by simp⟩
theorem take_last {T : List Str} {x : Str} (hx : T[T.length - 1]? = some x) : T = T.take (T.length - 1) ++ [x] := by
  have hlt := (List.getElem?_eq_some_iff.1 hx).1
  have := take_succ_snoc hx
  rwa [show T.length - 1 + 1 = T.length by omega, List.take_length] at this
theorem PS.skip {m : Gm} {ids Sn T : List Str} {x : Str} (h : PS m ids Sn T) (hx : T[T.length - 1]? = some x) (hn : x ∉ m.keys ∨ x ∈ Sn) (hw : GWf m) : PS m ids Sn (T.take (T.length - 1)) := by
  have ht := take_last hx
  have hm : ∀ y, y ∈ T → y ∈ T.take (T.length - 1) ∨ y = x := fun y hy => by
    rw [ht] at hy
    simpa using hy
  refine ⟨h.r1, fun y hy => h.r2 y (List.mem_of_mem_take hy), fun y hy hk => ?_, fun z hz y hy => ?_⟩
  · rcases h.r3 y hy hk with h' | h'
    · exact .inl h'
    · rcases hm y h' with h' | h'
      · exact .inr h'
      · subst h'
        rcases hn with hn | hn
        · exact absurd hk hn
        · exact .inl hn
  · rcases h.r4 z hz y hy with h' | h'
    · exact .inl h'
    · rcases hm y h' with h' | h'
      · exact .inr h'
      · subst h'
        rcases hn with hn | hn
        · exact absurd ((Reach.step (h.r1 z hz) hy).key hw) hn
        · exact .inl hn
theorem PS.push {m : Gm} {ids Sn T : List Str} {x : Str} (h : PS m ids Sn T) (hx : T[T.length - 1]? = some x) (hk : x ∈ m.keys) : PS m ids (Sn ++ [x]) (T.take (T.length - 1) ++ m.ahd x) := by
  have ht := take_last hx
  have hm : ∀ y, y ∈ T → y ∈ T.take (T.length - 1) ∨ y = x := fun y hy => by
    rw [ht] at hy
    simpa using hy
  have hr := h.r2 x (List.mem_of_getElem? hx) hk
  refine ⟨fun y hy => ?_, fun y hy hyk => ?_, fun y hy hyk => ?_, fun z hz y hy => ?_⟩
  · rcases List.mem_append.1 hy with h' | h'
    · exact h.r1 y h'
    · simp at h'
      subst h'
      exact hr
  · rcases List.mem_append.1 hy with h' | h'
    · exact h.r2 y (List.mem_of_mem_take h') hyk
    · exact .step hr h'
  · rcases h.r3 y hy hyk with h' | h'
    · exact .inl (by simp [h'])
    · rcases hm y h' with h' | h'
      · exact .inr (by simp [h'])
      · exact .inl (by simp [h'])
  · rcases List.mem_append.1 hz with h' | h'
    · rcases h.r4 z h' y hy with h2 | h2
      · exact .inl (by simp [h2])
      · rcases hm y h2 with h3 | h3
        · exact .inr (by simp [h3])
        · exact .inl (by simp [h3])
    · simp at h'
      subst h'
      exact .inr (by simp [hy])
theorem PS.done {m : Gm} {ids Sn : List Str} (h : PS m ids Sn []) {x : Str} : x ∈ Sn ↔ Reach m ids x := by
  refine ⟨h.r1 x, fun r => ?_⟩
  induction r with
  | base h1 h2 => exact (h.r3 _ h1 h2).resolve_right (by simp)
  | step _ hx ih => exact (h.r4 _ ih _ hx).resolve_right (by simp)
/-- what may still be put on the list -/
def restW (m : Gm) (Sn : List Str) : Nat := (m.map fun p => if p.1 ∈ Sn then 0 else p.2.length).sum
theorem restW_put {m : Gm} {Sn : List Str} {x : Str} (hw : GWf m) (hx : x ∉ Sn) (hk : x ∈ m.keys) : restW m (Sn ++ [x]) + (m.ahd x).length = restW m Sn := by
  have hn := hw.nodup
  have hl : ∀ p ∈ m, p.1 = x → m.ahd x = p.2 := fun p hp e => by
    have := look_nodup hn hp
    rw [e] at this
    simp [Gm.ahd, this]
  clear hw
  unfold restW
  generalize hL : m.ahd x = L at *
  clear hL
  induction m with
  | nil => simp [Gm.keys] at hk
  | cons p r ih =>
    simp only [Gm.keys, List.map_cons, List.nodup_cons, List.mem_cons] at hn hk
    simp only [List.map_cons, List.sum_cons]
    by_cases e : p.1 = x
    · have h1 : L = p.2 := hl p (by simp) e
      have h2 : ∀ q ∈ r, (if q.1 ∈ Sn ++ [x] then 0 else q.2.length) = if q.1 ∈ Sn then 0 else q.2.length := fun q hq => by
        have : q.1 ≠ x := fun e' => hn.1 (by rw [e, ← e']; exact List.mem_map_of_mem hq)
        simp [this]
      rw [List.map_congr_left h2, if_pos (by simp [e]), if_neg (by rw [e]; exact hx), h1]
      omega
    · have hk' : x ∈ r.map (·.1) := by
        rcases hk with hk | hk
        · exact absurd hk.symm e
        · exact hk
      have := ih hk' hn.2 (fun q hq => hl q (by simp [hq]))
      have h3 : (if p.1 ∈ Sn ++ [x] then 0 else p.2.length) = if p.1 ∈ Sn then 0 else p.2.length := by simp [e]
      rw [h3]
      omega
theorem GWf.ahd_len {m : Gm} (h : GWf m) {p : Str × List Str} (hp : p ∈ m) : p.2.length ≤ m.length := by
  have := nodup_len (ascS_nodup (h.asc p hp)) (h.mem hp)
  simpa [Gm.keys] using this
theorem sum_le_mul {l : List Nat} {c : Nat} (h : ∀ x ∈ l, x ≤ c) : l.sum ≤ l.length * c := by
  induction l with
  | nil => simp
  | cons a r ih =>
    have := ih (fun x hx => h x (by simp [hx]))
    have := h a (by simp)
    simp only [List.sum_cons, List.length_cons, Nat.add_mul]
    omega
theorem restW_le {m : Gm} (h : GWf m) (hl : m.length ≤ 512) (Sn : List Str) : restW m Sn ≤ 262144 := by
  have : restW m Sn ≤ (m.map fun p => if p.1 ∈ Sn then 0 else p.2.length).length * 512 := sum_le_mul fun x hx => by
    obtain ⟨p, hp, rfl⟩ := List.mem_map.1 hx
    have := h.ahd_len hp
    split <;> omega
  have h2 : m.length * 512 ≤ 512 * 512 := Nat.mul_le_mul_right _ hl
  simp only [List.length_map] at this
  omega
theorem setM_new {β : Type} {m : List (Str × β)} {k : Str} {v : β} (h : k ∉ m.map (·.1)) : setM m k v = m ++ [(k, v)] := by
  unfold setM
  cases hl : look m k with
  | none => simp
  | some x => exact absurd (List.mem_map.2 ⟨(k, x), look_some hl, rfl⟩) h
theorem look_true {m : List (Str × Value)} (h : ∀ p ∈ m, p.2 = .bool true) (k : Str) : (look m k).getD (.bool false) = .bool (decide (k ∈ m.map (·.1))) := by
  cases hl : look m k with
  | none =>
    have : k ∉ m.map (·.1) := fun hm => by
      obtain ⟨p, hp, e⟩ := List.mem_map.1 hm
      exact look_none hl p hp e
    simp [this]
  | some x =>
    have hx := look_some hl
    have : k ∈ m.map (·.1) := List.mem_map.2 ⟨_, hx, rfl⟩
    simp only [Option.getD_some, decide_eq_true this]
    exact h _ hx
theorem past_set {m : Gm} (h : GWf m) {ids Sn : List Str} (hS : ∀ x, x ∈ Sn ↔ Reach m ids x) : setS Sn = past m ids := setS_eq (past_asc m ids) fun x => (hS x).trans (past_mem h).symm
/-! ## heads -/
structure HS (m : Gm) (L O : List Str) : Prop where
  mem : ∀ x, x ∈ O ↔ x ∈ m.keys ∧ x ∉ L ∧ behind m x = 0
  nd : O.Nodup
theorem HS.init {m : Gm} : HS m m.keys [] := ⟨fun x => ⟨fun h => absurd h (by simp), fun h => absurd h.1 h.2.1⟩, List.nodup_nil⟩
theorem HS.yes {m : Gm} {L O : List Str} {k : Str} (h : HS m L O) (hk : k ∈ L) (hm : k ∈ m.keys) (h0 : behind m k = 0) : HS m (L.filter fun q => decide (q ≠ k)) (O ++ [k]) := by
  refine ⟨fun x => ?_, ?_⟩
  · simp only [List.mem_append, List.mem_singleton, h.mem, List.mem_filter, decide_eq_true_eq]
    constructor
    · rintro (⟨h1, h2, h3⟩ | rfl)
      · exact ⟨h1, fun hh => h2 hh.1, h3⟩
      · exact ⟨hm, fun hh => hh.2 rfl, h0⟩
    · rintro ⟨h1, h2, h3⟩
      by_cases e : x = k
      · exact .inr e
      · exact .inl ⟨h1, fun hh => h2 ⟨hh, e⟩, h3⟩
  · rw [List.nodup_append]
    refine ⟨h.nd, by simp, fun a ha b hb => ?_⟩
    simp only [List.mem_singleton] at hb
    subst hb
    intro e
    subst e
    exact ((h.mem a).1 ha).2.1 hk
theorem HS.no {m : Gm} {L O : List Str} {k : Str} (h : HS m L O) (h0 : behind m k ≠ 0) : HS m (L.filter fun q => decide (q ≠ k)) O := by
  refine ⟨fun x => ?_, h.nd⟩
  simp only [h.mem, List.mem_filter, decide_eq_true_eq]
  constructor
  · rintro ⟨h1, h2, h3⟩
    exact ⟨h1, fun hh => h2 hh.1, h3⟩
  · rintro ⟨h1, h2, h3⟩
    exact ⟨h1, fun hh => h2 ⟨hh, fun e => h0 (e ▸ h3)⟩, h3⟩
theorem HS.done {m : Gm} {O l : List Str} (h : HS m [] O) (hs : srtS l) (hp : l.Perm O) : l = heads m := by
  rw [srtS_set hs hp h.nd]
  unfold heads
  refine setS_ext fun x => ?_
  rw [h.mem]
  simp only [List.mem_map, List.mem_filter]
  constructor
  · rintro ⟨h1, _, h3⟩
    obtain ⟨p, hp, e⟩ := List.mem_map.1 h1
    subst e
    exact ⟨p, ⟨hp, behind_zero.1 h3⟩, rfl⟩
  · rintro ⟨p, ⟨hp, h1⟩, rfl⟩
    exact ⟨List.mem_map_of_mem hp, by simp, behind_zero.2 h1⟩
theorem HS.len {m : Gm} {L O : List Str} (h : HS m L O) : O.length ≤ m.length := by
  have := nodup_len h.nd (k := m.keys) (fun x hx => ((h.mem x).1 hx).1)
  simpa [Gm.keys] using this
theorem heads_asc (m : Gm) : ascS (heads m) := setS_asc _
theorem filter_lt {L : List Str} {k : Str} (h : k ∈ L) : (L.filter fun q => decide (q ≠ k)).length < L.length := by
  have := List.length_filter_lt_length_iff_exists (l := L) (p := fun q => decide (q ≠ k))
  exact this.2 ⟨k, h, by simp⟩
theorem Own.ne_it {w : World} {e sz n gi b : Nat} {v : Value} {vs : List Value} {m : List (Str × Value)} {L : List Str} {last : Option (Str × Value)} (O : Own w e sz v n vs) (I : MIt w gi b m L last) : ∀ x ∈ ob v, x ≠ gi := by
  rcases O.2 with ⟨rfl, _⟩ | ⟨g, o, c, cs, rfl, hB, _⟩
  · simp [ob]
  · intro x hx e
    simp [ob] at hx
    subst hx
    subst e
    obtain ⟨es, clock, since, seen, c0, h1, _⟩ := I.at_
    unfold Blk at hB
    rw [h1] at hB
    cases hB
theorem Own.ne_map {w : World} {e sz n b : Nat} {v : Value} {vs : List Value} {m : List (Str × Value)} (O : Own w e sz v n vs) (I : MapB w b m) : ∀ x ∈ ob v, x ≠ b := by
  rcases O.2 with ⟨rfl, _⟩ | ⟨g, o, c, cs, rfl, hB, _⟩
  · simp [ob]
  · intro x hx e
    simp [ob] at hx
    subst hx
    subst e
    obtain ⟨es, clock, h1, _⟩ := I.at_
    unfold Blk at hB
    rw [h1] at hB
    cases hB
theorem Blk.ne_map {w : World} {g T b : Nat} {cs : List Value} {m : List (Str × Value)} (B : Blk w g T cs) (I : MapB w b m) : g ≠ b := fun e => by
  subst e
  obtain ⟨es, clock, h1, _⟩ := I.at_
  unfold Blk at B
  rw [h1] at B
  cases B
/-- behind one more -/
theorem BM.step {m : Gm} {mB : List (Str × Value)} {l : List Str} {k : Nat} {x : Str} (h : ∀ y, (look mB y).getD (.int .i64 0) = .int .i64 ((behind m y + if y ∈ l.take k then 1 else 0 : Nat) : Int)) (hx : l[k]? = some x) (hn : l.Nodup) (hb : behind m x ≤ 512) :
    (look mB x).getD (.int .i64 0) = .int .i64 ((behind m x : Nat) : Int) ∧ ∀ y, (look (setM mB x (.int .i64 ((behind m x : Int) + 1))) y).getD (.int .i64 0) = .int .i64 ((behind m y + if y ∈ l.take (k + 1) then 1 else 0 : Nat) : Int) := by
  have hnx : x ∉ l.take k := fun hm => by
    obtain ⟨i, hi, e⟩ := List.mem_iff_getElem.1 hm
    rw [List.length_take] at hi
    have h1 : l[i]? = some x := by
      rw [List.getElem_take] at e
      rw [← e]
      exact List.getElem?_eq_getElem (by omega)
    have := nodup_at hn h1 hx
    omega
  refine ⟨?_, fun y => ?_⟩
  · have := h x
    rw [if_neg hnx] at this
    simpa using this
  · rw [look_setM, take_succ_snoc hx]
    by_cases e : y = x
    · subst e
      simp
    · rw [if_neg e]
      have := h y
      simp only [List.mem_append, List.mem_singleton, e, or_false]
      exact this
theorem BM.snoc {m : Gm} {mB : List (Str × Value)} {id : Str} {l : List Str} (h : ∀ y, (look mB y).getD (.int .i64 0) = .int .i64 ((behind m y + if y ∈ l.take l.length then 1 else 0 : Nat) : Int)) : BM (m ++ [(id, l)]) mB := fun y => by
  rw [h y, behind_snoc, List.take_length]
theorem RM.len {A : List Nat} {w : World} {m : Gm} {mA : List (Str × Value)} (h : RM A w m mA) : mA.length = m.length := by
  have := congrArg List.length h.keys
  simpa [Gm.keys] using this
theorem any_no {α : Type} {f : α → Bool} {l : List α} {k : Nat} {x : α} (hx : l[k]? = some x) (h : (l.take k).any f = false) (hf : f x = false) : (l.take (k + 1)).any f = false := by
  rw [take_succ_snoc hx, List.any_append, h]
  simp [hf]
theorem any_yes {α : Type} {f : α → Bool} {l : List α} {k : Nat} {x : α} (hx : l[k]? = some x) (hf : f x = true) : l.any f = true := List.any_eq_true.2 ⟨x, List.mem_of_getElem? hx, hf⟩
theorem GWf.ahd_le {m : Gm} (h : GWf m) (hl : m.length ≤ 512) (s : Str) : (m.ahd s).length ≤ 1000000 := by
  unfold Gm.ahd
  cases hk : look m s with
  | none => simp
  | some l =>
    have := h.ahd_len (look_some hk)
    simp only [Option.getD_some]
    simp only at this
    omega
theorem any_gap {m : Gm} {ah : List Str} (h : (ah.any fun x => !(look m x).isSome) = true) : ∃ x ∈ ah, (look m x).isSome = false := by
  obtain ⟨x, hx, h1⟩ := List.any_eq_true.1 h
  exact ⟨x, hx, by simpa using h1⟩
theorem any_all {m : Gm} {ah : List Str} (h : (ah.any fun x => !(look m x).isSome) = false) : ∀ x ∈ ah, (look m x).isSome = true := fun x hx => by
  have := List.any_eq_false.1 h x hx
  cases hb : (look m x).isSome with
  | true => rfl
  | false => rw [hb] at this; exact absurd rfl this
end Go.Proofs.Ythmohmpalbnjoaa.V

set_option linter.unusedVariables false
set_option linter.unusedSimpArgs false
set_option maxRecDepth 10000
namespace Go.Proofs.Ythmohmpalbnjoaa.V
open Go Go.Proofs
theorem pl83 : plB Try.prog 83 [(0, 1), (1, 1)] = true := by kernel_rfl
theorem zv83 : zvB Try.prog 83 ([.map none, .map none]) := by unfold zvB; kernel_rfl
theorem fd83_0 : fdB Try.prog 83 0 0 1 = true := by kernel_rfl
theorem sc80 : scB Try.prog 80 = true := by kernel_rfl
theorem zb23 : (Try.prog.info? 23).bind (·.zero) = some (.slice none 0 0) := by kernel_rfl
theorem ent36 : Ent Try.prog 36 := Ent.of Try.func36 (by kernel_rfl) (by kernel_rfl)
theorem sc29 : scB Try.prog 29 = true := by kernel_rfl
theorem ent20 : Ent Try.prog 20 := Ent.of Try.func20 (by kernel_rfl) (by kernel_rfl)
theorem ent39 : Ent Try.prog 39 := Ent.of Try.func39 (by kernel_rfl) (by kernel_rfl)
theorem ent48 : Ent Try.prog 48 := Ent.of Try.func48 (by kernel_rfl) (by kernel_rfl)
theorem c_new (A : List Nat) (w : World) (hA : ∀ x ∈ A, x < w.heap.size) : Calls Try.prog 26 [].toArray w (Ret fun u w' => ∃ g bA bB, u = .pointer (some ⟨g, 0, none⟩) ∧ Gr 83 A w' g bA bB [] ∧ w.heap.size ≤ g ∧ w.heap.size ≤ bA ∧ w.heap.size ≤ bB ∧ Mod [] w w') := by
  refine enter Try.func26 rfl rfl rfl (l := []) trivial ?_
  have E := Mod.refl [] w
  refine c_seq fun K1 hK1 => ?_
  refine c_region ?_
  refine sv (o_as rfl) rfl ?_
  refine l_nil ?_
  refine e_K (hK1 _ _ _ _ ?_)
  refine c_seq fun K2 hK2 => ?_
  refine c_region ?_
  refine s_mmap rfl fun bA w1 HbA NbA MbA => ?_
  have LbA_E : w.heap.size ≤ bA := by have := E.size; omega
  replace E := E.then MbA
  have lt_HbA := HbA.lt
  refine s_mmap rfl fun bB w2 HbB NbB MbB => ?_
  have LbB_E : w.heap.size ≤ bB := by have := E.size; omega
  replace HbA := HbA.mod0 MbB
  replace E := E.then MbB
  refine sv (o_build (cs := [_, _]) pl83 zv83 rfl rfl) rfl ?_
  refine s_box rfl rfl rfl fun g1 w3 N1 => ?_
  have Lg1_E := N1.le E
  replace HbA := HbA.mod0 N1.mod
  replace HbB := HbB.mod0 N1.mod
  replace E := E.then N1.mod
  have Bg1 := N1.blk
  refine sv (o_as rfl) rfl ?_
  refine l_nil ?_
  refine e_K (hK2 _ _ _ _ ?_)
  refine c_ret ?_
  exact ret1 rfl rfl ⟨g1, bA, bB, rfl, ⟨Bg1, ⟨[], HbA, .nil⟩, ⟨[], HbB, fun x => rfl⟩, .nil, by simp, by simp, ⟨fun h => by have := hA _ h; omega, fun h => by have := hA _ h; omega, fun h => by have := hA _ h; omega⟩, ⟨Bg1.ne_map HbA, Bg1.ne_map HbB, by omega⟩⟩, by omega, by omega, by omega, E⟩

theorem c_has (A : List Nat) (w : World) (g bA bB : Nat) (m : Gm) (G : Gr 83 A w g bA bB m) (s : Str) : Calls Try.prog 20 [.pointer (some ⟨g, 0, none⟩), S s].toArray w (Ret fun u w' => u = .bool (look m s).isSome ∧ Mod [] w w') := by
  refine enter Try.func20 rfl rfl rfl (l := [(0, _), (1, _)]) ⟨rfl, rfl, trivial⟩ ?_
  have E := Mod.refl [] w
  obtain ⟨mA, HA, RMA⟩ := G.ah
  obtain ⟨mB, HB, BB⟩ := G.bh
  have Bg := G.blk
  refine c_seq fun K1 hK1 => ?_
  refine c_region ?_
  refine sv (o_as rfl) rfl ?_
  refine l_nil ?_
  refine e_K (hK1 _ _ _ _ ?_)
  refine c_seq fun K2 hK2 => ?_
  refine c_seq fun K3 hK3 => ?_
  refine c_region ?_
  refine sv (o_mv rfl) rfl ?_
  refine sv (o_peq Try.underlying29 rfl rfl) rfl ?_
  refine l_nil ?_
  refine e_K (hK3 _ _ _ _ ?_)
  refine c_false rfl ?_
  refine c_skip ?_
  refine e_K (hK2 _ _ _ _ ?_)
  refine c_seq fun K4 hK4 => ?_
  refine c_region ?_
  refine sv (o_mv rfl) rfl ?_
  refine sv (o_nilc rfl) rfl ?_
  refine sv (o_fa0 fd83_0 rfl) rfl ?_
  refine sv (o_ld sc80 rfl (Bg.cell rfl)) rfl ?_
  refine sv (o_mv rfl) rfl ?_
  refine sv ((o_lk2 Try.underlying80 Try.underlying9 zb23 rfl (.inr ⟨_, rfl, HA.mod0 E⟩) rfl)) rfl ?_
  refine sv (o_mv rfl) rfl ?_
  refine sv (o_ext rfl rfl) rfl ?_
  refine sv (o_ext rfl rfl) rfl ?_
  refine sv (o_as rfl) rfl ?_
  refine sv (o_as rfl) rfl ?_
  refine l_nil ?_
  refine e_K (hK4 _ _ _ _ ?_)
  refine c_seq fun K5 hK5 => ?_
  refine c_region ?_
  refine sv (o_mv rfl) rfl ?_
  refine sv (o_as rfl) rfl ?_
  refine l_nil ?_
  refine e_K (hK5 _ _ _ _ ?_)
  refine c_ret ?_
  exact ret1 rfl rfl ⟨congrArg Value.bool (RMA.look s).1, E⟩

theorem c_hasN (w : World) (s : Str) : Calls Try.prog 20 [.pointer none, S s].toArray w (Ret fun u w' => u = .bool false ∧ Mod [] w w') := by
  refine enter Try.func20 rfl rfl rfl (l := [(0, _), (1, _)]) ⟨rfl, rfl, trivial⟩ ?_
  have E := Mod.refl [] w
  refine c_seq fun K1 hK1 => ?_
  refine c_region ?_
  refine sv (o_as rfl) rfl ?_
  refine l_nil ?_
  refine e_K (hK1 _ _ _ _ ?_)
  refine c_seq fun K2 hK2 => ?_
  refine c_seq fun K3 hK3 => ?_
  refine c_region ?_
  refine sv (o_mv rfl) rfl ?_
  refine sv (o_peq Try.underlying29 rfl rfl) rfl ?_
  refine l_nil ?_
  refine e_K (hK3 _ _ _ _ ?_)
  refine c_true rfl ?_
  refine c_seq fun K4 hK4 => ?_
  refine c_region ?_
  refine sv (o_as rfl) rfl ?_
  refine l_nil ?_
  refine e_K (hK4 _ _ _ _ ?_)
  refine c_ret ?_
  refine e_then (by simp) ?_
  exact ret1 rfl rfl ⟨rfl, E⟩

theorem c_lenG (A : List Nat) (w : World) (g bA bB : Nat) (m : Gm) (G : Gr 83 A w g bA bB m) : Calls Try.prog 25 [.pointer (some ⟨g, 0, none⟩)].toArray w (Ret fun u w' => u = .int .i64 m.length ∧ Mod [] w w') := by
  refine enter Try.func25 rfl rfl rfl (l := [(0, _)]) ⟨rfl, trivial⟩ ?_
  have E := Mod.refl [] w
  obtain ⟨mA, HA, RMA⟩ := G.ah
  obtain ⟨mB, HB, BB⟩ := G.bh
  have Bg := G.blk
  refine c_seq fun K1 hK1 => ?_
  refine c_region ?_
  refine sv (o_as rfl) rfl ?_
  refine l_nil ?_
  refine e_K (hK1 _ _ _ _ ?_)
  refine c_seq fun K2 hK2 => ?_
  refine c_seq fun K3 hK3 => ?_
  refine c_region ?_
  refine sv (o_mv rfl) rfl ?_
  refine sv (o_peq Try.underlying29 rfl rfl) rfl ?_
  refine l_nil ?_
  refine e_K (hK3 _ _ _ _ ?_)
  refine c_false rfl ?_
  refine c_skip ?_
  refine e_K (hK2 _ _ _ _ ?_)
  refine c_seq fun K4 hK4 => ?_
  refine c_region ?_
  refine sv (o_mv rfl) rfl ?_
  refine sv (o_nilc rfl) rfl ?_
  refine sv (o_fa0 fd83_0 rfl) rfl ?_
  refine sv (o_ld sc80 rfl (Bg.cell rfl)) rfl ?_
  refine sv ((o_mlen Try.underlying80 rfl (.inr ⟨_, rfl, HA.mod0 E⟩))) rfl ?_
  refine sv (o_as rfl) rfl ?_
  refine l_nil ?_
  refine e_K (hK4 _ _ _ _ ?_)
  refine c_ret ?_
  exact ret1 rfl rfl ⟨by rw [RMA.len], E⟩

theorem c_lenGN (w : World) : Calls Try.prog 25 [.pointer none].toArray w (Ret fun u w' => u = .int .i64 0 ∧ Mod [] w w') := by
  refine enter Try.func25 rfl rfl rfl (l := [(0, _)]) ⟨rfl, trivial⟩ ?_
  have E := Mod.refl [] w
  refine c_seq fun K1 hK1 => ?_
  refine c_region ?_
  refine sv (o_as rfl) rfl ?_
  refine l_nil ?_
  refine e_K (hK1 _ _ _ _ ?_)
  refine c_seq fun K2 hK2 => ?_
  refine c_seq fun K3 hK3 => ?_
  refine c_region ?_
  refine sv (o_mv rfl) rfl ?_
  refine sv (o_peq Try.underlying29 rfl rfl) rfl ?_
  refine l_nil ?_
  refine e_K (hK3 _ _ _ _ ?_)
  refine c_true rfl ?_
  refine c_seq fun K4 hK4 => ?_
  refine c_region ?_
  refine sv (o_as rfl) rfl ?_
  refine l_nil ?_
  refine e_K (hK4 _ _ _ _ ?_)
  refine c_ret ?_
  refine e_then (by simp) ?_
  exact ret1 rfl rfl ⟨rfl, E⟩

theorem c_ahead (A : List Nat) (w : World) (g bA bB : Nat) (m : Gm) (G : Gr 83 A w g bA bB m) (s : Str) : Calls Try.prog 21 [.pointer (some ⟨g, 0, none⟩), S s].toArray w (Ret fun u w' => OwnS w' 9 u (m.ahd s) ∧ (∀ x ∈ ob u, w.heap.size ≤ x) ∧ Mod [] w w') := by
  refine enter Try.func21 rfl rfl rfl (l := [(0, _), (1, _)]) ⟨rfl, rfl, trivial⟩ ?_
  have E := Mod.refl [] w
  obtain ⟨mA, HA, RMA⟩ := G.ah
  obtain ⟨mB, HB, BB⟩ := G.bh
  have Bg := G.blk
  have hal : (m.ahd s).length ≤ 1000000 := G.wf.ahd_le G.len s
  refine c_seq fun K1 hK1 => ?_
  refine c_region ?_
  refine sv (o_as rfl) rfl ?_
  refine l_nil ?_
  refine e_K (hK1 _ _ _ _ ?_)
  refine c_seq fun K2 hK2 => ?_
  refine c_seq fun K3 hK3 => ?_
  refine c_region ?_
  refine sv (o_mv rfl) rfl ?_
  refine sv (o_peq Try.underlying29 rfl rfl) rfl ?_
  refine l_nil ?_
  refine e_K (hK3 _ _ _ _ ?_)
  refine c_false rfl ?_
  refine c_skip ?_
  refine e_K (hK2 _ _ _ _ ?_)
  refine c_seq fun K4 hK4 => ?_
  refine c_region ?_
  refine sv (o_mv rfl) rfl ?_
  refine sv (o_nilc rfl) rfl ?_
  refine sv (o_fa0 fd83_0 rfl) rfl ?_
  refine sv (o_ld sc80 rfl (Bg.cell rfl)) rfl ?_
  refine sv (o_mv rfl) rfl ?_
  refine sv ((o_lk Try.underlying80 Try.underlying9 zb23 rfl (.inr ⟨_, rfl, HA.mod0 E⟩) rfl)) rfl ?_
  refine sc (o_call ent36 rfl) (c_cloneG _ (m.ahd s) _ (Rep.anti ((RMA.ahd s).to0 E) (by simp)) hal) rfl fun v_ w1 h_ => ?_
  obtain ⟨O, LO, E_⟩ := h_
  replace Bg := Bg.mod0 E_
  replace E := E.then E_
  refine sv (o_as rfl) rfl ?_
  refine l_nil ?_
  refine e_K (hK4 _ _ _ _ ?_)
  refine c_ret ?_
  exact ret1 rfl rfl ⟨O, LO, E⟩

theorem c_aheadN (w : World) (s : Str) : Calls Try.prog 21 [.pointer none, S s].toArray w (Ret fun u w' => u = .slice none 0 0 ∧ Mod [] w w') := by
  refine enter Try.func21 rfl rfl rfl (l := [(0, _), (1, _)]) ⟨rfl, rfl, trivial⟩ ?_
  have E := Mod.refl [] w
  refine c_seq fun K1 hK1 => ?_
  refine c_region ?_
  refine sv (o_as rfl) rfl ?_
  refine l_nil ?_
  refine e_K (hK1 _ _ _ _ ?_)
  refine c_seq fun K2 hK2 => ?_
  refine c_seq fun K3 hK3 => ?_
  refine c_region ?_
  refine sv (o_mv rfl) rfl ?_
  refine sv (o_peq Try.underlying29 rfl rfl) rfl ?_
  refine l_nil ?_
  refine e_K (hK3 _ _ _ _ ?_)
  refine c_true rfl ?_
  refine c_seq fun K4 hK4 => ?_
  refine c_region ?_
  refine sv (o_as rfl) rfl ?_
  refine l_nil ?_
  refine e_K (hK4 _ _ _ _ ?_)
  refine c_ret ?_
  refine e_then (by simp) ?_
  exact ret1 rfl rfl ⟨rfl, E⟩

theorem c_add1 (A : List Nat) (w : World) (g bA bB : Nat) (m : Gm) (G : Gr 83 A w g bA bB m) (B : Nat) (BB : Blk w B 29 [.pointer (some ⟨g, 0, none⟩)]) (s : Str) : Calls Try.prog 39 [S s, .pointer (some ⟨B, 0, none⟩)].toArray w (Ret fun u w' => u = .bool (!(look m s).isSome) ∧ Mod [] w w') := by
  refine enter Try.func39 rfl rfl rfl (l := [(0, _), (1, _)]) ⟨rfl, rfl, trivial⟩ ?_
  have E := Mod.refl [] w
  refine c_seq fun K1 hK1 => ?_
  refine c_region ?_
  refine sv (o_as rfl) rfl ?_
  refine l_nil ?_
  refine e_K (hK1 _ _ _ _ ?_)
  refine c_seq fun K2 hK2 => ?_
  refine c_region ?_
  refine sv (o_ld sc29 rfl ((BB.mod0 E).cell (i := 0) rfl)) rfl ?_
  refine sv (o_mv rfl) rfl ?_
  refine sc (o_call ent20 rfl) (c_has A _ g bA bB m (G.mod0 E) s) rfl fun v_ w1 h_ => ?_
  obtain ⟨rfl, E_⟩ := h_
  replace E := E.then E_
  refine sv (o_not rfl) rfl ?_
  refine sv (o_as rfl) rfl ?_
  refine l_nil ?_
  refine e_K (hK2 _ _ _ _ ?_)
  refine c_ret ?_
  exact ret1 rfl rfl ⟨rfl, E⟩

theorem c_idxf (A : List Nat) (w : World) (g bA bB : Nat) (m : Gm) (G : Gr 83 A w g bA bB m) (B : Nat) (BB : Blk w B 29 [.pointer (some ⟨g, 0, none⟩)]) (ah : List Str) (v0 : Value) (R : Rep [] w (strD ah) v0) : Calls Try.prog 48 [v0, .func (.func 39) #[] #[.pointer (some ⟨B, 0, none⟩)]].toArray w (Ret fun u w' => (∃ i : Int, u = .int .i64 i ∧ decide (0 ≤ i) = ah.any fun x => !(look m x).isSome) ∧ Mod [] w w') := by
  refine enter Try.func48 rfl rfl rfl (l := [(0, _), (1, _)]) ⟨rfl, rfl, trivial⟩ ?_
  have E := Mod.refl [] w
  obtain ⟨ad, c, rfl, hc1, hc2⟩ := flat_len R
  refine c_seq fun K1 hK1 => ?_
  refine c_region ?_
  refine sv (o_as rfl) rfl ?_
  refine l_nil ?_
  refine e_K (hK1 _ _ _ _ ?_)
  refine c_seq fun K2 hK2 => ?_
  refine c_seq fun K3 hK3 => ?_
  refine c_region ?_
  refine sv (o_mv rfl) rfl ?_
  refine sv (o_len Try.underlying23 rfl) rfl ?_
  refine sv (o_mv rfl) rfl ?_
  refine l_nil ?_
  refine e_K (hK3 _ _ _ _ ?_)
  refine c_block ?_
  refine c_loop (σ := Nat) (fun k => [(0, .slice ad ah.length c), (1, .func (.func 39) #[] #[.pointer (some ⟨B, 0, none⟩)]), (7, .int .i64 ah.length), (8, .int .i64 (k : Int))]) (fun k w1 => k ≤ ah.length ∧ ((ah.take k).any fun x => !(look m x).isSome) = false ∧ Mod [] w w1) (fun k => ah.length - k) (0) ⟨rfl, rfl, rfl, rfl, trivial⟩ (⟨by omega, rfl, E⟩) ?_
  rintro k w1 ⟨hk, ho, E⟩
  refine c_seq fun K4 hK4 => ?_
  refine c_region ?_
  refine sv (o_lss rfl rfl) rfl ?_
  refine l_nil ?_
  refine e_K (hK4 _ _ _ _ ?_)
  refine c_seq fun K5 hK5 => ?_
  refine c_if rfl (fun h9 => ?_) (fun h9 => ?_)
  · skip
    have hlt : k < ah.length := by omega
    obtain ⟨x, hx_x⟩ : ∃ x, (ah)[k]? = some x := ⟨_, List.getElem?_eq_getElem (by omega)⟩
    obtain ⟨a_x, ha_x, hcs_x, _⟩ := flat_at (R.to0 E) hx_x
    obtain rfl := ha_x
    refine c_skip ?_
    refine e_K (hK5 _ _ _ _ ?_)
    refine c_seq fun K6 hK6 => ?_
    refine c_block ?_
    refine c_seq fun K7 hK7 => ?_
    refine c_region ?_
    refine sv (o_mv rfl) rfl ?_
    refine sv (o_as rfl) rfl ?_
    refine l_nil ?_
    refine e_K (hK7 _ _ _ _ ?_)
    refine c_seq fun K8 hK8 => ?_
    refine c_region ?_
    refine sv (o_mv rfl) rfl ?_
    refine sv (o_mv rfl) rfl ?_
    refine sv (o_mv rfl) rfl ?_
    refine sv (o_ix sl23 rfl rfl (by omega)) rfl ?_
    refine sv (o_ld sc9 rfl hcs_x.c0) rfl ?_
    refine sc (o_callv ent39 rfl rfl) (c_add1 A _ g bA bB m (G.mod0 E) B (BB.mod0 E) x) rfl fun v_ w2 h_ => ?_
    obtain ⟨rfl, E_⟩ := h_
    replace E := E.then E_
    refine l_nil ?_
    refine e_K (hK8 _ _ _ _ ?_)
    refine c_cond rfl (fun h16 => ?_) (fun h16 => ?_)
    · skip
      refine c_seq fun K9 hK9 => ?_
      refine c_region ?_
      refine sv (o_mv rfl) rfl ?_
      refine sv (o_as rfl) rfl ?_
      refine l_nil ?_
      refine e_K (hK9 _ _ _ _ ?_)
      refine c_ret ?_
      refine e_in (by simp) ?_
      refine e_then (by simp) ?_
      refine e_then (by simp) ?_
      refine e_in (by simp) ?_
      refine e_then (by simp) ?_
      exact ret1 rfl rfl ⟨⟨_, rfl, by rw [any_yes hx_x h16]; simp⟩, E⟩
    · skip
      refine c_skip ?_
      refine e_in (by simp) ?_
      refine e_K (hK6 _ _ _ _ ?_)
      refine c_region ?_
      refine sv (o_addN rfl rfl (by omega)) rfl ?_
      refine sv (o_mv rfl) rfl ?_
      refine l_nil ?_
      exact e_round (σ := Nat) (s := k) (k + 1) ⟨rfl, rfl, rfl, rfl, trivial⟩ ⟨by omega, any_no hx_x ho h16, E⟩ (by omega)
  · skip
    refine c_exit ?_
    refine e_then (by simp) ?_
    refine e_then (by simp) ?_
    refine e_hit ?_
    refine e_K (hK2 _ _ _ _ ?_)
    refine c_seq fun K10 hK10 => ?_
    refine c_region ?_
    refine sv (o_as rfl) rfl ?_
    refine l_nil ?_
    refine e_K (hK10 _ _ _ _ ?_)
    refine c_ret ?_
    exact ret1 rfl rfl ⟨⟨_, rfl, by rw [List.take_of_length_le (by omega)] at ho; rw [ho]; simp⟩, E⟩

theorem c_cntf (A : List Nat) (w : World) (g bA bB : Nat) (m : Gm) (G : Gr 83 A w g bA bB m) (B : Nat) (BB : Blk w B 29 [.pointer (some ⟨g, 0, none⟩)]) (ah : List Str) (v0 : Value) (R : Rep [] w (strD ah) v0) : Calls Try.prog 38 [v0, .func (.func 39) #[] #[.pointer (some ⟨B, 0, none⟩)]].toArray w (Ret fun u w' => u = .bool (ah.any fun x => !(look m x).isSome) ∧ Mod [] w w') := by
  refine enter Try.func38 rfl rfl rfl (l := [(0, _), (1, _)]) ⟨rfl, rfl, trivial⟩ ?_
  have E := Mod.refl [] w
  refine c_seq fun K1 hK1 => ?_
  refine c_region ?_
  refine sv (o_as rfl) rfl ?_
  refine l_nil ?_
  refine e_K (hK1 _ _ _ _ ?_)
  refine c_seq fun K2 hK2 => ?_
  refine c_region ?_
  refine sv (o_mv rfl) rfl ?_
  refine sv (o_mv rfl) rfl ?_
  refine sc (o_call ent48 rfl) (c_idxf A _ g bA bB m (G.mod0 E) B (BB.mod0 E) ah _ (R.to0 E)) rfl fun v_ w1 h_ => ?_
  obtain ⟨⟨i, rfl, hi⟩, E_⟩ := h_
  replace E := E.then E_
  refine sv (o_geq rfl rfl) rfl ?_
  refine sv (o_as rfl) rfl ?_
  refine l_nil ?_
  refine e_K (hK2 _ _ _ _ ?_)
  refine c_ret ?_
  exact ret1 rfl rfl ⟨congrArg Value.bool hi, E⟩
end Go.Proofs.Ythmohmpalbnjoaa.V

set_option linter.unusedVariables false
set_option linter.unusedSimpArgs false
set_option maxRecDepth 10000
namespace Go.Proofs.Ythmohmpalbnjoaa.V
open Go Go.Proofs
theorem ent38 : Ent Try.prog 38 := Ent.of Try.func38 (by kernel_rfl) (by kernel_rfl)
theorem ent41 : Ent Try.prog 41 := Ent.of Try.func41 (by kernel_rfl) (by kernel_rfl)
theorem ent34 : Ent Try.prog 34 := Ent.of Try.func34 (by kernel_rfl) (by kernel_rfl)
theorem ent40 : Ent Try.prog 40 := Ent.of Try.func40 (by kernel_rfl) (by kernel_rfl)
theorem fd83_1 : fdB Try.prog 83 1 1 1 = true := by kernel_rfl
theorem sc81 : scB Try.prog 81 = true := by kernel_rfl
theorem zb3 : (Try.prog.info? 3).bind (·.zero) = some (.int .i64 0) := by kernel_rfl
theorem c_addG (A : List Nat) (w : World) (g bA bB : Nat) (m : Gm) (G : Gr 83 A w g bA bB m) (s : Str) (ah : List Str) (v0 : Value) (R : Rep [] w (strD ah) v0) (hn : ah.length ≤ 1000000) (hs : s.length ≤ 1000000) (hA : ∀ x ∈ A, x < w.heap.size) : Calls Try.prog 24 [.pointer (some ⟨g, 0, none⟩), S s, v0].toArray w (Ret fun u w' => u = .int .i64 (addG m s ah).2 ∧ Gr 83 A w' g bA bB (addG m s ah).1 ∧ Mod [bA, bB] w w') := by
  refine enter Try.func24 rfl rfl rfl (l := [(0, _), (1, _), (2, _)]) ⟨rfl, rfl, rfl, trivial⟩ ?_
  have E := Mod.refl [] w
  obtain ⟨mA, HA, RMA⟩ := G.ah
  obtain ⟨mB, HB, BB⟩ := G.bh
  have Bg := G.blk
  have Bg0 := Bg
  have hnin := G.nin
  have hne := G.ne
  obtain ⟨ad, c, rfl, hc1, hc2⟩ := flat_len R
  refine c_seq fun K1 hK1 => ?_
  refine c_region ?_
  refine s_box rfl rfl rfl fun g1 w1 N1 => ?_
  have Lg1_E := N1.le E
  have Dg_g1 := N1.ne Bg
  replace Bg := Bg.mod0 N1.mod
  replace E := E.then N1.mod
  have Bg1 := N1.blk
  refine sv (o_as rfl) rfl ?_
  refine l_nil ?_
  refine e_K (hK1 _ _ _ _ ?_)
  refine c_seq fun K2 hK2 => ?_
  refine c_block ?_
  refine c_seq fun K3 hK3 => ?_
  refine c_region ?_
  refine sv (o_ld sc29 rfl (Bg1.cell rfl)) rfl ?_
  refine sv (o_peq Try.underlying29 rfl rfl) rfl ?_
  refine sv (o_as rfl) rfl ?_
  refine l_nil ?_
  refine e_K (hK3 _ _ _ _ ?_)
  refine c_false rfl ?_
  refine c_seq fun K4 hK4 => ?_
  refine c_region ?_
  refine sv (o_ld sc29 rfl (Bg1.cell rfl)) rfl ?_
  refine sv (o_mv rfl) rfl ?_
  refine sc (o_call ent20 rfl) (c_has A _ g bA bB m (G.mod0 E) s) rfl fun v_ w2 h_ => ?_
  obtain ⟨rfl, E_⟩ := h_
  replace Bg := Bg.mod0 E_
  replace Bg1 := Bg1.mod0 E_
  replace E := E.then E_
  refine sv (o_as rfl) rfl ?_
  refine l_nil ?_
  refine e_K (hK4 _ _ _ _ ?_)
  refine c_cond rfl (fun h13 => ?_) (fun h13 => ?_)
  · skip
    refine c_seq fun K5 hK5 => ?_
    refine c_region ?_
    refine sv (o_as rfl) rfl ?_
    refine l_nil ?_
    refine e_K (hK5 _ _ _ _ ?_)
    refine c_ret ?_
    refine e_in (by simp) ?_
    refine e_then (by simp) ?_
    exact ret1 rfl rfl ⟨by rw [addG_twice h13], by rw [addG_twice h13]; exact G.mod0 E, E.mono (by simp)⟩
  · skip
    refine c_seq fun K6 hK6 => ?_
    refine c_region ?_
    refine sv (o_mv rfl) rfl ?_
    refine sv (o_mkf rfl rfl) rfl ?_
    refine sc (o_call ent38 rfl) (c_cntf A _ g bA bB m (G.mod0 E) _ Bg1 ah _ (R.to0 E)) rfl fun v_ w3 h_ => ?_
    obtain ⟨rfl, E_⟩ := h_
    replace Bg := Bg.mod0 E_
    replace Bg1 := Bg1.mod0 E_
    replace E := E.then E_
    refine sv (o_as rfl) rfl ?_
    refine l_nil ?_
    refine e_K (hK6 _ _ _ _ ?_)
    refine c_cond rfl (fun h17 => ?_) (fun h17 => ?_)
    · skip
      refine c_seq fun K7 hK7 => ?_
      refine c_region ?_
      refine sv (o_as rfl) rfl ?_
      refine l_nil ?_
      refine e_K (hK7 _ _ _ _ ?_)
      refine c_ret ?_
      refine e_in (by simp) ?_
      refine e_then (by simp) ?_
      exact ret1 rfl rfl ⟨by obtain ⟨x, hx, h1⟩ := any_gap h17; rw [addG_gap (by simpa using h13) hx h1], by obtain ⟨x, hx, h1⟩ := any_gap h17; rw [addG_gap (by simpa using h13) hx h1]; exact G.mod0 E, E.mono (by simp)⟩
    · skip
      refine c_seq fun K8 hK8 => ?_
      refine c_region ?_
      refine sv (o_ld sc29 rfl (Bg1.cell rfl)) rfl ?_
      refine sv (o_nilc rfl) rfl ?_
      refine sv (o_fa0 fd83_0 rfl) rfl ?_
      refine sv (o_ld sc80 rfl (Bg.cell rfl)) rfl ?_
      refine sv (((o_mlen Try.underlying80 rfl (.inr ⟨_, rfl, HA.mod0 E⟩)).to (congrArg (Value.int .i64) (congrArg Nat.cast RMA.len)))) rfl ?_
      refine sv (o_eql rfl rfl) rfl ?_
      refine sv (o_as rfl) rfl ?_
      refine l_nil ?_
      refine e_K (hK8 _ _ _ _ ?_)
      refine c_if rfl (fun h21 => ?_) (fun h21 => ?_)
      · skip
        refine c_seq fun K9 hK9 => ?_
        refine c_region ?_
        refine sv (o_as rfl) rfl ?_
        refine l_nil ?_
        refine e_K (hK9 _ _ _ _ ?_)
        refine c_ret ?_
        refine e_in (by simp) ?_
        refine e_then (by simp) ?_
        exact ret1 rfl rfl ⟨by rw [addG_many (by simpa using h13) (any_all h17) (by omega)], by rw [addG_many (by simpa using h13) (any_all h17) (by omega)]; exact G.mod0 E, E.mono (by simp)⟩
      · skip
        refine c_skip ?_
        refine e_in (by simp) ?_
        refine e_K (hK2 _ _ _ _ ?_)
        refine c_seq fun K10 hK10 => ?_
        refine c_region ?_
        refine sv (o_mv rfl) rfl ?_
        refine sc (o_call ent41 rfl) (c_values _ _ _ _) rfl fun v_ w4 h_ => ?_
        obtain ⟨B2, rfl, BB2, LB2, E_⟩ := h_
        replace Bg := Bg.mod0 E_
        replace Bg1 := Bg1.mod0 E_
        replace E := E.then E_
        have Bg1_lt := Bg1.lt
        refine sc (o_call ent34 rfl) (c_sortedV _ B2 c _ ah BB2 (R.to0 E) hn) rfl fun v_ w5 h_ => ?_
        obtain ⟨⟨l2, hl2, hp2, Os⟩, LOs, E_⟩ := h_
        replace Bg := Bg.mod0 E_
        replace Bg1 := Bg1.mod0 E_
        replace E := E.then E_
        have hdd := ddS_set hl2 hp2
        have hl2n : l2.length ≤ 1000000 := by rw [hp2.length_eq]; exact hn
        have hEs := E.size
        have LOs2 : ∀ x ∈ ob v_, w.heap.size ≤ x := fun x hx => by have := LOs x hx; omega
        refine sc (o_call ent40 rfl) (c_compactS _ l2 _ Os hl2n) rfl fun v_ w6 h_ => ?_
        obtain ⟨Oc, LOc0, Ec_⟩ := h_
        rw [hdd] at Oc
        have LOc : ∀ x ∈ ob v_, w.heap.size ≤ x := fun x hx => LOs2 x (LOc0 x hx)
        replace Bg1 := Bg1.mod Ec_ (fun h => by have := LOs _ h; have := Bg1_lt; omega)
        replace Bg := Bg.mod Ec_ (fun h => by have := LOs2 _ h; have := Bg0.lt; omega)
        replace E := E.trans' Ec_ (fun x hx => .inr (LOs2 x hx))
        refine sv (o_as rfl) rfl ?_
        refine l_nil ?_
        refine e_K (hK10 _ _ _ _ ?_)
        refine c_seq fun K11 hK11 => ?_
        refine c_region ?_
        refine sv (o_ld sc29 rfl (Bg1.cell rfl)) rfl ?_
        refine sv (o_nilc rfl) rfl ?_
        refine sv (o_fa0 fd83_0 rfl) rfl ?_
        refine sv (o_ld sc80 rfl (Bg.cell rfl)) rfl ?_
        refine sv (o_mv rfl) rfl ?_
        refine sv (o_mv rfl) rfl ?_
        have hv := Oc
        have hvA : ∀ x ∈ ob v_, w.heap.size ≤ x := fun x hx => by have := LOc x hx; omega
        obtain ⟨adL, cL, rfl, hcL1, hcL2⟩ := Oc.form
        refine s_mset Try.underlying80 Try.underlying9 rfl (HA.mod0 E) rfl rfl fun w7 HA2 EA2 => ?_
        have hlA := HA.lt
        have hlB := HB.lt
        have hlg := Bg0.lt
        replace HB := (HB.mod0 E).mod EA2 (by simpa using Ne.symm hne.2.2)
        replace Bg := Bg.mod EA2 (by simpa using hne.1)
        replace Oc := Own.mod Oc EA2 (fun x hx h => by have := hvA x hx; simp at h; omega)
        replace Bg1 := Bg1.mod EA2 (fun h => by simp at h; have := Lg1_E; omega)
        replace E := (E.mono (N := [bA, bB]) (by simp)).trans' EA2 (fun x hx => .inl (by simp at hx; simp [hx]))
        refine l_nil ?_
        refine e_K (hK11 _ _ _ _ ?_)
        refine c_seq fun K12 hK12 => ?_
        refine c_seq fun K13 hK13 => ?_
        refine c_region ?_
        refine sv (o_mv rfl) rfl ?_
        refine sv (o_len Try.underlying23 rfl) rfl ?_
        refine sv (o_mv rfl) rfl ?_
        refine l_nil ?_
        refine e_K (hK13 _ _ _ _ ?_)
        refine c_block ?_
        refine c_loop (σ := Nat) (fun k => [(3, .pointer (some ⟨g1, 0, none⟩)), (7, .slice adL (setS ah).length cL), (38, .slice adL (setS ah).length cL), (39, .int .i64 (setS ah).length), (40, .int .i64 (k : Int))]) (fun k w1 => k ≤ (setS ah).length ∧ (∃ mBk, MapB w1 bB mBk ∧ ∀ y, (look mBk y).getD (.int .i64 0) = .int .i64 ((behind m y + if y ∈ (setS ah).take k then 1 else 0 : Nat) : Int)) ∧ MapB w1 bA (setM mA s (.slice adL (setS ah).length cL)) ∧ Blk w1 g 83 [.map (some bA), .map (some bB)] ∧ OwnS w1 9 (.slice adL (setS ah).length cL) (setS ah) ∧ Blk w1 g1 29 [.pointer (some ⟨g, 0, none⟩)] ∧ Mod [bA, bB] w w1) (fun k => (setS ah).length - k) (0) ⟨rfl, rfl, rfl, rfl, rfl, trivial⟩ (⟨by omega, ⟨mB, HB, fun y => by rw [BB y]; simp⟩, HA2, Bg, Oc, Bg1, E⟩) ?_
        rintro k w8 ⟨hk, ⟨mBk, HBk, hBk⟩, HA2, Bg, Oc, Bg1, E⟩
        refine c_seq fun K14 hK14 => ?_
        refine c_region ?_
        refine sv (o_lss rfl rfl) rfl ?_
        refine l_nil ?_
        refine e_K (hK14 _ _ _ _ ?_)
        refine c_seq fun K15 hK15 => ?_
        refine c_if rfl (fun h41 => ?_) (fun h41 => ?_)
        · skip
          have hlt : k < (setS ah).length := by omega
          have ROc := OwnS.rep [] Oc (by simp)
          obtain ⟨x, hx_x⟩ : ∃ x, (setS ah)[k]? = some x := ⟨_, List.getElem?_eq_getElem (by omega)⟩
          obtain ⟨a_x, ha_x, hcs_x, _⟩ := flat_at ((ROc).to0 (Mod.refl [] _)) hx_x
          obtain rfl := ha_x
          obtain ⟨hbx, hBk2⟩ := BM.step hBk hx_x (ascS_nodup (setS_asc ah)) (by have := behind_le m x; have := G.len; omega)
          refine c_skip ?_
          refine e_K (hK15 _ _ _ _ ?_)
          refine c_seq fun K16 hK16 => ?_
          refine c_block ?_
          refine c_seq fun K17 hK17 => ?_
          refine c_region ?_
          refine sv (o_ix sl23 rfl rfl (by omega)) rfl ?_
          refine sv (o_ld sc9 rfl hcs_x.c0) rfl ?_
          refine sv (o_as rfl) rfl ?_
          refine l_nil ?_
          refine e_K (hK17 _ _ _ _ ?_)
          refine c_region ?_
          refine sv (o_ld sc29 rfl (Bg1.cell rfl)) rfl ?_
          refine sv (o_nilc rfl) rfl ?_
          refine sv (o_fa0 fd83_1 rfl) rfl ?_
          refine sv (o_ld sc81 rfl (Bg.cell rfl)) rfl ?_
          refine sv (o_mv rfl) rfl ?_
          refine sv ((o_lk Try.underlying81 Try.underlying9 zb3 rfl (.inr ⟨_, rfl, HBk⟩) rfl).to hbx) rfl ?_
          refine sv ((o_addN rfl rfl (by have := behind_le m x; have := G.len; omega))) rfl ?_
          refine s_mset Try.underlying81 Try.underlying9 rfl HBk rfl rfl fun w9 HB2 EB2 => ?_
          replace HA2 := HA2.mod EB2 (by simpa using hne.2.2)
          replace Bg := Bg.mod EB2 (by simpa using hne.2.1)
          replace Oc := Own.mod Oc EB2 (fun x hx h => by have := hvA x hx; simp at h; omega)
          replace Bg1 := Bg1.mod EB2 (fun h => by simp at h; have := Lg1_E; omega)
          replace E := E.trans' EB2 (fun x hx => .inl (by simp at hx; simp [hx]))
          refine l_nil ?_
          refine e_in (by simp) ?_
          refine e_K (hK16 _ _ _ _ ?_)
          refine c_region ?_
          refine sv (o_addN rfl rfl (by omega)) rfl ?_
          refine sv (o_mv rfl) rfl ?_
          refine l_nil ?_
          exact e_round (σ := Nat) (s := k) (k + 1) ⟨rfl, rfl, rfl, rfl, rfl, trivial⟩ ⟨by omega, ⟨_, HB2, hBk2⟩, HA2, Bg, Oc, Bg1, E⟩ (by omega)
        · skip
          have hk2 : k = (setS ah).length := by omega
          refine c_exit ?_
          refine e_then (by simp) ?_
          refine e_then (by simp) ?_
          refine e_hit ?_
          refine e_K (hK12 _ _ _ _ ?_)
          refine c_seq fun K18 hK18 => ?_
          refine c_region ?_
          refine sv (o_as rfl) rfl ?_
          refine l_nil ?_
          refine e_K (hK18 _ _ _ _ ?_)
          refine c_ret ?_
          exact ret1 rfl rfl ⟨by rw [addG_ok (by simpa using h13) (any_all h17) (by omega)], by
            rw [addG_ok (by simpa using h13) (any_all h17) (by omega)]
            have hnk : s ∉ mA.map (·.1) := by rw [RMA.keys]; exact not_keys (by simpa using h13)
            exact ⟨Bg, ⟨_, HA2, by
              rw [setM_new hnk]
              exact .snoc (RMA.to E (fun x hx => by simp at hx; rcases hx with rfl | rfl <;> simp) (fun x hx => .inl hx)) (OwnS.rep _ Oc (fun x hx h => by have := hvA x hx; simp only [List.mem_cons] at h; rcases h with rfl | rfl | rfl | h; omega; omega; omega; have := hA _ h; omega))⟩, ⟨mBk, HBk, BM.snoc (by rw [List.take_length]; simpa [hk2] using hBk)⟩, .snoc G.wf (fun h => by rw [look_keys.2 h] at h13; cases h13) (fun x hx => look_keys.1 (any_all h17 x (setS_mem.1 hx))) (setS_asc ah), by simp only [List.length_append, List.length_singleton]; have := G.len; omega, fun p hp => by
                rcases List.mem_append.1 hp with h | h
                · exact G.small p h
                · simp at h; subst h; exact hs, hnin, hne⟩, E⟩
end Go.Proofs.Ythmohmpalbnjoaa.V

set_option linter.unusedVariables false
set_option linter.unusedSimpArgs false
set_option maxRecDepth 10000
namespace Go.Proofs.Ythmohmpalbnjoaa.V
open Go Go.Proofs
theorem zb4 : (Try.prog.info? 4).bind (·.zero) = some (.bool false) := by kernel_rfl
theorem c_past (A : List Nat) (w : World) (g bA bB : Nat) (m : Gm) (G : Gr 83 A w g bA bB m) (ids : List Str) (v0 : Value) (R : Rep [] w (strD ids) v0) (hn : ids.length ≤ 1000000) : Calls Try.prog 29 [.pointer (some ⟨g, 0, none⟩), v0].toArray w (Ret fun u w' => ∃ bS mp, u = .map (some bS) ∧ MapB w' bS mp ∧ (∀ x, x ∈ mp.map (·.1) ↔ Reach m ids x) ∧ w.heap.size ≤ bS ∧ Mod [] w w') := by
  refine enter Try.func29 rfl rfl rfl (l := [(0, _), (1, _)]) ⟨rfl, rfl, trivial⟩ ?_
  have E := Mod.refl [] w
  obtain ⟨mA, HA, RMA⟩ := G.ah
  obtain ⟨mB, HB, BB⟩ := G.bh
  have Bg := G.blk
  have Bg0 := Bg
  refine c_seq fun K1 hK1 => ?_
  refine c_region ?_
  refine sv (o_as rfl) rfl ?_
  refine l_nil ?_
  refine e_K (hK1 _ _ _ _ ?_)
  refine c_seq fun K2 hK2 => ?_
  refine c_region ?_
  refine s_mmap rfl fun bS w1 HbS NbS MbS => ?_
  have LbS_E : w.heap.size ≤ bS := by have := E.size; omega
  replace Bg := Bg.mod0 MbS
  replace E := E.then MbS
  refine sv (o_as rfl) rfl ?_
  refine l_nil ?_
  refine e_K (hK2 _ _ _ _ ?_)
  refine c_seq fun K3 hK3 => ?_
  refine c_region ?_
  refine sv (o_mv rfl) rfl ?_
  refine sc (o_call ent36 rfl) (c_cloneG _ ids _ (R.to0 E) hn) rfl fun v_ w2 h_ => ?_
  obtain ⟨Oc, LOc0, E_⟩ := h_
  replace HbS := HbS.mod0 E_
  replace Bg := Bg.mod0 E_
  replace E := E.then E_
  have LOc : ∀ x ∈ ob v_, w.heap.size ≤ x := fun x hx => by have := LOc0 x hx; have := MbS.size; omega
  have LbS := LbS_E
  refine sv (o_as rfl) rfl ?_
  refine l_nil ?_
  refine e_K (hK3 _ _ _ _ ?_)
  refine c_seq fun K4 hK4 => ?_
  refine c_block ?_
  refine c_loop (σ := List (Str × Value) × List Str × Value) (fun ⟨mp, T, v⟩ => [(0, .pointer (some ⟨g, 0, none⟩)), (5, .map (some bS)), (6, v)]) (fun ⟨mp, T, v⟩ w1 => PS m ids (mp.map (·.1)) T ∧ (∀ p ∈ mp, p.2 = .bool true) ∧ T.length + restW m (mp.map (·.1)) ≤ 1262144 ∧ MapB w1 bS mp ∧ OwnS w1 9 v T ∧ (∀ y ∈ ob v, w.heap.size ≤ y) ∧ Blk w1 g 83 [.map (some bA), .map (some bB)] ∧ Mod [] w w1) (fun ⟨mp, T, v⟩ => T.length + restW m (mp.map (·.1))) (⟨[], ids, v_⟩) ⟨rfl, rfl, rfl, trivial⟩ (⟨PS.init, by simp, by have := restW_le G.wf G.len []; simp only [List.map_nil]; omega, HbS, Oc, LOc, Bg, E⟩) ?_
  rintro ⟨mp, T, v⟩ w3 ⟨hPS, htr, hTw, HS, OT, LT, Bg, E⟩
  refine c_seq fun K5 hK5 => ?_
  refine c_seq fun K6 hK6 => ?_
  refine c_region ?_
  obtain ⟨adT, cT, rfl, hcT1, hcT2⟩ := OT.form
  have hrest := restW_le G.wf G.len (mp.map (·.1))
  have hsubl : T.length ≤ 1262144 := by omega
  refine sv (o_mv rfl) rfl ?_
  refine sv (o_len Try.underlying23 rfl) rfl ?_
  refine sv (o_gtr rfl rfl) rfl ?_
  refine l_nil ?_
  refine e_K (hK6 _ _ _ _ ?_)
  refine c_if rfl (fun h13 => ?_) (fun h13 => ?_)
  · skip
    have hTpos : 0 < T.length := by omega
    obtain ⟨x, hx_x⟩ : ∃ x, T[T.length - 1]? = some x := ⟨_, List.getElem?_eq_getElem (by omega)⟩
    have ROT := OwnS.rep [] OT (by simp)
    obtain ⟨a_x, ha_x, hcs_x, _⟩ := flat_at ROT hx_x
    obtain rfl := ha_x
    have OT2 : OwnS w3 9 (.slice (some a_x) (T.length - 1) cT) (T.take (T.length - 1)) := OwnS.to (Own.take OT (m := T.length - 1) (by omega)) (by simp) (by rw [flat_take_ (sz := 1) (cells := fun s : Str => [S s]) (fun _ => rfl)])
    refine c_skip ?_
    refine e_K (hK5 _ _ _ _ ?_)
    refine c_block ?_
    refine c_seq fun K7 hK7 => ?_
    refine c_region ?_
    refine sv (o_mv rfl) rfl ?_
    refine sv (o_mv rfl) rfl ?_
    refine sv (o_len Try.underlying23 rfl) rfl ?_
    refine sv (o_subE (r := ((T.length - 1 : Nat) : Int)) rfl rfl (by rw [wrap64_in _ (by omega)]; omega)) rfl ?_
    refine sv (o_ix sl23 rfl rfl (by omega)) rfl ?_
    refine sv (o_ld sc9 rfl hcs_x.c0) rfl ?_
    refine sv (o_as rfl) rfl ?_
    refine l_nil ?_
    refine e_K (hK7 _ _ _ _ ?_)
    refine c_seq fun K8 hK8 => ?_
    refine c_region ?_
    refine sv (o_mv rfl) rfl ?_
    refine sv (o_mv rfl) rfl ?_
    refine sv (o_len Try.underlying23 rfl) rfl ?_
    refine sv (o_subE (r := ((T.length - 1 : Nat) : Int)) rfl rfl (by rw [wrap64_in _ (by omega)]; omega)) rfl ?_
    refine sv (o_slto sl23 rfl rfl (by omega) (by omega)) rfl ?_
    refine sv (o_as rfl) rfl ?_
    refine l_nil ?_
    refine e_K (hK8 _ _ _ _ ?_)
    refine c_seq fun K9 hK9 => ?_
    by_cases hk1 : (look m x).isSome = true
    · skip
      refine c_region ?_
      refine sv (o_mv rfl) rfl ?_
      refine sv (o_mv rfl) rfl ?_
      refine sc (o_call ent20 rfl) (c_has A _ g bA bB m (G.mod0 E) x) rfl fun v_ w4 h_ => ?_
      obtain ⟨rfl, E_⟩ := h_
      replace HS := HS.mod0 E_
      replace OT2 := OT2.mod0 E_
      replace Bg := Bg.mod0 E_
      replace E := E.then E_
      refine sv (o_mv rfl) rfl ?_
      refine sg rfl (hk1) (o_mv rfl) rfl ?_
      refine sg rfl (hk1) (o_mv rfl) rfl ?_
      refine sg rfl (hk1) ((o_lk Try.underlying69 Try.underlying9 zb4 rfl (.inr ⟨_, rfl, HS⟩) rfl).to (look_true htr x)) rfl ?_
      refine sg rfl (hk1) (o_not rfl) rfl ?_
      refine sv (o_pickT (hk1) rfl rfl) rfl ?_
      refine l_nil ?_
      refine e_K (hK9 _ _ _ _ ?_)
      refine c_cond rfl (fun h33 => ?_) (fun h33 => ?_)
      · skip
        have hnS : x ∉ (mp.map (·.1)) := by simpa using h33
        have hxk : x ∈ m.keys := look_keys.1 hk1
        refine c_seq fun K10 hK10 => ?_
        refine c_region ?_
        refine sv (o_mv rfl) rfl ?_
        refine sv (o_mv rfl) rfl ?_
        have hbS := LbS
        have hot : ∀ y ∈ ob (.slice (some a_x) (T.length - 1) cT), y ≠ bS := Own.ne_map OT2 HS
        refine s_mset Try.underlying69 Try.underlying9 rfl HS rfl rfl fun w5 HS2 ES2 => ?_
        replace Bg := Bg.mod ES2 (by simp; have := Bg0.lt; omega)
        replace OT2 := Own.mod OT2 ES2 (fun y hy h => hot y hy (by simpa using h))
        replace E := E.trans' ES2 (fun y hy => .inr (by simp at hy; omega))
        have hset := setM_new (v := .bool true) hnS
        rw [hset] at HS2
        refine l_nil ?_
        refine e_K (hK10 _ _ _ _ ?_)
        refine c_region ?_
        refine sv (o_mv rfl) rfl ?_
        refine sv (o_mv rfl) rfl ?_
        refine sv (o_nilc rfl) rfl ?_
        refine sv (o_fa0 fd83_0 rfl) rfl ?_
        refine sv (o_ld sc80 rfl (Bg.cell rfl)) rfl ?_
        refine sv (o_mv rfl) rfl ?_
        refine sv ((o_lk Try.underlying80 Try.underlying9 zb23 rfl (.inr ⟨_, rfl, HA.mod0 E⟩) rfl)) rfl ?_
        have hlT : ∀ y ∈ ob (.slice (some a_x) (T.length - 1) cT), w.heap.size ≤ y := fun y hy => LT y (by simpa [ob] using hy)
        have hrw := restW_put G.wf hnS hxk
        refine s_append sl23 rfl rfl OT2 (Src.flat Try.underlying23 ((RMA.ahd x).to0 E)) (by decide) (by have := List.length_take_le (T.length - 1) T; omega) (by have := List.length_take_le (T.length - 1) T; omega) rfl fun vT w6 AT => ?_
        have hbT : ∀ y ∈ ob vT, w.heap.size ≤ y := fun y hy => (AT.ob_ y hy).elim (hlT y) (fun h => by have := E.size; omega)
        replace HS2 := HS2.mod AT.mod (fun h => hot _ h rfl)
        replace Bg := Bg.mod AT.mod (fun h => by have := hlT _ h; have := Bg0.lt; omega)
        replace E := E.trans' AT.mod (fun y hy => .inr (hlT y hy))
        have OT3 : OwnS w6 9 vT (T.take (T.length - 1) ++ m.ahd x) := OwnS.to AT.own (by simp) (by simp)
        refine sv (o_as rfl) rfl ?_
        refine l_nil ?_
        refine e_in (by simp) ?_
        exact e_round (σ := List (Str × Value) × List Str × Value) (s := ⟨mp, T, .slice (some a_x) T.length cT⟩) (⟨mp ++ [(x, .bool true)], T.take (T.length - 1) ++ m.ahd x, vT⟩) ⟨rfl, rfl, rfl, trivial⟩ ⟨by rw [List.map_append]; exact PS.push hPS hx_x hxk, fun p hp => (List.mem_append.1 hp).elim (htr p) (fun h => by simp at h; subst h; rfl), by rw [List.map_append]; simp only [List.map_cons, List.map_nil, List.length_append, List.length_take]; omega, HS2, OT3, hbT, Bg, E⟩ (by dsimp only; first | (rw [List.length_take]; omega) | (rw [List.map_append]; simp only [List.map_cons, List.map_nil, List.length_append, List.length_take]; omega))
      · skip
        skip
        refine c_skip ?_
        refine e_in (by simp) ?_
        exact e_round (σ := List (Str × Value) × List Str × Value) (s := ⟨mp, T, .slice (some a_x) T.length cT⟩) (⟨mp, T.take (T.length - 1), .slice (some a_x) (T.length - 1) cT⟩) ⟨rfl, rfl, rfl, trivial⟩ ⟨PS.skip hPS hx_x (.inr (by simpa using h33)) G.wf, htr, by rw [List.length_take]; omega, HS, OT2, fun y hy => LT y (by simpa [ob] using hy), Bg, E⟩ (by dsimp only; first | (rw [List.length_take]; omega) | (rw [List.map_append]; simp only [List.map_cons, List.map_nil, List.length_append, List.length_take]; omega))
    · skip
      refine c_region ?_
      refine sv (o_mv rfl) rfl ?_
      refine sv (o_mv rfl) rfl ?_
      refine sc (o_call ent20 rfl) (c_has A _ g bA bB m (G.mod0 E) x) rfl fun v_ w7 h_ => ?_
      obtain ⟨rfl, E_⟩ := h_
      replace HS := HS.mod0 E_
      replace OT2 := OT2.mod0 E_
      replace Bg := Bg.mod0 E_
      replace E := E.then E_
      refine sv (o_mv rfl) rfl ?_
      refine sn rfl (fun e_ => absurd (((Bool.eq_false_iff.2 hk1)).symm.trans e_) (by decide)) rfl ?_
      refine sn rfl (fun e_ => absurd (((Bool.eq_false_iff.2 hk1)).symm.trans e_) (by decide)) rfl ?_
      refine sn rfl (fun e_ => absurd (((Bool.eq_false_iff.2 hk1)).symm.trans e_) (by decide)) rfl ?_
      refine sn rfl (fun e_ => absurd (((Bool.eq_false_iff.2 hk1)).symm.trans e_) (by decide)) rfl ?_
      refine sv (o_pickF ((Bool.eq_false_iff.2 hk1)) rfl rfl) rfl ?_
      refine l_nil ?_
      refine e_K (hK9 _ _ _ _ ?_)
      refine c_false rfl ?_
      skip
      refine c_skip ?_
      refine e_in (by simp) ?_
      exact e_round (σ := List (Str × Value) × List Str × Value) (s := ⟨mp, T, .slice (some a_x) T.length cT⟩) (⟨mp, T.take (T.length - 1), .slice (some a_x) (T.length - 1) cT⟩) ⟨rfl, rfl, rfl, trivial⟩ ⟨PS.skip hPS hx_x (.inl (fun h => hk1 (look_keys.2 h))) G.wf, htr, by rw [List.length_take]; omega, HS, OT2, fun y hy => LT y (by simpa [ob] using hy), Bg, E⟩ (by dsimp only; first | (rw [List.length_take]; omega) | (rw [List.map_append]; simp only [List.map_cons, List.map_nil, List.length_append, List.length_take]; omega))
  · skip
    have hT0 : T = [] := List.eq_nil_of_length_eq_zero (by omega)
    subst hT0
    refine c_exit ?_
    refine e_then (by simp) ?_
    refine e_then (by simp) ?_
    refine e_hit ?_
    refine e_K (hK4 _ _ _ _ ?_)
    refine c_seq fun K11 hK11 => ?_
    refine c_region ?_
    refine sv (o_mv rfl) rfl ?_
    refine sv (o_as rfl) rfl ?_
    refine l_nil ?_
    refine e_K (hK11 _ _ _ _ ?_)
    refine c_ret ?_
    exact ret1 rfl rfl ⟨bS, mp, rfl, HS, fun x => PS.done hPS, LbS, E⟩
end Go.Proofs.Ythmohmpalbnjoaa.V
