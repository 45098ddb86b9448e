/-
  A part of the proof: what Select and Right answer, in plain Lean; a drawn region's end with two slots of which something is known. No condition of its own.
-/
import Derived.Test.YtebfihecdooneaaDoorM14
import Derived.Test.YtebfihecdooneaaDoorM16
import Derived.Test.YtebfihecdooneaaDoorM12
set_option linter.unusedVariables false
set_option linter.unusedSimpArgs false
namespace Go.Proofs.YtebfihecdooneaaDoor.V
open Go
def selS (ss : List Slot) (l : List Pair) : List Str := l.filterMap (getS ss)
theorem selS_yes {ss : List Slot} {l : List Pair} {k : Nat} {x : Pair} (h : l[k]? = some x) (hs : (getS ss x).isSome = true) : selS ss (l.take (k + 1)) = selS ss (l.take k) ++ [(getS ss x).getD []] := by
  have hlt := (List.getElem?_eq_some_iff.1 h).1
  rw [List.take_succ_eq_append_getElem hlt, (List.getElem?_eq_some_iff.1 h).2, selS, selS, List.filterMap_append]
  cases hg : getS ss x with
  | none => rw [hg] at hs; cases hs
  | some y => simp [hg]
theorem selS_no {ss : List Slot} {l : List Pair} {k : Nat} {x : Pair} (h : l[k]? = some x) (hs : (getS ss x).isSome = false) : selS ss (l.take (k + 1)) = selS ss (l.take k) := by
  have hlt := (List.getElem?_eq_some_iff.1 h).1
  rw [List.take_succ_eq_append_getElem hlt, (List.getElem?_eq_some_iff.1 h).2, selS, selS, List.filterMap_append]
  cases hg : getS ss x with
  | none => simp [hg]
  | some y => rw [hg] at hs; cases hs
theorem selS_len {ss : List Slot} {l : List Pair} : (selS ss l).length ≤ l.length := List.length_filterMap_le _ _
theorem not_mem_succ {l : List Pair} {k : Nat} {x p : Pair} (h : l[k]? = some x) (h1 : p ∉ l.take k) (h2 : x ≠ p) : p ∉ l.take (k + 1) := by
  have hlt := (List.getElem?_eq_some_iff.1 h).1
  rw [List.take_succ_eq_append_getElem hlt, (List.getElem?_eq_some_iff.1 h).2]
  intro hm
  rcases List.mem_append.1 hm with hm | hm
  · exact h1 hm
  · rw [List.mem_singleton] at hm; exact h2 hm.symm
theorem Own.strs {w : World} {e : Nat} {v : Value} {l : List Str} (A : List Nat) (h : Own w e 1 v l.length ((l.map fun s => [S s]).flatten)) (hA : ∀ x ∈ ob v, x ∉ A) : Rep A w (strD l) v := Own.flat h (fun _ _ => rfl) (fun x _ c hc => by simp at hc; subst hc; rfl) rfl hA
namespace EV
theorem needR_len (e : EV) : e.needR.length ≤ 6 := by rw [← need_eq]; exact e.need_len
abbrev pr (e : EV) : Pair := ⟨e.ty, e.key⟩
/-- each state, each needed, no pair twice -/
def gd (need : List Pair) (l : List EV) : Prop := (∀ x ∈ l, x.st = true ∧ x.pr ∈ need) ∧ (l.map pr).Nodup
theorem gd_nil {need : List Pair} : gd need [] := ⟨by simp, List.nodup_nil⟩
theorem gd_take {need : List Pair} {l : List EV} (h : gd need l) (k : Nat) : gd need (l.take k) := by
  refine ⟨fun x hx => h.1 x (List.mem_of_mem_take hx), ?_⟩
  rw [List.map_take]
  exact h.2.sublist (List.take_sublist _ _)
theorem take_one {l : List EV} {k : Nat} {x : EV} (h : l[k]? = some x) : l.take (k + 1) = l.take k ++ [x] := by
  have hlt := (List.getElem?_eq_some_iff.1 h).1
  rw [List.take_succ_eq_append_getElem hlt, (List.getElem?_eq_some_iff.1 h).2]
theorem gd_succ {need : List Pair} {l : List EV} {k : Nat} {x : EV} (h : l[k]? = some x) (hg : gd need (l.take k)) (h1 : x.st = true) (h2 : x.pr ∈ need) (h3 : x.pr ∉ (l.take k).map pr) : gd need (l.take (k + 1)) := by
  rw [take_one h]
  refine ⟨fun y hy => ?_, ?_⟩
  · rcases List.mem_append.1 hy with hy | hy
    · exact hg.1 y hy
    · rw [List.mem_singleton] at hy; subst hy; exact ⟨h1, h2⟩
  · rw [List.map_append, List.map_cons, List.map_nil, List.nodup_append]
    refine ⟨hg.2, by simp, fun a ha b hb => ?_⟩
    rw [List.mem_singleton] at hb
    subst hb
    rintro rfl
    exact h3 ha
theorem gd_not {need : List Pair} {l : List EV} {k : Nat} {x : EV} (h : l[k]? = some x) (h1 : ¬ (x.st = true ∧ x.pr ∈ need ∧ x.pr ∉ (l.take k).map pr)) : ¬ gd need l := fun hg => by
  have h2 := gd_take hg (k + 1)
  rw [take_one h] at h2
  have h3 := h2.1 x (by simp)
  have h4 := h2.2
  rw [List.map_append, List.map_cons, List.map_nil, List.nodup_append] at h4
  exact h1 ⟨h3.1, h3.2, fun hm => h4.2.2 _ hm _ (by simp) rfl⟩
open Classical in
/-- may an event name these? -/
noncomputable def right (e : EV) (l : List EV) : Bool := decide (gd e.need l ∧ (e.ty = crS ∨ ∃ x ∈ l, x.ty = crS))
open Classical in
theorem right_iff {e : EV} {l : List EV} : e.right l = true ↔ gd e.need l ∧ (e.ty = crS ∨ ∃ x ∈ l, x.ty = crS) := by unfold right; exact decide_eq_true_iff
theorem right_no {e : EV} {l : List EV} (h : ¬ gd e.need l) : e.right l = false := Bool.eq_false_iff.2 fun h' => h (right_iff.1 h').1
def crU (e : EV) (l : List EV) : Bool := l.any (fun x => decide (x.ty = crS)) || decide (e.ty = crS)
theorem crU_succ {e x : EV} {l : List EV} {k : Nat} (h : l[k]? = some x) : e.crU (l.take (k + 1)) = (e.crU (l.take k) || decide (x.ty = crS)) := by
  rw [take_one h]
  unfold crU
  rw [List.any_append]
  simp only [List.any_cons, List.any_nil, Bool.or_false]
  cases (List.take k l).any (fun x => decide (x.ty = crS)) <;> cases decide (x.ty = crS) <;> cases decide (e.ty = crS) <;> rfl
theorem right_crU {e : EV} {l : List EV} (h : gd e.need l) : e.right l = e.crU l := by
  rw [Bool.eq_iff_iff, right_iff]
  unfold crU
  simp only [decide_eq_true_eq, Bool.or_eq_true, List.any_eq_true]
  constructor
  · rintro ⟨_, h1 | ⟨x, hx, h1⟩⟩
    · exact .inr h1
    · exact .inl ⟨x, hx, h1⟩
  · rintro (⟨x, hx, h1⟩ | h1)
    · exact ⟨h, .inr ⟨x, hx, h1⟩⟩
    · exact ⟨h, .inl h1⟩
theorem more_ty {e : EV} {p : Pair} (h : p ∈ e.more) : p.ty ≠ crS := by
  unfold more at h
  repeat' split at h
  all_goals simp at h
  all_goals first
    | (rcases h with h | h <;> rw [h] <;> first | exact (by decide : jrS ≠ crS) | exact (by decide : mbS ≠ crS) | exact (by decide : tpS ≠ crS))
    | (rw [h]; exact (by decide : jrS ≠ crS))
theorem need_ty {e : EV} {p : Pair} (h : p ∈ e.need) (hp : p.ty = crS) : p = ⟨crS, []⟩ := by
  unfold need at h
  split at h
  · cases h
  · rw [dd_mem, isortP_mem] at h
    unfold needs ndP at h
    simp only [List.mem_append, List.mem_cons, List.not_mem_nil, or_false] at h
    rcases h with (h | h | h) | h
    · exact h
    · subst h; exact absurd (show pwS = crS from hp) (by decide)
    · subst h; exact absurd (show mbS = crS from hp) (by decide)
    · split at h
      · rcases List.mem_cons.1 h with h | h
        · subst h; exact absurd (show mbS = crS from hp) (by decide)
        · exact absurd hp (more_ty h)
      · cases h
theorem right_seen {e : EV} {l : List EV} (h : gd e.need l) (h1 : e.ty ≠ crS) : e.right l = decide ((⟨crS, []⟩ : Pair) ∈ l.map pr) := by
  rw [Bool.eq_iff_iff, right_iff]
  simp only [decide_eq_true_eq]
  constructor
  · rintro ⟨_, h2 | ⟨x, hx, h2⟩⟩
    · exact absurd h2 h1
    · have := need_ty (h.1 x hx).2 h2
      rw [← this]
      exact List.mem_map_of_mem hx
  · intro hm
    obtain ⟨x, hx, h2⟩ := List.mem_map.1 hm
    refine ⟨h, .inr ⟨x, hx, ?_⟩⟩
    have := congrArg Pair.ty h2
    exact this
theorem right_cr {e : EV} {l : List EV} (h : gd e.need l) (h1 : e.ty = crS) : e.right l = true := by
  rw [right_iff]
  exact ⟨h, .inl h1⟩
end EV
end Go.Proofs.YtebfihecdooneaaDoor.V

set_option linter.unusedVariables false
set_option linter.unusedSimpArgs false
namespace Go.Proofs.YtebfihecdooneaaDoor.V
open Go
section
variable {P : Program} {ops : Array Oper} {Q : Exit → Act → World → Prop} {n : Nat} {ds : List Deferred} {l : List (Nat × Value)} {M : List (Nat × (Value → World → Prop))} {w : World}
theorem tw_nil2 {t r : Nat} {V U : Value → World → Prop} (hf : fitB n l = true) (ht : lk t l = none) (hM : lkM t M = some V) (hr : lk r l = none) (hN : lkM r M = some U) (htn : Nat.blt t n = true) (hrn : Nat.blt r n = true)
    (h : ∀ w' v u, Mod [] w w' → V v w' → U u w' → WE Q .normal n ds ((t, v) :: (r, u) :: l) w') : TWL P ops w n (FinW Q n ds w) [] l M := by
  intro a w' hd hC hN'
  have h1 := kn_has hd hN'
  rw [fitB_filter hf] at h1
  have htn' : t < a.tmps.size := by rw [hN'.1]; simpa [Nat.blt_eq] using htn
  have hrn' : r < a.tmps.size := by rw [hN'.1]; simpa [Nat.blt_eq] using hrn
  have h2 := hN'.2 t V (by simp [kn, ht, hM])
  have h4 := hN'.2 r U (by simp [kn, hr, hN])
  have h3 : a.tmps.getD t undef = a.tmps[t] := by simp [htn']
  have h5 : a.tmps.getD r undef = a.tmps[r] := by simp [hrn']
  rw [h3] at h2
  rw [h5] at h4
  refine h w' _ _ hC h2 h4 a ⟨h1.size, h1.defers, fun s v hv => ?_⟩
  simp only [lk] at hv
  cases hb : Nat.beq t s with
  | true =>
    rw [hb] at hv
    have := Nat.eq_of_beq_eq_true hb
    subst this
    injection hv with hv
    subst hv
    simp [htn']
  | false =>
    rw [hb] at hv
    cases hb2 : Nat.beq r s with
    | true =>
      rw [hb2] at hv
      have := Nat.eq_of_beq_eq_true hb2
      subst this
      injection hv with hv
      subst hv
      simp [hrn']
    | false => rw [hb2] at hv; exact h1.get s v hv
end
end Go.Proofs.YtebfihecdooneaaDoor.V

set_option linter.unusedVariables false
set_option linter.unusedSimpArgs false
set_option maxRecDepth 10000
namespace Go.Proofs.YtebfihecdooneaaDoor.V
open Go Go.Proofs
theorem ent40 : Ent Tryd.prog 40 := Ent.of Tryd.func40 (by kernel_rfl) (by kernel_rfl)
theorem ent27 : Ent Tryd.prog 27 := Ent.of Tryd.func27 (by kernel_rfl) (by kernel_rfl)
theorem ent9 : Ent Tryd.prog 9 := Ent.of Tryd.func9 (by kernel_rfl) (by kernel_rfl)
theorem ent28 : Ent Tryd.prog 28 := Ent.of Tryd.func28 (by kernel_rfl) (by kernel_rfl)
theorem c_in (w : World) (xs : List Pair) (v : Value) (R : Rep [] w (pairsD xs) v) (p : Pair) : Calls Tryd.prog 30 [v, p.agg].toArray w (Ret fun u w' => u = .bool (decide (p ∈ xs)) ∧ Mod [] w w') := by
  refine enter Tryd.func30 rfl rfl rfl (l := [(0, _), (1, _)]) ⟨rfl, rfl, trivial⟩ ?_
  have E := Mod.refl [] w
  obtain ⟨ad, c, rfl, hc1, hc2⟩ := flat_len R
  refine c_seq fun K1 hK1 => ?_
  refine c_region ?_
  refine s_box rfl rfl rfl fun g1 w1 N1 => ?_
  have Lg1_E := N1.le E
  replace E := E.then N1.mod
  have Bg1 := N1.blk
  refine sv (o_as rfl) rfl ?_
  refine l_nil ?_
  refine e_K (hK1 _ _ _ _ ?_)
  refine c_seq fun K2 hK2 => ?_
  refine c_seq fun K3 hK3 => ?_
  refine c_region ?_
  refine sv (o_mv rfl) rfl ?_
  refine sv (o_len Tryd.underlying32 rfl) rfl ?_
  refine sv (o_mv rfl) rfl ?_
  refine l_nil ?_
  refine e_K (hK3 _ _ _ _ ?_)
  refine c_block ?_
  refine c_loop (σ := Nat) (fun k => [(3, .pointer (some ⟨g1, 0, none⟩)), (7, .slice ad xs.length c), (8, .int .i64 xs.length), (9, .int .i64 (k : Int))]) (fun k w1 => k ≤ xs.length ∧ p ∉ xs.take k ∧ Blk w1 g1 35 p.cells ∧ w.heap.size ≤ g1 ∧ Mod [] w w1) (fun k => xs.length - k) (0) ⟨rfl, rfl, rfl, rfl, trivial⟩ (⟨by omega, by simp, Bg1, Lg1_E, E⟩) ?_
  rintro k w2 ⟨hk, ho, Bg1, Lg1_E, E⟩
  refine c_seq fun K4 hK4 => ?_
  refine c_region ?_
  refine sv (o_lss rfl rfl) rfl ?_
  refine l_nil ?_
  refine e_K (hK4 _ _ _ _ ?_)
  refine c_seq fun K5 hK5 => ?_
  refine c_if rfl (fun h10 => ?_) (fun h10 => ?_)
  · skip
    have hlt : k < xs.length := by omega
    obtain ⟨x, hx_x⟩ : ∃ x, xs[k]? = some x := ⟨_, List.getElem?_eq_getElem (by omega)⟩
    obtain ⟨a_x, ha_x, hcs_x, _⟩ := flat_at (R.to0 E) hx_x
    obtain rfl := ha_x
    refine c_skip ?_
    refine e_K (hK5 _ _ _ _ ?_)
    refine c_seq fun K6 hK6 => ?_
    refine c_block ?_
    refine c_seq fun K7 hK7 => ?_
    refine c_region ?_
    refine sv (o_ix sl32 rfl rfl (by omega)) rfl ?_
    refine sv (o_lda ag35 rfl rfl hcs_x) rfl ?_
    refine s_alloc zv35 rfl fun g2 w3 N2 => ?_
    have Lg2_E := N2.le E
    have Dg1_g2 := N2.ne Bg1
    replace Bg1 := Bg1.mod0 N2.mod
    replace E := E.then N2.mod
    have Bg2 := N2.blk
    refine s_sta (vs := [_, _]) ag35 Bg2 rfl rfl rfl (by simp [Value.oneCell']) (by simp) fun w4 P4 => ?_
    replace Bg1 := Bg1.ne P4.mod (Ne.symm (Ne.symm Dg1_g2))
    replace E := E.own P4.mod Lg2_E
    replace Bg2 : Blk w4 g2 _ [_, _] := P4.blk
    refine l_nil ?_
    refine e_K (hK7 _ _ _ _ ?_)
    refine c_seq fun K8 hK8 => ?_
    refine c_region ?_
    refine sv (o_lda (vs := [_, _]) ag35 rfl rfl (Bg2.cs rfl)) rfl ?_
    refine sv (o_lda (vs := [_, _]) ag35 rfl rfl (Bg1.cs rfl)) rfl ?_
    refine sv (o_steq (se35 ..) rfl rfl rfl) rfl ?_
    refine l_nil ?_
    refine e_K (hK8 _ _ _ _ ?_)
    refine c_cond rfl (fun h15 => ?_) (fun h15 => ?_)
    · skip
      have heq : x = p := by obtain ⟨p1, p2⟩ := p; obtain ⟨x1, x2⟩ := x; simp at h15; simp [h15]
      refine c_seq fun K9 hK9 => ?_
      refine c_region ?_
      refine sv (o_as rfl) rfl ?_
      refine l_nil ?_
      refine e_K (hK9 _ _ _ _ ?_)
      refine c_ret ?_
      refine e_in (by simp) ?_
      refine e_then (by simp) ?_
      refine e_then (by simp) ?_
      refine e_in (by simp) ?_
      refine e_then (by simp) ?_
      exact ret1 rfl rfl ⟨by rw [decide_eq_true (heq ▸ List.mem_of_getElem? hx_x)], E⟩
    · skip
      have hne : x ≠ p := by rintro rfl; simp at h15
      refine c_skip ?_
      refine e_in (by simp) ?_
      refine e_K (hK6 _ _ _ _ ?_)
      refine c_region ?_
      refine sv (o_addN rfl rfl (by omega)) rfl ?_
      refine sv (o_mv rfl) rfl ?_
      refine l_nil ?_
      exact e_round (σ := Nat) (s := k) (k + 1) ⟨rfl, rfl, rfl, rfl, trivial⟩ ⟨by omega, not_mem_succ hx_x ho hne, Bg1, Lg1_E, E⟩ (by omega)
  · skip
    refine c_exit ?_
    refine e_then (by simp) ?_
    refine e_then (by simp) ?_
    refine e_hit ?_
    refine e_K (hK2 _ _ _ _ ?_)
    refine c_seq fun K10 hK10 => ?_
    refine c_region ?_
    refine sv (o_as rfl) rfl ?_
    refine l_nil ?_
    refine e_K (hK10 _ _ _ _ ?_)
    refine c_ret ?_
    exact ret1 rfl rfl ⟨by rw [decide_eq_false (by rwa [List.take_of_length_le (by omega)] at ho)], E⟩

theorem c_index (w : World) (xs : List Pair) (v : Value) (R : Rep [] w (pairsD xs) v) (p : Pair) : Calls Tryd.prog 40 [v, p.agg].toArray w (Ret fun u w' => (∃ i : Int, u = .int .i64 i ∧ (i ≥ 0 ↔ p ∈ xs)) ∧ Mod [] w w') := by
  refine enter Tryd.func40 rfl rfl rfl (l := [(0, _), (1, _)]) ⟨rfl, rfl, trivial⟩ ?_
  have E := Mod.refl [] w
  obtain ⟨ad, c, rfl, hc1, hc2⟩ := flat_len R
  refine c_seq fun K1 hK1 => ?_
  refine c_region ?_
  refine s_box rfl rfl rfl fun g1 w1 N1 => ?_
  have Lg1_E := N1.le E
  replace E := E.then N1.mod
  have Bg1 := N1.blk
  refine sv (o_as rfl) rfl ?_
  refine l_nil ?_
  refine e_K (hK1 _ _ _ _ ?_)
  refine c_seq fun K2 hK2 => ?_
  refine c_seq fun K3 hK3 => ?_
  refine c_region ?_
  refine sv (o_mv rfl) rfl ?_
  refine sv (o_len Tryd.underlying32 rfl) rfl ?_
  refine sv (o_mv rfl) rfl ?_
  refine l_nil ?_
  refine e_K (hK3 _ _ _ _ ?_)
  refine c_block ?_
  refine c_loop (σ := Nat) (fun k => [(0, .slice ad xs.length c), (3, .pointer (some ⟨g1, 0, none⟩)), (7, .int .i64 xs.length), (8, .int .i64 (k : Int))]) (fun k w1 => k ≤ xs.length ∧ p ∉ xs.take k ∧ Blk w1 g1 35 p.cells ∧ w.heap.size ≤ g1 ∧ Mod [] w w1) (fun k => xs.length - k) (0) ⟨rfl, rfl, rfl, rfl, trivial⟩ (⟨by omega, by simp, Bg1, Lg1_E, E⟩) ?_
  rintro k w2 ⟨hk, ho, Bg1, Lg1_E, E⟩
  refine c_seq fun K4 hK4 => ?_
  refine c_region ?_
  refine sv (o_lss rfl rfl) rfl ?_
  refine l_nil ?_
  refine e_K (hK4 _ _ _ _ ?_)
  refine c_seq fun K5 hK5 => ?_
  refine c_if rfl (fun h9 => ?_) (fun h9 => ?_)
  · skip
    have hlt : k < xs.length := by omega
    obtain ⟨x, hx_x⟩ : ∃ x, xs[k]? = some x := ⟨_, List.getElem?_eq_getElem (by omega)⟩
    obtain ⟨a_x, ha_x, hcs_x, _⟩ := flat_at (R.to0 E) hx_x
    obtain rfl := ha_x
    refine c_skip ?_
    refine e_K (hK5 _ _ _ _ ?_)
    refine c_seq fun K6 hK6 => ?_
    refine c_block ?_
    refine c_seq fun K7 hK7 => ?_
    refine c_region ?_
    refine sv (o_mv rfl) rfl ?_
    refine sv (o_as rfl) rfl ?_
    refine l_nil ?_
    refine e_K (hK7 _ _ _ _ ?_)
    refine c_seq fun K8 hK8 => ?_
    refine c_draw wide (by kernel_rfl) ?_
    refine tv (fun w_ E_ => (o_lda (vs := [_, _]) ag35 rfl rfl ((Bg1.mod0 E_).cs rfl))) rfl rfl ?_
    refine tv (fun w_ E_ => (o_mv rfl)) rfl rfl ?_
    refine tv (fun w_ E_ => (o_mv rfl)) rfl rfl ?_
    refine tv (fun w_ E_ => (o_ix sl32 rfl rfl (by omega))) rfl rfl ?_
    refine tv (fun w_ E_ => (o_lda ag35 rfl rfl (hcs_x.mod0 E_))) rfl rfl ?_
    refine tv (fun w_ E_ => (o_steq (se35 ..) rfl rfl rfl)) rfl rfl ?_
    refine tw_nil rfl fun w3 E_ => ?_
    replace Bg1 := Bg1.mod0 E_
    replace E := E.then E_
    refine e_K (hK8 _ _ _ _ ?_)
    refine c_cond rfl (fun h16 => ?_) (fun h16 => ?_)
    · skip
      have heq : x = p := by obtain ⟨p1, p2⟩ := p; obtain ⟨x1, x2⟩ := x; simp at h16; simp [h16]
      refine c_seq fun K9 hK9 => ?_
      refine c_region ?_
      refine sv (o_mv rfl) rfl ?_
      refine sv (o_as rfl) rfl ?_
      refine l_nil ?_
      refine e_K (hK9 _ _ _ _ ?_)
      refine c_ret ?_
      refine e_in (by simp) ?_
      refine e_then (by simp) ?_
      refine e_then (by simp) ?_
      refine e_in (by simp) ?_
      refine e_then (by simp) ?_
      exact ret1 rfl rfl ⟨⟨_, rfl, by have := (heq ▸ List.mem_of_getElem? hx_x : p ∈ xs); simp [this]⟩, E⟩
    · skip
      have hne : x ≠ p := by rintro rfl; simp at h16
      refine c_skip ?_
      refine e_in (by simp) ?_
      refine e_K (hK6 _ _ _ _ ?_)
      refine c_region ?_
      refine sv (o_addN rfl rfl (by omega)) rfl ?_
      refine sv (o_mv rfl) rfl ?_
      refine l_nil ?_
      exact e_round (σ := Nat) (s := k) (k + 1) ⟨rfl, rfl, rfl, rfl, trivial⟩ ⟨by omega, not_mem_succ hx_x ho hne, Bg1, Lg1_E, E⟩ (by omega)
  · skip
    refine c_exit ?_
    refine e_then (by simp) ?_
    refine e_then (by simp) ?_
    refine e_hit ?_
    refine e_K (hK2 _ _ _ _ ?_)
    refine c_seq fun K10 hK10 => ?_
    refine c_region ?_
    refine sv (o_as rfl) rfl ?_
    refine l_nil ?_
    refine e_K (hK10 _ _ _ _ ?_)
    refine c_ret ?_
    exact ret1 rfl rfl ⟨⟨_, rfl, by rw [List.take_of_length_le (by omega)] at ho; simp [ho]⟩, E⟩

theorem c_contains (w : World) (xs : List Pair) (v : Value) (R : Rep [] w (pairsD xs) v) (p : Pair) : Calls Tryd.prog 29 [v, p.agg].toArray w (Ret fun u w' => u = .bool (decide (p ∈ xs)) ∧ Mod [] w w') := by
  refine enter Tryd.func29 rfl rfl rfl (l := [(0, _), (1, _)]) ⟨rfl, rfl, trivial⟩ ?_
  have E := Mod.refl [] w
  refine c_seq fun K1 hK1 => ?_
  refine c_region ?_
  refine s_box rfl rfl rfl fun g1 w1 N1 => ?_
  have Lg1_E := N1.le E
  replace E := E.then N1.mod
  have Bg1 := N1.blk
  refine sv (o_as rfl) rfl ?_
  refine l_nil ?_
  refine e_K (hK1 _ _ _ _ ?_)
  refine c_seq fun K2 hK2 => ?_
  refine c_region ?_
  refine sv (o_mv rfl) rfl ?_
  refine sv (o_lda (vs := [_, _]) ag35 rfl rfl (Bg1.cs rfl)) rfl ?_
  refine sc (o_call ent40 rfl) (c_index _ xs _ (R.to0 E) p) rfl fun v_ w2 h_ => ?_
  obtain ⟨⟨i, rfl, hi⟩, E_⟩ := h_
  replace Bg1 := Bg1.mod0 E_
  replace E := E.then E_
  refine sv (o_geq rfl rfl) rfl ?_
  refine sv (o_as rfl) rfl ?_
  refine l_nil ?_
  refine e_K (hK2 _ _ _ _ ?_)
  refine c_ret ?_
  exact ret1 rfl rfl ⟨by rw [decide_eq_decide.2 hi], E⟩

theorem c_select (w : World) (e : EV) (us : List Value) (R : Reps [] w e.D us) (ho : e.ok) (hr : e.con.Rise) (ss : List Slot) (vs : Value) (R2 : Rep [] w (slotsD ss) vs) (ha : asc ss = true) (hn : ss.length ≤ 1000000) : Calls Tryd.prog 12 [.agg us.toArray, vs].toArray w (Ret fun u w' => Own w' 9 1 u (selS ss (e.need)).length (((selS ss (e.need)).map fun s => [S s]).flatten) ∧ Mod [] w w') := by
  refine enter Tryd.func12 rfl rfl rfl (l := [(0, _), (1, _)]) ⟨rfl, rfl, trivial⟩ ?_
  have E := Mod.refl [] w
  obtain ⟨al, cl, am, cm, ap, cp, aa, ca, aS, cS, rfl, Rc, Rp, Ra, Rs⟩ := EV.cells17 R
  refine c_seq fun K1 hK1 => ?_
  refine c_region ?_
  refine s_box rfl rfl rfl fun g1 w1 N1 => ?_
  have Lg1_E := N1.le E
  replace E := E.then N1.mod
  have Bg1 := N1.blk
  refine sv (o_as rfl) rfl ?_
  refine l_nil ?_
  refine e_K (hK1 _ _ _ _ ?_)
  refine c_seq fun K2 hK2 => ?_
  refine c_region ?_
  refine sv (o_as rfl) rfl ?_
  refine l_nil ?_
  refine e_K (hK2 _ _ _ _ ?_)
  refine c_seq fun K3 hK3 => ?_
  refine c_seq fun K4 hK4 => ?_
  refine c_region ?_
  refine sv (o_lda (vs := [_, _, _, _, _, _, _, _, _, _, _, _, _, _, _, _, _]) ag29 rfl rfl (Bg1.cs rfl)) rfl ?_
  refine sc (o_call ent8 rfl) (c_need _ e _ (R.to0 E) ho hr) rfl fun v_ w2 h_ => ?_
  obtain ⟨On, Ln, E_⟩ := h_
  replace Bg1 := Bg1.mod0 E_
  replace E := E.then E_
  obtain ⟨adn, cn, rfl, hcn1, hcn2⟩ := On.form
  have RN := Own.pairs [] On (by simp)
  have E2 := Mod.refl [] w2
  have hw2 := E.size
  refine sv (o_len Tryd.underlying32 rfl) rfl ?_
  refine sv (o_mv rfl) rfl ?_
  refine l_nil ?_
  refine e_K (hK4 _ _ _ _ ?_)
  refine c_block ?_
  refine c_loop (σ := Nat × Value) (fun ⟨k, v⟩ => [(1, vs), (5, v), (11, .slice adn (e.need).length cn), (12, .int .i64 (e.need).length), (13, .int .i64 (k : Int))]) (fun ⟨k, v⟩ w1 => k ≤ (e.need).length ∧ Own w1 9 1 v (selS ss ((e.need).take k)).length (((selS ss ((e.need).take k)).map fun s => [S s]).flatten) ∧ (∀ x ∈ ob v, w.heap.size ≤ x) ∧ (∀ x ∈ ob v, w2.heap.size ≤ x) ∧ Mod [] w2 w1 ∧ Mod [] w w1) (fun ⟨k, v⟩ => (e.need).length - k) (⟨0, .slice none 0 0⟩) ⟨rfl, rfl, rfl, rfl, rfl, trivial⟩ (⟨by omega, by simpa [selS] using Own.nil w2 9 1, by simp [ob], by simp [ob], E2, E⟩) ?_
  rintro ⟨k, v⟩ w3 ⟨hk, Oa0, L0, L2, E2, E⟩
  refine c_seq fun K5 hK5 => ?_
  refine c_region ?_
  refine sv (o_lss rfl rfl) rfl ?_
  refine l_nil ?_
  refine e_K (hK5 _ _ _ _ ?_)
  refine c_seq fun K6 hK6 => ?_
  refine c_if rfl (fun h14 => ?_) (fun h14 => ?_)
  · skip
    have hlt : k < (e.need).length := by omega
    obtain ⟨x, hx_x⟩ : ∃ x, (e.need)[k]? = some x := ⟨_, List.getElem?_eq_getElem (by omega)⟩
    obtain ⟨a_x, ha_x, hcs_x, _⟩ := flat_at (RN.to0 E2) hx_x
    obtain rfl := ha_x
    refine c_skip ?_
    refine e_K (hK6 _ _ _ _ ?_)
    refine c_seq fun K7 hK7 => ?_
    refine c_block ?_
    refine c_seq fun K8 hK8 => ?_
    refine c_region ?_
    refine sv (o_ix sl32 rfl rfl (by omega)) rfl ?_
    refine sv (o_lda ag35 rfl rfl hcs_x) rfl ?_
    refine s_alloc zv35 rfl fun g2 w4 N2 => ?_
    have Lg2_E := N2.le E
    have Lg2_E2 := N2.le E2
    have Da0_g2 := N2.own_ne Oa0
    replace E := E.then N2.mod
    replace E2 := E2.then N2.mod
    replace Oa0 := Oa0.mod0 N2.mod
    have Bg2 := N2.blk
    refine s_sta (vs := [_, _]) ag35 Bg2 rfl rfl rfl (by simp [Value.oneCell']) (by simp) fun w5 P5 => ?_
    replace E := E.own P5.mod Lg2_E
    replace E2 := E2.own P5.mod Lg2_E2
    replace Oa0 := Oa0.put P5.mod Da0_g2
    replace Bg2 : Blk w5 g2 _ [_, _] := P5.blk
    refine l_nil ?_
    refine e_K (hK8 _ _ _ _ ?_)
    refine c_seq fun K9 hK9 => ?_
    refine c_region ?_
    refine sv (o_mv rfl) rfl ?_
    refine sv (o_lda (vs := [_, _]) ag35 rfl rfl (Bg2.cs rfl)) rfl ?_
    refine sc (o_call ent27 rfl) (c_get [] _ ss _ (R2.to0 E) x ha hn) rfl fun v_ w6 h_ => ?_
    obtain ⟨rfl, E_⟩ := h_
    replace Bg2 := Bg2.mod0 E_
    replace E := E.then E_
    replace E2 := E2.then E_
    replace Oa0 := Oa0.mod0 E_
    refine sv (o_mv rfl) rfl ?_
    refine sv (o_ext rfl rfl) rfl ?_
    refine sv (o_ext rfl rfl) rfl ?_
    refine sv (o_as rfl) rfl ?_
    refine sv (o_as rfl) rfl ?_
    refine l_nil ?_
    refine e_K (hK9 _ _ _ _ ?_)
    refine c_seq fun K10 hK10 => ?_
    refine c_region ?_
    refine sv (o_mv rfl) rfl ?_
    refine l_nil ?_
    refine e_K (hK10 _ _ _ _ ?_)
    refine c_cond rfl (fun h23 => ?_) (fun h23 => ?_)
    · skip
      refine c_region ?_
      refine sv (o_mv rfl) rfl ?_
      refine sv (o_mv rfl) rfl ?_
      refine s_bslice (cs := [_]) sl26 zv9 rfl rfl rfl (by decide) rfl fun g3 w7 N3 => ?_
      have Lg3_E := N3.le E
      have Lg3_E2 := N3.le E2
      have Dg2_g3 := N3.ne Bg2
      have Da0_g3 := N3.own_ne Oa0
      replace Bg2 := Bg2.mod0 N3.mod
      replace E := E.then N3.mod
      replace E2 := E2.then N3.mod
      replace Oa0 := Oa0.mod0 N3.mod
      have Bg3 := N3.blk
      refine s_append sl26 rfl rfl Oa0 (Src.own Tryd.underlying26 (Own.all (cs := [_]) Bg3 rfl (by omega)) (by simp [Value.oneCell'])) (by decide) (by have := @selS_len ss ((e.need).take k); have := List.length_take_le k (e.need); have := e.need_len; have := e.needR_len; omega) (by have := @selS_len ss ((e.need).take k); have := List.length_take_le k (e.need); have := e.need_len; have := e.needR_len; omega) rfl fun v1 w8 A1 => ?_
      have Dv1_g2 := A1.ne Da0_g2 Bg2
      have Dv1_g3 := A1.ne Da0_g3 Bg3
      have Lv1_E := A1.ge L0 E
      have Lv1_E2 := A1.ge L2 E2
      replace Bg2 := Bg2.mod A1.mod (fun hx => Da0_g2 _ hx rfl)
      replace Bg3 := Bg3.mod A1.mod (fun hx => Da0_g3 _ hx rfl)
      replace E := E.trans' A1.mod (fun x hx => .inr (L0 x hx))
      replace E2 := E2.trans' A1.mod (fun x hx => .inr (L2 x hx))
      replace Oa0 := A1.own
      refine sv (o_as rfl) rfl ?_
      refine l_nil ?_
      refine e_in (by simp) ?_
      refine e_K (hK7 _ _ _ _ ?_)
      refine c_region ?_
      refine sv (o_addN rfl rfl (by omega)) rfl ?_
      refine sv (o_mv rfl) rfl ?_
      refine l_nil ?_
      exact e_round (σ := Nat × Value) (s := ⟨k, v⟩) (⟨k + 1, v1⟩) ⟨rfl, rfl, rfl, rfl, rfl, trivial⟩ ⟨by omega, Oa0.snoc rfl (selS_yes hx_x h23), Lv1_E, Lv1_E2, E2, E⟩ (by dsimp only; omega)
    · skip
      refine c_skip ?_
      refine e_in (by simp) ?_
      refine e_K (hK7 _ _ _ _ ?_)
      refine c_region ?_
      refine sv (o_addN rfl rfl (by omega)) rfl ?_
      refine sv (o_mv rfl) rfl ?_
      refine l_nil ?_
      exact e_round (σ := Nat × Value) (s := ⟨k, v⟩) (⟨k + 1, v⟩) ⟨rfl, rfl, rfl, rfl, rfl, trivial⟩ ⟨by omega, Oa0.same (by rw [selS_no hx_x h23]) (by rw [selS_no hx_x h23]), L0, L2, E2, E⟩ (by dsimp only; omega)
  · skip
    have hk2 : (e.need).take k = e.need := List.take_of_length_le (by omega)
    refine c_exit ?_
    refine e_then (by simp) ?_
    refine e_then (by simp) ?_
    refine e_hit ?_
    refine e_K (hK3 _ _ _ _ ?_)
    refine c_seq fun K11 hK11 => ?_
    refine c_region ?_
    refine sv (o_mv rfl) rfl ?_
    refine sv (o_as rfl) rfl ?_
    refine l_nil ?_
    refine e_K (hK11 _ _ _ _ ?_)
    refine c_ret ?_
    exact ret1 rfl rfl ⟨by rw [hk2] at Oa0; exact Oa0, E⟩

theorem c_selectR (w : World) (e : EV) (us : List Value) (R : Reps [] w e.D us) (ss : List Slot) (vs : Value) (R2 : Rep [] w (slotsD ss) vs) : Calls Tryd.prog 13 [.agg us.toArray, vs].toArray w (Ret fun u w' => Own w' 9 1 u (selS ss (e.needR)).length (((selS ss (e.needR)).map fun s => [S s]).flatten) ∧ Mod [] w w') := by
  refine enter Tryd.func13 rfl rfl rfl (l := [(0, _), (1, _)]) ⟨rfl, rfl, trivial⟩ ?_
  have E := Mod.refl [] w
  obtain ⟨al, cl, am, cm, ap, cp, aa, ca, aS, cS, rfl, Rc, Rp, Ra, Rs⟩ := EV.cells17 R
  refine c_seq fun K1 hK1 => ?_
  refine c_region ?_
  refine s_box rfl rfl rfl fun g1 w1 N1 => ?_
  have Lg1_E := N1.le E
  replace E := E.then N1.mod
  have Bg1 := N1.blk
  refine sv (o_as rfl) rfl ?_
  refine l_nil ?_
  refine e_K (hK1 _ _ _ _ ?_)
  refine c_seq fun K2 hK2 => ?_
  refine c_region ?_
  refine sv (o_as rfl) rfl ?_
  refine l_nil ?_
  refine e_K (hK2 _ _ _ _ ?_)
  refine c_seq fun K3 hK3 => ?_
  refine c_seq fun K4 hK4 => ?_
  refine c_region ?_
  refine sv (o_lda (vs := [_, _, _, _, _, _, _, _, _, _, _, _, _, _, _, _, _]) ag29 rfl rfl (Bg1.cs rfl)) rfl ?_
  refine sc (o_call ent9 rfl) (c_needR _ e _ (R.to0 E)) rfl fun v_ w2 h_ => ?_
  obtain ⟨On, E_⟩ := h_
  replace Bg1 := Bg1.mod0 E_
  replace E := E.then E_
  obtain ⟨adn, cn, rfl, hcn1, hcn2⟩ := On.form
  have RN := Own.pairs [] On (by simp)
  have E2 := Mod.refl [] w2
  have hw2 := E.size
  refine sv (o_len Tryd.underlying32 rfl) rfl ?_
  refine sv (o_mv rfl) rfl ?_
  refine l_nil ?_
  refine e_K (hK4 _ _ _ _ ?_)
  refine c_block ?_
  refine c_loop (σ := Nat × Value) (fun ⟨k, v⟩ => [(1, vs), (5, v), (11, .slice adn (e.needR).length cn), (12, .int .i64 (e.needR).length), (13, .int .i64 (k : Int))]) (fun ⟨k, v⟩ w1 => k ≤ (e.needR).length ∧ Own w1 9 1 v (selS ss ((e.needR).take k)).length (((selS ss ((e.needR).take k)).map fun s => [S s]).flatten) ∧ (∀ x ∈ ob v, w.heap.size ≤ x) ∧ (∀ x ∈ ob v, w2.heap.size ≤ x) ∧ Mod [] w2 w1 ∧ Mod [] w w1) (fun ⟨k, v⟩ => (e.needR).length - k) (⟨0, .slice none 0 0⟩) ⟨rfl, rfl, rfl, rfl, rfl, trivial⟩ (⟨by omega, by simpa [selS] using Own.nil w2 9 1, by simp [ob], by simp [ob], E2, E⟩) ?_
  rintro ⟨k, v⟩ w3 ⟨hk, Oa0, L0, L2, E2, E⟩
  refine c_seq fun K5 hK5 => ?_
  refine c_region ?_
  refine sv (o_lss rfl rfl) rfl ?_
  refine l_nil ?_
  refine e_K (hK5 _ _ _ _ ?_)
  refine c_seq fun K6 hK6 => ?_
  refine c_if rfl (fun h14 => ?_) (fun h14 => ?_)
  · skip
    have hlt : k < (e.needR).length := by omega
    obtain ⟨x, hx_x⟩ : ∃ x, (e.needR)[k]? = some x := ⟨_, List.getElem?_eq_getElem (by omega)⟩
    obtain ⟨a_x, ha_x, hcs_x, _⟩ := flat_at (RN.to0 E2) hx_x
    obtain rfl := ha_x
    refine c_skip ?_
    refine e_K (hK6 _ _ _ _ ?_)
    refine c_seq fun K7 hK7 => ?_
    refine c_block ?_
    refine c_seq fun K8 hK8 => ?_
    refine c_region ?_
    refine sv (o_ix sl32 rfl rfl (by omega)) rfl ?_
    refine sv (o_lda ag35 rfl rfl hcs_x) rfl ?_
    refine s_alloc zv35 rfl fun g2 w4 N2 => ?_
    have Lg2_E := N2.le E
    have Lg2_E2 := N2.le E2
    have Da0_g2 := N2.own_ne Oa0
    replace E := E.then N2.mod
    replace E2 := E2.then N2.mod
    replace Oa0 := Oa0.mod0 N2.mod
    have Bg2 := N2.blk
    refine s_sta (vs := [_, _]) ag35 Bg2 rfl rfl rfl (by simp [Value.oneCell']) (by simp) fun w5 P5 => ?_
    replace E := E.own P5.mod Lg2_E
    replace E2 := E2.own P5.mod Lg2_E2
    replace Oa0 := Oa0.put P5.mod Da0_g2
    replace Bg2 : Blk w5 g2 _ [_, _] := P5.blk
    refine l_nil ?_
    refine e_K (hK8 _ _ _ _ ?_)
    refine c_seq fun K9 hK9 => ?_
    refine c_region ?_
    refine sv (o_mv rfl) rfl ?_
    refine sv (o_lda (vs := [_, _]) ag35 rfl rfl (Bg2.cs rfl)) rfl ?_
    refine sc (o_call ent28 rfl) (c_getR [] _ ss _ (R2.to0 E) x) rfl fun v_ w6 h_ => ?_
    obtain ⟨rfl, E_⟩ := h_
    replace Bg2 := Bg2.mod0 E_
    replace E := E.then E_
    replace E2 := E2.then E_
    replace Oa0 := Oa0.mod0 E_
    refine sv (o_mv rfl) rfl ?_
    refine sv (o_ext rfl rfl) rfl ?_
    refine sv (o_ext rfl rfl) rfl ?_
    refine sv (o_as rfl) rfl ?_
    refine sv (o_as rfl) rfl ?_
    refine l_nil ?_
    refine e_K (hK9 _ _ _ _ ?_)
    refine c_seq fun K10 hK10 => ?_
    refine c_region ?_
    refine sv (o_mv rfl) rfl ?_
    refine l_nil ?_
    refine e_K (hK10 _ _ _ _ ?_)
    refine c_cond rfl (fun h23 => ?_) (fun h23 => ?_)
    · skip
      refine c_region ?_
      refine sv (o_mv rfl) rfl ?_
      refine sv (o_mv rfl) rfl ?_
      refine s_bslice (cs := [_]) sl26 zv9 rfl rfl rfl (by decide) rfl fun g3 w7 N3 => ?_
      have Lg3_E := N3.le E
      have Lg3_E2 := N3.le E2
      have Dg2_g3 := N3.ne Bg2
      have Da0_g3 := N3.own_ne Oa0
      replace Bg2 := Bg2.mod0 N3.mod
      replace E := E.then N3.mod
      replace E2 := E2.then N3.mod
      replace Oa0 := Oa0.mod0 N3.mod
      have Bg3 := N3.blk
      refine s_append sl26 rfl rfl Oa0 (Src.own Tryd.underlying26 (Own.all (cs := [_]) Bg3 rfl (by omega)) (by simp [Value.oneCell'])) (by decide) (by have := @selS_len ss ((e.needR).take k); have := List.length_take_le k (e.needR); have := e.need_len; have := e.needR_len; omega) (by have := @selS_len ss ((e.needR).take k); have := List.length_take_le k (e.needR); have := e.need_len; have := e.needR_len; omega) rfl fun v1 w8 A1 => ?_
      have Dv1_g2 := A1.ne Da0_g2 Bg2
      have Dv1_g3 := A1.ne Da0_g3 Bg3
      have Lv1_E := A1.ge L0 E
      have Lv1_E2 := A1.ge L2 E2
      replace Bg2 := Bg2.mod A1.mod (fun hx => Da0_g2 _ hx rfl)
      replace Bg3 := Bg3.mod A1.mod (fun hx => Da0_g3 _ hx rfl)
      replace E := E.trans' A1.mod (fun x hx => .inr (L0 x hx))
      replace E2 := E2.trans' A1.mod (fun x hx => .inr (L2 x hx))
      replace Oa0 := A1.own
      refine sv (o_as rfl) rfl ?_
      refine l_nil ?_
      refine e_in (by simp) ?_
      refine e_K (hK7 _ _ _ _ ?_)
      refine c_region ?_
      refine sv (o_addN rfl rfl (by omega)) rfl ?_
      refine sv (o_mv rfl) rfl ?_
      refine l_nil ?_
      exact e_round (σ := Nat × Value) (s := ⟨k, v⟩) (⟨k + 1, v1⟩) ⟨rfl, rfl, rfl, rfl, rfl, trivial⟩ ⟨by omega, Oa0.snoc rfl (selS_yes hx_x h23), Lv1_E, Lv1_E2, E2, E⟩ (by dsimp only; omega)
    · skip
      refine c_skip ?_
      refine e_in (by simp) ?_
      refine e_K (hK7 _ _ _ _ ?_)
      refine c_region ?_
      refine sv (o_addN rfl rfl (by omega)) rfl ?_
      refine sv (o_mv rfl) rfl ?_
      refine l_nil ?_
      exact e_round (σ := Nat × Value) (s := ⟨k, v⟩) (⟨k + 1, v⟩) ⟨rfl, rfl, rfl, rfl, rfl, trivial⟩ ⟨by omega, Oa0.same (by rw [selS_no hx_x h23]) (by rw [selS_no hx_x h23]), L0, L2, E2, E⟩ (by dsimp only; omega)
  · skip
    have hk2 : (e.needR).take k = e.needR := List.take_of_length_le (by omega)
    refine c_exit ?_
    refine e_then (by simp) ?_
    refine e_then (by simp) ?_
    refine e_hit ?_
    refine e_K (hK3 _ _ _ _ ?_)
    refine c_seq fun K11 hK11 => ?_
    refine c_region ?_
    refine sv (o_mv rfl) rfl ?_
    refine sv (o_as rfl) rfl ?_
    refine l_nil ?_
    refine e_K (hK11 _ _ _ _ ?_)
    refine c_ret ?_
    exact ret1 rfl rfl ⟨by rw [hk2] at Oa0; exact Oa0, E⟩
end Go.Proofs.YtebfihecdooneaaDoor.V
