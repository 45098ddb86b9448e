/-
  A part of the proof: own slices of names; doubled neighbours left out; a graph in memory; a list of structs of the call's own that grows, each with memory of its own behind it; nodes looked up, and copied with one more; a rank's order. No condition of its own.
-/
import Derived.Test.YthmohmpalbnjoaaM6
import Derived.Test.YthmohmpalbnjoaaProg
import Derived.Test.YthmohmpalbnjoaaM5
set_option linter.unusedVariables false
set_option linter.unusedSimpArgs false
namespace Go.Proofs.Ythmohmpalbnjoaa.V
open Go
/-! ## own slices of names -/
abbrev OwnS (w : World) (e : Nat) (v : Value) (l : List Str) : Prop := Own w e 1 v l.length ((l.map fun s => [S s]).flatten)
theorem OwnS.rep {w : World} {e : Nat} {v : Value} {l : List Str} (A : List Nat) (h : OwnS w e v l) (hA : ∀ x ∈ ob v, x ∉ A) : Rep A w (strD l) v := Own.flat h (fun _ _ => rfl) (fun x _ c hc => by simp at hc; subst hc; rfl) rfl hA
theorem OwnS.to {w : World} {e n : Nat} {v : Value} {l' : List Str} {vs : List Value} (h : Own w e 1 v n vs) (hn : n = l'.length) (hv : vs = (l'.map fun s => [S s]).flatten) : OwnS w e v l' := by
  subst hn hv
  exact h
theorem strs_cells {l : List Str} : (l.map fun s => [S s]).flatten = l.map S := by
  induction l with
  | nil => rfl
  | cons a r ih => simp [ih]
theorem OwnS.nil (w : World) (e : Nat) : OwnS w e (.slice none 0 0) [] := Own.nil w e 1
/-! ## doubled neighbours left out -/
def dnS : Str → List Str → List Str
  | _, [] => []
  | p, x :: r => if x = p then dnS x r else x :: dnS x r
def ddS : List Str → List Str
  | [] => []
  | a :: r => a :: dnS a r
theorem dnS_snoc {x : Str} : ∀ {l : List Str} {p : Str}, dnS p (l ++ [x]) = dnS p l ++ if x = l.getLastD p then [] else [x]
  | [], p => by simp [dnS]
  | y :: l, p => by
    have e : (y :: l).getLastD p = l.getLastD y := by cases l <;> simp [List.getLastD]
    rw [e, List.cons_append, dnS, dnS, dnS_snoc (l := l)]
    by_cases h : y = p <;> simp [h]
theorem ddS_succ {S : List Str} {j : Nat} {a b : Str} (ha : S[j]? = some a) (hb : S[j + 1]? = some b) : ddS (S.take (j + 1 + 1)) = ddS (S.take (j + 1)) ++ if b = a then [] else [b] := by
  have hlt := (List.getElem?_eq_some_iff.1 hb).1
  rw [List.take_succ_eq_append_getElem hlt, (List.getElem?_eq_some_iff.1 hb).2]
  cases S with
  | nil => simp at ha
  | cons s S =>
    rw [List.take_succ_cons, List.cons_append, ddS, ddS, dnS_snoc, List.cons_append]
    congr 3
    have e : (List.take j S).getLastD s = a := by
      cases j with
      | zero => simpa using ha
      | succ i =>
        have hi : S[i]? = some a := by simpa using ha
        have hil := (List.getElem?_eq_some_iff.1 hi).1
        rw [List.take_succ_eq_append_getElem hil, (List.getElem?_eq_some_iff.1 hi).2]
        simp
    rw [e]
theorem ddS_one {S : List Str} : ddS (S.take 1) = S.take 1 := by cases S <;> simp [ddS, dnS]
theorem dnS_mem {x : Str} : ∀ {l : List Str} {p : Str}, x ∈ p :: dnS p l ↔ x ∈ p :: l
  | [], p => by simp [dnS]
  | y :: l, p => by
    rw [dnS]
    by_cases h : y = p
    · subst h
      rw [if_pos rfl, dnS_mem (l := l)]
      simp
    · rw [if_neg h, List.mem_cons, dnS_mem (l := l), List.mem_cons (l := y :: l)]
theorem ddS_mem {x : Str} {l : List Str} : x ∈ ddS l ↔ x ∈ l := by
  cases l with
  | nil => simp [ddS]
  | cons p l => rw [ddS, dnS_mem]
theorem dnS_asc : ∀ {l : List Str} {p : Str}, (p :: l).Pairwise (fun a b => bl b a = false) → ascS (p :: dnS p l)
  | [], p, _ => by simp [dnS, ascS]
  | y :: l, p, h => by
    rw [dnS]
    by_cases e : y = p
    · subst e
      rw [if_pos rfl]
      exact dnS_asc (List.Pairwise.of_cons h)
    · rw [if_neg e]
      have h1 := dnS_asc (List.Pairwise.of_cons h)
      refine List.Pairwise.cons (fun z hz => ?_) h1
      have hpy : bl p y = true := by
        have := List.rel_of_pairwise_cons h (List.mem_cons_self (a := y) (l := l))
        rcases bl_total p y with h' | h' | h'
        · exact h'
        · exact absurd h'.symm e
        · rw [this] at h'; cases h'
      rcases List.mem_cons.1 hz with rfl | hz
      · exact hpy
      · exact bl_trans hpy (List.rel_of_pairwise_cons h1 hz)
def srtS (l : List Str) : Prop := l.Pairwise fun a b => bl b a = false
theorem ddS_asc {l : List Str} (h : srtS l) : ascS (ddS l) := by
  cases l with
  | nil => exact List.Pairwise.nil
  | cons p l => exact dnS_asc h
theorem ddS_len {l : List Str} : (ddS l).length ≤ l.length := by
  have key : ∀ {l : List Str} {p : Str}, (dnS p l).length ≤ l.length := by
    intro l
    induction l with
    | nil => intro p; simp [dnS]
    | cons y l ih =>
      intro p
      have := ih (p := y)
      rw [dnS]
      split <;> simp <;> omega
  cases l with
  | nil => simp [ddS]
  | cons p l =>
    have := key (l := l) (p := p)
    simp [ddS]
    omega
theorem ddS_set {l l' : List Str} (h : srtS l') (hp : l'.Perm l) : ddS l' = setS l := (setS_eq (ddS_asc h) fun x => by rw [ddS_mem, hp.mem_iff]).symm
theorem srtS_set {l l' : List Str} (h : srtS l') (hp : l'.Perm l) (hn : l.Nodup) : l' = setS l := by
  refine (setS_eq (List.Pairwise.imp₂ (fun a b h1 h2 => ?_) h (hp.nodup_iff.2 hn)) fun x => hp.mem_iff.symm).symm
  rcases bl_total a b with h' | h' | h'
  · exact h'
  · exact absurd h' h2
  · rw [h1] at h'; cases h'
/-! ## a graph in memory -/
/-- what the map of those ahead holds -/
inductive RM (A : List Nat) (w : World) : Gm → List (Str × Value) → Prop
  | nil : RM A w [] []
  | snoc {m : Gm} {mA : List (Str × Value)} {id : Str} {l : List Str} {v : Value} : RM A w m mA → Rep A w (strD l) v → RM A w (m ++ [(id, l)]) (mA ++ [(id, v)])
theorem RM.keys {A : List Nat} {w : World} {m : Gm} {mA : List (Str × Value)} (h : RM A w m mA) : mA.map (·.1) = m.keys := by
  induction h with
  | nil => rfl
  | @snoc m mA id l v h r ih =>
    unfold Gm.keys at ih ⊢
    rw [List.map_append, List.map_append, ih]
    rfl
theorem RM.to {A A' M : List Nat} {w w' : World} {m : Gm} {mA : List (Str × Value)} (h : RM A w m mA) (k : Mod M w w') (hM : ∀ x ∈ M, x ∈ A) (hA : ∀ x ∈ A', x ∈ A ∨ w.heap.size ≤ x) : RM A' w' m mA := by
  induction h with
  | nil => exact .nil
  | snoc _ r ih => exact .snoc ih (Rep.to k hM hA _ _ r)
theorem RM.to0 {A : List Nat} {w w' : World} {m : Gm} {mA : List (Str × Value)} (h : RM A w m mA) (k : Mod [] w w') : RM A w' m mA := h.to k (by simp) (fun x hx => .inl hx)
theorem look_snoc {β : Type} {m : List (Str × β)} {id k : Str} {v : β} : look (m ++ [(id, v)]) k = (look m k).or (if id = k then some v else none) := by
  rw [look_append]
  rfl
theorem RM.look {A : List Nat} {w : World} {m : Gm} {mA : List (Str × Value)} (h : RM A w m mA) (x : Str) : (Go.Proofs.Ythmohmpalbnjoaa.V.look mA x).isSome = (Go.Proofs.Ythmohmpalbnjoaa.V.look m x).isSome ∧ ∀ l v, Go.Proofs.Ythmohmpalbnjoaa.V.look m x = some l → Go.Proofs.Ythmohmpalbnjoaa.V.look mA x = some v → Rep A w (strD l) v := by
  induction h with
  | nil => exact ⟨rfl, fun l v h => by cases h⟩
  | @snoc m mA id l v h r ih =>
    rw [look_snoc, look_snoc]
    cases h1 : Go.Proofs.Ythmohmpalbnjoaa.V.look m x with
    | some l1 =>
      cases h2 : Go.Proofs.Ythmohmpalbnjoaa.V.look mA x with
      | some v1 =>
        refine ⟨rfl, fun l2 v2 e1 e2 => ?_⟩
        exact ih.2 _ _ (h1.trans e1) (h2.trans e2)
      | none => rw [h1, h2] at ih; simp at ih
    | none =>
      cases h2 : Go.Proofs.Ythmohmpalbnjoaa.V.look mA x with
      | some v1 => rw [h1, h2] at ih; simp at ih
      | none =>
        by_cases e : id = x
        · simp only [e, if_true, Option.none_or]
          refine ⟨rfl, fun l2 v2 e1 e2 => ?_⟩
          injection e1 with e1
          injection e2 with e2
          subst e1 e2
          exact r
        · simp [e]
theorem RM.ahd {A : List Nat} {w : World} {m : Gm} {mA : List (Str × Value)} (h : RM A w m mA) (x : Str) : Rep A w (strD (m.ahd x)) ((Go.Proofs.Ythmohmpalbnjoaa.V.look mA x).getD (.slice none 0 0)) := by
  obtain ⟨h1, h2⟩ := h.look x
  unfold Gm.ahd
  cases e1 : Go.Proofs.Ythmohmpalbnjoaa.V.look m x with
  | some l =>
    cases e2 : Go.Proofs.Ythmohmpalbnjoaa.V.look mA x with
    | some v => exact h2 _ _ e1 e2
    | none => rw [e1, e2] at h1; simp at h1
  | none =>
    cases e2 : Go.Proofs.Ythmohmpalbnjoaa.V.look mA x with
    | some v => rw [e1, e2] at h1; simp at h1
    | none => exact Rep.nilf _ _
theorem bl_gt (x s : Str) : (!(bl x s || x == s)) = bl s x := by
  rcases bl_total x s with h | h | h
  · simp [h, bl_asymm h]
  · subst h
    simp [bl_irrefl]
  · have h1 := bl_asymm h
    have h2 : ¬ x = s := fun e => by subst e; rw [bl_irrefl] at h; cases h
    simp [h, h1, h2]
theorem filt_snoc {α : Type} (p : α → Bool) {xs : List α} {k : Nat} {x : α} (h : xs[k]? = some x) : (xs.take (k + 1)).filter p = (xs.take k).filter p ++ if p x then [x] else [] := filter_snoc p h
def ltS (l : List Str) (s : Str) : List Str := l.filter fun x => bl x s
def gtS (l : List Str) (s : Str) : List Str := l.filter fun x => bl s x
theorem ltS_len (l : List Str) (s : Str) : (ltS l s).length ≤ l.length := List.length_filter_le _ _
theorem gtS_len (l : List Str) (s : Str) : (gtS l s).length ≤ l.length := List.length_filter_le _ _
theorem ltS_yes {l : List Str} {k : Nat} {x s : Str} (h : l[k]? = some x) (hx : bl x s = true) : ltS (l.take (k + 1)) s = ltS (l.take k) s ++ [x] := by
  unfold ltS
  rw [filt_snoc _ h, hx]
  rfl
theorem ltS_no {l : List Str} {k : Nat} {x s : Str} (h : l[k]? = some x) (hx : bl x s = false) : ltS (l.take (k + 1)) s = ltS (l.take k) s := by
  unfold ltS
  rw [filt_snoc _ h, hx]
  simp
theorem gtS_yes {l : List Str} {k : Nat} {x s : Str} (h : l[k]? = some x) (hx : bl s x = true) : gtS (l.take (k + 1)) s = gtS (l.take k) s ++ [x] := by
  unfold gtS
  rw [filt_snoc _ h, hx]
  rfl
theorem gtS_no {l : List Str} {k : Nat} {x s : Str} (h : l[k]? = some x) (hx : bl s x = false) : gtS (l.take (k + 1)) s = gtS (l.take k) s := by
  unfold gtS
  rw [filt_snoc _ h, hx]
  simp
theorem withS_new {l : List Str} {s : Str} (h : s ∉ l) : withS l s = ltS l s ++ [s] ++ gtS l s := by rw [withS, if_neg h]; rfl
/-- nodes, as the document has them -/
def ndD (m : Gm) : D := .sl 2 (m.map fun p => [D.v (S p.1), strD p.2])
theorem ndD_len {A : List Nat} {w : World} {m : Gm} {u : Value} (h : Rep A w (ndD m) u) : ∃ ad c, u = .slice ad m.length c ∧ m.length ≤ c ∧ c ≤ 9223372036854775807 := by
  simpa using Rep.sl_ h
theorem ndD_at {A : List Nat} {w : World} {m : Gm} {ad : Option Addr} {n c i : Nat} {p : Str × List Str} (h : Rep A w (ndD m) (.slice ad n c)) (hi : m[i]? = some p) :
    ∃ a u, ad = some a ∧ Cs w (a.add (i * 2)) [S p.1, u] ∧ Rep A w (strD p.2) u := by
  obtain ⟨a, us, h1, h2, h3, h4, _⟩ := h.at_ (i := i) (r := [D.v (S p.1), strD p.2]) (by simp [hi])
  obtain ⟨u1, us1, rfl, r1, h5⟩ := h2
  obtain ⟨u2, us2, rfl, r2, h6⟩ := h5
  obtain rfl := h6
  obtain rfl := r1.v_eq
  exact ⟨a, u2, h1, h4, r2⟩
theorem Cs.at1 {w : World} {a : Addr} {u v : Value} {vs : List Value} (h : Cs w a (u :: v :: vs)) : w.cell? (a.add 1) = some v := h 1 v rfl
theorem not_mem_take {l : List Str} {k : Nat} {x p : Str} (h : l[k]? = some x) (h1 : p ∉ l.take k) (h2 : x ≠ p) : p ∉ l.take (k + 1) := by
  rw [List.take_add_one, h]
  simp [h1, Ne.symm h2]
/-- the map of how many stand behind -/
def BM (m : Gm) (mB : List (Str × Value)) : Prop := ∀ x, (look mB x).getD (.int .i64 0) = .int .i64 (behind m x)
structure Gr (T : TypeId) (A : List Nat) (w : World) (g bA bB : Nat) (m : Gm) : Prop where
  blk : Blk w g T [.map (some bA), .map (some bB)]
  ah : ∃ mA, MapB w bA mA ∧ RM (g :: bA :: bB :: A) w m mA
  bh : ∃ mB, MapB w bB mB ∧ BM m mB
  wf : GWf m
  len : m.length ≤ 512
  small : ∀ p ∈ m, p.1.length ≤ 1000000
  nin : g ∉ A ∧ bA ∉ A ∧ bB ∉ A
  ne : g ≠ bA ∧ g ≠ bB ∧ bA ≠ bB
section
variable {T : TypeId} {A A' M : List Nat} {w w' : World} {g bA bB : Nat} {m : Gm}
theorem Gr.lt (h : Gr T A w g bA bB m) : g < w.heap.size ∧ bA < w.heap.size ∧ bB < w.heap.size := by
  obtain ⟨mA, hA, _⟩ := h.ah
  obtain ⟨mB, hB, _⟩ := h.bh
  exact ⟨h.blk.lt, hA.lt, hB.lt⟩
theorem Gr.to (h : Gr T A w g bA bB m) (k : Mod M w w') (hM : ∀ x ∈ M, x ∈ A) (hA : ∀ x ∈ A', x ∈ A ∨ w.heap.size ≤ x) : Gr T A' w' g bA bB m := by
  obtain ⟨l1, l2, l3⟩ := h.lt
  obtain ⟨mA, a1, a2⟩ := h.ah
  obtain ⟨mB, b1, b2⟩ := h.bh
  obtain ⟨n1, n2, n3⟩ := h.nin
  have hn : ∀ {x : Nat}, x ∉ A → x < w.heap.size → x ∉ A' := fun hx hl hx' => by rcases hA _ hx' with h | h; exact hx h; omega
  refine ⟨h.blk.mod k (fun hx => n1 (hM _ hx)), ⟨mA, a1.mod k (fun hx => n2 (hM _ hx)), a2.to k (fun x hx => by simp [hM x hx]) (fun x hx => ?_)⟩, ⟨mB, b1.mod k (fun hx => n3 (hM _ hx)), b2⟩, h.wf, h.len, h.small, ⟨hn n1 l1, hn n2 l2, hn n3 l3⟩, h.ne⟩
  simp only [List.mem_cons] at hx ⊢
  rcases hx with hx | hx | hx | hx
  · exact .inl (.inl hx)
  · exact .inl (.inr (.inl hx))
  · exact .inl (.inr (.inr (.inl hx)))
  · rcases hA x hx with h | h
    · exact .inl (.inr (.inr (.inr h)))
    · exact .inr h
theorem Gr.mod0 (h : Gr T A w g bA bB m) (k : Mod [] w w') : Gr T A w' g bA bB m := h.to k (by simp) (fun x hx => .inl hx)
end
end Go.Proofs.Ythmohmpalbnjoaa.V

set_option linter.unusedVariables false
set_option linter.unusedSimpArgs false
set_option maxRecDepth 10000
namespace Go.Proofs.Ythmohmpalbnjoaa.V
open Go Go.Proofs
theorem sl23 : slB Try.prog 23 9 1 16 = true := by kernel_rfl
theorem sc9 : scB Try.prog 9 = true := by kernel_rfl
theorem ent18 : Ent Try.prog 18 := Ent.of Try.func18 (by kernel_rfl) (by kernel_rfl)
theorem zv9 : zvB Try.prog 9 ([S []]) := by unfold zvB; kernel_rfl
theorem wide : Try.prog.follows .mixedOrders = true := by kernel_rfl
theorem g_in (w : World) (xs : List Str) (v0 : Value) (R : Rep [] w (strD xs) v0) (s : Str) : Calls Try.prog 18 [v0, S s].toArray w (Ret fun u w' => u = .bool (decide (s ∈ xs)) ∧ Mod [] w w') := by
  refine enter Try.func18 rfl rfl rfl (l := [(0, _), (1, _)]) ⟨rfl, rfl, trivial⟩ ?_
  have E := Mod.refl [] w
  obtain ⟨ad, c, rfl, hc1, hc2⟩ := flat_len R
  refine c_seq fun K1 hK1 => ?_
  refine c_region ?_
  refine sv (o_as rfl) rfl ?_
  refine l_nil ?_
  refine e_K (hK1 _ _ _ _ ?_)
  refine c_seq fun K2 hK2 => ?_
  refine c_seq fun K3 hK3 => ?_
  refine c_region ?_
  refine sv (o_mv rfl) rfl ?_
  refine sv (o_len Try.underlying23 rfl) rfl ?_
  refine sv (o_mv rfl) rfl ?_
  refine l_nil ?_
  refine e_K (hK3 _ _ _ _ ?_)
  refine c_block ?_
  refine c_loop (σ := Nat) (fun k => [(1, S s), (7, .slice ad xs.length c), (8, .int .i64 xs.length), (9, .int .i64 (k : Int))]) (fun k w1 => k ≤ xs.length ∧ s ∉ xs.take k ∧ Mod [] w w1) (fun k => xs.length - k) (0) ⟨rfl, rfl, rfl, rfl, trivial⟩ (⟨by omega, by simp, E⟩) ?_
  rintro k w1 ⟨hk, ho, E⟩
  refine c_seq fun K4 hK4 => ?_
  refine c_region ?_
  refine sv (o_lss rfl rfl) rfl ?_
  refine l_nil ?_
  refine e_K (hK4 _ _ _ _ ?_)
  refine c_seq fun K5 hK5 => ?_
  refine c_if rfl (fun h10 => ?_) (fun h10 => ?_)
  · skip
    have hlt : k < xs.length := by omega
    obtain ⟨x, hx_x⟩ : ∃ x, (xs)[k]? = some x := ⟨_, List.getElem?_eq_getElem (by omega)⟩
    obtain ⟨a_x, ha_x, hcs_x, _⟩ := flat_at (R.to0 E) hx_x
    obtain rfl := ha_x
    refine c_skip ?_
    refine e_K (hK5 _ _ _ _ ?_)
    refine c_seq fun K6 hK6 => ?_
    refine c_block ?_
    refine c_seq fun K7 hK7 => ?_
    refine c_region ?_
    refine sv (o_ix sl23 rfl rfl (by omega)) rfl ?_
    refine sv (o_ld sc9 rfl hcs_x.c0) rfl ?_
    refine sv (o_as rfl) rfl ?_
    refine l_nil ?_
    refine e_K (hK7 _ _ _ _ ?_)
    refine c_seq fun K8 hK8 => ?_
    refine c_region ?_
    refine sv (o_mv rfl) rfl ?_
    refine sv (o_mv rfl) rfl ?_
    refine sv (o_seq rfl rfl) rfl ?_
    refine l_nil ?_
    refine e_K (hK8 _ _ _ _ ?_)
    refine c_if rfl (fun h15 => ?_) (fun h15 => ?_)
    · skip
      refine c_seq fun K9 hK9 => ?_
      refine c_region ?_
      refine sv (o_as rfl) rfl ?_
      refine l_nil ?_
      refine e_K (hK9 _ _ _ _ ?_)
      refine c_ret ?_
      refine e_in (by simp) ?_
      refine e_then (by simp) ?_
      refine e_then (by simp) ?_
      refine e_in (by simp) ?_
      refine e_then (by simp) ?_
      exact ret1 rfl rfl ⟨by rw [decide_eq_true (h15 ▸ List.mem_of_getElem? hx_x)], E⟩
    · skip
      refine c_skip ?_
      refine e_in (by simp) ?_
      refine e_K (hK6 _ _ _ _ ?_)
      refine c_region ?_
      refine sv (o_addN rfl rfl (by omega)) rfl ?_
      refine sv (o_mv rfl) rfl ?_
      refine l_nil ?_
      exact e_round (σ := Nat) (s := k) (k + 1) ⟨rfl, rfl, rfl, rfl, trivial⟩ ⟨by omega, not_mem_take hx_x ho h15, E⟩ (by omega)
  · skip
    refine c_exit ?_
    refine e_then (by simp) ?_
    refine e_then (by simp) ?_
    refine e_hit ?_
    refine e_K (hK2 _ _ _ _ ?_)
    refine c_seq fun K10 hK10 => ?_
    refine c_region ?_
    refine sv (o_as rfl) rfl ?_
    refine l_nil ?_
    refine e_K (hK10 _ _ _ _ ?_)
    refine c_ret ?_
    exact ret1 rfl rfl ⟨by rw [decide_eq_false (by rwa [List.take_of_length_le (by omega)] at ho)], E⟩

theorem g_with (A : List Nat) (w : World) (xs : List Str) (v0 : Value) (R : Rep A w (strD xs) v0) (s : Str) (hn : xs.length ≤ 1000000) (hA : ∀ x ∈ A, x < w.heap.size) : Calls Try.prog 28 [v0, S s].toArray w (Ret fun u w' => Rep A w' (strD (withS xs s)) u ∧ Mod [] w w') := by
  refine enter Try.func28 rfl rfl rfl (l := [(0, _), (1, _)]) ⟨rfl, rfl, trivial⟩ ?_
  have E := Mod.refl [] w
  obtain ⟨ad, c, rfl, hc1, hc2⟩ := flat_len R
  refine c_seq fun K1 hK1 => ?_
  refine c_region ?_
  refine sv (o_as rfl) rfl ?_
  refine l_nil ?_
  refine e_K (hK1 _ _ _ _ ?_)
  refine c_seq fun K2 hK2 => ?_
  refine c_seq fun K3 hK3 => ?_
  refine c_region ?_
  refine sv (o_mv rfl) rfl ?_
  refine sv (o_mv rfl) rfl ?_
  refine sc (o_call ent18 rfl) (g_in _ xs _ (Rep.anti (R.to0 E) (A' := []) (by simp)) s) rfl fun v_ w1 h_ => ?_
  obtain ⟨rfl, E_⟩ := h_
  replace E := E.then E_
  refine l_nil ?_
  refine e_K (hK3 _ _ _ _ ?_)
  refine c_if rfl (fun h12 => ?_) (fun h12 => ?_)
  · skip
    refine c_seq fun K4 hK4 => ?_
    refine c_region ?_
    refine sv (o_mv rfl) rfl ?_
    refine sv (o_as rfl) rfl ?_
    refine l_nil ?_
    refine e_K (hK4 _ _ _ _ ?_)
    refine c_ret ?_
    refine e_then (by simp) ?_
    exact ret1 rfl rfl ⟨by rw [withS, if_pos h12]; exact R.to0 E, E⟩
  · skip
    refine c_skip ?_
    refine e_K (hK2 _ _ _ _ ?_)
    refine c_seq fun K5 hK5 => ?_
    refine c_region ?_
    refine sv (o_as rfl) rfl ?_
    refine l_nil ?_
    refine e_K (hK5 _ _ _ _ ?_)
    refine c_seq fun K6 hK6 => ?_
    refine c_seq fun K7 hK7 => ?_
    refine c_region ?_
    refine sv (o_mv rfl) rfl ?_
    refine sv (o_len Try.underlying23 rfl) rfl ?_
    refine sv (o_mv rfl) rfl ?_
    refine l_nil ?_
    refine e_K (hK7 _ _ _ _ ?_)
    refine c_block ?_
    refine c_loop (σ := Nat × Value) (fun ⟨k, v⟩ => [(0, .slice ad xs.length c), (1, S s), (5, v), (14, .slice ad xs.length c), (15, .int .i64 xs.length), (16, .int .i64 (k : Int))]) (fun ⟨k, v⟩ w1 => k ≤ xs.length ∧ OwnS w1 9 v (ltS (xs.take k) s) ∧ (∀ x ∈ ob v, w.heap.size ≤ x) ∧ Mod [] w w1) (fun ⟨k, v⟩ => xs.length - k) (⟨0, .slice none 0 0⟩) ⟨rfl, rfl, rfl, rfl, rfl, rfl, trivial⟩ (⟨by omega, OwnS.nil w1 9, by simp [ob], E⟩) ?_
    rintro ⟨k, v⟩ w2 ⟨hk, Oa0, L0, E⟩
    refine c_seq fun K8 hK8 => ?_
    refine c_region ?_
    refine sv (o_lss rfl rfl) rfl ?_
    refine l_nil ?_
    refine e_K (hK8 _ _ _ _ ?_)
    refine c_seq fun K9 hK9 => ?_
    refine c_if rfl (fun h17 => ?_) (fun h17 => ?_)
    · skip
      have hlt : k < xs.length := by omega
      obtain ⟨x, hx_x⟩ : ∃ x, (xs)[k]? = some x := ⟨_, List.getElem?_eq_getElem (by omega)⟩
      obtain ⟨a_x, ha_x, hcs_x, _⟩ := flat_at (R.to0 E) hx_x
      obtain rfl := ha_x
      have hf1 := ltS_len (xs.take k) s
      have hf2 := gtS_len (xs.take k) s
      have hf3 := ltS_len xs s
      have hf4 : (xs.take k).length ≤ xs.length := by rw [List.length_take]; omega
      refine c_skip ?_
      refine e_K (hK9 _ _ _ _ ?_)
      refine c_seq fun K10 hK10 => ?_
      refine c_block ?_
      refine c_seq fun K11 hK11 => ?_
      refine c_region ?_
      refine sv (o_ix sl23 rfl rfl (by omega)) rfl ?_
      refine sv (o_ld sc9 rfl hcs_x.c0) rfl ?_
      refine sv (o_as rfl) rfl ?_
      refine l_nil ?_
      refine e_K (hK11 _ _ _ _ ?_)
      refine c_seq fun K12 hK12 => ?_
      refine c_region ?_
      refine sv (o_mv rfl) rfl ?_
      refine sv (o_mv rfl) rfl ?_
      refine sv (o_slt rfl rfl) rfl ?_
      refine l_nil ?_
      refine e_K (hK12 _ _ _ _ ?_)
      refine c_cond rfl (fun h22 => ?_) (fun h22 => ?_)
      · skip
        refine c_region ?_
        refine sv (o_mv rfl) rfl ?_
        refine sv (o_mv rfl) rfl ?_
        refine s_bslice (cs := [_]) sl23 zv9 rfl rfl rfl (by decide) rfl fun g1 w3 N1 => ?_
        have Lg1_E := N1.le E
        have Da0_g1 := N1.own_ne Oa0
        replace E := E.then N1.mod
        replace Oa0 := Oa0.mod0 N1.mod
        have Bg1 := N1.blk
        refine s_append sl23 rfl rfl Oa0 (Src.own Try.underlying23 (Own.all (cs := [_]) Bg1 rfl (by omega)) (by simp [Value.oneCell'])) (by decide) (by omega) (by omega) rfl fun v1 w4 A1 => ?_
        have Dv1_g1 := A1.ne Da0_g1 Bg1
        have Lv1_E := A1.ge L0 E
        replace Bg1 := Bg1.mod A1.mod (fun hx => Da0_g1 _ hx rfl)
        replace E := E.trans' A1.mod (fun x hx => .inr (L0 x hx))
        replace Oa0 := A1.own
        refine sv (o_as rfl) rfl ?_
        refine l_nil ?_
        refine e_in (by simp) ?_
        refine e_K (hK10 _ _ _ _ ?_)
        refine c_region ?_
        refine sv (o_addN rfl rfl (by omega)) rfl ?_
        refine sv (o_mv rfl) rfl ?_
        refine l_nil ?_
        exact e_round (σ := Nat × Value) (s := ⟨k, v⟩) (⟨k + 1, v1⟩) ⟨rfl, rfl, rfl, rfl, rfl, rfl, trivial⟩ ⟨by omega, OwnS.to Oa0 (by first | (rw [ltS_yes hx_x h22]; done) | (rw [ltS_yes hx_x h22]; simp; done) | (rw [ltS_yes hx_x h22]; simp; omega)) (by first | (rw [ltS_yes hx_x h22]; done) | (rw [ltS_yes hx_x h22]; simp)), Lv1_E, E⟩ (by dsimp only; omega)
      · skip
        refine c_skip ?_
        refine e_in (by simp) ?_
        refine e_K (hK10 _ _ _ _ ?_)
        refine c_region ?_
        refine sv (o_addN rfl rfl (by omega)) rfl ?_
        refine sv (o_mv rfl) rfl ?_
        refine l_nil ?_
        exact e_round (σ := Nat × Value) (s := ⟨k, v⟩) (⟨k + 1, v⟩) ⟨rfl, rfl, rfl, rfl, rfl, rfl, trivial⟩ ⟨by omega, OwnS.to Oa0 (by first | (rw [ltS_no hx_x h22]; done) | (rw [ltS_no hx_x h22]; simp; done) | (rw [ltS_no hx_x h22]; simp; omega)) (by first | (rw [ltS_no hx_x h22]; done) | (rw [ltS_no hx_x h22]; simp)), L0, E⟩ (by dsimp only; omega)
    · skip
      have hf1 := ltS_len (xs.take k) s
      have hf2 := gtS_len (xs.take k) s
      have hf3 := ltS_len xs s
      have hf4 : (xs.take k).length ≤ xs.length := by rw [List.length_take]; omega
      refine c_exit ?_
      refine e_then (by simp) ?_
      refine e_then (by simp) ?_
      refine e_hit ?_
      refine e_K (hK6 _ _ _ _ ?_)
      refine c_seq fun K13 hK13 => ?_
      refine c_region ?_
      refine sv (o_mv rfl) rfl ?_
      refine sv (o_mv rfl) rfl ?_
      refine s_bslice (cs := [_]) sl23 zv9 rfl rfl rfl (by decide) rfl fun g2 w5 N2 => ?_
      have Lg2_E := N2.le E
      have Da0_g2 := N2.own_ne Oa0
      replace E := E.then N2.mod
      replace Oa0 := Oa0.mod0 N2.mod
      have Bg2 := N2.blk
      refine s_append sl23 rfl rfl Oa0 (Src.own Try.underlying23 (Own.all (cs := [_]) Bg2 rfl (by omega)) (by simp [Value.oneCell'])) (by decide) (by omega) (by omega) rfl fun v2 w6 A2 => ?_
      have Dv2_g2 := A2.ne Da0_g2 Bg2
      have Lv2_E := A2.ge L0 E
      replace Bg2 := Bg2.mod A2.mod (fun hx => Da0_g2 _ hx rfl)
      replace E := E.trans' A2.mod (fun x hx => .inr (L0 x hx))
      replace Oa0 := A2.own
      refine sv (o_as rfl) rfl ?_
      refine l_nil ?_
      refine e_K (hK13 _ _ _ _ ?_)
      refine c_seq fun K14 hK14 => ?_
      refine c_seq fun K15 hK15 => ?_
      refine c_region ?_
      refine sv (o_mv rfl) rfl ?_
      refine sv (o_len Try.underlying23 rfl) rfl ?_
      refine sv (o_mv rfl) rfl ?_
      refine l_nil ?_
      refine e_K (hK15 _ _ _ _ ?_)
      refine c_block ?_
      refine c_loop (σ := Nat × Value) (fun ⟨k, v⟩ => [(1, S s), (5, v), (32, .slice ad xs.length c), (33, .int .i64 xs.length), (34, .int .i64 (k : Int))]) (fun ⟨k, v⟩ w1 => k ≤ xs.length ∧ OwnS w1 9 v ((ltS xs s) ++ [s] ++ gtS (xs.take k) s) ∧ (∀ x ∈ ob v, w.heap.size ≤ x) ∧ Mod [] w w1) (fun ⟨k, v⟩ => xs.length - k) (⟨0, v2⟩) ⟨rfl, rfl, rfl, rfl, rfl, trivial⟩ (⟨by omega, OwnS.to Oa0 (by simp [gtS, List.take_of_length_le (show xs.length ≤ k by omega)]) (by simp [gtS, List.take_of_length_le (show xs.length ≤ k by omega)]), Lv2_E, E⟩) ?_
      rintro ⟨k, v⟩ w7 ⟨hk, Oa0, L0, E⟩
      refine c_seq fun K16 hK16 => ?_
      refine c_region ?_
      refine sv (o_lss rfl rfl) rfl ?_
      refine l_nil ?_
      refine e_K (hK16 _ _ _ _ ?_)
      refine c_seq fun K17 hK17 => ?_
      refine c_if rfl (fun h35 => ?_) (fun h35 => ?_)
      · skip
        have hlt : k < xs.length := by omega
        obtain ⟨x, hx_x⟩ : ∃ x, (xs)[k]? = some x := ⟨_, List.getElem?_eq_getElem (by omega)⟩
        obtain ⟨a_x, ha_x, hcs_x, _⟩ := flat_at (R.to0 E) hx_x
        obtain rfl := ha_x
        have hf1 := ltS_len (xs.take k) s
        have hf2 := gtS_len (xs.take k) s
        have hf3 := ltS_len xs s
        have hf4 : (xs.take k).length ≤ xs.length := by rw [List.length_take]; omega
        refine c_skip ?_
        refine e_K (hK17 _ _ _ _ ?_)
        refine c_seq fun K18 hK18 => ?_
        refine c_block ?_
        refine c_seq fun K19 hK19 => ?_
        refine c_region ?_
        refine sv (o_ix sl23 rfl rfl (by omega)) rfl ?_
        refine sv (o_ld sc9 rfl hcs_x.c0) rfl ?_
        refine sv (o_as rfl) rfl ?_
        refine l_nil ?_
        refine e_K (hK19 _ _ _ _ ?_)
        refine c_seq fun K20 hK20 => ?_
        refine c_region ?_
        refine sv (o_mv rfl) rfl ?_
        refine sv (o_mv rfl) rfl ?_
        refine sv ((o_sgt rfl rfl).to (v' := .bool (bl s x)) (congrArg Value.bool (bl_gt x s))) rfl ?_
        refine l_nil ?_
        refine e_K (hK20 _ _ _ _ ?_)
        refine c_cond rfl (fun h40 => ?_) (fun h40 => ?_)
        · skip
          refine c_region ?_
          refine sv (o_mv rfl) rfl ?_
          refine sv (o_mv rfl) rfl ?_
          refine s_bslice (cs := [_]) sl23 zv9 rfl rfl rfl (by decide) rfl fun g3 w8 N3 => ?_
          have Lg3_E := N3.le E
          have Da0_g3 := N3.own_ne Oa0
          replace E := E.then N3.mod
          replace Oa0 := Oa0.mod0 N3.mod
          have Bg3 := N3.blk
          refine s_append sl23 rfl rfl Oa0 (Src.own Try.underlying23 (Own.all (cs := [_]) Bg3 rfl (by omega)) (by simp [Value.oneCell'])) (by decide) (by simp only [List.length_append, List.length_singleton]; omega) (by simp only [List.length_append, List.length_singleton]; omega) rfl fun v3 w9 A3 => ?_
          have Dv3_g3 := A3.ne Da0_g3 Bg3
          have Lv3_E := A3.ge L0 E
          replace Bg3 := Bg3.mod A3.mod (fun hx => Da0_g3 _ hx rfl)
          replace E := E.trans' A3.mod (fun x hx => .inr (L0 x hx))
          replace Oa0 := A3.own
          refine sv (o_as rfl) rfl ?_
          refine l_nil ?_
          refine e_in (by simp) ?_
          refine e_K (hK18 _ _ _ _ ?_)
          refine c_region ?_
          refine sv (o_addN rfl rfl (by omega)) rfl ?_
          refine sv (o_mv rfl) rfl ?_
          refine l_nil ?_
          exact e_round (σ := Nat × Value) (s := ⟨k, v⟩) (⟨k + 1, v3⟩) ⟨rfl, rfl, rfl, rfl, rfl, trivial⟩ ⟨by omega, OwnS.to Oa0 (by first | (rw [gtS_yes hx_x h40]; done) | (rw [gtS_yes hx_x h40]; simp; done) | (rw [gtS_yes hx_x h40]; simp; omega)) (by first | (rw [gtS_yes hx_x h40]; done) | (rw [gtS_yes hx_x h40]; simp)), Lv3_E, E⟩ (by dsimp only; omega)
        · skip
          refine c_skip ?_
          refine e_in (by simp) ?_
          refine e_K (hK18 _ _ _ _ ?_)
          refine c_region ?_
          refine sv (o_addN rfl rfl (by omega)) rfl ?_
          refine sv (o_mv rfl) rfl ?_
          refine l_nil ?_
          exact e_round (σ := Nat × Value) (s := ⟨k, v⟩) (⟨k + 1, v⟩) ⟨rfl, rfl, rfl, rfl, rfl, trivial⟩ ⟨by omega, OwnS.to Oa0 (by first | (rw [gtS_no hx_x h40]; done) | (rw [gtS_no hx_x h40]; simp; done) | (rw [gtS_no hx_x h40]; simp; omega)) (by first | (rw [gtS_no hx_x h40]; done) | (rw [gtS_no hx_x h40]; simp)), L0, E⟩ (by dsimp only; omega)
      · skip
        have hk2 : k = xs.length := by omega
        subst hk2
        refine c_exit ?_
        refine e_then (by simp) ?_
        refine e_then (by simp) ?_
        refine e_hit ?_
        refine e_K (hK14 _ _ _ _ ?_)
        refine c_seq fun K21 hK21 => ?_
        refine c_region ?_
        refine sv (o_mv rfl) rfl ?_
        refine sv (o_as rfl) rfl ?_
        refine l_nil ?_
        refine e_K (hK21 _ _ _ _ ?_)
        refine c_ret ?_
        exact ret1 rfl rfl ⟨by
          have hw : withS xs s = ((ltS xs s) ++ [s] ++ gtS (xs.take xs.length) s) := by rw [withS_new h12, List.take_length]
          rw [hw]
          exact OwnS.rep A Oa0 (fun x hx hxA => by have := L0 x hx; have := hA x hxA; omega), E⟩

theorem g_same (w : World) (xs ys : List Str) (v1 v2 : Value) (R : Rep [] w (strD xs) v1) (R2 : Rep [] w (strD ys) v2) : Calls Try.prog 15 [v1, v2].toArray w (Ret fun u w' => u = .bool (decide (xs = ys)) ∧ Mod [] w w') := by
  refine enter Try.func15 rfl rfl rfl (l := [(0, _), (1, _)]) ⟨rfl, rfl, trivial⟩ ?_
  have E := Mod.refl [] w
  obtain ⟨ad, c, rfl, hc1, hc2⟩ := flat_len R
  obtain ⟨ad2, c2, rfl, hd1, hd2⟩ := flat_len R2
  refine c_seq fun K1 hK1 => ?_
  refine c_region ?_
  refine sv (o_as rfl) rfl ?_
  refine l_nil ?_
  refine e_K (hK1 _ _ _ _ ?_)
  refine c_seq fun K2 hK2 => ?_
  refine c_seq fun K3 hK3 => ?_
  refine c_region ?_
  refine sv (o_mv rfl) rfl ?_
  refine sv (o_len Try.underlying23 rfl) rfl ?_
  refine sv (o_mv rfl) rfl ?_
  refine sv (o_len Try.underlying23 rfl) rfl ?_
  refine sv (o_neq rfl rfl) rfl ?_
  refine l_nil ?_
  refine e_K (hK3 _ _ _ _ ?_)
  refine c_if rfl (fun h10 => ?_) (fun h10 => ?_)
  · skip
    refine c_seq fun K4 hK4 => ?_
    refine c_region ?_
    refine sv (o_as rfl) rfl ?_
    refine l_nil ?_
    refine e_K (hK4 _ _ _ _ ?_)
    refine c_ret ?_
    refine e_then (by simp) ?_
    exact ret1 rfl rfl ⟨by rw [decide_eq_false (fun e => by subst e; omega)], E⟩
  · skip
    have hll : xs.length = ys.length := by omega
    refine c_skip ?_
    refine e_K (hK2 _ _ _ _ ?_)
    refine c_seq fun K5 hK5 => ?_
    refine c_seq fun K6 hK6 => ?_
    refine c_region ?_
    refine sv (o_mv rfl) rfl ?_
    refine sv (o_len Try.underlying23 rfl) rfl ?_
    refine sv (o_mv rfl) rfl ?_
    refine l_nil ?_
    refine e_K (hK6 _ _ _ _ ?_)
    refine c_block ?_
    refine c_loop (σ := Nat) (fun k => [(0, .slice ad xs.length c), (1, .slice ad2 ys.length c2), (11, .slice ad xs.length c), (12, .int .i64 xs.length), (13, .int .i64 (k : Int))]) (fun k w1 => k ≤ xs.length ∧ xs.take k = ys.take k ∧ Mod [] w w1) (fun k => xs.length - k) (0) ⟨rfl, rfl, rfl, rfl, rfl, trivial⟩ (⟨by omega, by simp, E⟩) ?_
    rintro k w1 ⟨hk, ho, E⟩
    refine c_seq fun K7 hK7 => ?_
    refine c_region ?_
    refine sv (o_lss rfl rfl) rfl ?_
    refine l_nil ?_
    refine e_K (hK7 _ _ _ _ ?_)
    refine c_seq fun K8 hK8 => ?_
    refine c_if rfl (fun h14 => ?_) (fun h14 => ?_)
    · skip
      have hlt : k < xs.length := by omega
      obtain ⟨x, hx_x⟩ : ∃ x, (xs)[k]? = some x := ⟨_, List.getElem?_eq_getElem (by omega)⟩
      obtain ⟨a_x, ha_x, hcs_x, _⟩ := flat_at (R.to0 E) hx_x
      obtain rfl := ha_x
      obtain ⟨y, hx_y⟩ : ∃ x, (ys)[k]? = some x := ⟨_, List.getElem?_eq_getElem (by omega)⟩
      obtain ⟨a_y, ha_y, hcs_y, _⟩ := flat_at (R2.to0 E) hx_y
      obtain rfl := ha_y
      refine c_skip ?_
      refine e_K (hK8 _ _ _ _ ?_)
      refine c_seq fun K9 hK9 => ?_
      refine c_block ?_
      refine c_seq fun K10 hK10 => ?_
      refine c_region ?_
      refine sv (o_mv rfl) rfl ?_
      refine sv (o_as rfl) rfl ?_
      refine l_nil ?_
      refine e_K (hK10 _ _ _ _ ?_)
      refine c_seq fun K11 hK11 => ?_
      refine c_draw wide (by kernel_rfl) ?_
      refine tv (fun w_ E_ => (o_mv rfl)) rfl rfl ?_
      refine tv (fun w_ E_ => (o_mv rfl)) rfl rfl ?_
      refine tv (fun w_ E_ => (o_ix sl23 rfl rfl (by omega))) rfl rfl ?_
      refine tv (fun w_ E_ => (o_ld sc9 rfl (hcs_x.mod0 E_).c0)) rfl rfl ?_
      refine tv (fun w_ E_ => (o_mv rfl)) rfl rfl ?_
      refine tv (fun w_ E_ => (o_mv rfl)) rfl rfl ?_
      refine tv (fun w_ E_ => (o_ix sl23 rfl rfl (by omega))) rfl rfl ?_
      refine tv (fun w_ E_ => (o_ld sc9 rfl (hcs_y.mod0 E_).c0)) rfl rfl ?_
      refine tv (fun w_ E_ => (o_sne rfl rfl)) rfl rfl ?_
      refine tw_nil rfl fun w2 E_ => ?_
      replace E := E.then E_
      refine e_K (hK11 _ _ _ _ ?_)
      refine c_if rfl (fun h24 => ?_) (fun h24 => ?_)
      · skip
        refine c_seq fun K12 hK12 => ?_
        refine c_region ?_
        refine sv (o_as rfl) rfl ?_
        refine l_nil ?_
        refine e_K (hK12 _ _ _ _ ?_)
        refine c_ret ?_
        refine e_in (by simp) ?_
        refine e_then (by simp) ?_
        refine e_then (by simp) ?_
        refine e_in (by simp) ?_
        refine e_then (by simp) ?_
        exact ret1 rfl rfl ⟨by rw [decide_eq_false (fun e => by subst e; rw [hx_x] at hx_y; injection hx_y with hx_y; exact h24 hx_y)], E⟩
      · skip
        refine c_skip ?_
        refine e_in (by simp) ?_
        refine e_K (hK9 _ _ _ _ ?_)
        refine c_region ?_
        refine sv (o_addN rfl rfl (by omega)) rfl ?_
        refine sv (o_mv rfl) rfl ?_
        refine l_nil ?_
        exact e_round (σ := Nat) (s := k) (k + 1) ⟨rfl, rfl, rfl, rfl, rfl, trivial⟩ ⟨by omega, by rw [List.take_add_one, List.take_add_one, hx_x, hx_y, ho, Decidable.not_not.1 h24], E⟩ (by omega)
    · skip
      refine c_exit ?_
      refine e_then (by simp) ?_
      refine e_then (by simp) ?_
      refine e_hit ?_
      refine e_K (hK5 _ _ _ _ ?_)
      refine c_seq fun K13 hK13 => ?_
      refine c_region ?_
      refine sv (o_as rfl) rfl ?_
      refine l_nil ?_
      refine e_K (hK13 _ _ _ _ ?_)
      refine c_ret ?_
      exact ret1 rfl rfl ⟨by rw [decide_eq_true (by rwa [List.take_of_length_le (by omega), List.take_of_length_le (by omega)] at ho)], E⟩
end Go.Proofs.Ythmohmpalbnjoaa.V

set_option linter.unusedVariables false
set_option linter.unusedSimpArgs false
namespace Go.Proofs.Ythmohmpalbnjoaa.V
open Go
structure GL (A : List Nat) (w0 w : World) (e sz : Nat) (wv : Value) (n : Nat) (rows : List (List D)) (vs : List Value) : Prop where
  own : Own w e sz wv n vs
  rd : Reps (A ++ ob wv) w rows.flatten vs
  fr : ∀ y ∈ ob wv, w0.heap.size ≤ y
  dj : ∀ y ∈ ob wv, y ∉ A
  al : ∀ a ∈ A, a < w.heap.size
section
variable {A : List Nat} {w0 w w' : World} {e sz n : Nat} {wv wv' : Value} {rows : List (List D)} {vs us : List Value} {row : List D}
theorem GL.nil (hA : ∀ a ∈ A, a < w.heap.size) : GL A w0 w e sz (.slice none 0 0) 0 [] [] := ⟨Own.nil _ _ _, Reps.nil_, by simp [ob], by simp [ob], hA⟩
theorem GL.mod0 (G : GL A w0 w e sz wv n rows vs) (k : Mod [] w w') : GL A w0 w' e sz wv n rows vs := ⟨G.own.mod0 k, G.rd.to0 k, G.fr, G.dj, fun a ha => Nat.lt_of_lt_of_le (G.al a ha) k.size⟩
theorem GL.lt (G : GL A w0 w e sz wv n rows vs) : ∀ a ∈ A ++ ob wv, a < w.heap.size := fun a ha => (List.mem_append.1 ha).elim (G.al a) (G.own.lt a)
theorem GL.in_ (AA : App w w' e sz wv wv' n vs) : ∀ y ∈ A ++ ob wv', y ∈ A ++ ob wv ∨ w.heap.size ≤ y := fun y hy => (List.mem_append.1 hy).elim (fun h => .inl (by simp [h])) (fun h => (AA.ob_ y h).imp (fun h => by simp [h]) id)
theorem GL.app {k : Nat} (G : GL A w0 w e sz wv n rows vs) (E : Mod [] w0 w) (AA : App w w' e sz wv wv' k (vs ++ us)) (hk : k = n + 1) (Rx : Reps (A ++ ob wv) w row us) : GL A w0 w' e sz wv' (n + 1) (rows ++ [row]) (vs ++ us) := by
  subst hk
  refine ⟨AA.own, ?_, fun y hy => (AA.ob_ y hy).elim (G.fr y) (Nat.le_trans E.size), fun y hy ha => (AA.ob_ y hy).elim (fun h => G.dj y h ha) (fun h => by have := G.al y ha; omega), fun a ha => Nat.lt_of_lt_of_le (G.al a ha) AA.mod.size⟩
  rw [List.flatten_append]
  refine Reps.to AA.mod (fun y hy => by simp [hy]) (GL.in_ AA) _ _ (Reps.append G.rd ?_)
  simpa using Rx
theorem GL.keep {k : Nat} {d : D} {u : Value} (AA : App w w' e sz wv wv' k vs) (R : Rep (A ++ ob wv) w d u) : Rep (A ++ ob wv') w' d u := Rep.to AA.mod (fun y hy => by simp [hy]) (GL.in_ AA) _ _ R
theorem GL.rep (G : GL A w0 w e sz wv n rows vs) (hl : ∀ r ∈ rows, r.length = sz) (hn : rows.length = n) : Rep A w (.sl sz rows) wv := Own.rep G.own (G.rd.anti (fun x hx => by simp [hx])) hl hn G.dj
theorem GL.same {m : Nat} {rows' : List (List D)} (G : GL A w0 w e sz wv n rows vs) (h1 : n = m) (h2 : rows = rows') : GL A w0 w e sz wv m rows' vs := by subst h1; subst h2; exact G
end
theorem take_map_succ {α β : Type} {l : List α} {k : Nat} {x : α} (f : α → β) (h : l[k]? = some x) : (l.take (k + 1)).map f = (l.take k).map f ++ [f x] := by
  have hlt := (List.getElem?_eq_some_iff.1 h).1
  rw [List.take_succ_eq_append_getElem hlt, (List.getElem?_eq_some_iff.1 h).2]
  simp
end Go.Proofs.Ythmohmpalbnjoaa.V

set_option linter.unusedVariables false
set_option linter.unusedSimpArgs false
namespace Go.Proofs.Ythmohmpalbnjoaa.V
open Go
theorem look_take_hit {m : Gm} {k : Nat} {s : Str} {x : Str × List Str} (h : look (m.take k) s = none) (hx : m[k]? = some x) (e : x.1 = s) : look m s = some x.2 := by
  have hk := (List.getElem?_eq_some_iff.1 hx).1
  have : m = m.take k ++ x :: m.drop (k + 1) := by
    rw [← (List.getElem?_eq_some_iff.1 hx).2, ← List.drop_eq_getElem_cons hk, List.take_append_drop]
  rw [this, look_append, h, look, if_pos e]
  rfl
theorem look_take_miss {m : Gm} {k : Nat} {s : Str} {x : Str × List Str} (h : look (m.take k) s = none) (hx : m[k]? = some x) (e : x.1 ≠ s) : look (m.take (k + 1)) s = none := by
  rw [List.take_add_one, hx, Option.toList_some, look_snoc, h, if_neg e]
  rfl
theorem nd_flat {A : List Nat} {w : World} {s : Str} {l : List Str} {u : Value} (R : Rep A w (strD l) u) : Reps A w [.v (S s), strD l] [S s, u] := Reps.cons_ (Rep.v_ rfl) (Reps.cons_ R Reps.nil_)
theorem GL.first {A : List Nat} {w0 w w' : World} {e sz n k : Nat} {v v' : Value} {rows : List (List D)} {vs us : List Value} (AA : App w w' e sz v v' k us) (hk : k = n) (hu : us = vs) (R : Reps (A ++ ob v) w rows.flatten vs)
    (hl : ∀ x ∈ ob v, w0.heap.size ≤ x) (hd : ∀ x ∈ ob v, x ∉ A) (hA : ∀ x ∈ A, x < w.heap.size) (h0 : w0.heap.size ≤ w.heap.size) : GL A w0 w' e sz v' n rows vs := by
  subst hk hu
  refine ⟨AA.own, Reps.to AA.mod (fun x hx => by simp [hx]) (GL.in_ AA) _ _ R, fun y hy => ?_, fun y hy => ?_, fun a ha => Nat.lt_of_lt_of_le (hA a ha) AA.mod.size⟩
  · rcases AA.ob_ y hy with h | h
    · exact hl y h
    · omega
  · rcases AA.ob_ y hy with h | h
    · exact hd y h
    · intro ha
      have := hA y ha
      omega
theorem ndD_snoc {A : List Nat} {w0 w : World} {e n : Nat} {v : Value} {m : Gm} {p : Str × List Str} {vs : List Value} (G : GL A w0 w e 2 v n ((m.map fun p => [D.v (S p.1), strD p.2]) ++ [[D.v (S p.1), strD p.2]]) vs) (hn : n = m.length + 1) : Rep A w (ndD (m ++ [p])) v := by
  have := G.rep (fun r hr => by
    rcases List.mem_append.1 hr with h | h
    · obtain ⟨q, _, rfl⟩ := List.mem_map.1 h; rfl
    · simp at h; subst h; rfl) (by simp [hn])
  unfold ndD
  rw [List.map_append]
  exact this
theorem all_snocT {α : Type} {f : α → Bool} {m : List α} {j : Nat} {b : Bool} {y : α} (hb : b = (m.take j).all f) (ht : b = true) (hy : m[j]? = some y) : f y = (m.take (j + 1)).all f := by
  rw [List.take_add_one, hy, Option.toList_some, List.all_append, ← hb, ht]
  simp
theorem all_snocF {α : Type} {f : α → Bool} {m : List α} {j : Nat} {b : Bool} {y : α} (hb : b = (m.take j).all f) (ht : b = false) (hy : m[j]? = some y) : false = (m.take (j + 1)).all f := by
  rw [List.take_add_one, hy, Option.toList_some, List.all_append, ← hb, ht]
  rfl
theorem take_succ_snoc {α : Type} {l : List α} {k : Nat} {x : α} (h : l[k]? = some x) : l.take (k + 1) = l.take k ++ [x] := by
  rw [List.take_add_one, h]
  rfl
theorem take_all_succ {α : Type} {l : List α} {k : Nat} {x : α} {p : α → Prop} (h : l[k]? = some x) (ha : ∀ x ∈ l.take k, p x) (hx : p x) : ∀ x ∈ l.take (k + 1), p x := fun y hy => by
  rw [take_succ_snoc h] at hy
  rcases List.mem_append.1 hy with h' | h'
  · exact ha y h'
  · simp only [List.mem_singleton] at h'
    subst h'
    exact hx
theorem not_keys {m : Gm} {s : Str} (h : (look m s).isSome = false) : s ∉ m.keys := fun hk => by rw [look_keys.2 hk] at h; cases h
theorem addG_twice {m : Gm} {s : Str} {ah : List Str} (h : (look m s).isSome = true) : addG m s ah = (m, 6) := by rw [addG, if_pos (look_keys.1 h)]
theorem addG_gap {m : Gm} {s x : Str} {ah : List Str} (h : (look m s).isSome = false) (hx : x ∈ ah) (hn : (look m x).isSome = false) : addG m s ah = (m, 41) := by rw [addG, if_neg (not_keys h), if_pos ⟨x, hx, not_keys hn⟩]
theorem addG_in {m : Gm} {ah : List Str} (hi : ∀ x ∈ ah, (look m x).isSome = true) : ¬ ∃ x ∈ ah, x ∉ m.keys := fun ⟨x, hx, hn⟩ => hn (look_keys.1 (hi x hx))
theorem addG_many {m : Gm} {s : Str} {ah : List Str} (h : (look m s).isSome = false) (hi : ∀ x ∈ ah, (look m x).isSome = true) (hl : m.length = 512) : addG m s ah = (m, 22) := by rw [addG, if_neg (not_keys h), if_neg (addG_in hi), if_pos hl]
theorem addG_ok {m : Gm} {s : Str} {ah : List Str} (h : (look m s).isSome = false) (hi : ∀ x ∈ ah, (look m x).isSome = true) (hl : m.length ≠ 512) : addG m s ah = (m ++ [(s, setS ah)], 0) := by rw [addG, if_neg (not_keys h), if_neg (addG_in hi), if_neg hl]
theorem any_snocT {α : Type} {f : α → Bool} {m : List α} {j : Nat} {b c : Bool} {y : α} (hb : b = (c || (m.take j).any f)) (ht : b = true) (hy : m[j]? = some y) : true = (c || (m.take (j + 1)).any f) := by
  rw [take_succ_snoc hy, List.any_append, ← Bool.or_assoc, ← hb, ht]
  rfl
theorem any_snoc {α : Type} {f : α → Bool} {m : List α} {j : Nat} {b c : Bool} {y : α} (hb : b = (c || (m.take j).any f)) (ht : b = false) (hy : m[j]? = some y) : f y = (c || (m.take (j + 1)).any f) := by
  rw [take_succ_snoc hy, List.any_append, ← Bool.or_assoc, ← hb, ht]
  simp
theorem any_snocM {m : Gm} {ids : List Str} {s : Str} {j : Nat} {b c : Bool} {y : Str × List Str} (hb : b = (c || (m.take j).any (fun q => decide (s ∈ q.2) && decide (q.1 ∈ ids)))) (ht : b = false) (hy : m[j]? = some y) (h : s ∈ y.2) : decide (y.1 ∈ ids) = (c || (m.take (j + 1)).any (fun q => decide (s ∈ q.2) && decide (q.1 ∈ ids))) := by
  rw [← any_snoc hb ht hy, decide_eq_true h]
  rfl
theorem any_snocF {m : Gm} {ids : List Str} {s : Str} {j : Nat} {b c : Bool} {y : Str × List Str} (hb : b = (c || (m.take j).any (fun q => decide (s ∈ q.2) && decide (q.1 ∈ ids)))) (ht : b = false) (hy : m[j]? = some y) (h : ¬ s ∈ y.2) : false = (c || (m.take (j + 1)).any (fun q => decide (s ∈ q.2) && decide (q.1 ∈ ids))) := by
  rw [← any_snoc hb ht hy, decide_eq_false h]
  rfl
theorem pastR_yes {m : Gm} {ids : List Str} {j : Nat} {x : Str × List Str} (hx : m[m.length - 1 - j]? = some x) (hj : j < m.length) (h : isP (m.drop (m.length - j)) ids (pastR m ids j) x.1 = true) : pastR m ids (j + 1) = withS (pastR m ids j) x.1 := by
  have := rev_at hx
  rw [show m.length - 1 - (m.length - 1 - j) = j by omega] at this
  rw [pastR, this]
  simp only [h, if_true]
theorem pastR_no {m : Gm} {ids : List Str} {j : Nat} {x : Str × List Str} (hx : m[m.length - 1 - j]? = some x) (hj : j < m.length) (h : isP (m.drop (m.length - j)) ids (pastR m ids j) x.1 = false) : pastR m ids (j + 1) = pastR m ids j := by
  have := rev_at hx
  rw [show m.length - 1 - (m.length - 1 - j) = j by omega] at this
  rw [pastR, this]
  simp [h]
theorem strs_set {M : List Str} {m : Nat} {s z : Str} : ((M.map fun s => [S s]).flatten).set m (S z) = ((M.set m z).map fun s => [S s]).flatten := by
  rw [strs_cells, strs_cells, List.map_set]
theorem take_setg {α : Type} {M : List α} {m : Nat} {x : α} (h : m < M.length) : (M.set m x).take (m + 1) = M.take m ++ [x] := by
  rw [List.take_add_one, List.take_set_of_le (Nat.le_refl _), List.getElem?_set_self h]
  rfl
/-! ## ranks -/
structure Rk where
  a : Int
  b : Int
  s : Str
  deriving DecidableEq
abbrev Rk.cells (r : Rk) : List Value := [.int .i64 r.a, .int .i64 r.b, S r.s]
abbrev rksD (l : List Rk) : D := flat 3 Rk.cells l
def rlt (a : Rk) (x : Str) (b : Rk) (y : Str) : Bool := if a.a ≠ b.a then decide (a.a < b.a) else if a.b ≠ b.b then decide (a.b < b.b) else if a.s ≠ b.s then bl a.s b.s else bl x y
end Go.Proofs.Ythmohmpalbnjoaa.V
