/-
  A part of the proof: walks of functions, and the plain laws of what they compute. No condition of its own.
-/
import Derived.Test.YtccjjkdogljmpaaP4
set_option linter.unusedVariables false
set_option linter.unusedSimpArgs false
set_option maxRecDepth 10000
namespace Go.Proofs.Ytccjjkdogljmpaa.V
open Go Go.Proofs
theorem ent26 : Ent Try.prog 26 := Ent.of Try.func26 (by kernel_rfl) (by kernel_rfl)
theorem ent29 : Ent Try.prog 29 := Ent.of Try.func29 (by kernel_rfl) (by kernel_rfl)
theorem c_put (A : List Nat) (w : World) (xs : List Slot) (v0 : Value) (R : Rep A w (slotsD xs) v0) (s : Slot) (ha : asc xs = true) (hn : xs.length ≤ 1000000) : Calls Try.prog 8 [v0, s.agg].toArray w (Ret fun u w' => Own w' 24 3 u (putS xs s).length (((putS xs s).map Slot.cells).flatten) ∧ (∀ x ∈ ob u, w.heap.size ≤ x) ∧ Mod [] w w') := by
  refine enter Try.func8 rfl rfl rfl (l := [(0, _), (1, _)]) ⟨rfl, rfl, trivial⟩ ?_
  have E := Mod.refl [] w
  refine c_seq fun K1 hK1 => ?_
  refine c_region ?_
  refine s_box rfl rfl rfl fun g1 w1 N1 => ?_
  have Lg1_E := N1.le E
  replace E := E.then N1.mod
  have Bg1 := N1.blk
  refine sv (o_as rfl) rfl ?_
  refine l_nil ?_
  refine e_K (hK1 _ _ _ _ ?_)
  refine c_seq fun K2 hK2 => ?_
  refine c_region ?_
  refine sv (o_mv rfl) rfl ?_
  have hlt1 := Bg1.lt
  have hsz1 := E.size
  refine sc (o_call ent26 rfl) (c_clone A _ xs _ (R.to0 E) hn) rfl fun v_ w2 h_ => ?_
  obtain ⟨Oc, Lc, E_⟩ := h_
  replace Bg1 := Bg1.mod0 E_
  replace E := E.then E_
  have D1 : ∀ x ∈ ob v_, x ≠ g1 := fun x hx e => by have := Lc x hx; omega
  have L1 : ∀ x ∈ ob v_, w.heap.size ≤ x := fun x hx => by have := Lc x hx; omega
  obtain ⟨ad3, c3, rfl, hd1, hd2⟩ := Oc.form
  refine sv (o_as rfl) rfl ?_
  refine l_nil ?_
  refine e_K (hK2 _ _ _ _ ?_)
  refine c_seq fun K3 hK3 => ?_
  refine c_region ?_
  refine sv (o_mv rfl) rfl ?_
  refine sv (o_lda (vs := [_, _, _]) ag24 rfl rfl (Bg1.cs rfl)) rfl ?_
  refine sc (o_call ent28 rfl) (c_pair _ _) rfl fun v_ w3 h_ => ?_
  obtain ⟨rfl, E_⟩ := h_
  replace Bg1 := Bg1.mod0 E_
  replace E := E.then E_
  replace Oc := Oc.mod0 E_
  have RO := Own.slots [] Oc (by simp)
  refine sc (o_call ent27 rfl) (c_find [] _ xs _ RO _ ha hn) rfl fun v_ w4 h_ => ?_
  obtain ⟨rfl, E_⟩ := h_
  replace Bg1 := Bg1.mod0 E_
  replace E := E.then E_
  replace Oc := Oc.mod0 E_
  refine sv (o_mv rfl) rfl ?_
  refine sv (o_ext rfl rfl) rfl ?_
  refine sv (o_ext rfl rfl) rfl ?_
  refine sv (o_as rfl) rfl ?_
  refine sv (o_as rfl) rfl ?_
  refine l_nil ?_
  refine e_K (hK3 _ _ _ _ ?_)
  refine c_seq fun K4 hK4 => ?_
  refine c_seq fun K5 hK5 => ?_
  refine c_region ?_
  refine sv (o_mv rfl) rfl ?_
  refine l_nil ?_
  refine e_K (hK5 _ _ _ _ ?_)
  refine c_cond rfl (fun h17 => ?_) (fun h17 => ?_)
  · skip
    obtain ⟨y, hy, hyp, hyg⟩ := isS_some ha h17
    have hpl := (List.getElem?_eq_some_iff.1 hy).1
    have hset := (asc_there ha hy hyp).2 s rfl
    cases ad3 with
    | none => have := flat_none RO; subst this; simp at hpl
    | some ad3 =>
    skip
    refine c_seq fun K6 hK6 => ?_
    refine c_region ?_
    refine sv (o_mv rfl) rfl ?_
    refine sv (o_mv rfl) rfl ?_
    refine sv (o_lda (vs := [_, _, _]) ag24 rfl rfl (Bg1.cs rfl)) rfl ?_
    refine sv (o_ix sl22 rfl rfl (by omega)) rfl ?_
    refine s_stown (us := [_, _, _]) ag24 Oc rfl rfl rfl (by simp [Value.oneCell']) hpl fun w9 Od E9 hz9 => ?_
    replace E := E.trans' E9 (fun x hx => .inr (L1 x (by simpa [ob] using hx)))
    refine l_nil ?_
    refine e_K (hK6 _ _ _ _ ?_)
    refine c_seq fun K7 hK7 => ?_
    refine c_region ?_
    refine sv (o_mv rfl) rfl ?_
    refine sv (o_as rfl) rfl ?_
    refine l_nil ?_
    refine e_K (hK7 _ _ _ _ ?_)
    refine c_ret ?_
    refine e_then (by simp) ?_
    exact ret1 rfl rfl ⟨by rw [hset]; exact Od.same (by simp) (flat_set hpl), L1, E⟩
  · skip
    have hset := (asc_gone ha (isS_none ha h17)).2 s rfl
    refine c_skip ?_
    refine e_K (hK4 _ _ _ _ ?_)
    refine c_seq fun K8 hK8 => ?_
    refine c_region ?_
    refine sv (o_mv rfl) rfl ?_
    refine sv (o_mv rfl) rfl ?_
    refine sv (o_lda (vs := [_, _, _]) ag24 rfl rfl (Bg1.cs rfl)) rfl ?_
    refine s_bslice (cs := [_, _, _]) sl22 zv24 rfl rfl rfl (by decide) rfl fun g2 w5 N2 => ?_
    have Lg2_E := N2.le E
    have Dg1_g2 := N2.ne Bg1
    have Doc_g2 := N2.own_ne Oc
    replace Bg1 := Bg1.mod0 N2.mod
    replace E := E.then N2.mod
    replace Oc := Oc.mod0 N2.mod
    have Bg2 := N2.blk
    have hsz2 := E.size
    refine sc (o_call ent29 rfl) (c_ins _ xs s (posS xs s.pair) _ _ Oc (Own.all (cs := [_, _, _]) Bg2 rfl (by omega)) (fun x hx y hy => by simp only [ob, List.mem_singleton] at hy; subst hy; exact Doc_g2 x hx) (posS_le _ _) hn) rfl fun v_ w6 h_ => ?_
    obtain ⟨Oi, Li, E_⟩ := h_
    replace E := E.trans' E_ (fun x hx => .inr (L1 x hx))
    refine sv (o_as rfl) rfl ?_
    refine l_nil ?_
    refine e_K (hK8 _ _ _ _ ?_)
    refine c_ret ?_
    exact ret1 rfl rfl ⟨by rw [hset]; exact Oi, fun x hx => (Li x hx).elim (fun h => L1 x h) (fun h => by omega), E⟩

end Go.Proofs.Ytccjjkdogljmpaa.V
