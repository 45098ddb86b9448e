/-
  A part of the proof: walks of functions. No condition of its own.
-/
import Derived.Test.YtkhbnhdlelmbnaaGreatDoorM18
set_option linter.unusedVariables false
set_option linter.unusedSimpArgs false
set_option maxRecDepth 10000
namespace Go.Proofs.YtkhbnhdlelmbnaaGreatDoor.V
open Go Go.Proofs
theorem ent124 : Ent Tryz.prog 124 := Ent.of Tryz.func124 (by kernel_rfl) (by kernel_rfl)
theorem ent96 : Ent Tryz.prog 96 := Ent.of Tryz.func96 (by kernel_rfl) (by kernel_rfl)
theorem sl27 : slB Tryz.prog 27 43 3 48 = true := by kernel_rfl
theorem ag43 : agB Tryz.prog 43 3 = true := by kernel_rfl
theorem zv43 : zvB Tryz.prog 43 ([S [], S [], S []]) := by unfold zvB; kernel_rfl
theorem fd43_0 : fdB Tryz.prog 43 0 0 1 = true := by kernel_rfl
theorem fd43_1 : fdB Tryz.prog 43 1 1 1 = true := by kernel_rfl
theorem ent125 : Ent Tryz.prog 125 := Ent.of Tryz.func125 (by kernel_rfl) (by kernel_rfl)
theorem fd43_2 : fdB Tryz.prog 43 2 2 1 = true := by kernel_rfl
theorem ent88 : Ent Tryz.prog 88 := Ent.of Tryz.func88 (by kernel_rfl) (by kernel_rfl)
theorem c_event (w : World) (s : Str) (hs : s.length ≤ 140737488351232) : Calls Tryz.prog 91 [S s].toArray w (Ret fun u w' => u = .bool (eventB s) ∧ Mod [] w w') := by
 refine enter Tryz.func91 rfl rfl rfl (l := [(0, _)]) ⟨rfl, trivial⟩ ?_
 have E := Mod.refl [] w
 refine Cq fun K1 hK1 => Cr (Za rfl (Ln (e_K (hK1 _ _ _ _ (Cq fun K2 hK2 => Cq fun K3 hK3 => ?_)))))
 by_cases hk0 : s = []
 ·refine Cr (Zm rfl (Sv (o_seq rfl rfl) (Zm rfl (Sx rfl (dT hk0) (Sx rfl (dT hk0) (Sx rfl (dT hk0) (Sv (oT (dT hk0) rfl rfl) (Ln (e_K (hK3 _ _ _ _ (c_true rfl ?_)))))))))))
  have hF : eventB s = false := by subst hk0; simp [eventB]
  exact Cq fun K4 hK4 => Cr (Za rfl (Ln (e_K (hK4 _ _ _ _ (cR (eT (by simp) (ret1 rfl rfl ⟨by rw [hF], E⟩)))))))
 ·obtain ⟨b0, r, rfl⟩ : ∃ b r, s = b :: r := List.exists_cons_of_ne_nil hk0
  by_cases hk1 : (b0.toNat : Int) ≠ 36
  ·refine Cr (Zm rfl (Sv (o_seq rfl rfl) (Zm rfl (Sg rfl (dF hk0) (oM rfl) (Sg rfl (dF hk0) (o_sidx Tryz.underlying9 rfl rfl (by omega) rfl) (Sg rfl (dF hk0) (o_neq rfl rfl) (Sv (oF (dF hk0) rfl rfl) (Ln (e_K (hK3 _ _ _ _ ?_))))))))))
   refine c_if rfl (fun h11 => ?_) (fun h11 => absurd hk1 h11)
   have hF : eventB (b0 :: r) = false := by
    have h_ : b0 ≠ 36 := fun h => hk1 (by rw [h]; rfl)
    simp [eventB, h_]
   exact Cq fun K5 hK5 => Cr (Za rfl (Ln (e_K (hK5 _ _ _ _ (cR (eT (by simp) (ret1 rfl rfl ⟨by rw [hF], E⟩)))))))
  ·refine Cr (Zm rfl (Sv (o_seq rfl rfl) (Zm rfl (Sg rfl (dF hk0) (oM rfl) (Sg rfl (dF hk0) (o_sidx Tryz.underlying9 rfl rfl (by omega) rfl) (Sg rfl (dF hk0) (o_neq rfl rfl) (Sv (oF (dF hk0) rfl rfl) (Ln (e_K (hK3 _ _ _ _ (c_if rfl (fun h11 => absurd h11 hk1) (fun h11 => ?_))))))))))))
   have h36 : b0 = 36 := u8_eq (Classical.not_not.1 hk1)
   have hh : decide ((b0 :: r).head? = some 36) = true := by simp [h36]
   refine cK (e_K (hK2 _ _ _ _ (Cq fun K6 hK6 => Cr (Zm rfl (Sv (o_ssfrom (n := 1) Tryz.underlying9 rfl rfl (by simp)) (sc (oC ent124 rfl) (c_decode _ ((b0 :: r).drop 1) true (by simp only [List.length_drop]; omega)) rfl fun v_ w1 h_ => ?_))))))
   obtain ⟨⟨dv, bs, o, rfl, ho, hO, hbs, _⟩, E_⟩ := h_
   replace E := E.then E_
   obtain ⟨ad1, cp1, rfl, hcp1, hcp2⟩ := hO.form
   refine Zm rfl (Sv (o_ext rfl rfl) (Sv (o_ext rfl rfl) (Za rfl (Za rfl (Ln (e_K (hK6 _ _ _ _ (Cq fun K7 hK7 => ?_))))))))
   by_cases hk0 : (o) = true
   ·have e32 : decide (((b0 :: r).drop 1).length * 6 / 8 = 32) = decide ((bs.length : Int) = 32) := by
     rw [decide_eq_decide]
     rw [hk0] at ho
     rw [← ho, if_pos rfl] at hbs
     omega
    by_cases hk1 : (bs.length : Int) = 32
    ·exact Cr (Zm rfl (Zm rfl (Sg rfl hk0 (oM rfl) (Sg rfl hk0 (o_len Tryz.underlying53 rfl) (Sg rfl hk0 (oE rfl rfl) (Sv (oT hk0 rfl rfl) (Za rfl (Ln (e_K (hK7 _ _ _ _ (cR (ret1 rfl rfl ⟨congrArg Value.bool (by rw [eventB, hh, ← ho, e32]; simp only [hk0, dT hk1, Bool.true_and, Bool.and_true, Bool.false_and, Bool.and_false, Bool.true_or, Bool.or_true, Bool.false_or, Bool.or_false, Bool.not_true, Bool.not_false]), E⟩))))))))))))
    ·exact Cr (Zm rfl (Zm rfl (Sg rfl hk0 (oM rfl) (Sg rfl hk0 (o_len Tryz.underlying53 rfl) (Sg rfl hk0 (oE rfl rfl) (Sv (oT hk0 rfl rfl) (Za rfl (Ln (e_K (hK7 _ _ _ _ (cR (ret1 rfl rfl ⟨congrArg Value.bool (by rw [eventB, hh, ← ho, e32]; simp only [hk0, dF hk1, Bool.true_and, Bool.and_true, Bool.false_and, Bool.and_false, Bool.true_or, Bool.or_true, Bool.false_or, Bool.or_false, Bool.not_true, Bool.not_false]), E⟩))))))))))))
   ·exact Cr (Zm rfl (Zm rfl (Sx rfl (bF hk0) (Sx rfl (bF hk0) (Sx rfl (bF hk0) (Sv (oF (bF hk0) rfl rfl) (Za rfl (Ln (e_K (hK7 _ _ _ _ (cR (ret1 rfl rfl ⟨congrArg Value.bool (by rw [eventB, hh, ← ho]; simp only [bF hk0, Bool.true_and, Bool.and_true, Bool.false_and, Bool.and_false, Bool.true_or, Bool.or_true, Bool.false_or, Bool.or_false, Bool.not_true, Bool.not_false]), E⟩))))))))))))

theorem c_eventR (w : World) (s : Str) (hs : s.length ≤ 140737488351232) : Calls Tryz.prog 63 [S s].toArray w (Ret fun u w' => u = .bool (eventB s) ∧ Mod [] w w') := by
 refine enter Tryz.func63 rfl rfl rfl (l := [(0, _)]) ⟨rfl, trivial⟩ ?_
 have E := Mod.refl [] w
 refine Cq fun K1 hK1 => Cr (Za rfl (Ln (e_K (hK1 _ _ _ _ (Cq fun K2 hK2 => Cq fun K3 hK3 => ?_)))))
 by_cases hk0 : s = []
 ·refine Cr (Zm rfl (Sv (o_seq rfl rfl) (Zm rfl (Sx rfl (dT hk0) (Sx rfl (dT hk0) (Sx rfl (dT hk0) (Sv (oT (dT hk0) rfl rfl) (Ln (e_K (hK3 _ _ _ _ (c_true rfl ?_)))))))))))
  have hF : eventB s = false := by subst hk0; simp [eventB]
  exact Cq fun K4 hK4 => Cr (Za rfl (Ln (e_K (hK4 _ _ _ _ (cR (eT (by simp) (ret1 rfl rfl ⟨by rw [hF], E⟩)))))))
 ·obtain ⟨b0, r, rfl⟩ : ∃ b r, s = b :: r := List.exists_cons_of_ne_nil hk0
  by_cases hk1 : (b0.toNat : Int) ≠ 36
  ·refine Cr (Zm rfl (Sv (o_seq rfl rfl) (Zm rfl (Sg rfl (dF hk0) (oM rfl) (Sg rfl (dF hk0) (o_sidx Tryz.underlying9 rfl rfl (by omega) rfl) (Sg rfl (dF hk0) (o_neq rfl rfl) (Sv (oF (dF hk0) rfl rfl) (Ln (e_K (hK3 _ _ _ _ ?_))))))))))
   refine c_if rfl (fun h11 => ?_) (fun h11 => absurd hk1 h11)
   have hF : eventB (b0 :: r) = false := by
    have h_ : b0 ≠ 36 := fun h => hk1 (by rw [h]; rfl)
    simp [eventB, h_]
   exact Cq fun K5 hK5 => Cr (Za rfl (Ln (e_K (hK5 _ _ _ _ (cR (eT (by simp) (ret1 rfl rfl ⟨by rw [hF], E⟩)))))))
  ·refine Cr (Zm rfl (Sv (o_seq rfl rfl) (Zm rfl (Sg rfl (dF hk0) (oM rfl) (Sg rfl (dF hk0) (o_sidx Tryz.underlying9 rfl rfl (by omega) rfl) (Sg rfl (dF hk0) (o_neq rfl rfl) (Sv (oF (dF hk0) rfl rfl) (Ln (e_K (hK3 _ _ _ _ (c_if rfl (fun h11 => absurd h11 hk1) (fun h11 => ?_))))))))))))
   have h36 : b0 = 36 := u8_eq (Classical.not_not.1 hk1)
   have hh : decide ((b0 :: r).head? = some 36) = true := by simp [h36]
   refine cK (e_K (hK2 _ _ _ _ (Cq fun K6 hK6 => Cr (Zm rfl (Sv (o_ssfrom (n := 1) Tryz.underlying9 rfl rfl (by simp)) (sc (oC ent96 rfl) (c_decodeR _ ((b0 :: r).drop 1) true (by simp only [List.length_drop]; omega)) rfl fun v_ w1 h_ => ?_))))))
   obtain ⟨⟨dv, bs, o, rfl, ho, hO, hbs, _⟩, E_⟩ := h_
   replace E := E.then E_
   obtain ⟨ad1, cp1, rfl, hcp1, hcp2⟩ := hO.form
   refine Zm rfl (Sv (o_ext rfl rfl) (Sv (o_ext rfl rfl) (Za rfl (Za rfl (Ln (e_K (hK6 _ _ _ _ (Cq fun K7 hK7 => ?_))))))))
   by_cases hk0 : (o) = true
   ·have e32 : decide (((b0 :: r).drop 1).length * 6 / 8 = 32) = decide ((bs.length : Int) = 32) := by
     rw [decide_eq_decide]
     rw [hk0] at ho
     rw [← ho, if_pos rfl] at hbs
     omega
    by_cases hk1 : (bs.length : Int) = 32
    ·exact Cr (Zm rfl (Zm rfl (Sg rfl hk0 (oM rfl) (Sg rfl hk0 (o_len Tryz.underlying53 rfl) (Sg rfl hk0 (oE rfl rfl) (Sv (oT hk0 rfl rfl) (Za rfl (Ln (e_K (hK7 _ _ _ _ (cR (ret1 rfl rfl ⟨congrArg Value.bool (by rw [eventB, hh, ← ho, e32]; simp only [hk0, dT hk1, Bool.true_and, Bool.and_true, Bool.false_and, Bool.and_false, Bool.true_or, Bool.or_true, Bool.false_or, Bool.or_false, Bool.not_true, Bool.not_false]), E⟩))))))))))))
    ·exact Cr (Zm rfl (Zm rfl (Sg rfl hk0 (oM rfl) (Sg rfl hk0 (o_len Tryz.underlying53 rfl) (Sg rfl hk0 (oE rfl rfl) (Sv (oT hk0 rfl rfl) (Za rfl (Ln (e_K (hK7 _ _ _ _ (cR (ret1 rfl rfl ⟨congrArg Value.bool (by rw [eventB, hh, ← ho, e32]; simp only [hk0, dF hk1, Bool.true_and, Bool.and_true, Bool.false_and, Bool.and_false, Bool.true_or, Bool.or_true, Bool.false_or, Bool.or_false, Bool.not_true, Bool.not_false]), E⟩))))))))))))
   ·exact Cr (Zm rfl (Zm rfl (Sx rfl (bF hk0) (Sx rfl (bF hk0) (Sx rfl (bF hk0) (Sv (oF (bF hk0) rfl rfl) (Za rfl (Ln (e_K (hK7 _ _ _ _ (cR (ret1 rfl rfl ⟨congrArg Value.bool (by rw [eventB, hh, ← ho]; simp only [bF hk0, Bool.true_and, Bool.and_true, Bool.false_and, Bool.and_false, Bool.true_or, Bool.or_true, Bool.false_or, Bool.or_false, Bool.not_true, Bool.not_false]), E⟩))))))))))))

theorem c_bytes (w : World) (s : Str) (n : Nat) (hs : s.length ≤ 140737488351232) : Calls Tryz.prog 88 [S s, .int .i64 (n : Int)].toArray w (Ret fun u w' => u = .bool (bytesB s n) ∧ Mod [] w w') := by
 refine enter Tryz.func88 rfl rfl rfl (l := [(0, _), (1, _)]) ⟨rfl, rfl, trivial⟩ ?_
 have E := Mod.refl [] w
 refine Cq fun K1 hK1 => Cr (Za rfl (Ln (e_K (hK1 _ _ _ _ (Cq fun K2 hK2 => Cr (Zm rfl (sc (oC ent124 rfl) (c_decode _ (s) false hs) rfl fun v_ w1 h_ => ?_)))))))
 obtain ⟨⟨dv, bs, o, rfl, ho, hO, hbs, _⟩, E_⟩ := h_
 replace E := E.then E_
 obtain ⟨ad1, cp1, rfl, hcp1, hcp2⟩ := hO.form
 refine Zm rfl (Sv (o_ext rfl rfl) (Sv (o_ext rfl rfl) (Za rfl (Za rfl (Ln (e_K (hK2 _ _ _ _ (Cq fun K3 hK3 => ?_))))))))
 by_cases hk0 : (o) = true
 ·have en : decide (s.length * 6 / 8 = n) = decide ((bs.length : Int) = (n : Int)) := by
   rw [decide_eq_decide]
   rw [hk0] at ho
   rw [← ho, if_pos rfl] at hbs
   omega
  by_cases hk1 : (bs.length : Int) = (n : Int)
  ·exact Cr (Zm rfl (Zm rfl (Sg rfl hk0 (oM rfl) (Sg rfl hk0 (o_len Tryz.underlying53 rfl) (Sg rfl hk0 (oM rfl) (Sg rfl hk0 (oE rfl rfl) (Sv (oT hk0 rfl rfl) (Za rfl (Ln (e_K (hK3 _ _ _ _ (cR (ret1 rfl rfl ⟨congrArg Value.bool (by rw [bytesB, ← ho, en]; simp only [hk0, dT hk1, Bool.true_and, Bool.and_true, Bool.false_and, Bool.and_false, Bool.true_or, Bool.or_true, Bool.false_or, Bool.or_false, Bool.not_true, Bool.not_false]), E⟩)))))))))))))
  ·exact Cr (Zm rfl (Zm rfl (Sg rfl hk0 (oM rfl) (Sg rfl hk0 (o_len Tryz.underlying53 rfl) (Sg rfl hk0 (oM rfl) (Sg rfl hk0 (oE rfl rfl) (Sv (oT hk0 rfl rfl) (Za rfl (Ln (e_K (hK3 _ _ _ _ (cR (ret1 rfl rfl ⟨congrArg Value.bool (by rw [bytesB, ← ho, en]; simp only [hk0, dF hk1, Bool.true_and, Bool.and_true, Bool.false_and, Bool.and_false, Bool.true_or, Bool.or_true, Bool.false_or, Bool.or_false, Bool.not_true, Bool.not_false]), E⟩)))))))))))))
 ·exact Cr (Zm rfl (Zm rfl (Sx rfl (bF hk0) (Sx rfl (bF hk0) (Sx rfl (bF hk0) (Sx rfl (bF hk0) (Sv (oF (bF hk0) rfl rfl) (Za rfl (Ln (e_K (hK3 _ _ _ _ (cR (ret1 rfl rfl ⟨congrArg Value.bool (by rw [bytesB, ← ho]; simp only [bF hk0, Bool.true_and, Bool.and_true, Bool.false_and, Bool.and_false, Bool.true_or, Bool.or_true, Bool.false_or, Bool.or_false, Bool.not_true, Bool.not_false]), E⟩)))))))))))))

theorem c_stands (w : World) (s : Str) (n : Nat) (hn : n ≤ 100) (hs : s.length ≤ 140737488351232) : Calls Tryz.prog 66 [S s, .int .i64 (n : Int)].toArray w (Ret fun u w' => u = .bool (bytesB s n) ∧ Mod [] w w') := by
 refine enter Tryz.func66 rfl rfl rfl (l := [(0, _), (1, _)]) ⟨rfl, rfl, trivial⟩ ?_
 have E := Mod.refl [] w
 refine Cq fun K1 hK1 => Cr (Za rfl (Ln (e_K (hK1 _ _ _ _ (Cq fun K2 hK2 => Cq fun K3 hK3 => Cr (Zm rfl (Sv (o_slen Tryz.underlying9 rfl) (Sv (o_gtr rfl rfl) (Ln (e_K (hK3 _ _ _ _ ?_)))))))))))
 refine c_if rfl (fun h9 => ?_) (fun h9 => ?_)
 ·exact Cq fun K4 hK4 => Cr (Za rfl (Ln (e_K (hK4 _ _ _ _ (cR (eT (by simp) (ret1 rfl rfl ⟨by rw [bytesB, show decide (s.length * 6 / 8 = n) = false from dF (by omega)]; simp, E⟩)))))))
 ·refine cK (e_K (hK2 _ _ _ _ (Cq fun K5 hK5 => Cr (Zm rfl (sc (oC ent96 rfl) (c_decodeR _ (s) false hs) rfl fun v_ w1 h_ => ?_)))))
  obtain ⟨⟨dv, bs, o, rfl, ho, hO, hbs, _⟩, E_⟩ := h_
  replace E := E.then E_
  obtain ⟨ad1, cp1, rfl, hcp1, hcp2⟩ := hO.form
  refine Zm rfl (Sv (o_ext rfl rfl) (Sv (o_ext rfl rfl) (Za rfl (Za rfl (Ln (e_K (hK5 _ _ _ _ (Cq fun K6 hK6 => ?_))))))))
  by_cases hk0 : (o) = true
  ·have en : decide (s.length * 6 / 8 = n) = decide ((bs.length : Int) = (n : Int)) := by
    rw [decide_eq_decide]
    rw [hk0] at ho
    rw [← ho, if_pos rfl] at hbs
    omega
   by_cases hk1 : (bs.length : Int) = (n : Int)
   ·exact Cr (Zm rfl (Zm rfl (Sg rfl hk0 (oM rfl) (Sg rfl hk0 (o_len Tryz.underlying53 rfl) (Sg rfl hk0 (oM rfl) (Sg rfl hk0 (oE rfl rfl) (Sv (oT hk0 rfl rfl) (Za rfl (Ln (e_K (hK6 _ _ _ _ (cR (ret1 rfl rfl ⟨congrArg Value.bool (by rw [bytesB, ← ho, en]; simp only [hk0, dT hk1, Bool.true_and, Bool.and_true, Bool.false_and, Bool.and_false, Bool.true_or, Bool.or_true, Bool.false_or, Bool.or_false, Bool.not_true, Bool.not_false]), E⟩)))))))))))))
   ·exact Cr (Zm rfl (Zm rfl (Sg rfl hk0 (oM rfl) (Sg rfl hk0 (o_len Tryz.underlying53 rfl) (Sg rfl hk0 (oM rfl) (Sg rfl hk0 (oE rfl rfl) (Sv (oT hk0 rfl rfl) (Za rfl (Ln (e_K (hK6 _ _ _ _ (cR (ret1 rfl rfl ⟨congrArg Value.bool (by rw [bytesB, ← ho, en]; simp only [hk0, dF hk1, Bool.true_and, Bool.and_true, Bool.false_and, Bool.and_false, Bool.true_or, Bool.or_true, Bool.false_or, Bool.or_false, Bool.not_true, Bool.not_false]), E⟩)))))))))))))
  ·exact Cr (Zm rfl (Zm rfl (Sx rfl (bF hk0) (Sx rfl (bF hk0) (Sx rfl (bF hk0) (Sx rfl (bF hk0) (Sv (oF (bF hk0) rfl rfl) (Za rfl (Ln (e_K (hK6 _ _ _ _ (cR (ret1 rfl rfl ⟨congrArg Value.bool (by rw [bytesB, ← ho]; simp only [bF hk0, Bool.true_and, Bool.and_true, Bool.false_and, Bool.and_false, Bool.true_or, Bool.or_true, Bool.false_or, Bool.or_false, Bool.not_true, Bool.not_false]), E⟩)))))))))))))

theorem c_short11 (w : World) (s : Str) : Calls Tryz.prog 86 [S s].toArray w (Ret fun u w' => u = .bool (shortB s) ∧ Mod [] w w') := by
 refine enter Tryz.func86 rfl rfl rfl (l := [(0, _)]) ⟨rfl, trivial⟩ ?_
 have E := Mod.refl [] w
 refine Cq fun K1 hK1 => Cr (Za rfl (Ln (e_K (hK1 _ _ _ _ (Cq fun K2 hK2 => ?_)))))
 by_cases hk0 : (s.length : Int) ≤ 255
 ·by_cases hk1 : (validR s) = true
  ·refine Cr (Zm rfl (Sv (o_slen Tryz.underlying9 rfl) (Sv (o_leq rfl rfl) (Zm rfl (Sg rfl (dT hk0) (oM rfl) (sgc rfl (dT hk0) (oC ent123 rfl) (c_qvalid _ s) rfl fun v_ w1 h_ => ?_))))))
   obtain ⟨rfl, E_⟩ := h_
   replace E := E.then E_
   exact Sv (oT (dT hk0) rfl rfl) (Za rfl (Ln (e_K (hK2 _ _ _ _ (cR (ret1 rfl rfl ⟨congrArg Value.bool (by rw [shortB]; simp only [dT hk0, hk1, Bool.true_and, Bool.and_true, Bool.false_and, Bool.and_false, Bool.true_or, Bool.or_true, Bool.false_or, Bool.or_false, Bool.not_true, Bool.not_false]), E⟩))))))
  ·refine Cr (Zm rfl (Sv (o_slen Tryz.underlying9 rfl) (Sv (o_leq rfl rfl) (Zm rfl (Sg rfl (dT hk0) (oM rfl) (sgc rfl (dT hk0) (oC ent123 rfl) (c_qvalid _ s) rfl fun v_ w2 h_ => ?_))))))
   obtain ⟨rfl, E_⟩ := h_
   replace E := E.then E_
   exact Sv (oT (dT hk0) rfl rfl) (Za rfl (Ln (e_K (hK2 _ _ _ _ (cR (ret1 rfl rfl ⟨congrArg Value.bool (by rw [shortB]; simp only [dT hk0, bF hk1, Bool.true_and, Bool.and_true, Bool.false_and, Bool.and_false, Bool.true_or, Bool.or_true, Bool.false_or, Bool.or_false, Bool.not_true, Bool.not_false]), E⟩))))))
 ·exact Cr (Zm rfl (Sv (o_slen Tryz.underlying9 rfl) (Sv (o_leq rfl rfl) (Zm rfl (Sx rfl (dF hk0) (Sx rfl (dF hk0) (Sv (oF (dF hk0) rfl rfl) (Za rfl (Ln (e_K (hK2 _ _ _ _ (cR (ret1 rfl rfl ⟨congrArg Value.bool (by rw [shortB]; simp only [dF hk0, Bool.true_and, Bool.and_true, Bool.false_and, Bool.and_false, Bool.true_or, Bool.or_true, Bool.false_or, Bool.or_false, Bool.not_true, Bool.not_false]), E⟩)))))))))))))

theorem c_few (w : World) (s : Str) : Calls Tryz.prog 69 [S s].toArray w (Ret fun u w' => u = .bool (shortB s) ∧ Mod [] w w') := by
 refine enter Tryz.func69 rfl rfl rfl (l := [(0, _)]) ⟨rfl, trivial⟩ ?_
 have E := Mod.refl [] w
 refine Cq fun K1 hK1 => Cr (Za rfl (Ln (e_K (hK1 _ _ _ _ (Cq fun K2 hK2 => ?_)))))
 by_cases hk0 : (s.length : Int) ≤ 255
 ·by_cases hk1 : (validR s) = true
  ·refine Cr (Zm rfl (Sv (o_slen Tryz.underlying9 rfl) (Sv (o_leq rfl rfl) (Zm rfl (Sg rfl (dT hk0) (oM rfl) (sgc rfl (dT hk0) (oC ent100 rfl) (c_valid8 _ _) rfl fun v_ w1 h_ => ?_))))))
   obtain ⟨rfl, E_⟩ := h_
   replace E := E.then E_
   exact Sv (oT (dT hk0) rfl rfl) (Za rfl (Ln (e_K (hK2 _ _ _ _ (cR (ret1 rfl rfl ⟨congrArg Value.bool (by rw [shortB]; simp only [dT hk0, hk1, Bool.true_and, Bool.and_true, Bool.false_and, Bool.and_false, Bool.true_or, Bool.or_true, Bool.false_or, Bool.or_false, Bool.not_true, Bool.not_false]), E⟩))))))
  ·refine Cr (Zm rfl (Sv (o_slen Tryz.underlying9 rfl) (Sv (o_leq rfl rfl) (Zm rfl (Sg rfl (dT hk0) (oM rfl) (sgc rfl (dT hk0) (oC ent100 rfl) (c_valid8 _ _) rfl fun v_ w2 h_ => ?_))))))
   obtain ⟨rfl, E_⟩ := h_
   replace E := E.then E_
   exact Sv (oT (dT hk0) rfl rfl) (Za rfl (Ln (e_K (hK2 _ _ _ _ (cR (ret1 rfl rfl ⟨congrArg Value.bool (by rw [shortB]; simp only [dT hk0, bF hk1, Bool.true_and, Bool.and_true, Bool.false_and, Bool.and_false, Bool.true_or, Bool.or_true, Bool.false_or, Bool.or_false, Bool.not_true, Bool.not_false]), E⟩))))))
 ·exact Cr (Zm rfl (Sv (o_slen Tryz.underlying9 rfl) (Sv (o_leq rfl rfl) (Zm rfl (Sx rfl (dF hk0) (Sx rfl (dF hk0) (Sv (oF (dF hk0) rfl rfl) (Za rfl (Ln (e_K (hK2 _ _ _ _ (cR (ret1 rfl rfl ⟨congrArg Value.bool (by rw [shortB]; simp only [dF hk0, Bool.true_and, Bool.and_true, Bool.false_and, Bool.and_false, Bool.true_or, Bool.or_true, Bool.false_or, Bool.or_false, Bool.not_true, Bool.not_false]), E⟩)))))))))))))

theorem c_number (w : World) (n : Int) : Calls Tryz.prog 87 [.int .i64 n].toArray w (Ret fun u w' => u = .bool (numB n) ∧ Mod [] w w') := by
 refine enter Tryz.func87 rfl rfl rfl (l := [(0, _)]) ⟨rfl, trivial⟩ ?_
 have E := Mod.refl [] w
 refine Cq fun K1 hK1 => Cr (Za rfl (Ln (e_K (hK1 _ _ _ _ (Cq fun K2 hK2 => ?_)))))
 by_cases hk0 : 0 ≤ n
 ·by_cases hk1 : n ≤ 9007199254740991
  ·exact Cr (Zm rfl (Sv (o_geq rfl rfl) (Zm rfl (Sg rfl (dT hk0) (oM rfl) (Sg rfl (dT hk0) (o_leq rfl rfl) (Sv (oT (dT hk0) rfl rfl) (Za rfl (Ln (e_K (hK2 _ _ _ _ (cR (ret1 rfl rfl ⟨congrArg Value.bool (by rw [numB]; simp only [dT hk0, dT hk1, Bool.true_and, Bool.and_true, Bool.false_and, Bool.and_false, Bool.true_or, Bool.or_true, Bool.false_or, Bool.or_false, Bool.not_true, Bool.not_false]), E⟩))))))))))))
  ·exact Cr (Zm rfl (Sv (o_geq rfl rfl) (Zm rfl (Sg rfl (dT hk0) (oM rfl) (Sg rfl (dT hk0) (o_leq rfl rfl) (Sv (oT (dT hk0) rfl rfl) (Za rfl (Ln (e_K (hK2 _ _ _ _ (cR (ret1 rfl rfl ⟨congrArg Value.bool (by rw [numB]; simp only [dT hk0, dF hk1, Bool.true_and, Bool.and_true, Bool.false_and, Bool.and_false, Bool.true_or, Bool.or_true, Bool.false_or, Bool.or_false, Bool.not_true, Bool.not_false]), E⟩))))))))))))
 ·exact Cr (Zm rfl (Sv (o_geq rfl rfl) (Zm rfl (Sx rfl (dF hk0) (Sx rfl (dF hk0) (Sv (oF (dF hk0) rfl rfl) (Za rfl (Ln (e_K (hK2 _ _ _ _ (cR (ret1 rfl rfl ⟨congrArg Value.bool (by rw [numB]; simp only [dF hk0, Bool.true_and, Bool.and_true, Bool.false_and, Bool.and_false, Bool.true_or, Bool.or_true, Bool.false_or, Bool.or_false, Bool.not_true, Bool.not_false]), E⟩))))))))))))

theorem c_sigs (w : World) (l : List Sig3) (ad : Option Addr) (c : Nat) (R : Rep [] w (flat 3 Sig3.cells l) (.slice ad l.length c)) (hlen : ∀ s ∈ l, s.srv.length < 4294967281 ∧ s.key.length ≤ 140737488351232 ∧ s.sig.length ≤ 140737488351232) (hll : l.length ≤ 140737488351232) (hM : MaxL w) : Calls Tryz.prog 89 [.slice ad l.length c].toArray w (Ret fun u w' => u = .bool (sigsL none l) ∧ Mod [] w w') := by
 refine enter Tryz.func89 rfl rfl rfl (l := [(0, _)]) ⟨rfl, trivial⟩ ?_
 have E := Mod.refl [] w
 obtain ⟨_, c9, hfl, hcc1, hcc2⟩ := flat_len R
 injection hfl with _ _ hfc
 subst hfc
 refine Cq fun K1 hK1 => Cr (Za rfl (Ln (e_K (hK1 _ _ _ _ (Cq fun K2 hK2 => Cq fun K3 hK3 => Cr (Zm rfl (Sv (o_len Tryz.underlying27 rfl) (Zm rfl (Ln (e_K (hK3 _ _ _ _ (cB ?_))))))))))))
 refine c_loop (σ := Nat) (fun k => [(0, .slice ad l.length c), (5, .slice ad l.length c), (6, .int .i64 (l.length : Int)), (7, .int .i64 (k : Int))]) (fun k w1 => k ≤ l.length ∧ sigsL none l = sigsL (prevS l k) (l.drop k) ∧ Mod [] w w1) (fun k => l.length - k) (0) ⟨rfl, rfl, rfl, rfl, trivial⟩ (⟨by omega, rfl, E⟩) ?_
 rintro k w1 ⟨hk, hinv, E⟩
 refine Cq fun K4 hK4 => Cr (Sv (o_lss rfl rfl) (Ln (e_K (hK4 _ _ _ _ (Cq fun K5 hK5 => ?_)))))
 refine c_if rfl (fun h8 => ?_) (fun h8 => ?_)
 ·refine cK (e_K (hK5 _ _ _ _ (Cq fun K6 hK6 => cB (Cq fun K7 hK7 => Cr (Zm rfl ?_)))))
  obtain ⟨x, hx_x⟩ : ∃ x, l[k]? = some x := ⟨_, List.getElem?_eq_getElem (by omega)⟩
  obtain ⟨a_x, ha_x, hcs_x, _⟩ := flat_at (R.to0 E) hx_x
  cases ha_x
  obtain ⟨hl1_x, hl2_x, hl3_x⟩ := hlen x (List.mem_of_getElem? hx_x)
  refine Sv (o_ix sl27 rfl rfl (by omega)) (Sv (o_lda ag43 rfl rfl hcs_x) (s_alloc zv43 rfl fun g1 w2 N1 => ?_))
  have Lg1_E := N1.le E
  replace E := E.then N1.mod
  have Bg1 := N1.blk
  refine Za rfl (s_sta (vs := [_, _, _]) ag43 Bg1 rfl rfl rfl (by simp [Value.oneCell']) (by simp) fun w3 P3 => ?_)
  replace E := E.own P3.mod Lg1_E
  replace Bg1 : Blk w3 g1 _ [_, _, _] := P3.blk
  refine Ln (e_K (hK7 _ _ _ _ (Cq fun K8 hK8 => Cq fun K9 hK9 => ?_)))
  by_cases hk0 : (!serverB x.srv) = true
  ·refine Cr (Sv (oA0 fd43_0 rfl) (Sv (oL sc9 rfl (Bg1.cell rfl)) (sc (oC ent115 rfl) (c_server _ x.srv hl1_x (hM.mod0 E)) rfl fun v_ w4 h_ => ?_)))
   obtain ⟨rfl, E_⟩ := h_
   replace Bg1 := Bg1.mod0 E_
   replace E := E.then E_
   refine Sv (o_not rfl) (Zm rfl (Sx rfl hk0 (Sx rfl hk0 (Sx rfl hk0 (Sx rfl hk0 (Sv (oT hk0 rfl rfl) (Zm rfl (Sx rfl rfl (Sx rfl rfl (Sx rfl rfl (Sx rfl rfl (Sv (oT rfl rfl rfl) (Ln ?_)))))))))))))
   refine e_K (hK9 _ _ _ _ (c_true rfl ?_))
   have h_ : serverB x.srv = false := by simpa using hk0
   have hF : sigsL none l = false := by rw [hinv, sigsL_at hx_x, show sigB x = false by simp [sigB, h_]]; rfl
   exact Cq fun K10 hK10 => Cr (Za rfl (Ln (e_K (hK10 _ _ _ _ (cR (eT (by simp) (eI (by simp) (eT (by simp) (eT (by simp) (eI (by simp) (eT (by simp) (ret1 rfl rfl ⟨by rw [hF], E⟩))))))))))))
  ·by_cases hk1 : (!keyB x.key) = true
   ·refine Cr (Sv (oA0 fd43_0 rfl) (Sv (oL sc9 rfl (Bg1.cell rfl)) (sc (oC ent115 rfl) (c_server _ x.srv hl1_x (hM.mod0 E)) rfl fun v_ w5 h_ => ?_)))
    obtain ⟨rfl, E_⟩ := h_
    replace Bg1 := Bg1.mod0 E_
    replace E := E.then E_
    refine Sv (o_not rfl) (Zm rfl (Sg rfl (bF hk0) (oA0 fd43_1 rfl) (Sg rfl (bF hk0) (oL sc9 rfl (Bg1.cell rfl)) (sgc rfl (bF hk0) (oC ent125 rfl) (c_key _ x.key) rfl fun v_ w6 h_ => ?_))))
    obtain ⟨rfl, E_⟩ := h_
    replace Bg1 := Bg1.mod0 E_
    replace E := E.then E_
    refine Sg rfl (bF hk0) (o_not rfl) (Sv (oF (bF hk0) rfl rfl) (Zm rfl (Sx rfl hk1 (Sx rfl hk1 (Sx rfl hk1 (Sx rfl hk1 (Sv (oT hk1 rfl rfl) (Ln (e_K (hK9 _ _ _ _ (c_true rfl ?_)))))))))))
    have h_ : keyB x.key = false := by simpa using hk1
    have hF : sigsL none l = false := by rw [hinv, sigsL_at hx_x, show sigB x = false by simp [sigB, h_]]; rfl
    exact Cq fun K11 hK11 => Cr (Za rfl (Ln (e_K (hK11 _ _ _ _ (cR (eT (by simp) (eI (by simp) (eT (by simp) (eT (by simp) (eI (by simp) (eT (by simp) (ret1 rfl rfl ⟨by rw [hF], E⟩))))))))))))
   ·by_cases hk2 : (!bytesB x.sig 64) = true
    ·refine Cr (Sv (oA0 fd43_0 rfl) (Sv (oL sc9 rfl (Bg1.cell rfl)) (sc (oC ent115 rfl) (c_server _ x.srv hl1_x (hM.mod0 E)) rfl fun v_ w7 h_ => ?_)))
     obtain ⟨rfl, E_⟩ := h_
     replace Bg1 := Bg1.mod0 E_
     replace E := E.then E_
     refine Sv (o_not rfl) (Zm rfl (Sg rfl (bF hk0) (oA0 fd43_1 rfl) (Sg rfl (bF hk0) (oL sc9 rfl (Bg1.cell rfl)) (sgc rfl (bF hk0) (oC ent125 rfl) (c_key _ x.key) rfl fun v_ w8 h_ => ?_))))
     obtain ⟨rfl, E_⟩ := h_
     replace Bg1 := Bg1.mod0 E_
     replace E := E.then E_
     refine Sg rfl (bF hk0) (o_not rfl) (Sv (oF (bF hk0) rfl rfl) (Zm rfl (Sg rfl (bF hk1) (oA0 fd43_2 rfl) (Sg rfl (bF hk1) (oL sc9 rfl (Bg1.cell rfl)) (sgc rfl (bF hk1) (oC ent88 rfl) (c_bytes _ x.sig 64 hl3_x) rfl fun v_ w9 h_ => ?_)))))
     obtain ⟨rfl, E_⟩ := h_
     replace Bg1 := Bg1.mod0 E_
     replace E := E.then E_
     refine Sg rfl (bF hk1) (o_not rfl) (Sv (oF (bF hk1) rfl rfl) (Ln (e_K (hK9 _ _ _ _ ?_))))
     refine c_cond rfl (fun h27 => ?_) (fun h27 => absurd (hk2.symm.trans h27) (by decide))
     have h_ : bytesB x.sig 64 = false := by simpa using hk2
     have hF : sigsL none l = false := by rw [hinv, sigsL_at hx_x, show sigB x = false by simp [sigB, h_]]; rfl
     exact Cq fun K12 hK12 => Cr (Za rfl (Ln (e_K (hK12 _ _ _ _ (cR (eT (by simp) (eI (by simp) (eT (by simp) (eT (by simp) (eI (by simp) (eT (by simp) (ret1 rfl rfl ⟨by rw [hF], E⟩))))))))))))
    ·refine Cr (Sv (oA0 fd43_0 rfl) (Sv (oL sc9 rfl (Bg1.cell rfl)) (sc (oC ent115 rfl) (c_server _ x.srv hl1_x (hM.mod0 E)) rfl fun v_ w10 h_ => ?_)))
     obtain ⟨rfl, E_⟩ := h_
     replace Bg1 := Bg1.mod0 E_
     replace E := E.then E_
     refine Sv (o_not rfl) (Zm rfl (Sg rfl (bF hk0) (oA0 fd43_1 rfl) (Sg rfl (bF hk0) (oL sc9 rfl (Bg1.cell rfl)) (sgc rfl (bF hk0) (oC ent125 rfl) (c_key _ x.key) rfl fun v_ w11 h_ => ?_))))
     obtain ⟨rfl, E_⟩ := h_
     replace Bg1 := Bg1.mod0 E_
     replace E := E.then E_
     refine Sg rfl (bF hk0) (o_not rfl) (Sv (oF (bF hk0) rfl rfl) (Zm rfl (Sg rfl (bF hk1) (oA0 fd43_2 rfl) (Sg rfl (bF hk1) (oL sc9 rfl (Bg1.cell rfl)) (sgc rfl (bF hk1) (oC ent88 rfl) (c_bytes _ x.sig 64 hl3_x) rfl fun v_ w12 h_ => ?_)))))
     obtain ⟨rfl, E_⟩ := h_
     replace Bg1 := Bg1.mod0 E_
     replace E := E.then E_
     refine Sg rfl (bF hk1) (o_not rfl) (Sv (oF (bF hk1) rfl rfl) (Ln (e_K (hK9 _ _ _ _ (c_cond rfl (fun h27 => absurd ((bF hk2).symm.trans h27) (by decide)) (fun h27 => ?_))))))
     have g0 : serverB x.srv = true := by simpa using hk0
     have g1_ : keyB x.key = true := by simpa using hk1
     have g2_ : bytesB x.sig 64 = true := by simpa using hk2
     have hsg : sigB x = true := by rw [sigB, g0, g1_, g2_]; rfl
     refine cK (e_K (hK8 _ _ _ _ (Cq fun K13 hK13 => ?_)))
     by_cases hk3 : (k : Int) > 0
     ·obtain ⟨q, hx_q⟩ : ∃ x, l[k - 1]? = some x := ⟨_, List.getElem?_eq_getElem (by omega)⟩
      obtain ⟨a_q, ha_q, hcs_q, _⟩ := flat_at (R.to0 E) hx_q
      cases ha_q
      obtain ⟨hl1_q, hl2_q, hl3_q⟩ := hlen q (List.mem_of_getElem? hx_q)
      by_cases hk4 : (!(bl q.srv x.srv || q.srv == x.srv)) = true
      ·refine c_draw wide (by kernel_rfl) (tv (fun w_ E_ => (oM rfl)) rfl rfl (tv (fun w_ E_ => (o_gtr rfl rfl)) rfl rfl (tv (fun w_ E_ => (oM rfl)) rfl rfl (tvg rfl (dT hk3) (fun w_ E_ => (oM rfl)) rfl rfl (tvg rfl (dT hk3) (fun w_ E_ => (oM rfl)) rfl rfl (tvg rfl (dT hk3) (fun w_ E_ => (o_subE (r := ((k - 1 : Nat) : Int)) rfl rfl (by rw [wrap64_in _ (by omega)]; omega))) rfl rfl (tvg rfl (dT hk3) (fun w_ E_ => (o_ix sl27 rfl rfl (by omega))) rfl rfl (tvg rfl (dT hk3) (fun w_ E_ => (o_fad fd43_0 rfl)) rfl rfl (tvg rfl (dT hk3) (fun w_ E_ => (oL sc9 rfl ((hcs_q.mod0 E_) 0 _ rfl))) rfl rfl (tvg rfl (dT hk3) (fun w_ E_ => (oA0 fd43_0 rfl)) rfl rfl (tvg rfl (dT hk3) (fun w_ E_ => (oL sc9 rfl ((Bg1.mod0 E_).cell rfl))) rfl rfl (tvg rfl (dT hk3) (fun w_ E_ => (o_sgt rfl rfl)) rfl rfl (tvg rfl (dT hk3) (fun w_ E_ => (oM rfl)) rfl rfl ?_)))))))))))))
       refine Tx rfl hk4 (Tx rfl hk4 (Tx rfl hk4 (Tx rfl hk4 (Tx rfl hk4 (Tx rfl hk4 (Tx rfl hk4 (Tx rfl hk4 (Tx rfl hk4 (Tx rfl hk4 (tnu rfl rfl rfl (tnu rfl rfl rfl (tnu rfl rfl rfl (tnu rfl rfl rfl ?_)))))))))))))
       refine tnu rfl rfl rfl (tnu rfl rfl rfl (tnu rfl rfl rfl (tnu rfl rfl rfl (tnu rfl rfl rfl (Tx rfl hk4 (tvg rfl (dT hk3) (fun w_ E_ => (oT hk4 rfl rfl)) rfl rfl (tv (fun w_ E_ => (oT (dT hk3) rfl rfl)) rfl rfl (tw_nil rfl fun w13 E_ => ?_))))))))
       replace Bg1 := Bg1.mod0 E_
       replace E := E.then E_
       refine e_K (hK13 _ _ _ _ (c_true rfl ?_))
       have hb_ : sigBad q x = true := by rw [sigBad]; simp only [hk4, Bool.true_and, Bool.and_true, Bool.false_and, Bool.and_false, Bool.true_or, Bool.or_true, Bool.false_or, Bool.or_false, Bool.not_true, Bool.not_false]
       have hF : sigsL none l = false := by rw [hinv, sigsL_at hx_x, okP_at hx_q (by omega), hb_]; simp
       exact Cq fun K14 hK14 => Cr (Za rfl (Ln (e_K (hK14 _ _ _ _ (cR (eI (by simp) (eT (by simp) (eT (by simp) (eI (by simp) (eT (by simp) (ret1 rfl rfl ⟨by rw [hF], E⟩)))))))))))
      ·by_cases hk5 : q.srv = x.srv
       ·by_cases hk6 : (!bl q.key x.key) = true
        ·refine c_draw wide (by kernel_rfl) (tv (fun w_ E_ => (oM rfl)) rfl rfl (tv (fun w_ E_ => (o_gtr rfl rfl)) rfl rfl (tv (fun w_ E_ => (oM rfl)) rfl rfl (tvg rfl (dT hk3) (fun w_ E_ => (oM rfl)) rfl rfl (tvg rfl (dT hk3) (fun w_ E_ => (oM rfl)) rfl rfl (tvg rfl (dT hk3) (fun w_ E_ => (o_subE (r := ((k - 1 : Nat) : Int)) rfl rfl (by rw [wrap64_in _ (by omega)]; omega))) rfl rfl (tvg rfl (dT hk3) (fun w_ E_ => (o_ix sl27 rfl rfl (by omega))) rfl rfl (tvg rfl (dT hk3) (fun w_ E_ => (o_fad fd43_0 rfl)) rfl rfl (tvg rfl (dT hk3) (fun w_ E_ => (oL sc9 rfl ((hcs_q.mod0 E_) 0 _ rfl))) rfl rfl (tvg rfl (dT hk3) (fun w_ E_ => (oA0 fd43_0 rfl)) rfl rfl (tvg rfl (dT hk3) (fun w_ E_ => (oL sc9 rfl ((Bg1.mod0 E_).cell rfl))) rfl rfl (tvg rfl (dT hk3) (fun w_ E_ => (o_sgt rfl rfl)) rfl rfl (tvg rfl (dT hk3) (fun w_ E_ => (oM rfl)) rfl rfl ?_)))))))))))))
         refine tvg rfl (bF hk4) (fun w_ E_ => (oM rfl)) rfl rfl (tvg rfl (bF hk4) (fun w_ E_ => (oM rfl)) rfl rfl (tvg rfl (bF hk4) (fun w_ E_ => (o_subE (r := ((k - 1 : Nat) : Int)) rfl rfl (by rw [wrap64_in _ (by omega)]; omega))) rfl rfl (tvg rfl (bF hk4) (fun w_ E_ => (o_ix sl27 rfl rfl (by omega))) rfl rfl (tvg rfl (bF hk4) (fun w_ E_ => (o_fad fd43_0 rfl)) rfl rfl (tvg rfl (bF hk4) (fun w_ E_ => (oL sc9 rfl ((hcs_q.mod0 E_) 0 _ rfl))) rfl rfl (tvg rfl (bF hk4) (fun w_ E_ => (oA0 fd43_0 rfl)) rfl rfl (tvg rfl (bF hk4) (fun w_ E_ => (oL sc9 rfl ((Bg1.mod0 E_).cell rfl))) rfl rfl (tvg rfl (bF hk4) (fun w_ E_ => (o_seq rfl rfl)) rfl rfl (tvg rfl (bF hk4) (fun w_ E_ => (oM rfl)) rfl rfl (tvg rfl (dT hk5) (fun w_ E_ => (oM rfl)) rfl rfl (tvg rfl (dT hk5) (fun w_ E_ => (oM rfl)) rfl rfl (tvg rfl (dT hk5) (fun w_ E_ => (o_subE (r := ((k - 1 : Nat) : Int)) rfl rfl (by rw [wrap64_in _ (by omega)]; omega))) rfl rfl (tvg rfl (dT hk5) (fun w_ E_ => (o_ix sl27 rfl rfl (by omega))) rfl rfl ?_)))))))))))))
         refine tvg rfl (dT hk5) (fun w_ E_ => (o_fad fd43_1 rfl)) rfl rfl (tvg rfl (dT hk5) (fun w_ E_ => (oL sc9 rfl ((hcs_q.mod0 E_) 1 _ rfl))) rfl rfl (tvg rfl (dT hk5) (fun w_ E_ => (oA0 fd43_1 rfl)) rfl rfl (tvg rfl (dT hk5) (fun w_ E_ => (oL sc9 rfl ((Bg1.mod0 E_).cell rfl))) rfl rfl (tvg rfl (dT hk5) (fun w_ E_ => (o_sge rfl rfl)) rfl rfl (tvg rfl (bF hk4) (fun w_ E_ => (oT (dT hk5) rfl rfl)) rfl rfl (tvg rfl (dT hk3) (fun w_ E_ => (oF (bF hk4) rfl rfl)) rfl rfl (tv (fun w_ E_ => (oT (dT hk3) rfl rfl)) rfl rfl (tw_nil rfl fun w14 E_ => ?_))))))))
         replace Bg1 := Bg1.mod0 E_
         replace E := E.then E_
         refine e_K (hK13 _ _ _ _ ?_)
         refine c_cond rfl (fun h62 => ?_) (fun h62 => absurd (hk6.symm.trans h62) (by decide))
         have hb_ : sigBad q x = true := by rw [sigBad]; simp only [bF hk4, dT hk5, hk6, Bool.true_and, Bool.and_true, Bool.false_and, Bool.and_false, Bool.true_or, Bool.or_true, Bool.false_or, Bool.or_false, Bool.not_true, Bool.not_false]
         have hF : sigsL none l = false := by rw [hinv, sigsL_at hx_x, okP_at hx_q (by omega), hb_]; simp
         exact Cq fun K15 hK15 => Cr (Za rfl (Ln (e_K (hK15 _ _ _ _ (cR (eI (by simp) (eT (by simp) (eT (by simp) (eI (by simp) (eT (by simp) (ret1 rfl rfl ⟨by rw [hF], E⟩)))))))))))
        ·refine c_draw wide (by kernel_rfl) (tv (fun w_ E_ => (oM rfl)) rfl rfl (tv (fun w_ E_ => (o_gtr rfl rfl)) rfl rfl (tv (fun w_ E_ => (oM rfl)) rfl rfl (tvg rfl (dT hk3) (fun w_ E_ => (oM rfl)) rfl rfl (tvg rfl (dT hk3) (fun w_ E_ => (oM rfl)) rfl rfl (tvg rfl (dT hk3) (fun w_ E_ => (o_subE (r := ((k - 1 : Nat) : Int)) rfl rfl (by rw [wrap64_in _ (by omega)]; omega))) rfl rfl (tvg rfl (dT hk3) (fun w_ E_ => (o_ix sl27 rfl rfl (by omega))) rfl rfl (tvg rfl (dT hk3) (fun w_ E_ => (o_fad fd43_0 rfl)) rfl rfl (tvg rfl (dT hk3) (fun w_ E_ => (oL sc9 rfl ((hcs_q.mod0 E_) 0 _ rfl))) rfl rfl (tvg rfl (dT hk3) (fun w_ E_ => (oA0 fd43_0 rfl)) rfl rfl (tvg rfl (dT hk3) (fun w_ E_ => (oL sc9 rfl ((Bg1.mod0 E_).cell rfl))) rfl rfl (tvg rfl (dT hk3) (fun w_ E_ => (o_sgt rfl rfl)) rfl rfl (tvg rfl (dT hk3) (fun w_ E_ => (oM rfl)) rfl rfl ?_)))))))))))))
         refine tvg rfl (bF hk4) (fun w_ E_ => (oM rfl)) rfl rfl (tvg rfl (bF hk4) (fun w_ E_ => (oM rfl)) rfl rfl (tvg rfl (bF hk4) (fun w_ E_ => (o_subE (r := ((k - 1 : Nat) : Int)) rfl rfl (by rw [wrap64_in _ (by omega)]; omega))) rfl rfl (tvg rfl (bF hk4) (fun w_ E_ => (o_ix sl27 rfl rfl (by omega))) rfl rfl (tvg rfl (bF hk4) (fun w_ E_ => (o_fad fd43_0 rfl)) rfl rfl (tvg rfl (bF hk4) (fun w_ E_ => (oL sc9 rfl ((hcs_q.mod0 E_) 0 _ rfl))) rfl rfl (tvg rfl (bF hk4) (fun w_ E_ => (oA0 fd43_0 rfl)) rfl rfl (tvg rfl (bF hk4) (fun w_ E_ => (oL sc9 rfl ((Bg1.mod0 E_).cell rfl))) rfl rfl (tvg rfl (bF hk4) (fun w_ E_ => (o_seq rfl rfl)) rfl rfl (tvg rfl (bF hk4) (fun w_ E_ => (oM rfl)) rfl rfl (tvg rfl (dT hk5) (fun w_ E_ => (oM rfl)) rfl rfl (tvg rfl (dT hk5) (fun w_ E_ => (oM rfl)) rfl rfl (tvg rfl (dT hk5) (fun w_ E_ => (o_subE (r := ((k - 1 : Nat) : Int)) rfl rfl (by rw [wrap64_in _ (by omega)]; omega))) rfl rfl (tvg rfl (dT hk5) (fun w_ E_ => (o_ix sl27 rfl rfl (by omega))) rfl rfl ?_)))))))))))))
         refine tvg rfl (dT hk5) (fun w_ E_ => (o_fad fd43_1 rfl)) rfl rfl (tvg rfl (dT hk5) (fun w_ E_ => (oL sc9 rfl ((hcs_q.mod0 E_) 1 _ rfl))) rfl rfl (tvg rfl (dT hk5) (fun w_ E_ => (oA0 fd43_1 rfl)) rfl rfl (tvg rfl (dT hk5) (fun w_ E_ => (oL sc9 rfl ((Bg1.mod0 E_).cell rfl))) rfl rfl (tvg rfl (dT hk5) (fun w_ E_ => (o_sge rfl rfl)) rfl rfl (tvg rfl (bF hk4) (fun w_ E_ => (oT (dT hk5) rfl rfl)) rfl rfl (tvg rfl (dT hk3) (fun w_ E_ => (oF (bF hk4) rfl rfl)) rfl rfl (tv (fun w_ E_ => (oT (dT hk3) rfl rfl)) rfl rfl (tw_nil rfl fun w15 E_ => ?_))))))))
         replace Bg1 := Bg1.mod0 E_
         replace E := E.then E_
         refine e_K (hK13 _ _ _ _ (c_cond rfl (fun h62 => absurd ((bF hk6).symm.trans h62) (by decide)) (fun h62 => ?_)))
         have hb_ : sigBad q x = false := by rw [sigBad]; simp only [bF hk4, dT hk5, bF hk6, Bool.true_and, Bool.and_true, Bool.false_and, Bool.and_false, Bool.true_or, Bool.or_true, Bool.false_or, Bool.or_false, Bool.not_true, Bool.not_false]
         have hnx : sigsL none l = sigsL (prevS l (k + 1)) (l.drop (k + 1)) := by rw [hinv, sigsL_at hx_x, hsg, okP_at hx_q (by omega), hb_]; rfl
         exact cK (eI (by simp) (e_K (hK6 _ _ _ _ (Cr (Sv (o_addN rfl rfl (by omega)) (Zm rfl (Ln (eR (σ := Nat) (s := k) (k + 1) ⟨rfl, rfl, rfl, rfl, trivial⟩ ⟨by omega, hnx, E⟩ (by omega)))))))))
       ·refine c_draw wide (by kernel_rfl) (tv (fun w_ E_ => (oM rfl)) rfl rfl (tv (fun w_ E_ => (o_gtr rfl rfl)) rfl rfl (tv (fun w_ E_ => (oM rfl)) rfl rfl (tvg rfl (dT hk3) (fun w_ E_ => (oM rfl)) rfl rfl (tvg rfl (dT hk3) (fun w_ E_ => (oM rfl)) rfl rfl (tvg rfl (dT hk3) (fun w_ E_ => (o_subE (r := ((k - 1 : Nat) : Int)) rfl rfl (by rw [wrap64_in _ (by omega)]; omega))) rfl rfl (tvg rfl (dT hk3) (fun w_ E_ => (o_ix sl27 rfl rfl (by omega))) rfl rfl (tvg rfl (dT hk3) (fun w_ E_ => (o_fad fd43_0 rfl)) rfl rfl (tvg rfl (dT hk3) (fun w_ E_ => (oL sc9 rfl ((hcs_q.mod0 E_) 0 _ rfl))) rfl rfl (tvg rfl (dT hk3) (fun w_ E_ => (oA0 fd43_0 rfl)) rfl rfl (tvg rfl (dT hk3) (fun w_ E_ => (oL sc9 rfl ((Bg1.mod0 E_).cell rfl))) rfl rfl (tvg rfl (dT hk3) (fun w_ E_ => (o_sgt rfl rfl)) rfl rfl (tvg rfl (dT hk3) (fun w_ E_ => (oM rfl)) rfl rfl ?_)))))))))))))
        refine tvg rfl (bF hk4) (fun w_ E_ => (oM rfl)) rfl rfl (tvg rfl (bF hk4) (fun w_ E_ => (oM rfl)) rfl rfl (tvg rfl (bF hk4) (fun w_ E_ => (o_subE (r := ((k - 1 : Nat) : Int)) rfl rfl (by rw [wrap64_in _ (by omega)]; omega))) rfl rfl (tvg rfl (bF hk4) (fun w_ E_ => (o_ix sl27 rfl rfl (by omega))) rfl rfl (tvg rfl (bF hk4) (fun w_ E_ => (o_fad fd43_0 rfl)) rfl rfl (tvg rfl (bF hk4) (fun w_ E_ => (oL sc9 rfl ((hcs_q.mod0 E_) 0 _ rfl))) rfl rfl (tvg rfl (bF hk4) (fun w_ E_ => (oA0 fd43_0 rfl)) rfl rfl (tvg rfl (bF hk4) (fun w_ E_ => (oL sc9 rfl ((Bg1.mod0 E_).cell rfl))) rfl rfl (tvg rfl (bF hk4) (fun w_ E_ => (o_seq rfl rfl)) rfl rfl (tvg rfl (bF hk4) (fun w_ E_ => (oM rfl)) rfl rfl (Tx rfl (dF hk5) (Tx rfl (dF hk5) (Tx rfl (dF hk5) (Tx rfl (dF hk5) ?_)))))))))))))
        refine Tx rfl (dF hk5) (Tx rfl (dF hk5) (Tx rfl (dF hk5) (Tx rfl (dF hk5) (Tx rfl (dF hk5) (tvg rfl (bF hk4) (fun w_ E_ => (oF (dF hk5) rfl rfl)) rfl rfl (tvg rfl (dT hk3) (fun w_ E_ => (oF (bF hk4) rfl rfl)) rfl rfl (tv (fun w_ E_ => (oT (dT hk3) rfl rfl)) rfl rfl (tw_nil rfl fun w16 E_ => ?_))))))))
        replace Bg1 := Bg1.mod0 E_
        replace E := E.then E_
        refine e_K (hK13 _ _ _ _ (c_false rfl ?_))
        have hb_ : sigBad q x = false := by rw [sigBad]; simp only [bF hk4, dF hk5, Bool.true_and, Bool.and_true, Bool.false_and, Bool.and_false, Bool.true_or, Bool.or_true, Bool.false_or, Bool.or_false, Bool.not_true, Bool.not_false]
        have hnx : sigsL none l = sigsL (prevS l (k + 1)) (l.drop (k + 1)) := by rw [hinv, sigsL_at hx_x, hsg, okP_at hx_q (by omega), hb_]; rfl
        exact cK (eI (by simp) (e_K (hK6 _ _ _ _ (Cr (Sv (o_addN rfl rfl (by omega)) (Zm rfl (Ln (eR (σ := Nat) (s := k) (k + 1) ⟨rfl, rfl, rfl, rfl, trivial⟩ ⟨by omega, hnx, E⟩ (by omega)))))))))
     ·refine c_draw wide (by kernel_rfl) (tv (fun w_ E_ => (oM rfl)) rfl rfl (tv (fun w_ E_ => (o_gtr rfl rfl)) rfl rfl (tv (fun w_ E_ => (oM rfl)) rfl rfl (Tx rfl (dF hk3) (Tx rfl (dF hk3) (Tx rfl (dF hk3) (Tx rfl (dF hk3) (Tx rfl (dF hk3) (Tx rfl (dF hk3) (Tx rfl (dF hk3) (Tx rfl (dF hk3) (Tx rfl (dF hk3) (Tx rfl (dF hk3) ?_)))))))))))))
      refine tnu rfl rfl rfl (tnu rfl rfl rfl (tnu rfl rfl rfl (tnu rfl rfl rfl (tnu rfl rfl rfl (tnu rfl rfl rfl (tnu rfl rfl rfl (tnu rfl rfl rfl (tnu rfl rfl rfl (tnu rfl rfl rfl (tnu rfl rfl rfl (tnu rfl rfl rfl (tnu rfl rfl rfl (tnu rfl rfl rfl ?_)))))))))))))
      refine tnu rfl rfl rfl (tnu rfl rfl rfl (tnu rfl rfl rfl (tnu rfl rfl rfl (tnu rfl rfl rfl (tnu rfl rfl rfl (Tx rfl (dF hk3) (tv (fun w_ E_ => (oF (dF hk3) rfl rfl)) rfl rfl (tw_nil rfl fun w17 E_ => ?_))))))))
      replace Bg1 := Bg1.mod0 E_
      replace E := E.then E_
      refine e_K (hK13 _ _ _ _ (c_false rfl ?_))
      have hnx : sigsL none l = sigsL (prevS l (k + 1)) (l.drop (k + 1)) := by rw [hinv, sigsL_at hx_x, hsg, okP_0 (by omega)]; rfl
      exact cK (eI (by simp) (e_K (hK6 _ _ _ _ (Cr (Sv (o_addN rfl rfl (by omega)) (Zm rfl (Ln (eR (σ := Nat) (s := k) (k + 1) ⟨rfl, rfl, rfl, rfl, trivial⟩ ⟨by omega, hnx, E⟩ (by omega)))))))))
 ·exact c_exit (eT (by simp) (eT (by simp) (e_hit (e_K (hK2 _ _ _ _ (Cq fun K16 hK16 => Cr (Za rfl (Ln (e_K (hK16 _ _ _ _ (cR (ret1 rfl rfl ⟨by rw [hinv, sigsL_end (by omega)], E⟩))))))))))))
end Go.Proofs.YtkhbnhdlelmbnaaGreatDoor.V
