/-
  A part of the proof: words of 32 bits, and bytes, as UInt32 and UInt8: each operation in their own words. No condition of its own.
-/
import Derived.Test.YtkhbnhdlelmbnaaGreatDoorM15
import Derived.Test.YtkhbnhdlelmbnaaGreatDoorM3
set_option linter.unusedVariables false
set_option linter.unusedSimpArgs false
set_option maxRecDepth 10000
namespace Go.Proofs.YtkhbnhdlelmbnaaGreatDoor.V
open Go Go.Proofs
theorem ent97 : Ent Tryz.prog 97 := Ent.of Tryz.func97 (by kernel_rfl) (by kernel_rfl)
theorem ent98 : Ent Tryz.prog 98 := Ent.of Tryz.func98 (by kernel_rfl) (by kernel_rfl)
theorem ent64 : Ent Tryz.prog 64 := Ent.of Tryz.func64 (by kernel_rfl) (by kernel_rfl)
theorem ent99 : Ent Tryz.prog 99 := Ent.of Tryz.func99 (by kernel_rfl) (by kernel_rfl)
theorem c_colon (w : World) (s : Str) (hs : s.length ≤ 140737488351232) : Calls Tryz.prog 97 [S s].toArray w (Ret fun u w' => u = .int .i64 (colonAt s : Int) ∧ Mod [] w w') := by
 refine enter Tryz.func97 rfl rfl rfl (l := [(0, _)]) ⟨rfl, trivial⟩ ?_
 have E := Mod.refl [] w
 refine Cq fun K1 hK1 => Cr (Za rfl (Ln (e_K (hK1 _ _ _ _ (Cq fun K2 hK2 => Cq fun K3 hK3 => Cr (Za rfl (Ln (e_K (hK3 _ _ _ _ (cB (c_loop (σ := Nat) (fun i => [(0, S s), (3, .int .i64 (i : Int))]) (fun i w1 => i ≤ s.length ∧ (∀ j b, j < i → s[j]? = some b → b ≠ 58) ∧ Mod [] w w1) (fun i => s.length - i) (0) ⟨rfl, rfl, trivial⟩ (⟨by omega, fun j b h => absurd h (by omega), E⟩) ?_)))))))))))
 rintro i w1 ⟨hi, ha, E⟩
 refine Cq fun K4 hK4 => Cq fun K5 hK5 => Cr (Zm rfl (Zm rfl (Sv (o_slen Tryz.underlying9 rfl) (Sv (o_lss rfl rfl) (Ln (e_K (hK5 _ _ _ _ ?_)))))))
 refine c_if rfl (fun h7 => ?_) (fun h7 => ?_)
 ·obtain ⟨b, hb⟩ : ∃ b, s[i]? = some b := ⟨_, List.getElem?_eq_getElem (by omega)⟩
  refine cK (e_K (hK4 _ _ _ _ (Cq fun K6 hK6 => cB (Cq fun K7 hK7 => Cr (Zm rfl (Zm rfl (Sv (o_sidx Tryz.underlying9 rfl rfl (by omega) (by rw [Int.toNat_natCast]; exact hb)) (Sv (oE rfl rfl) (Ln (e_K (hK7 _ _ _ _ ?_)))))))))))
  refine c_if rfl (fun h13 => ?_) (fun h13 => ?_)
  ·have hC : colonAt s = i := colon_at hb ha (u8_eq h13)
   exact Cq fun K8 hK8 => Cr (Zm rfl (Za rfl (Ln (e_K (hK8 _ _ _ _ (cR (eI (by simp) (eT (by simp) (eT (by simp) (eI (by simp) (eT (by simp) (ret1 rfl rfl ⟨by rw [hC], E⟩))))))))))))
  ·have hne : b ≠ 58 := fun h => h13 (by rw [h]; rfl)
   exact cK (eI (by simp) (e_K (hK6 _ _ _ _ (Cr (Zm rfl (Sv (o_addN rfl rfl (by omega)) (Za rfl (Ln (eR (σ := Nat) (s := i) (i + 1) ⟨rfl, rfl, trivial⟩ ⟨by omega, fun j b_ hj h_ => (Nat.lt_succ_iff_lt_or_eq.1 hj).elim (fun h => ha j b_ h h_) (fun h => by subst h; rw [hb] at h_; injection h_ with h_; rw [← h_]; exact hne), E⟩ (by omega))))))))))
 ·have hC := colon_none (s := s) (fun j b hj h => ha j b (by omega) h)
  exact c_exit (eT (by simp) (eT (by simp) (e_hit (e_K (hK2 _ _ _ _ (Cq fun K9 hK9 => Cr (Zm rfl (Sv (o_slen Tryz.underlying9 rfl) (Za rfl (Ln (e_K (hK9 _ _ _ _ (cR (ret1 rfl rfl ⟨by rw [hC], E⟩))))))))))))))

theorem c_of (w : World) (s kinds signs : Str) (hs : s.length ≤ 140737488351232) (hk : kinds.length ≤ 100) (hg : signs.length ≤ 100) : Calls Tryz.prog 98 [S s, S kinds, S signs].toArray w (Ret fun u w' => u = .bool (allB (okQ kinds signs) s) ∧ Mod [] w w') := by
 refine enter Tryz.func98 rfl rfl rfl (l := [(0, _), (1, _), (2, _)]) ⟨rfl, rfl, rfl, trivial⟩ ?_
 have E := Mod.refl [] w
 refine Cq fun K1 hK1 => Cr (Za rfl (Ln (e_K (hK1 _ _ _ _ (Cq fun K2 hK2 => Cq fun K3 hK3 => Cr (Za rfl (Ln (e_K (hK3 _ _ _ _ (cB (c_loop (σ := Nat) (fun i => [(0, S s), (1, S kinds), (2, S signs), (7, .int .i64 (i : Int))]) (fun i w1 => i ≤ s.length ∧ (s.take i).all (fun b => okQ kinds signs b.toNat) = true ∧ Mod [] w w1) (fun i => s.length - i) (0) ⟨rfl, rfl, rfl, rfl, trivial⟩ (⟨by omega, by simp, E⟩) ?_)))))))))))
 rintro i w1 ⟨hi, ha, E⟩
 refine Cq fun K4 hK4 => Cq fun K5 hK5 => Cr (Zm rfl (Zm rfl (Sv (o_slen Tryz.underlying9 rfl) (Sv (o_lss rfl rfl) (Ln (e_K (hK5 _ _ _ _ ?_)))))))
 refine c_if rfl (fun h15 => ?_) (fun h15 => ?_)
 ·obtain ⟨c, hc⟩ : ∃ c, s[i]? = some c := ⟨_, List.getElem?_eq_getElem (by omega)⟩
  refine cK (e_K (hK4 _ _ _ _ (Cq fun K6 hK6 => cB (Cq fun K7 hK7 => Cr (Zm rfl (Zm rfl (Sv (o_sidx Tryz.underlying9 rfl rfl (by omega) (by rw [Int.toNat_natCast]; exact hc)) (Za rfl (Ln (e_K (hK7 _ _ _ _ (Cq fun K8 hK8 => Cr ?_))))))))))))
  refine Za rfl (Ln (e_K (hK8 _ _ _ _ (Cq fun K9 hK9 => Cq fun K10 hK10 => Cr (Za rfl (Ln (e_K (hK10 _ _ _ _ (cB (c_loop (σ := Nat × Bool) (fun ⟨j, x⟩ => [(0, S s), (1, S kinds), (2, S signs), (7, .int .i64 (i : Int)), (8, .int .u8 (c.toNat : Int)), (9, .bool x), (10, .int .i64 (j : Int))]) (fun ⟨j, x⟩ w1 => j ≤ kinds.length ∧ x = (kinds.take j).any (okK1 c.toNat) ∧ Mod [] w w1) (fun ⟨j, x⟩ => kinds.length - j) (⟨0, false⟩) ⟨rfl, rfl, rfl, rfl, rfl, rfl, rfl, trivial⟩ (⟨by omega, by simp, E⟩) ?_))))))))))
  rintro ⟨j, x⟩ w2 ⟨hj, hx, E⟩
  refine Cq fun K11 hK11 => Cq fun K12 hK12 => Cr (Zm rfl (Zm rfl (Sv (o_slen Tryz.underlying9 rfl) (Sv (o_lss rfl rfl) (Ln (e_K (hK12 _ _ _ _ ?_)))))))
  refine c_if rfl (fun h24 => ?_) (fun h24 => ?_)
  ·obtain ⟨g, hgj⟩ : ∃ g, kinds[j]? = some g := ⟨_, List.getElem?_eq_getElem (by omega)⟩
   refine cK (e_K (hK11 _ _ _ _ (Cq fun K13 hK13 => cB ?_)))
   by_cases hk0 : (x) = true
   ·refine Cr (Zm rfl (Zm rfl (Sx rfl hk0 (Sx rfl hk0 (Sx rfl hk0 (Sx rfl hk0 (Sx rfl hk0 (snu rfl rfl rfl (snu rfl rfl rfl (Sx rfl hk0 (Sx rfl hk0 (snu rfl rfl rfl (snu rfl rfl rfl ?_)))))))))))))
    refine Sx rfl hk0 (Sv (oT hk0 rfl rfl) (Zm rfl (Sx rfl rfl (Sx rfl rfl (Sx rfl rfl (Sx rfl rfl (Sx rfl rfl (snu rfl rfl rfl (snu rfl rfl rfl (Sx rfl rfl (Sx rfl rfl (snu rfl rfl rfl (snu rfl rfl rfl ?_)))))))))))))
    refine Sx rfl rfl (Sv (oT rfl rfl rfl) (Zm rfl (Sx rfl rfl (Sx rfl rfl (Sx rfl rfl (Sx rfl rfl (Sx rfl rfl (snu rfl rfl rfl (snu rfl rfl rfl (Sx rfl rfl (Sx rfl rfl (snu rfl rfl rfl (snu rfl rfl rfl ?_)))))))))))))
    exact Sx rfl rfl (Sv (oT rfl rfl rfl) (Sv ((o_as rfl).to (v' := .bool (x || okK1 c.toNat g)) (congrArg Value.bool (by simp only [okK1, hk0, Bool.true_and, Bool.and_true, Bool.false_and, Bool.and_false, Bool.true_or, Bool.or_true, Bool.false_or, Bool.or_false, Bool.not_true, Bool.not_false]))) (Ln (eI (by simp) (e_K (hK13 _ _ _ _ (Cr (Zm rfl (Sv (o_addN rfl rfl (by omega)) (Za rfl (Ln (eR (σ := Nat × Bool) (s := ⟨j, x⟩) (⟨j + 1, (x || okK1 c.toNat g)⟩) ⟨rfl, rfl, rfl, rfl, rfl, rfl, rfl, trivial⟩ ⟨by omega, by rw [any_succ' _ hgj, ← hx], E⟩ (by dsimp only; omega)))))))))))))
   ·by_cases hk97 : (g.toNat : Int) = 97
    ·by_cases hk971 : (c.toNat : Int) ≥ 97
     ·by_cases hk972 : (c.toNat : Int) ≤ 122
      ·refine Cr (Zm rfl (Zm rfl (Sg rfl (bF hk0) (oM rfl) (Sg rfl (bF hk0) (oM rfl) (Sg rfl (bF hk0) (o_sidx Tryz.underlying9 rfl rfl (by omega) (by rw [Int.toNat_natCast]; exact hgj)) (Sg rfl (bF hk0) (oE rfl rfl) (Sg rfl (bF hk0) (oM rfl) (Sg rfl (dT hk97) (oM rfl) (Sg rfl (dT hk97) (o_geq rfl rfl) (Sg rfl (bF hk0) (oT (dT hk97) rfl rfl) (Sg rfl (bF hk0) (oM rfl) (Sg rfl (dT hk971) (oM rfl) (Sg rfl (dT hk971) (o_leq rfl rfl) ?_)))))))))))))
       refine Sg rfl (bF hk0) (oT (dT hk971) rfl rfl) (Sv (oF (bF hk0) rfl rfl) (Zm rfl (Sx rfl (dT hk972) (Sx rfl (dT hk972) (Sx rfl (dT hk972) (Sx rfl (dT hk972) (Sx rfl (dT hk972) (snu rfl rfl rfl (snu rfl rfl rfl (Sx rfl (dT hk972) (Sx rfl (dT hk972) (snu rfl rfl rfl (snu rfl rfl rfl ?_)))))))))))))
       refine Sx rfl (dT hk972) (Sv (oT (dT hk972) rfl rfl) (Zm rfl (Sx rfl rfl (Sx rfl rfl (Sx rfl rfl (Sx rfl rfl (Sx rfl rfl (snu rfl rfl rfl (snu rfl rfl rfl (Sx rfl rfl (Sx rfl rfl (snu rfl rfl rfl (snu rfl rfl rfl ?_)))))))))))))
       exact Sx rfl rfl (Sv (oT rfl rfl rfl) (Sv ((o_as rfl).to (v' := .bool (x || okK1 c.toNat g)) (congrArg Value.bool (by simp only [okK1, bF hk0, dT hk97, dT hk971, dT hk972, Bool.true_and, Bool.and_true, Bool.false_and, Bool.and_false, Bool.true_or, Bool.or_true, Bool.false_or, Bool.or_false, Bool.not_true, Bool.not_false]))) (Ln (eI (by simp) (e_K (hK13 _ _ _ _ (Cr (Zm rfl (Sv (o_addN rfl rfl (by omega)) (Za rfl (Ln (eR (σ := Nat × Bool) (s := ⟨j, x⟩) (⟨j + 1, (x || okK1 c.toNat g)⟩) ⟨rfl, rfl, rfl, rfl, rfl, rfl, rfl, trivial⟩ ⟨by omega, by rw [any_succ' _ hgj, ← hx], E⟩ (by dsimp only; omega)))))))))))))
      ·refine Cr (Zm rfl (Zm rfl (Sg rfl (bF hk0) (oM rfl) (Sg rfl (bF hk0) (oM rfl) (Sg rfl (bF hk0) (o_sidx Tryz.underlying9 rfl rfl (by omega) (by rw [Int.toNat_natCast]; exact hgj)) (Sg rfl (bF hk0) (oE rfl rfl) (Sg rfl (bF hk0) (oM rfl) (Sg rfl (dT hk97) (oM rfl) (Sg rfl (dT hk97) (o_geq rfl rfl) (Sg rfl (bF hk0) (oT (dT hk97) rfl rfl) (Sg rfl (bF hk0) (oM rfl) (Sg rfl (dT hk971) (oM rfl) (Sg rfl (dT hk971) (o_leq rfl rfl) ?_)))))))))))))
       refine Sg rfl (bF hk0) (oT (dT hk971) rfl rfl) (Sv (oF (bF hk0) rfl rfl) (Zm rfl (Sg rfl (dF hk972) (oM rfl) (Sg rfl (dF hk972) (oM rfl) (Sg rfl (dF hk972) (o_sidx Tryz.underlying9 rfl rfl (by omega) (by rw [Int.toNat_natCast]; exact hgj)) (Sg rfl (dF hk972) (oE rfl rfl) (Sg rfl (dF hk972) (oM rfl) (Sx rfl (dF (show ¬ ((g.toNat : Int) = 65) by omega)) (Sx rfl (dF (show ¬ ((g.toNat : Int) = 65) by omega)) (Sg rfl (dF hk972) (oF (dF (show ¬ ((g.toNat : Int) = 65) by omega)) rfl rfl) (Sg rfl (dF hk972) (oM rfl) (Sx rfl rfl (Sx rfl rfl ?_)))))))))))))
       refine Sg rfl (dF hk972) (oF rfl rfl rfl) (Sv (oF (dF hk972) rfl rfl) (Zm rfl (Sg rfl rfl (oM rfl) (Sg rfl rfl (oM rfl) (Sg rfl rfl (o_sidx Tryz.underlying9 rfl rfl (by omega) (by rw [Int.toNat_natCast]; exact hgj)) (Sg rfl rfl (oE rfl rfl) (Sg rfl rfl (oM rfl) (Sx rfl (dF (show ¬ ((g.toNat : Int) = 48) by omega)) (Sx rfl (dF (show ¬ ((g.toNat : Int) = 48) by omega)) (Sg rfl rfl (oF (dF (show ¬ ((g.toNat : Int) = 48) by omega)) rfl rfl) (Sg rfl rfl (oM rfl) (Sx rfl rfl (Sx rfl rfl ?_)))))))))))))
       exact Sg rfl rfl (oF rfl rfl rfl) (Sv (oF rfl rfl rfl) (Sv ((o_as rfl).to (v' := .bool (x || okK1 c.toNat g)) (congrArg Value.bool (by simp only [okK1, bF hk0, dT hk97, dT hk971, dF hk972, dF (show ¬ ((g.toNat : Int) = 65) by omega), dF (show ¬ ((g.toNat : Int) = 48) by omega), Bool.true_and, Bool.and_true, Bool.false_and, Bool.and_false, Bool.true_or, Bool.or_true, Bool.false_or, Bool.or_false, Bool.not_true, Bool.not_false]))) (Ln (eI (by simp) (e_K (hK13 _ _ _ _ (Cr (Zm rfl (Sv (o_addN rfl rfl (by omega)) (Za rfl (Ln (eR (σ := Nat × Bool) (s := ⟨j, x⟩) (⟨j + 1, (x || okK1 c.toNat g)⟩) ⟨rfl, rfl, rfl, rfl, rfl, rfl, rfl, trivial⟩ ⟨by omega, by rw [any_succ' _ hgj, ← hx], E⟩ (by dsimp only; omega)))))))))))))
     ·refine Cr (Zm rfl (Zm rfl (Sg rfl (bF hk0) (oM rfl) (Sg rfl (bF hk0) (oM rfl) (Sg rfl (bF hk0) (o_sidx Tryz.underlying9 rfl rfl (by omega) (by rw [Int.toNat_natCast]; exact hgj)) (Sg rfl (bF hk0) (oE rfl rfl) (Sg rfl (bF hk0) (oM rfl) (Sg rfl (dT hk97) (oM rfl) (Sg rfl (dT hk97) (o_geq rfl rfl) (Sg rfl (bF hk0) (oT (dT hk97) rfl rfl) (Sg rfl (bF hk0) (oM rfl) (Sx rfl (dF hk971) (Sx rfl (dF hk971) ?_)))))))))))))
      refine Sg rfl (bF hk0) (oF (dF hk971) rfl rfl) (Sv (oF (bF hk0) rfl rfl) (Zm rfl (Sg rfl rfl (oM rfl) (Sg rfl rfl (oM rfl) (Sg rfl rfl (o_sidx Tryz.underlying9 rfl rfl (by omega) (by rw [Int.toNat_natCast]; exact hgj)) (Sg rfl rfl (oE rfl rfl) (Sg rfl rfl (oM rfl) (Sx rfl (dF (show ¬ ((g.toNat : Int) = 65) by omega)) (Sx rfl (dF (show ¬ ((g.toNat : Int) = 65) by omega)) (Sg rfl rfl (oF (dF (show ¬ ((g.toNat : Int) = 65) by omega)) rfl rfl) (Sg rfl rfl (oM rfl) (Sx rfl rfl (Sx rfl rfl ?_)))))))))))))
      refine Sg rfl rfl (oF rfl rfl rfl) (Sv (oF rfl rfl rfl) (Zm rfl (Sg rfl rfl (oM rfl) (Sg rfl rfl (oM rfl) (Sg rfl rfl (o_sidx Tryz.underlying9 rfl rfl (by omega) (by rw [Int.toNat_natCast]; exact hgj)) (Sg rfl rfl (oE rfl rfl) (Sg rfl rfl (oM rfl) (Sx rfl (dF (show ¬ ((g.toNat : Int) = 48) by omega)) (Sx rfl (dF (show ¬ ((g.toNat : Int) = 48) by omega)) (Sg rfl rfl (oF (dF (show ¬ ((g.toNat : Int) = 48) by omega)) rfl rfl) (Sg rfl rfl (oM rfl) (Sx rfl rfl (Sx rfl rfl ?_)))))))))))))
      exact Sg rfl rfl (oF rfl rfl rfl) (Sv (oF rfl rfl rfl) (Sv ((o_as rfl).to (v' := .bool (x || okK1 c.toNat g)) (congrArg Value.bool (by simp only [okK1, bF hk0, dT hk97, dF hk971, dF (show ¬ ((g.toNat : Int) = 65) by omega), dF (show ¬ ((g.toNat : Int) = 48) by omega), Bool.true_and, Bool.and_true, Bool.false_and, Bool.and_false, Bool.true_or, Bool.or_true, Bool.false_or, Bool.or_false, Bool.not_true, Bool.not_false]))) (Ln (eI (by simp) (e_K (hK13 _ _ _ _ (Cr (Zm rfl (Sv (o_addN rfl rfl (by omega)) (Za rfl (Ln (eR (σ := Nat × Bool) (s := ⟨j, x⟩) (⟨j + 1, (x || okK1 c.toNat g)⟩) ⟨rfl, rfl, rfl, rfl, rfl, rfl, rfl, trivial⟩ ⟨by omega, by rw [any_succ' _ hgj, ← hx], E⟩ (by dsimp only; omega)))))))))))))
    ·by_cases hk65 : (g.toNat : Int) = 65
     ·by_cases hk651 : (c.toNat : Int) ≥ 65
      ·by_cases hk652 : (c.toNat : Int) ≤ 90
       ·refine Cr (Zm rfl (Zm rfl (Sg rfl (bF hk0) (oM rfl) (Sg rfl (bF hk0) (oM rfl) (Sg rfl (bF hk0) (o_sidx Tryz.underlying9 rfl rfl (by omega) (by rw [Int.toNat_natCast]; exact hgj)) (Sg rfl (bF hk0) (oE rfl rfl) (Sg rfl (bF hk0) (oM rfl) (Sx rfl (dF hk97) (Sx rfl (dF hk97) (Sg rfl (bF hk0) (oF (dF hk97) rfl rfl) (Sg rfl (bF hk0) (oM rfl) (Sx rfl rfl (Sx rfl rfl ?_)))))))))))))
        refine Sg rfl (bF hk0) (oF rfl rfl rfl) (Sv (oF (bF hk0) rfl rfl) (Zm rfl (Sg rfl rfl (oM rfl) (Sg rfl rfl (oM rfl) (Sg rfl rfl (o_sidx Tryz.underlying9 rfl rfl (by omega) (by rw [Int.toNat_natCast]; exact hgj)) (Sg rfl rfl (oE rfl rfl) (Sg rfl rfl (oM rfl) (Sg rfl (dT hk65) (oM rfl) (Sg rfl (dT hk65) (o_geq rfl rfl) (Sg rfl rfl (oT (dT hk65) rfl rfl) (Sg rfl rfl (oM rfl) (Sg rfl (dT hk651) (oM rfl) (Sg rfl (dT hk651) (o_leq rfl rfl) ?_)))))))))))))
        refine Sg rfl rfl (oT (dT hk651) rfl rfl) (Sv (oF rfl rfl rfl) (Zm rfl (Sx rfl (dT hk652) (Sx rfl (dT hk652) (Sx rfl (dT hk652) (Sx rfl (dT hk652) (Sx rfl (dT hk652) (snu rfl rfl rfl (snu rfl rfl rfl (Sx rfl (dT hk652) (Sx rfl (dT hk652) (snu rfl rfl rfl (snu rfl rfl rfl ?_)))))))))))))
        exact Sx rfl (dT hk652) (Sv (oT (dT hk652) rfl rfl) (Sv ((o_as rfl).to (v' := .bool (x || okK1 c.toNat g)) (congrArg Value.bool (by simp only [okK1, bF hk0, dF hk97, dT hk65, dT hk651, dT hk652, Bool.true_and, Bool.and_true, Bool.false_and, Bool.and_false, Bool.true_or, Bool.or_true, Bool.false_or, Bool.or_false, Bool.not_true, Bool.not_false]))) (Ln (eI (by simp) (e_K (hK13 _ _ _ _ (Cr (Zm rfl (Sv (o_addN rfl rfl (by omega)) (Za rfl (Ln (eR (σ := Nat × Bool) (s := ⟨j, x⟩) (⟨j + 1, (x || okK1 c.toNat g)⟩) ⟨rfl, rfl, rfl, rfl, rfl, rfl, rfl, trivial⟩ ⟨by omega, by rw [any_succ' _ hgj, ← hx], E⟩ (by dsimp only; omega)))))))))))))
       ·refine Cr (Zm rfl (Zm rfl (Sg rfl (bF hk0) (oM rfl) (Sg rfl (bF hk0) (oM rfl) (Sg rfl (bF hk0) (o_sidx Tryz.underlying9 rfl rfl (by omega) (by rw [Int.toNat_natCast]; exact hgj)) (Sg rfl (bF hk0) (oE rfl rfl) (Sg rfl (bF hk0) (oM rfl) (Sx rfl (dF hk97) (Sx rfl (dF hk97) (Sg rfl (bF hk0) (oF (dF hk97) rfl rfl) (Sg rfl (bF hk0) (oM rfl) (Sx rfl rfl (Sx rfl rfl ?_)))))))))))))
        refine Sg rfl (bF hk0) (oF rfl rfl rfl) (Sv (oF (bF hk0) rfl rfl) (Zm rfl (Sg rfl rfl (oM rfl) (Sg rfl rfl (oM rfl) (Sg rfl rfl (o_sidx Tryz.underlying9 rfl rfl (by omega) (by rw [Int.toNat_natCast]; exact hgj)) (Sg rfl rfl (oE rfl rfl) (Sg rfl rfl (oM rfl) (Sg rfl (dT hk65) (oM rfl) (Sg rfl (dT hk65) (o_geq rfl rfl) (Sg rfl rfl (oT (dT hk65) rfl rfl) (Sg rfl rfl (oM rfl) (Sg rfl (dT hk651) (oM rfl) (Sg rfl (dT hk651) (o_leq rfl rfl) ?_)))))))))))))
        refine Sg rfl rfl (oT (dT hk651) rfl rfl) (Sv (oF rfl rfl rfl) (Zm rfl (Sg rfl (dF hk652) (oM rfl) (Sg rfl (dF hk652) (oM rfl) (Sg rfl (dF hk652) (o_sidx Tryz.underlying9 rfl rfl (by omega) (by rw [Int.toNat_natCast]; exact hgj)) (Sg rfl (dF hk652) (oE rfl rfl) (Sg rfl (dF hk652) (oM rfl) (Sx rfl (dF (show ¬ ((g.toNat : Int) = 48) by omega)) (Sx rfl (dF (show ¬ ((g.toNat : Int) = 48) by omega)) (Sg rfl (dF hk652) (oF (dF (show ¬ ((g.toNat : Int) = 48) by omega)) rfl rfl) (Sg rfl (dF hk652) (oM rfl) (Sx rfl rfl (Sx rfl rfl ?_)))))))))))))
        exact Sg rfl (dF hk652) (oF rfl rfl rfl) (Sv (oF (dF hk652) rfl rfl) (Sv ((o_as rfl).to (v' := .bool (x || okK1 c.toNat g)) (congrArg Value.bool (by simp only [okK1, bF hk0, dF hk97, dT hk65, dT hk651, dF hk652, dF (show ¬ ((g.toNat : Int) = 48) by omega), Bool.true_and, Bool.and_true, Bool.false_and, Bool.and_false, Bool.true_or, Bool.or_true, Bool.false_or, Bool.or_false, Bool.not_true, Bool.not_false]))) (Ln (eI (by simp) (e_K (hK13 _ _ _ _ (Cr (Zm rfl (Sv (o_addN rfl rfl (by omega)) (Za rfl (Ln (eR (σ := Nat × Bool) (s := ⟨j, x⟩) (⟨j + 1, (x || okK1 c.toNat g)⟩) ⟨rfl, rfl, rfl, rfl, rfl, rfl, rfl, trivial⟩ ⟨by omega, by rw [any_succ' _ hgj, ← hx], E⟩ (by dsimp only; omega)))))))))))))
      ·refine Cr (Zm rfl (Zm rfl (Sg rfl (bF hk0) (oM rfl) (Sg rfl (bF hk0) (oM rfl) (Sg rfl (bF hk0) (o_sidx Tryz.underlying9 rfl rfl (by omega) (by rw [Int.toNat_natCast]; exact hgj)) (Sg rfl (bF hk0) (oE rfl rfl) (Sg rfl (bF hk0) (oM rfl) (Sx rfl (dF hk97) (Sx rfl (dF hk97) (Sg rfl (bF hk0) (oF (dF hk97) rfl rfl) (Sg rfl (bF hk0) (oM rfl) (Sx rfl rfl (Sx rfl rfl ?_)))))))))))))
       refine Sg rfl (bF hk0) (oF rfl rfl rfl) (Sv (oF (bF hk0) rfl rfl) (Zm rfl (Sg rfl rfl (oM rfl) (Sg rfl rfl (oM rfl) (Sg rfl rfl (o_sidx Tryz.underlying9 rfl rfl (by omega) (by rw [Int.toNat_natCast]; exact hgj)) (Sg rfl rfl (oE rfl rfl) (Sg rfl rfl (oM rfl) (Sg rfl (dT hk65) (oM rfl) (Sg rfl (dT hk65) (o_geq rfl rfl) (Sg rfl rfl (oT (dT hk65) rfl rfl) (Sg rfl rfl (oM rfl) (Sx rfl (dF hk651) (Sx rfl (dF hk651) ?_)))))))))))))
       refine Sg rfl rfl (oF (dF hk651) rfl rfl) (Sv (oF rfl rfl rfl) (Zm rfl (Sg rfl rfl (oM rfl) (Sg rfl rfl (oM rfl) (Sg rfl rfl (o_sidx Tryz.underlying9 rfl rfl (by omega) (by rw [Int.toNat_natCast]; exact hgj)) (Sg rfl rfl (oE rfl rfl) (Sg rfl rfl (oM rfl) (Sx rfl (dF (show ¬ ((g.toNat : Int) = 48) by omega)) (Sx rfl (dF (show ¬ ((g.toNat : Int) = 48) by omega)) (Sg rfl rfl (oF (dF (show ¬ ((g.toNat : Int) = 48) by omega)) rfl rfl) (Sg rfl rfl (oM rfl) (Sx rfl rfl (Sx rfl rfl ?_)))))))))))))
       exact Sg rfl rfl (oF rfl rfl rfl) (Sv (oF rfl rfl rfl) (Sv ((o_as rfl).to (v' := .bool (x || okK1 c.toNat g)) (congrArg Value.bool (by simp only [okK1, bF hk0, dF hk97, dT hk65, dF hk651, dF (show ¬ ((g.toNat : Int) = 48) by omega), Bool.true_and, Bool.and_true, Bool.false_and, Bool.and_false, Bool.true_or, Bool.or_true, Bool.false_or, Bool.or_false, Bool.not_true, Bool.not_false]))) (Ln (eI (by simp) (e_K (hK13 _ _ _ _ (Cr (Zm rfl (Sv (o_addN rfl rfl (by omega)) (Za rfl (Ln (eR (σ := Nat × Bool) (s := ⟨j, x⟩) (⟨j + 1, (x || okK1 c.toNat g)⟩) ⟨rfl, rfl, rfl, rfl, rfl, rfl, rfl, trivial⟩ ⟨by omega, by rw [any_succ' _ hgj, ← hx], E⟩ (by dsimp only; omega)))))))))))))
     ·by_cases hk48 : (g.toNat : Int) = 48
      ·by_cases hk481 : (c.toNat : Int) ≥ 48
       ·by_cases hk482 : (c.toNat : Int) ≤ 57
        ·refine Cr (Zm rfl (Zm rfl (Sg rfl (bF hk0) (oM rfl) (Sg rfl (bF hk0) (oM rfl) (Sg rfl (bF hk0) (o_sidx Tryz.underlying9 rfl rfl (by omega) (by rw [Int.toNat_natCast]; exact hgj)) (Sg rfl (bF hk0) (oE rfl rfl) (Sg rfl (bF hk0) (oM rfl) (Sx rfl (dF hk97) (Sx rfl (dF hk97) (Sg rfl (bF hk0) (oF (dF hk97) rfl rfl) (Sg rfl (bF hk0) (oM rfl) (Sx rfl rfl (Sx rfl rfl ?_)))))))))))))
         refine Sg rfl (bF hk0) (oF rfl rfl rfl) (Sv (oF (bF hk0) rfl rfl) (Zm rfl (Sg rfl rfl (oM rfl) (Sg rfl rfl (oM rfl) (Sg rfl rfl (o_sidx Tryz.underlying9 rfl rfl (by omega) (by rw [Int.toNat_natCast]; exact hgj)) (Sg rfl rfl (oE rfl rfl) (Sg rfl rfl (oM rfl) (Sx rfl (dF hk65) (Sx rfl (dF hk65) (Sg rfl rfl (oF (dF hk65) rfl rfl) (Sg rfl rfl (oM rfl) (Sx rfl rfl (Sx rfl rfl ?_)))))))))))))
         refine Sg rfl rfl (oF rfl rfl rfl) (Sv (oF rfl rfl rfl) (Zm rfl (Sg rfl rfl (oM rfl) (Sg rfl rfl (oM rfl) (Sg rfl rfl (o_sidx Tryz.underlying9 rfl rfl (by omega) (by rw [Int.toNat_natCast]; exact hgj)) (Sg rfl rfl (oE rfl rfl) (Sg rfl rfl (oM rfl) (Sg rfl (dT hk48) (oM rfl) (Sg rfl (dT hk48) (o_geq rfl rfl) (Sg rfl rfl (oT (dT hk48) rfl rfl) (Sg rfl rfl (oM rfl) (Sg rfl (dT hk481) (oM rfl) (Sg rfl (dT hk481) (o_leq rfl rfl) ?_)))))))))))))
         exact Sg rfl rfl (oT (dT hk481) rfl rfl) (Sv (oF rfl rfl rfl) (Sv ((o_as rfl).to (v' := .bool (x || okK1 c.toNat g)) (congrArg Value.bool (by simp only [okK1, bF hk0, dF hk97, dF hk65, dT hk48, dT hk481, dT hk482, Bool.true_and, Bool.and_true, Bool.false_and, Bool.and_false, Bool.true_or, Bool.or_true, Bool.false_or, Bool.or_false, Bool.not_true, Bool.not_false]))) (Ln (eI (by simp) (e_K (hK13 _ _ _ _ (Cr (Zm rfl (Sv (o_addN rfl rfl (by omega)) (Za rfl (Ln (eR (σ := Nat × Bool) (s := ⟨j, x⟩) (⟨j + 1, (x || okK1 c.toNat g)⟩) ⟨rfl, rfl, rfl, rfl, rfl, rfl, rfl, trivial⟩ ⟨by omega, by rw [any_succ' _ hgj, ← hx], E⟩ (by dsimp only; omega)))))))))))))
        ·refine Cr (Zm rfl (Zm rfl (Sg rfl (bF hk0) (oM rfl) (Sg rfl (bF hk0) (oM rfl) (Sg rfl (bF hk0) (o_sidx Tryz.underlying9 rfl rfl (by omega) (by rw [Int.toNat_natCast]; exact hgj)) (Sg rfl (bF hk0) (oE rfl rfl) (Sg rfl (bF hk0) (oM rfl) (Sx rfl (dF hk97) (Sx rfl (dF hk97) (Sg rfl (bF hk0) (oF (dF hk97) rfl rfl) (Sg rfl (bF hk0) (oM rfl) (Sx rfl rfl (Sx rfl rfl ?_)))))))))))))
         refine Sg rfl (bF hk0) (oF rfl rfl rfl) (Sv (oF (bF hk0) rfl rfl) (Zm rfl (Sg rfl rfl (oM rfl) (Sg rfl rfl (oM rfl) (Sg rfl rfl (o_sidx Tryz.underlying9 rfl rfl (by omega) (by rw [Int.toNat_natCast]; exact hgj)) (Sg rfl rfl (oE rfl rfl) (Sg rfl rfl (oM rfl) (Sx rfl (dF hk65) (Sx rfl (dF hk65) (Sg rfl rfl (oF (dF hk65) rfl rfl) (Sg rfl rfl (oM rfl) (Sx rfl rfl (Sx rfl rfl ?_)))))))))))))
         refine Sg rfl rfl (oF rfl rfl rfl) (Sv (oF rfl rfl rfl) (Zm rfl (Sg rfl rfl (oM rfl) (Sg rfl rfl (oM rfl) (Sg rfl rfl (o_sidx Tryz.underlying9 rfl rfl (by omega) (by rw [Int.toNat_natCast]; exact hgj)) (Sg rfl rfl (oE rfl rfl) (Sg rfl rfl (oM rfl) (Sg rfl (dT hk48) (oM rfl) (Sg rfl (dT hk48) (o_geq rfl rfl) (Sg rfl rfl (oT (dT hk48) rfl rfl) (Sg rfl rfl (oM rfl) (Sg rfl (dT hk481) (oM rfl) (Sg rfl (dT hk481) (o_leq rfl rfl) ?_)))))))))))))
         exact Sg rfl rfl (oT (dT hk481) rfl rfl) (Sv (oF rfl rfl rfl) (Sv ((o_as rfl).to (v' := .bool (x || okK1 c.toNat g)) (congrArg Value.bool (by simp only [okK1, bF hk0, dF hk97, dF hk65, dT hk48, dT hk481, dF hk482, Bool.true_and, Bool.and_true, Bool.false_and, Bool.and_false, Bool.true_or, Bool.or_true, Bool.false_or, Bool.or_false, Bool.not_true, Bool.not_false]))) (Ln (eI (by simp) (e_K (hK13 _ _ _ _ (Cr (Zm rfl (Sv (o_addN rfl rfl (by omega)) (Za rfl (Ln (eR (σ := Nat × Bool) (s := ⟨j, x⟩) (⟨j + 1, (x || okK1 c.toNat g)⟩) ⟨rfl, rfl, rfl, rfl, rfl, rfl, rfl, trivial⟩ ⟨by omega, by rw [any_succ' _ hgj, ← hx], E⟩ (by dsimp only; omega)))))))))))))
       ·refine Cr (Zm rfl (Zm rfl (Sg rfl (bF hk0) (oM rfl) (Sg rfl (bF hk0) (oM rfl) (Sg rfl (bF hk0) (o_sidx Tryz.underlying9 rfl rfl (by omega) (by rw [Int.toNat_natCast]; exact hgj)) (Sg rfl (bF hk0) (oE rfl rfl) (Sg rfl (bF hk0) (oM rfl) (Sx rfl (dF hk97) (Sx rfl (dF hk97) (Sg rfl (bF hk0) (oF (dF hk97) rfl rfl) (Sg rfl (bF hk0) (oM rfl) (Sx rfl rfl (Sx rfl rfl ?_)))))))))))))
        refine Sg rfl (bF hk0) (oF rfl rfl rfl) (Sv (oF (bF hk0) rfl rfl) (Zm rfl (Sg rfl rfl (oM rfl) (Sg rfl rfl (oM rfl) (Sg rfl rfl (o_sidx Tryz.underlying9 rfl rfl (by omega) (by rw [Int.toNat_natCast]; exact hgj)) (Sg rfl rfl (oE rfl rfl) (Sg rfl rfl (oM rfl) (Sx rfl (dF hk65) (Sx rfl (dF hk65) (Sg rfl rfl (oF (dF hk65) rfl rfl) (Sg rfl rfl (oM rfl) (Sx rfl rfl (Sx rfl rfl ?_)))))))))))))
        refine Sg rfl rfl (oF rfl rfl rfl) (Sv (oF rfl rfl rfl) (Zm rfl (Sg rfl rfl (oM rfl) (Sg rfl rfl (oM rfl) (Sg rfl rfl (o_sidx Tryz.underlying9 rfl rfl (by omega) (by rw [Int.toNat_natCast]; exact hgj)) (Sg rfl rfl (oE rfl rfl) (Sg rfl rfl (oM rfl) (Sg rfl (dT hk48) (oM rfl) (Sg rfl (dT hk48) (o_geq rfl rfl) (Sg rfl rfl (oT (dT hk48) rfl rfl) (Sg rfl rfl (oM rfl) (Sx rfl (dF hk481) (Sx rfl (dF hk481) ?_)))))))))))))
        exact Sg rfl rfl (oF (dF hk481) rfl rfl) (Sv (oF rfl rfl rfl) (Sv ((o_as rfl).to (v' := .bool (x || okK1 c.toNat g)) (congrArg Value.bool (by simp only [okK1, bF hk0, dF hk97, dF hk65, dT hk48, dF hk481, Bool.true_and, Bool.and_true, Bool.false_and, Bool.and_false, Bool.true_or, Bool.or_true, Bool.false_or, Bool.or_false, Bool.not_true, Bool.not_false]))) (Ln (eI (by simp) (e_K (hK13 _ _ _ _ (Cr (Zm rfl (Sv (o_addN rfl rfl (by omega)) (Za rfl (Ln (eR (σ := Nat × Bool) (s := ⟨j, x⟩) (⟨j + 1, (x || okK1 c.toNat g)⟩) ⟨rfl, rfl, rfl, rfl, rfl, rfl, rfl, trivial⟩ ⟨by omega, by rw [any_succ' _ hgj, ← hx], E⟩ (by dsimp only; omega)))))))))))))
      ·refine Cr (Zm rfl (Zm rfl (Sg rfl (bF hk0) (oM rfl) (Sg rfl (bF hk0) (oM rfl) (Sg rfl (bF hk0) (o_sidx Tryz.underlying9 rfl rfl (by omega) (by rw [Int.toNat_natCast]; exact hgj)) (Sg rfl (bF hk0) (oE rfl rfl) (Sg rfl (bF hk0) (oM rfl) (Sx rfl (dF hk97) (Sx rfl (dF hk97) (Sg rfl (bF hk0) (oF (dF hk97) rfl rfl) (Sg rfl (bF hk0) (oM rfl) (Sx rfl rfl (Sx rfl rfl ?_)))))))))))))
       refine Sg rfl (bF hk0) (oF rfl rfl rfl) (Sv (oF (bF hk0) rfl rfl) (Zm rfl (Sg rfl rfl (oM rfl) (Sg rfl rfl (oM rfl) (Sg rfl rfl (o_sidx Tryz.underlying9 rfl rfl (by omega) (by rw [Int.toNat_natCast]; exact hgj)) (Sg rfl rfl (oE rfl rfl) (Sg rfl rfl (oM rfl) (Sx rfl (dF hk65) (Sx rfl (dF hk65) (Sg rfl rfl (oF (dF hk65) rfl rfl) (Sg rfl rfl (oM rfl) (Sx rfl rfl (Sx rfl rfl ?_)))))))))))))
       refine Sg rfl rfl (oF rfl rfl rfl) (Sv (oF rfl rfl rfl) (Zm rfl (Sg rfl rfl (oM rfl) (Sg rfl rfl (oM rfl) (Sg rfl rfl (o_sidx Tryz.underlying9 rfl rfl (by omega) (by rw [Int.toNat_natCast]; exact hgj)) (Sg rfl rfl (oE rfl rfl) (Sg rfl rfl (oM rfl) (Sx rfl (dF hk48) (Sx rfl (dF hk48) (Sg rfl rfl (oF (dF hk48) rfl rfl) (Sg rfl rfl (oM rfl) (Sx rfl rfl (Sx rfl rfl ?_)))))))))))))
       exact Sg rfl rfl (oF rfl rfl rfl) (Sv (oF rfl rfl rfl) (Sv ((o_as rfl).to (v' := .bool (x || okK1 c.toNat g)) (congrArg Value.bool (by simp only [okK1, bF hk0, dF hk97, dF hk65, dF hk48, Bool.true_and, Bool.and_true, Bool.false_and, Bool.and_false, Bool.true_or, Bool.or_true, Bool.false_or, Bool.or_false, Bool.not_true, Bool.not_false]))) (Ln (eI (by simp) (e_K (hK13 _ _ _ _ (Cr (Zm rfl (Sv (o_addN rfl rfl (by omega)) (Za rfl (Ln (eR (σ := Nat × Bool) (s := ⟨j, x⟩) (⟨j + 1, (x || okK1 c.toNat g)⟩) ⟨rfl, rfl, rfl, rfl, rfl, rfl, rfl, trivial⟩ ⟨by omega, by rw [any_succ' _ hgj, ← hx], E⟩ (by dsimp only; omega)))))))))))))
  ·have hx1 : x = kinds.any (okK1 c.toNat) := by rw [hx, List.take_of_length_le (by omega)]
   refine c_exit (eT (by simp) (eT (by simp) (e_hit (e_K (hK9 _ _ _ _ (Cq fun K14 hK14 => Cq fun K15 hK15 => Cr (Za rfl (Ln (e_K (hK15 _ _ _ _ (cB (c_loop (σ := Nat × Bool) (fun ⟨j, x⟩ => [(0, S s), (1, S kinds), (2, S signs), (7, .int .i64 (i : Int)), (8, .int .u8 (c.toNat : Int)), (9, .bool x), (11, .int .i64 (j : Int))]) (fun ⟨j, x⟩ w1 => j ≤ signs.length ∧ x = (kinds.any (okK1 c.toNat) || (signs.take j).any (fun g => decide ((g.toNat : Int) = (c.toNat : Int)))) ∧ Mod [] w w1) (fun ⟨j, x⟩ => signs.length - j) (⟨0, x⟩) ⟨rfl, rfl, rfl, rfl, rfl, rfl, rfl, trivial⟩ (⟨by omega, by rw [hx1]; simp, E⟩) ?_))))))))))))
   rintro ⟨j, x⟩ w3 ⟨hj, hx, E⟩
   refine Cq fun K16 hK16 => Cq fun K17 hK17 => Cr (Zm rfl (Zm rfl (Sv (o_slen Tryz.underlying9 rfl) (Sv (o_lss rfl rfl) (Ln (e_K (hK17 _ _ _ _ ?_)))))))
   refine c_if rfl (fun h73 => ?_) (fun h73 => ?_)
   ·obtain ⟨g, hgj⟩ : ∃ g, signs[j]? = some g := ⟨_, List.getElem?_eq_getElem (by omega)⟩
    refine cK (e_K (hK16 _ _ _ _ (Cq fun K18 hK18 => cB ?_)))
    by_cases hk0 : (x) = true
    ·refine Cr (Zm rfl (Zm rfl (Sx rfl hk0 (Sx rfl hk0 (Sx rfl hk0 (Sx rfl hk0 (Sx rfl hk0 (Sv (oT hk0 rfl rfl) (Sv ((o_as rfl).to (v' := .bool (x || decide ((g.toNat : Int) = (c.toNat : Int)))) (congrArg Value.bool (by simp only [hk0, Bool.true_and, Bool.and_true, Bool.false_and, Bool.and_false, Bool.true_or, Bool.or_true, Bool.false_or, Bool.or_false, Bool.not_true, Bool.not_false]))) (Ln (eI (by simp) (e_K (hK18 _ _ _ _ (Cr ?_))))))))))))))
     exact Zm rfl (Sv (o_addN rfl rfl (by omega)) (Za rfl (Ln (eR (σ := Nat × Bool) (s := ⟨j, x⟩) (⟨j + 1, (x || decide ((g.toNat : Int) = (c.toNat : Int)))⟩) ⟨rfl, rfl, rfl, rfl, rfl, rfl, rfl, trivial⟩ ⟨by omega, by rw [any_succ' _ hgj, ← Bool.or_assoc, ← hx], E⟩ (by dsimp only; omega)))))
    ·by_cases hk1 : (g.toNat : Int) = (c.toNat : Int)
     ·refine Cr (Zm rfl (Zm rfl (Sg rfl (bF hk0) (oM rfl) (Sg rfl (bF hk0) (oM rfl) (Sg rfl (bF hk0) (o_sidx Tryz.underlying9 rfl rfl (by omega) (by rw [Int.toNat_natCast]; exact hgj)) (Sg rfl (bF hk0) (oM rfl) (Sg rfl (bF hk0) (oE rfl rfl) (Sv (oF (bF hk0) rfl rfl) (Sv ((o_as rfl).to (v' := .bool (x || decide ((g.toNat : Int) = (c.toNat : Int)))) (congrArg Value.bool (by simp only [bF hk0, dT hk1, Bool.true_and, Bool.and_true, Bool.false_and, Bool.and_false, Bool.true_or, Bool.or_true, Bool.false_or, Bool.or_false, Bool.not_true, Bool.not_false]))) (Ln (eI (by simp) (e_K (hK18 _ _ _ _ (Cr ?_))))))))))))))
      exact Zm rfl (Sv (o_addN rfl rfl (by omega)) (Za rfl (Ln (eR (σ := Nat × Bool) (s := ⟨j, x⟩) (⟨j + 1, (x || decide ((g.toNat : Int) = (c.toNat : Int)))⟩) ⟨rfl, rfl, rfl, rfl, rfl, rfl, rfl, trivial⟩ ⟨by omega, by rw [any_succ' _ hgj, ← Bool.or_assoc, ← hx], E⟩ (by dsimp only; omega)))))
     ·refine Cr (Zm rfl (Zm rfl (Sg rfl (bF hk0) (oM rfl) (Sg rfl (bF hk0) (oM rfl) (Sg rfl (bF hk0) (o_sidx Tryz.underlying9 rfl rfl (by omega) (by rw [Int.toNat_natCast]; exact hgj)) (Sg rfl (bF hk0) (oM rfl) (Sg rfl (bF hk0) (oE rfl rfl) (Sv (oF (bF hk0) rfl rfl) (Sv ((o_as rfl).to (v' := .bool (x || decide ((g.toNat : Int) = (c.toNat : Int)))) (congrArg Value.bool (by simp only [bF hk0, dF hk1, Bool.true_and, Bool.and_true, Bool.false_and, Bool.and_false, Bool.true_or, Bool.or_true, Bool.false_or, Bool.or_false, Bool.not_true, Bool.not_false]))) (Ln (eI (by simp) (e_K (hK18 _ _ _ _ (Cr ?_))))))))))))))
      exact Zm rfl (Sv (o_addN rfl rfl (by omega)) (Za rfl (Ln (eR (σ := Nat × Bool) (s := ⟨j, x⟩) (⟨j + 1, (x || decide ((g.toNat : Int) = (c.toNat : Int)))⟩) ⟨rfl, rfl, rfl, rfl, rfl, rfl, rfl, trivial⟩ ⟨by omega, by rw [any_succ' _ hgj, ← Bool.or_assoc, ← hx], E⟩ (by dsimp only; omega)))))
   ·have hok : x = okQ kinds signs c.toNat := by rw [hx, List.take_of_length_le (by omega)]; rfl
    refine c_exit (eT (by simp) (eT (by simp) (e_hit (e_K (hK14 _ _ _ _ (Cq fun K19 hK19 => Cr (Zm rfl (Sv (o_not rfl) (Ln (e_K (hK19 _ _ _ _ ?_)))))))))))
    refine c_cond rfl (fun h85 => ?_) (fun h85 => ?_)
    ·have hR : allB (okQ kinds signs) s = false := allB_no hc (by rw [← hok]; simpa using h85)
     exact Cq fun K20 hK20 => Cr (Za rfl (Ln (e_K (hK20 _ _ _ _ (cR (eI (by simp) (eT (by simp) (eT (by simp) (eI (by simp) (eT (by simp) (ret1 rfl rfl ⟨by rw [hR], E⟩)))))))))))
    ·have hnx := all_succ hc ha (show okQ kinds signs c.toNat = true by rw [← hok]; simpa using h85)
     exact cK (eI (by simp) (e_K (hK6 _ _ _ _ (Cr (Zm rfl (Sv (o_addN rfl rfl (by omega)) (Za rfl (Ln (eR (σ := Nat) (s := i) (i + 1) ⟨rfl, rfl, rfl, rfl, trivial⟩ ⟨by omega, hnx, E⟩ (by omega))))))))))
 ·have hR := allB_yes (q := okQ kinds signs) (by omega) ha
  exact c_exit (eT (by simp) (eT (by simp) (e_hit (e_K (hK2 _ _ _ _ (Cq fun K21 hK21 => Cr (Zm rfl (Sv (o_sne rfl rfl) (Za rfl (Ln (e_K (hK21 _ _ _ _ (cR (ret1 rfl rfl ⟨by rw [hR], E⟩))))))))))))))

theorem c_ofq (w : World) (s kinds signs : Str) (q : Nat → Bool) (hq : ∀ b : UInt8, q b.toNat = okQ kinds signs b.toNat) (hs : s.length ≤ 140737488351232) (hk : kinds.length ≤ 100) (hg : signs.length ≤ 100) : Calls Tryz.prog 98 [S s, S kinds, S signs].toArray w (Ret fun u w' => u = .bool (allB q s) ∧ Mod [] w w') := by
 rw [allB_congr hq s]
 exact c_of w s kinds signs hs hk hg

theorem c_serverR (w : World) (s : Str) (hs : s.length ≤ 140737488351232) : Calls Tryz.prog 64 [S s].toArray w (Ret fun u w' => u = .bool (serverB s) ∧ Mod [] w w') := by
 refine enter Tryz.func64 rfl rfl rfl (l := [(0, _)]) ⟨rfl, trivial⟩ ?_
 have E := Mod.refl [] w
 have hcl := colon_le s
 refine Cq fun K1 hK1 => Cr (Za rfl (Ln (e_K (hK1 _ _ _ _ (Cq fun K2 hK2 => Cr (Zm rfl (sc (oC ent97 rfl) (c_colon _ _ (by omega)) rfl fun v_ w1 h_ => ?_)))))))
 obtain ⟨rfl, E_⟩ := h_
 replace E := E.then E_
 refine Za rfl (Ln (e_K (hK2 _ _ _ _ (Cq fun K3 hK3 => Cq fun K4 hK4 => ?_))))
 by_cases hk0 : (s.length : Int) > 255
 ·refine Cr (Zm rfl (Sv (o_slen Tryz.underlying9 rfl) (Sv (o_gtr rfl rfl) (Zm rfl (Sx rfl (dT hk0) (Sx rfl (dT hk0) (Sx rfl (dT hk0) (Sx rfl (dT hk0) (Sx rfl (dT hk0) (Sv (oT (dT hk0) rfl rfl) (Ln (e_K (hK4 _ _ _ _ (c_true rfl ?_))))))))))))))
  have hF : serverB s = false := by rw [serverB, show decide (s.length ≤ 255) = false from dF (by omega)]; simp
  exact Cq fun K5 hK5 => Cr (Za rfl (Ln (e_K (hK5 _ _ _ _ (cR (eT (by simp) (ret1 rfl rfl ⟨by rw [hF], E⟩)))))))
 ·by_cases hk1 : (!allB qServer (s.take (colonAt s))) = true
  ·refine Cr (Zm rfl (Sv (o_slen Tryz.underlying9 rfl) (Sv (o_gtr rfl rfl) (Zm rfl (Sg rfl (dF hk0) (oM rfl) (Sg rfl (dF hk0) (oM rfl) (Sg rfl (dF hk0) (o_ssto Tryz.underlying9 rfl rfl hcl) (sgc rfl (dF hk0) (oC ent98 rfl) (c_ofq _ (s.take (colonAt s)) [97, 48] [46, 45] _ q_server (by have := colon_le s; simp only [List.length_take, List.length_drop]; omega) (by simp) (by simp)) rfl fun v_ w2 h_ => ?_))))))))
   obtain ⟨rfl, E_⟩ := h_
   replace E := E.then E_
   refine Sg rfl (dF hk0) (o_not rfl) (Sv (oF (dF hk0) rfl rfl) (Ln (e_K (hK4 _ _ _ _ ?_))))
   refine c_cond rfl (fun h15 => ?_) (fun h15 => absurd (hk1.symm.trans h15) (by decide))
   have hF : serverB s = false := by rw [serverB, show allB qServer (s.take (colonAt s)) = false by simpa using hk1]; simp
   exact Cq fun K6 hK6 => Cr (Za rfl (Ln (e_K (hK6 _ _ _ _ (cR (eT (by simp) (ret1 rfl rfl ⟨by rw [hF], E⟩)))))))
  ·refine Cr (Zm rfl (Sv (o_slen Tryz.underlying9 rfl) (Sv (o_gtr rfl rfl) (Zm rfl (Sg rfl (dF hk0) (oM rfl) (Sg rfl (dF hk0) (oM rfl) (Sg rfl (dF hk0) (o_ssto Tryz.underlying9 rfl rfl hcl) (sgc rfl (dF hk0) (oC ent98 rfl) (c_ofq _ (s.take (colonAt s)) [97, 48] [46, 45] _ q_server (by have := colon_le s; simp only [List.length_take, List.length_drop]; omega) (by simp) (by simp)) rfl fun v_ w3 h_ => ?_))))))))
   obtain ⟨rfl, E_⟩ := h_
   replace E := E.then E_
   refine Sg rfl (dF hk0) (o_not rfl) (Sv (oF (dF hk0) rfl rfl) (Ln (e_K (hK4 _ _ _ _ (c_cond rfl (fun h15 => absurd ((bF hk1).symm.trans h15) (by decide)) (fun h15 => ?_))))))
   have hA : allB qServer (s.take (colonAt s)) = true := by simpa using hk1
   have hL : decide (s.length ≤ 255) = true := dT (by omega)
   refine cK (e_K (hK3 _ _ _ _ (Cq fun K7 hK7 => ?_)))
   by_cases hk2 : (colonAt s : Int) = (s.length : Int)
   ·refine Cr (Zm rfl (Zm rfl (Sv (o_slen Tryz.underlying9 rfl) (Sv (oE rfl rfl) (Zm rfl (Sx rfl (dT hk2) (Sx rfl (dT hk2) (Sx rfl (dT hk2) (Sx rfl (dT hk2) (Sx rfl (dT hk2) (Sx rfl (dT hk2) (snu rfl rfl rfl (snu rfl rfl rfl ?_)))))))))))))
    exact snu rfl rfl rfl (snu rfl rfl rfl (snu rfl rfl rfl (Sx rfl (dT hk2) (Sv (oT (dT hk2) rfl rfl) (Za rfl (Ln (e_K (hK7 _ _ _ _ (cR (ret1 rfl rfl ⟨congrArg Value.bool (by rw [serverB, hA, hL, server_i1, server_i2]; simp only [dT hk2, Bool.true_and, Bool.and_true, Bool.false_and, Bool.and_false, Bool.true_or, Bool.or_true, Bool.false_or, Bool.or_false, Bool.not_true, Bool.not_false]), E⟩))))))))))
   ·by_cases hk3 : ((s.length - colonAt s : Nat) : Int) ≤ 6
    ·by_cases hk4 : (allB kD (s.drop (colonAt s + 1))) = true
     ·refine Cr (Zm rfl (Zm rfl (Sv (o_slen Tryz.underlying9 rfl) (Sv (oE rfl rfl) (Zm rfl (Sg rfl (dF hk2) (oM rfl) (Sg rfl (dF hk2) (o_slen Tryz.underlying9 rfl) (Sg rfl (dF hk2) (oM rfl) (Sg rfl (dF hk2) (o_subE (r := ((s.length - colonAt s : Nat) : Int)) rfl rfl (by rw [wrap64_in _ (by omega)]; omega)) (Sg rfl (dF hk2) (o_leq rfl rfl) (Sg rfl (dF hk2) (oM rfl) (Sg rfl (dT hk3) (oM rfl) (Sg rfl (dT hk3) (oM rfl) ?_)))))))))))))
      refine Sg rfl (dT hk3) (o_addE (r := ((colonAt s + 1 : Nat) : Int)) rfl rfl (by rw [wrap64_in _ (by omega)]; omega)) (Sg rfl (dT hk3) (o_ssfrom Tryz.underlying9 rfl rfl (by omega)) (sgc rfl (dT hk3) (oC ent98 rfl) (c_ofq _ (s.drop (colonAt s + 1)) [48] [] _ q_digit (by have := colon_le s; simp only [List.length_take, List.length_drop]; omega) (by simp) (by simp)) rfl fun v_ w4 h_ => ?_))
      obtain ⟨rfl, E_⟩ := h_
      replace E := E.then E_
      exact Sg rfl (dF hk2) (oT (dT hk3) rfl rfl) (Sv (oF (dF hk2) rfl rfl) (Za rfl (Ln (e_K (hK7 _ _ _ _ (cR (ret1 rfl rfl ⟨congrArg Value.bool (by rw [serverB, hA, hL, server_i1, server_i2]; simp only [dF hk2, dT hk3, hk4, Bool.true_and, Bool.and_true, Bool.false_and, Bool.and_false, Bool.true_or, Bool.or_true, Bool.false_or, Bool.or_false, Bool.not_true, Bool.not_false]), E⟩)))))))
     ·refine Cr (Zm rfl (Zm rfl (Sv (o_slen Tryz.underlying9 rfl) (Sv (oE rfl rfl) (Zm rfl (Sg rfl (dF hk2) (oM rfl) (Sg rfl (dF hk2) (o_slen Tryz.underlying9 rfl) (Sg rfl (dF hk2) (oM rfl) (Sg rfl (dF hk2) (o_subE (r := ((s.length - colonAt s : Nat) : Int)) rfl rfl (by rw [wrap64_in _ (by omega)]; omega)) (Sg rfl (dF hk2) (o_leq rfl rfl) (Sg rfl (dF hk2) (oM rfl) (Sg rfl (dT hk3) (oM rfl) (Sg rfl (dT hk3) (oM rfl) ?_)))))))))))))
      refine Sg rfl (dT hk3) (o_addE (r := ((colonAt s + 1 : Nat) : Int)) rfl rfl (by rw [wrap64_in _ (by omega)]; omega)) (Sg rfl (dT hk3) (o_ssfrom Tryz.underlying9 rfl rfl (by omega)) (sgc rfl (dT hk3) (oC ent98 rfl) (c_ofq _ (s.drop (colonAt s + 1)) [48] [] _ q_digit (by have := colon_le s; simp only [List.length_take, List.length_drop]; omega) (by simp) (by simp)) rfl fun v_ w5 h_ => ?_))
      obtain ⟨rfl, E_⟩ := h_
      replace E := E.then E_
      exact Sg rfl (dF hk2) (oT (dT hk3) rfl rfl) (Sv (oF (dF hk2) rfl rfl) (Za rfl (Ln (e_K (hK7 _ _ _ _ (cR (ret1 rfl rfl ⟨congrArg Value.bool (by rw [serverB, hA, hL, server_i1, server_i2]; simp only [dF hk2, dT hk3, bF hk4, Bool.true_and, Bool.and_true, Bool.false_and, Bool.and_false, Bool.true_or, Bool.or_true, Bool.false_or, Bool.or_false, Bool.not_true, Bool.not_false]), E⟩)))))))
    ·refine Cr (Zm rfl (Zm rfl (Sv (o_slen Tryz.underlying9 rfl) (Sv (oE rfl rfl) (Zm rfl (Sg rfl (dF hk2) (oM rfl) (Sg rfl (dF hk2) (o_slen Tryz.underlying9 rfl) (Sg rfl (dF hk2) (oM rfl) (Sg rfl (dF hk2) (o_subE (r := ((s.length - colonAt s : Nat) : Int)) rfl rfl (by rw [wrap64_in _ (by omega)]; omega)) (Sg rfl (dF hk2) (o_leq rfl rfl) (Sg rfl (dF hk2) (oM rfl) (Sx rfl (dF hk3) (Sx rfl (dF hk3) ?_)))))))))))))
     exact Sx rfl (dF hk3) (Sx rfl (dF hk3) (Sx rfl (dF hk3) (Sg rfl (dF hk2) (oF (dF hk3) rfl rfl) (Sv (oF (dF hk2) rfl rfl) (Za rfl (Ln (e_K (hK7 _ _ _ _ (cR (ret1 rfl rfl ⟨congrArg Value.bool (by rw [serverB, hA, hL, server_i1, server_i2]; simp only [dF hk2, dF hk3, Bool.true_and, Bool.and_true, Bool.false_and, Bool.and_false, Bool.true_or, Bool.or_true, Bool.false_or, Bool.or_false, Bool.not_true, Bool.not_false]), E⟩))))))))))

theorem c_named (w : World) (s : Str) (sign : UInt8) (kinds signs : Str) (q : Nat → Bool) (hq : ∀ b : UInt8, q b.toNat = okQ kinds signs b.toNat) (h58 : sign ≠ 58) (hs : s.length ≤ 140737488351232) (hk : kinds.length ≤ 100) (hg : signs.length ≤ 100) : Calls Tryz.prog 99 [S s, .int .u8 (sign.toNat : Int), S kinds, S signs].toArray w (Ret fun u w' => u = .bool (namedB sign q s) ∧ Mod [] w w') := by
 refine enter Tryz.func99 rfl rfl rfl (l := [(0, _), (1, _), (2, _), (3, _)]) ⟨rfl, rfl, rfl, rfl, trivial⟩ ?_
 have E := Mod.refl [] w
 have hcl := colon_le s
 refine Cq fun K1 hK1 => Cr (Za rfl (Ln (e_K (hK1 _ _ _ _ (Cq fun K2 hK2 => Cr (Zm rfl (sc (oC ent97 rfl) (c_colon _ _ (by omega)) rfl fun v_ w1 h_ => ?_)))))))
 obtain ⟨rfl, E_⟩ := h_
 replace E := E.then E_
 refine Za rfl (Ln (e_K (hK2 _ _ _ _ (Cq fun K3 hK3 => ?_))))
 by_cases hk0 : (s.length : Int) ≤ 255
 ·by_cases hk1 : (colonAt s : Int) < (s.length : Int)
  ·by_cases hk2 : (colonAt s : Int) > 0
   ·obtain ⟨b0, hb0⟩ : ∃ b, s[0]? = some b := ⟨_, List.getElem?_eq_getElem (by omega)⟩
    have hhd := head_dec (sign := sign) hb0
    by_cases hk3 : (b0.toNat : Int) = (sign.toNat : Int)
    ·by_cases hk4 : (allB q ((s.take (colonAt s)).drop 1)) = true
     ·by_cases hk5 : (serverB (s.drop (colonAt s + 1))) = true
      ·refine Cr (Zm rfl (Sv (o_slen Tryz.underlying9 rfl) (Sv (o_leq rfl rfl) (Zm rfl (Sg rfl (dT hk0) (oM rfl) (Sg rfl (dT hk0) (oM rfl) (Sg rfl (dT hk0) (o_slen Tryz.underlying9 rfl) (Sg rfl (dT hk0) (o_lss rfl rfl) (Sv (oT (dT hk0) rfl rfl) (Zm rfl (Sg rfl (dT hk1) (oM rfl) (Sg rfl (dT hk1) (o_gtr rfl rfl) (Sv (oT (dT hk1) rfl rfl) ?_)))))))))))))
       refine Zm rfl (Sg rfl (dT hk2) (oM rfl) (Sg rfl (dT hk2) (o_sidx Tryz.underlying9 rfl rfl (by omega) hb0) (Sg rfl (dT hk2) (oM rfl) (Sg rfl (dT hk2) (oE rfl rfl) (Sv (oT (dT hk2) rfl rfl) (Zm rfl (Sg rfl (dT hk3) (oM rfl) (Sg rfl (dT hk3) (oM rfl) (Sg rfl (dT hk3) (o_ssmid (m := 1) Tryz.underlying9 rfl rfl rfl (by omega)) (Sg rfl (dT hk3) (oM rfl) (Sg rfl (dT hk3) (oM rfl) (sgc rfl (dT hk3) (oC ent98 rfl) (c_ofq _ ((s.take (colonAt s)).drop 1) kinds signs q hq (by have := colon_le s; simp only [List.length_take, List.length_drop]; omega) hk hg) rfl fun v_ w2 h_ => ?_))))))))))))
       obtain ⟨rfl, E_⟩ := h_
       replace E := E.then E_
       refine Sv (oT (dT hk3) rfl rfl) (Zm rfl (Sg rfl hk4 (oM rfl) (Sg rfl hk4 (oM rfl) (Sg rfl hk4 (o_addE (r := ((colonAt s + 1 : Nat) : Int)) rfl rfl (by rw [wrap64_in _ (by omega)]; omega)) (Sg rfl hk4 (o_ssfrom Tryz.underlying9 rfl rfl (by omega)) (sgc rfl hk4 (oC ent64 rfl) (c_serverR _ (s.drop (colonAt s + 1)) (by have := colon_le s; simp only [List.length_take, List.length_drop]; omega)) rfl fun v_ w3 h_ => ?_))))))
       obtain ⟨rfl, E_⟩ := h_
       replace E := E.then E_
       exact Sv (oT hk4 rfl rfl) (Za rfl (Ln (e_K (hK3 _ _ _ _ (cR (ret1 rfl rfl ⟨congrArg Value.bool (by rw [named_form]; simp only [hhd, dT hk0, dT hk1, dT hk2, dT hk3, hk4, hk5, Bool.true_and, Bool.and_true, Bool.false_and, Bool.and_false, Bool.true_or, Bool.or_true, Bool.false_or, Bool.or_false, Bool.not_true, Bool.not_false]), E⟩))))))
      ·refine Cr (Zm rfl (Sv (o_slen Tryz.underlying9 rfl) (Sv (o_leq rfl rfl) (Zm rfl (Sg rfl (dT hk0) (oM rfl) (Sg rfl (dT hk0) (oM rfl) (Sg rfl (dT hk0) (o_slen Tryz.underlying9 rfl) (Sg rfl (dT hk0) (o_lss rfl rfl) (Sv (oT (dT hk0) rfl rfl) (Zm rfl (Sg rfl (dT hk1) (oM rfl) (Sg rfl (dT hk1) (o_gtr rfl rfl) (Sv (oT (dT hk1) rfl rfl) ?_)))))))))))))
       refine Zm rfl (Sg rfl (dT hk2) (oM rfl) (Sg rfl (dT hk2) (o_sidx Tryz.underlying9 rfl rfl (by omega) hb0) (Sg rfl (dT hk2) (oM rfl) (Sg rfl (dT hk2) (oE rfl rfl) (Sv (oT (dT hk2) rfl rfl) (Zm rfl (Sg rfl (dT hk3) (oM rfl) (Sg rfl (dT hk3) (oM rfl) (Sg rfl (dT hk3) (o_ssmid (m := 1) Tryz.underlying9 rfl rfl rfl (by omega)) (Sg rfl (dT hk3) (oM rfl) (Sg rfl (dT hk3) (oM rfl) (sgc rfl (dT hk3) (oC ent98 rfl) (c_ofq _ ((s.take (colonAt s)).drop 1) kinds signs q hq (by have := colon_le s; simp only [List.length_take, List.length_drop]; omega) hk hg) rfl fun v_ w4 h_ => ?_))))))))))))
       obtain ⟨rfl, E_⟩ := h_
       replace E := E.then E_
       refine Sv (oT (dT hk3) rfl rfl) (Zm rfl (Sg rfl hk4 (oM rfl) (Sg rfl hk4 (oM rfl) (Sg rfl hk4 (o_addE (r := ((colonAt s + 1 : Nat) : Int)) rfl rfl (by rw [wrap64_in _ (by omega)]; omega)) (Sg rfl hk4 (o_ssfrom Tryz.underlying9 rfl rfl (by omega)) (sgc rfl hk4 (oC ent64 rfl) (c_serverR _ (s.drop (colonAt s + 1)) (by have := colon_le s; simp only [List.length_take, List.length_drop]; omega)) rfl fun v_ w5 h_ => ?_))))))
       obtain ⟨rfl, E_⟩ := h_
       replace E := E.then E_
       exact Sv (oT hk4 rfl rfl) (Za rfl (Ln (e_K (hK3 _ _ _ _ (cR (ret1 rfl rfl ⟨congrArg Value.bool (by rw [named_form]; simp only [hhd, dT hk0, dT hk1, dT hk2, dT hk3, hk4, bF hk5, Bool.true_and, Bool.and_true, Bool.false_and, Bool.and_false, Bool.true_or, Bool.or_true, Bool.false_or, Bool.or_false, Bool.not_true, Bool.not_false]), E⟩))))))
     ·refine Cr (Zm rfl (Sv (o_slen Tryz.underlying9 rfl) (Sv (o_leq rfl rfl) (Zm rfl (Sg rfl (dT hk0) (oM rfl) (Sg rfl (dT hk0) (oM rfl) (Sg rfl (dT hk0) (o_slen Tryz.underlying9 rfl) (Sg rfl (dT hk0) (o_lss rfl rfl) (Sv (oT (dT hk0) rfl rfl) (Zm rfl (Sg rfl (dT hk1) (oM rfl) (Sg rfl (dT hk1) (o_gtr rfl rfl) (Sv (oT (dT hk1) rfl rfl) ?_)))))))))))))
      refine Zm rfl (Sg rfl (dT hk2) (oM rfl) (Sg rfl (dT hk2) (o_sidx Tryz.underlying9 rfl rfl (by omega) hb0) (Sg rfl (dT hk2) (oM rfl) (Sg rfl (dT hk2) (oE rfl rfl) (Sv (oT (dT hk2) rfl rfl) (Zm rfl (Sg rfl (dT hk3) (oM rfl) (Sg rfl (dT hk3) (oM rfl) (Sg rfl (dT hk3) (o_ssmid (m := 1) Tryz.underlying9 rfl rfl rfl (by omega)) (Sg rfl (dT hk3) (oM rfl) (Sg rfl (dT hk3) (oM rfl) (sgc rfl (dT hk3) (oC ent98 rfl) (c_ofq _ ((s.take (colonAt s)).drop 1) kinds signs q hq (by have := colon_le s; simp only [List.length_take, List.length_drop]; omega) hk hg) rfl fun v_ w6 h_ => ?_))))))))))))
      obtain ⟨rfl, E_⟩ := h_
      replace E := E.then E_
      exact Sv (oT (dT hk3) rfl rfl) (Zm rfl (Sx rfl (bF hk4) (Sx rfl (bF hk4) (Sx rfl (bF hk4) (Sx rfl (bF hk4) (Sx rfl (bF hk4) (Sv (oF (bF hk4) rfl rfl) (Za rfl (Ln (e_K (hK3 _ _ _ _ (cR (ret1 rfl rfl ⟨congrArg Value.bool (by rw [named_form]; simp only [hhd, dT hk0, dT hk1, dT hk2, dT hk3, bF hk4, Bool.true_and, Bool.and_true, Bool.false_and, Bool.and_false, Bool.true_or, Bool.or_true, Bool.false_or, Bool.or_false, Bool.not_true, Bool.not_false]), E⟩)))))))))))))
    ·refine Cr (Zm rfl (Sv (o_slen Tryz.underlying9 rfl) (Sv (o_leq rfl rfl) (Zm rfl (Sg rfl (dT hk0) (oM rfl) (Sg rfl (dT hk0) (oM rfl) (Sg rfl (dT hk0) (o_slen Tryz.underlying9 rfl) (Sg rfl (dT hk0) (o_lss rfl rfl) (Sv (oT (dT hk0) rfl rfl) (Zm rfl (Sg rfl (dT hk1) (oM rfl) (Sg rfl (dT hk1) (o_gtr rfl rfl) (Sv (oT (dT hk1) rfl rfl) ?_)))))))))))))
     refine Zm rfl (Sg rfl (dT hk2) (oM rfl) (Sg rfl (dT hk2) (o_sidx Tryz.underlying9 rfl rfl (by omega) hb0) (Sg rfl (dT hk2) (oM rfl) (Sg rfl (dT hk2) (oE rfl rfl) (Sv (oT (dT hk2) rfl rfl) (Zm rfl (Sx rfl (dF hk3) (Sx rfl (dF hk3) (Sx rfl (dF hk3) (Sx rfl (dF hk3) (Sx rfl (dF hk3) (Sx rfl (dF hk3) (Sv (oF (dF hk3) rfl rfl) ?_)))))))))))))
     exact Zm rfl (Sx rfl rfl (Sx rfl rfl (Sx rfl rfl (Sx rfl rfl (Sx rfl rfl (Sv (oF rfl rfl rfl) (Za rfl (Ln (e_K (hK3 _ _ _ _ (cR (ret1 rfl rfl ⟨congrArg Value.bool (by rw [named_form]; simp only [hhd, dT hk0, dT hk1, dT hk2, dF hk3, Bool.true_and, Bool.and_true, Bool.false_and, Bool.and_false, Bool.true_or, Bool.or_true, Bool.false_or, Bool.or_false, Bool.not_true, Bool.not_false]), E⟩))))))))))))
   ·have hh0 := head_no h58 hk2
    refine Cr (Zm rfl (Sv (o_slen Tryz.underlying9 rfl) (Sv (o_leq rfl rfl) (Zm rfl (Sg rfl (dT hk0) (oM rfl) (Sg rfl (dT hk0) (oM rfl) (Sg rfl (dT hk0) (o_slen Tryz.underlying9 rfl) (Sg rfl (dT hk0) (o_lss rfl rfl) (Sv (oT (dT hk0) rfl rfl) (Zm rfl (Sg rfl (dT hk1) (oM rfl) (Sg rfl (dT hk1) (o_gtr rfl rfl) (Sv (oT (dT hk1) rfl rfl) ?_)))))))))))))
    refine Zm rfl (Sx rfl (dF hk2) (Sx rfl (dF hk2) (Sx rfl (dF hk2) (Sx rfl (dF hk2) (Sv (oF (dF hk2) rfl rfl) (Zm rfl (Sx rfl rfl (Sx rfl rfl (Sx rfl rfl (Sx rfl rfl (Sx rfl rfl (Sx rfl rfl (Sv (oF rfl rfl rfl) ?_)))))))))))))
    exact Zm rfl (Sx rfl rfl (Sx rfl rfl (Sx rfl rfl (Sx rfl rfl (Sx rfl rfl (Sv (oF rfl rfl rfl) (Za rfl (Ln (e_K (hK3 _ _ _ _ (cR (ret1 rfl rfl ⟨congrArg Value.bool (by rw [named_form]; simp only [hh0, dT hk0, dT hk1, dF hk2, Bool.true_and, Bool.and_true, Bool.false_and, Bool.and_false, Bool.true_or, Bool.or_true, Bool.false_or, Bool.or_false, Bool.not_true, Bool.not_false]), E⟩))))))))))))
  ·refine Cr (Zm rfl (Sv (o_slen Tryz.underlying9 rfl) (Sv (o_leq rfl rfl) (Zm rfl (Sg rfl (dT hk0) (oM rfl) (Sg rfl (dT hk0) (oM rfl) (Sg rfl (dT hk0) (o_slen Tryz.underlying9 rfl) (Sg rfl (dT hk0) (o_lss rfl rfl) (Sv (oT (dT hk0) rfl rfl) (Zm rfl (Sx rfl (dF hk1) (Sx rfl (dF hk1) (Sv (oF (dF hk1) rfl rfl) ?_)))))))))))))
   refine Zm rfl (Sx rfl rfl (Sx rfl rfl (Sx rfl rfl (Sx rfl rfl (Sv (oF rfl rfl rfl) (Zm rfl (Sx rfl rfl (Sx rfl rfl (Sx rfl rfl (Sx rfl rfl (Sx rfl rfl (Sx rfl rfl (Sv (oF rfl rfl rfl) ?_)))))))))))))
   exact Zm rfl (Sx rfl rfl (Sx rfl rfl (Sx rfl rfl (Sx rfl rfl (Sx rfl rfl (Sv (oF rfl rfl rfl) (Za rfl (Ln (e_K (hK3 _ _ _ _ (cR (ret1 rfl rfl ⟨congrArg Value.bool (by rw [named_form]; simp only [dT hk0, dF hk1, Bool.true_and, Bool.and_true, Bool.false_and, Bool.and_false, Bool.true_or, Bool.or_true, Bool.false_or, Bool.or_false, Bool.not_true, Bool.not_false]), E⟩))))))))))))
 ·refine Cr (Zm rfl (Sv (o_slen Tryz.underlying9 rfl) (Sv (o_leq rfl rfl) (Zm rfl (Sx rfl (dF hk0) (Sx rfl (dF hk0) (Sx rfl (dF hk0) (Sx rfl (dF hk0) (Sv (oF (dF hk0) rfl rfl) (Zm rfl (Sx rfl rfl (Sx rfl rfl (Sv (oF rfl rfl rfl) ?_)))))))))))))
  refine Zm rfl (Sx rfl rfl (Sx rfl rfl (Sx rfl rfl (Sx rfl rfl (Sv (oF rfl rfl rfl) (Zm rfl (Sx rfl rfl (Sx rfl rfl (Sx rfl rfl (Sx rfl rfl (Sx rfl rfl (Sx rfl rfl (Sv (oF rfl rfl rfl) ?_)))))))))))))
  exact Zm rfl (Sx rfl rfl (Sx rfl rfl (Sx rfl rfl (Sx rfl rfl (Sx rfl rfl (Sv (oF rfl rfl rfl) (Za rfl (Ln (e_K (hK3 _ _ _ _ (cR (ret1 rfl rfl ⟨congrArg Value.bool (by rw [named_form]; simp only [dF hk0, Bool.true_and, Bool.and_true, Bool.false_and, Bool.and_false, Bool.true_or, Bool.or_true, Bool.false_or, Bool.or_false, Bool.not_true, Bool.not_false]), E⟩))))))))))))

theorem c_userR (w : World) (s : Str) (hs : s.length ≤ 140737488351232) : Calls Tryz.prog 68 [S s].toArray w (Ret fun u w' => u = .bool (namedB 64 qUser s) ∧ Mod [] w w') := by
 refine enter Tryz.func68 rfl rfl rfl (l := [(0, _)]) ⟨rfl, trivial⟩ ?_
 have E := Mod.refl [] w
 refine Cq fun K1 hK1 => Cr (Za rfl (Ln (e_K (hK1 _ _ _ _ (Cq fun K2 hK2 => Cr (Zm rfl (sc (oC ent99 rfl) (c_named _ s 64 [97, 48] userS qUser q_user (by decide) hs (by simp) (by simp)) rfl fun v_ w1 h_ => ?_)))))))
 obtain ⟨rfl, E_⟩ := h_
 replace E := E.then E_
 exact Za rfl (Ln (e_K (hK2 _ _ _ _ (cR (ret1 rfl rfl ⟨rfl, E⟩)))))

theorem c_roomR (w : World) (s : Str) (hs : s.length ≤ 140737488351232) : Calls Tryz.prog 67 [S s].toArray w (Ret fun u w' => u = .bool (namedB 33 qRoom s) ∧ Mod [] w w') := by
 refine enter Tryz.func67 rfl rfl rfl (l := [(0, _)]) ⟨rfl, trivial⟩ ?_
 have E := Mod.refl [] w
 refine Cq fun K1 hK1 => Cr (Za rfl (Ln (e_K (hK1 _ _ _ _ (Cq fun K2 hK2 => Cr (Zm rfl (sc (oC ent99 rfl) (c_named _ s 33 [97, 65, 48] [95, 45] qRoom q_room (by decide) hs (by simp) (by simp)) rfl fun v_ w1 h_ => ?_)))))))
 obtain ⟨rfl, E_⟩ := h_
 replace E := E.then E_
 exact Za rfl (Ln (e_K (hK2 _ _ _ _ (cR (ret1 rfl rfl ⟨rfl, E⟩)))))

theorem c_keyR (w : World) (s : Str) (hs : s.length ≤ 140737488351232) : Calls Tryz.prog 65 [S s].toArray w (Ret fun u w' => u = .bool (keyB s) ∧ Mod [] w w') := by
 refine enter Tryz.func65 rfl rfl rfl (l := [(0, _)]) ⟨rfl, trivial⟩ ?_
 have E := Mod.refl [] w
 refine Cq fun K1 hK1 => Cr (Za rfl (Ln (e_K (hK1 _ _ _ _ (Cq fun K2 hK2 => ?_)))))
 by_cases hk0 : (s.length : Int) ≤ 255
 ·by_cases hk1 : (s.length : Int) > 8
  ·by_cases hk2 : s.take 8 = edS
   ·by_cases hk3 : (allB qKey (s.drop 8)) = true
    ·refine Cr (Zm rfl (Sv (o_slen Tryz.underlying9 rfl) (Sv (o_leq rfl rfl) (Zm rfl (Sg rfl (dT hk0) (oM rfl) (Sg rfl (dT hk0) (o_slen Tryz.underlying9 rfl) (Sg rfl (dT hk0) (o_gtr rfl rfl) (Sv (oT (dT hk0) rfl rfl) (Zm rfl (Sg rfl (dT hk1) (oM rfl) (Sg rfl (dT hk1) (o_ssto (n := 8) Tryz.underlying9 rfl rfl (by omega)) (Sg rfl (dT hk1) (o_seq rfl rfl) (Sv (oT (dT hk1) rfl rfl) ?_)))))))))))))
     refine Zm rfl (Sg rfl (dT hk2) (oM rfl) (Sg rfl (dT hk2) (o_ssfrom (n := 8) Tryz.underlying9 rfl rfl (by omega)) (sgc rfl (dT hk2) (oC ent98 rfl) (c_ofq _ (s.drop 8) [97, 65, 48] [95] _ q_key (by simp only [List.length_drop]; omega) (by simp) (by simp)) rfl fun v_ w1 h_ => ?_)))
     obtain ⟨rfl, E_⟩ := h_
     replace E := E.then E_
     exact Sv (oT (dT hk2) rfl rfl) (Za rfl (Ln (e_K (hK2 _ _ _ _ (cR (ret1 rfl rfl ⟨congrArg Value.bool (by rw [keyB, len_e3]; simp only [dT hk0, dT hk1, dT hk2, hk3, Bool.true_and, Bool.and_true, Bool.false_and, Bool.and_false, Bool.true_or, Bool.or_true, Bool.false_or, Bool.or_false, Bool.not_true, Bool.not_false]), E⟩))))))
    ·refine Cr (Zm rfl (Sv (o_slen Tryz.underlying9 rfl) (Sv (o_leq rfl rfl) (Zm rfl (Sg rfl (dT hk0) (oM rfl) (Sg rfl (dT hk0) (o_slen Tryz.underlying9 rfl) (Sg rfl (dT hk0) (o_gtr rfl rfl) (Sv (oT (dT hk0) rfl rfl) (Zm rfl (Sg rfl (dT hk1) (oM rfl) (Sg rfl (dT hk1) (o_ssto (n := 8) Tryz.underlying9 rfl rfl (by omega)) (Sg rfl (dT hk1) (o_seq rfl rfl) (Sv (oT (dT hk1) rfl rfl) ?_)))))))))))))
     refine Zm rfl (Sg rfl (dT hk2) (oM rfl) (Sg rfl (dT hk2) (o_ssfrom (n := 8) Tryz.underlying9 rfl rfl (by omega)) (sgc rfl (dT hk2) (oC ent98 rfl) (c_ofq _ (s.drop 8) [97, 65, 48] [95] _ q_key (by simp only [List.length_drop]; omega) (by simp) (by simp)) rfl fun v_ w2 h_ => ?_)))
     obtain ⟨rfl, E_⟩ := h_
     replace E := E.then E_
     exact Sv (oT (dT hk2) rfl rfl) (Za rfl (Ln (e_K (hK2 _ _ _ _ (cR (ret1 rfl rfl ⟨congrArg Value.bool (by rw [keyB, len_e3]; simp only [dT hk0, dT hk1, dT hk2, bF hk3, Bool.true_and, Bool.and_true, Bool.false_and, Bool.and_false, Bool.true_or, Bool.or_true, Bool.false_or, Bool.or_false, Bool.not_true, Bool.not_false]), E⟩))))))
   ·refine Cr (Zm rfl (Sv (o_slen Tryz.underlying9 rfl) (Sv (o_leq rfl rfl) (Zm rfl (Sg rfl (dT hk0) (oM rfl) (Sg rfl (dT hk0) (o_slen Tryz.underlying9 rfl) (Sg rfl (dT hk0) (o_gtr rfl rfl) (Sv (oT (dT hk0) rfl rfl) (Zm rfl (Sg rfl (dT hk1) (oM rfl) (Sg rfl (dT hk1) (o_ssto (n := 8) Tryz.underlying9 rfl rfl (by omega)) (Sg rfl (dT hk1) (o_seq rfl rfl) (Sv (oT (dT hk1) rfl rfl) ?_)))))))))))))
    exact Zm rfl (Sx rfl (dF hk2) (Sx rfl (dF hk2) (Sx rfl (dF hk2) (Sv (oF (dF hk2) rfl rfl) (Za rfl (Ln (e_K (hK2 _ _ _ _ (cR (ret1 rfl rfl ⟨congrArg Value.bool (by rw [keyB, len_e3]; simp only [dT hk0, dT hk1, dF hk2, Bool.true_and, Bool.and_true, Bool.false_and, Bool.and_false, Bool.true_or, Bool.or_true, Bool.false_or, Bool.or_false, Bool.not_true, Bool.not_false]), E⟩))))))))))
  ·have h0 : allB qKey (s.drop 8) = false := by rw [List.drop_eq_nil_of_le (by omega)]; rfl
   refine Cr (Zm rfl (Sv (o_slen Tryz.underlying9 rfl) (Sv (o_leq rfl rfl) (Zm rfl (Sg rfl (dT hk0) (oM rfl) (Sg rfl (dT hk0) (o_slen Tryz.underlying9 rfl) (Sg rfl (dT hk0) (o_gtr rfl rfl) (Sv (oT (dT hk0) rfl rfl) (Zm rfl (Sx rfl (dF hk1) (Sx rfl (dF hk1) (Sx rfl (dF hk1) (Sv (oF (dF hk1) rfl rfl) ?_)))))))))))))
   exact Zm rfl (Sx rfl rfl (Sx rfl rfl (Sx rfl rfl (Sv (oF rfl rfl rfl) (Za rfl (Ln (e_K (hK2 _ _ _ _ (cR (ret1 rfl rfl ⟨congrArg Value.bool (by rw [keyB, len_e3]; simp only [h0, dT hk0, dF hk1, Bool.true_and, Bool.and_true, Bool.false_and, Bool.and_false, Bool.true_or, Bool.or_true, Bool.false_or, Bool.or_false, Bool.not_true, Bool.not_false]), E⟩))))))))))
 ·refine Cr (Zm rfl (Sv (o_slen Tryz.underlying9 rfl) (Sv (o_leq rfl rfl) (Zm rfl (Sx rfl (dF hk0) (Sx rfl (dF hk0) (Sx rfl (dF hk0) (Sv (oF (dF hk0) rfl rfl) (Zm rfl (Sx rfl rfl (Sx rfl rfl (Sx rfl rfl (Sv (oF rfl rfl rfl) ?_)))))))))))))
  exact Zm rfl (Sx rfl rfl (Sx rfl rfl (Sx rfl rfl (Sv (oF rfl rfl rfl) (Za rfl (Ln (e_K (hK2 _ _ _ _ (cR (ret1 rfl rfl ⟨congrArg Value.bool (by rw [keyB, len_e3]; simp only [dF hk0, Bool.true_and, Bool.and_true, Bool.false_and, Bool.and_false, Bool.true_or, Bool.or_true, Bool.false_or, Bool.or_false, Bool.not_true, Bool.not_false]), E⟩))))))))))
end Go.Proofs.YtkhbnhdlelmbnaaGreatDoor.V

set_option linter.unusedVariables false
set_option linter.unusedSimpArgs false
namespace Go.Proofs.YtkhbnhdlelmbnaaGreatDoor.V
open Go
/-- a word as a value -/
def W4 (x : UInt32) : Value := .int .u32 x.toNat
section
variable {P : Program} {l : List (Nat × Value)} {w : World} {ty : TypeId} {pos : String} {af : Array Edge}
variable {dd : Option Nat} {gg : Option (Nat × Bool)} {x y : Operand} {t t' t'' : TypeId} {a b : UInt32}
end
end Go.Proofs.YtkhbnhdlelmbnaaGreatDoor.V
