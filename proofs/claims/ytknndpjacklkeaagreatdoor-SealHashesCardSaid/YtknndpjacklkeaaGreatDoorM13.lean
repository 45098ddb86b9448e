/-
  A part of the proof: blocks taken in, one behind the other; what stands behind the bytes; the digest's bytes; the digest of bytes; the reference's digest is the digest; slices of arrays; a slice's type changed in name alone; one byte of a slice of the call's own is written. No condition of its own.
-/
import Derived.Test.YtknndpjacklkeaaGreatDoorM12
import Derived.Test.YtknndpjacklkeaaGreatDoorM4
import Derived.Test.YtknndpjacklkeaaGreatDoorM11
set_option linter.unusedVariables false
set_option linter.unusedSimpArgs false
set_option maxRecDepth 10000
namespace Go.Proofs.YtknndpjacklkeaaGreatDoor.V
open Go Go.Proofs
theorem ent126 : Ent Tryz.prog 126 := Ent.of Tryz.func126 (by kernel_rfl) (by kernel_rfl)
theorem ent127 : Ent Tryz.prog 127 := Ent.of Tryz.func127 (by kernel_rfl) (by kernel_rfl)
theorem ent67 : Ent Tryz.prog 67 := Ent.of Tryz.func67 (by kernel_rfl) (by kernel_rfl)
theorem ent128 : Ent Tryz.prog 128 := Ent.of Tryz.func128 (by kernel_rfl) (by kernel_rfl)
theorem c_colon (w : World) (s : Str) (hs : s.length ≤ 140737488351232) : Calls Tryz.prog 126 [S s].toArray w (Ret fun u w' => u = .int .i64 (colonAt s : Int) ∧ Mod [] w w') := by
 refine enter Tryz.func126 rfl rfl rfl (l := [(0, _)]) ⟨rfl, trivial⟩ ?_
 have E := Mod.refl [] w
 refine Cq fun K1 hK1 => Cr (Za rfl (Ln (e_K (hK1 _ _ _ _ (Cq fun K2 hK2 => Cq fun K3 hK3 => Cr (Za rfl (Ln (e_K (hK3 _ _ _ _ (cB (c_loop (σ := Nat) (fun i => [(0, S s), (3, .int .i64 (i : Int))]) (fun i w1 => i ≤ s.length ∧ (∀ j b, j < i → s[j]? = some b → b ≠ 58) ∧ Mod [] w w1) (fun i => s.length - i) (0) ⟨rfl, rfl, trivial⟩ (⟨by omega, fun j b h => absurd h (by omega), E⟩) ?_)))))))))))
 rintro i w1 ⟨hi, ha, E⟩
 refine Cq fun K4 hK4 => Cq fun K5 hK5 => Cr (tW 2 rfl (Sv (o_slen Tryz.underlying9 rfl) (Sv (o_lss rfl rfl) (Ln (e_K (hK5 _ _ _ _ ?_))))))
 refine c_if rfl (fun h7 => ?_) (fun h7 => ?_)
 ·obtain ⟨b, hb⟩ : ∃ b, s[i]? = some b := ⟨_, List.getElem?_eq_getElem (by omega)⟩
  refine cK (e_K (hK4 _ _ _ _ (Cq fun K6 hK6 => cB (Cq fun K7 hK7 => Cr (tW 2 rfl (Sv (o_sidx Tryz.underlying9 rfl rfl (by omega) (by rw [Int.toNat_natCast]; exact hb)) (Sv (oE rfl rfl) (Ln (e_K (hK7 _ _ _ _ ?_))))))))))
  refine c_if rfl (fun h13 => ?_) (fun h13 => ?_)
  ·have hC : colonAt s = i := colon_at hb ha (u8_eq h13)
   exact Cq fun K8 hK8 => Cr (tW 2 rfl (Ln (e_K (hK8 _ _ _ _ (cR (eI (by simp) (eT (by simp) (eT (by simp) (eI (by simp) (eT (by simp) (ret1 rfl rfl ⟨by rw [hC], E⟩)))))))))))
  ·have hne : b ≠ 58 := fun h => h13 (by rw [h]; rfl)
   exact cK (eI (by simp) (e_K (hK6 _ _ _ _ (Cr (Zm rfl (Sv (o_addN rfl rfl (by omega)) (Za rfl (Ln (eR (σ := Nat) (s := i) (i + 1) ⟨rfl, rfl, trivial⟩ ⟨by omega, fun j b_ hj h_ => (Nat.lt_succ_iff_lt_or_eq.1 hj).elim (fun h => ha j b_ h h_) (fun h => by subst h; rw [hb] at h_; injection h_ with h_; rw [← h_]; exact hne), E⟩ (by omega))))))))))
 ·have hC := colon_none (s := s) (fun j b hj h => ha j b (by omega) h)
  exact c_exit (eT (by simp) (eT (by simp) (e_hit (e_K (hK2 _ _ _ _ (Cq fun K9 hK9 => Cr (Zm rfl (Sv (o_slen Tryz.underlying9 rfl) (Za rfl (Ln (e_K (hK9 _ _ _ _ (cR (ret1 rfl rfl ⟨by rw [hC], E⟩))))))))))))))

theorem c_of (w : World) (s kinds signs : Str) (hs : s.length ≤ 140737488351232) (hk : kinds.length ≤ 100) (hg : signs.length ≤ 100) : Calls Tryz.prog 127 [S s, S kinds, S signs].toArray w (Ret fun u w' => u = .bool (allB (okQ kinds signs) s) ∧ Mod [] w w') := by
 refine enter Tryz.func127 rfl rfl rfl (l := [(0, _), (1, _), (2, _)]) ⟨rfl, rfl, rfl, trivial⟩ ?_
 have E := Mod.refl [] w
 refine Cq fun K1 hK1 => Cr (Za rfl (Ln (e_K (hK1 _ _ _ _ (Cq fun K2 hK2 => Cq fun K3 hK3 => Cr (Za rfl (Ln (e_K (hK3 _ _ _ _ (cB (c_loop (σ := Nat) (fun i => [(0, S s), (1, S kinds), (2, S signs), (7, .int .i64 (i : Int))]) (fun i w1 => i ≤ s.length ∧ (s.take i).all (fun b => okQ kinds signs b.toNat) = true ∧ Mod [] w w1) (fun i => s.length - i) (0) ⟨rfl, rfl, rfl, rfl, trivial⟩ (⟨by omega, by simp, E⟩) ?_)))))))))))
 rintro i w1 ⟨hi, ha, E⟩
 refine Cq fun K4 hK4 => Cq fun K5 hK5 => Cr (tW 2 rfl (Sv (o_slen Tryz.underlying9 rfl) (Sv (o_lss rfl rfl) (Ln (e_K (hK5 _ _ _ _ ?_))))))
 refine c_if rfl (fun h15 => ?_) (fun h15 => ?_)
 ·obtain ⟨c, hc⟩ : ∃ c, s[i]? = some c := ⟨_, List.getElem?_eq_getElem (by omega)⟩
  refine cK (e_K (hK4 _ _ _ _ (Cq fun K6 hK6 => cB (Cq fun K7 hK7 => Cr (tW 2 rfl (Sv (o_sidx Tryz.underlying9 rfl rfl (by omega) (by rw [Int.toNat_natCast]; exact hc)) (Za rfl (Ln (e_K (hK7 _ _ _ _ (Cq fun K8 hK8 => Cr (Za rfl ?_))))))))))))
  refine Ln (e_K (hK8 _ _ _ _ (Cq fun K9 hK9 => Cq fun K10 hK10 => Cr (Za rfl (Ln (e_K (hK10 _ _ _ _ (cB (c_loop (σ := Nat × Bool) (fun ⟨j, x⟩ => [(0, S s), (1, S kinds), (2, S signs), (7, .int .i64 (i : Int)), (8, .int .u8 (c.toNat : Int)), (9, .bool x), (10, .int .i64 (j : Int))]) (fun ⟨j, x⟩ w1 => j ≤ kinds.length ∧ x = (kinds.take j).any (okK1 c.toNat) ∧ Mod [] w w1) (fun ⟨j, x⟩ => kinds.length - j) (⟨0, false⟩) ⟨rfl, rfl, rfl, rfl, rfl, rfl, rfl, trivial⟩ (⟨by omega, by simp, E⟩) ?_)))))))))
  rintro ⟨j, x⟩ w2 ⟨hj, hx, E⟩
  refine Cq fun K11 hK11 => Cq fun K12 hK12 => Cr (tW 2 rfl (Sv (o_slen Tryz.underlying9 rfl) (Sv (o_lss rfl rfl) (Ln (e_K (hK12 _ _ _ _ ?_))))))
  refine c_if rfl (fun h24 => ?_) (fun h24 => ?_)
  ·obtain ⟨g, hgj⟩ : ∃ g, kinds[j]? = some g := ⟨_, List.getElem?_eq_getElem (by omega)⟩
   refine cK (e_K (hK11 _ _ _ _ (Cq fun K13 hK13 => cB (Cr (Zm rfl ?_)))))
   refine bB (fun hk0 : (x) = true => ?_) (fun hk0 => ?_)
   ·exact tW 42 rfl (Sv ((o_as rfl).to (v' := .bool (x || okK1 c.toNat g)) (congrArg Value.bool (by simp only [okK1, hk0, Bool.true_and, Bool.and_true, Bool.false_and, Bool.and_false, Bool.true_or, Bool.or_true, Bool.false_or, Bool.or_false, Bool.not_true, Bool.not_false]))) (Ln (eI (by simp) (e_K (hK13 _ _ _ _ (Cr (Zm rfl (Sv (o_addN rfl rfl (by omega)) (Za rfl (Ln (eR (σ := Nat × Bool) (s := ⟨j, x⟩) (⟨j + 1, (x || okK1 c.toNat g)⟩) ⟨rfl, rfl, rfl, rfl, rfl, rfl, rfl, trivial⟩ ⟨by omega, by rw [any_succ' _ hgj, ← hx], E⟩ (by dsimp only; omega))))))))))))
   ·refine tW 3 rfl (Sg rfl rfl (o_sidx Tryz.underlying9 rfl rfl (by omega) (by rw [Int.toNat_natCast]; exact hgj)) (Sg rfl rfl (oE rfl rfl) ?_))
    refine bD (fun hk97 : (g.toNat : Int) = 97 => ?_) (fun hk97 => ?_)
    ·refine tW 2 rfl (Sg rfl rfl (o_geq rfl rfl) ?_)
     refine bD (fun hk971 : (c.toNat : Int) ≥ 97 => ?_) (fun hk971 => ?_)
     ·refine tW 4 rfl ?_
      refine bD (fun hk972 : (c.toNat : Int) ≤ 122 => ?_) (fun hk972 => ?_)
      ·exact tW 30 rfl (Sv ((o_as rfl).to (v' := .bool (x || okK1 c.toNat g)) (congrArg Value.bool (by simp only [okK1, bF hk0, dT hk97, dT hk971, dT hk972, Bool.true_and, Bool.and_true, Bool.false_and, Bool.and_false, Bool.true_or, Bool.or_true, Bool.false_or, Bool.or_false, Bool.not_true, Bool.not_false]))) (Ln (eI (by simp) (e_K (hK13 _ _ _ _ (Cr (Zm rfl (Sv (o_addN rfl rfl (by omega)) (Za rfl (Ln (eR (σ := Nat × Bool) (s := ⟨j, x⟩) (⟨j + 1, (x || okK1 c.toNat g)⟩) ⟨rfl, rfl, rfl, rfl, rfl, rfl, rfl, trivial⟩ ⟨by omega, by rw [any_succ' _ hgj, ← hx], E⟩ (by dsimp only; omega))))))))))))
      ·refine tW 5 rfl (Sg rfl rfl (o_sidx Tryz.underlying9 rfl rfl (by omega) (by rw [Int.toNat_natCast]; exact hgj)) (Sg rfl rfl (oE rfl rfl) (bE (dF (show ¬ ((g.toNat : Int) = 65) by omega)) (tW 12 rfl (Sg rfl rfl (o_sidx Tryz.underlying9 rfl rfl (by omega) (by rw [Int.toNat_natCast]; exact hgj)) (Sg rfl rfl (oE rfl rfl) (bE (dF (show ¬ ((g.toNat : Int) = 48) by omega)) (tW 9 rfl (Sv ((o_as rfl).to (v' := .bool (x || okK1 c.toNat g)) (congrArg Value.bool (by simp only [okK1, bF hk0, dT hk97, dT hk971, dF hk972, dF (show ¬ ((g.toNat : Int) = 65) by omega), dF (show ¬ ((g.toNat : Int) = 48) by omega), Bool.true_and, Bool.and_true, Bool.false_and, Bool.and_false, Bool.true_or, Bool.or_true, Bool.false_or, Bool.or_false, Bool.not_true, Bool.not_false]))) (Ln (eI (by simp) (e_K (hK13 _ _ _ _ (Cr ?_))))))))))))))
       exact Zm rfl (Sv (o_addN rfl rfl (by omega)) (Za rfl (Ln (eR (σ := Nat × Bool) (s := ⟨j, x⟩) (⟨j + 1, (x || okK1 c.toNat g)⟩) ⟨rfl, rfl, rfl, rfl, rfl, rfl, rfl, trivial⟩ ⟨by omega, by rw [any_succ' _ hgj, ← hx], E⟩ (by dsimp only; omega)))))
     ·refine tW 9 rfl (Sg rfl rfl (o_sidx Tryz.underlying9 rfl rfl (by omega) (by rw [Int.toNat_natCast]; exact hgj)) (Sg rfl rfl (oE rfl rfl) (bE (dF (show ¬ ((g.toNat : Int) = 65) by omega)) (tW 12 rfl (Sg rfl rfl (o_sidx Tryz.underlying9 rfl rfl (by omega) (by rw [Int.toNat_natCast]; exact hgj)) (Sg rfl rfl (oE rfl rfl) (bE (dF (show ¬ ((g.toNat : Int) = 48) by omega)) (tW 9 rfl (Sv ((o_as rfl).to (v' := .bool (x || okK1 c.toNat g)) (congrArg Value.bool (by simp only [okK1, bF hk0, dT hk97, dF hk971, dF (show ¬ ((g.toNat : Int) = 65) by omega), dF (show ¬ ((g.toNat : Int) = 48) by omega), Bool.true_and, Bool.and_true, Bool.false_and, Bool.and_false, Bool.true_or, Bool.or_true, Bool.false_or, Bool.or_false, Bool.not_true, Bool.not_false]))) (Ln (eI (by simp) (e_K (hK13 _ _ _ _ (Cr ?_))))))))))))))
      exact Zm rfl (Sv (o_addN rfl rfl (by omega)) (Za rfl (Ln (eR (σ := Nat × Bool) (s := ⟨j, x⟩) (⟨j + 1, (x || okK1 c.toNat g)⟩) ⟨rfl, rfl, rfl, rfl, rfl, rfl, rfl, trivial⟩ ⟨by omega, by rw [any_succ' _ hgj, ← hx], E⟩ (by dsimp only; omega)))))
    ·refine tW 12 rfl (Sg rfl rfl (o_sidx Tryz.underlying9 rfl rfl (by omega) (by rw [Int.toNat_natCast]; exact hgj)) (Sg rfl rfl (oE rfl rfl) ?_))
     refine bD (fun hk65 : (g.toNat : Int) = 65 => ?_) (fun hk65 => ?_)
     ·refine tW 2 rfl (Sg rfl rfl (o_geq rfl rfl) ?_)
      refine bD (fun hk651 : (c.toNat : Int) ≥ 65 => ?_) (fun hk651 => ?_)
      ·refine tW 4 rfl ?_
       refine bD (fun hk652 : (c.toNat : Int) ≤ 90 => ?_) (fun hk652 => ?_)
       ·exact tW 16 rfl (Sv ((o_as rfl).to (v' := .bool (x || okK1 c.toNat g)) (congrArg Value.bool (by simp only [okK1, bF hk0, dF hk97, dT hk65, dT hk651, dT hk652, Bool.true_and, Bool.and_true, Bool.false_and, Bool.and_false, Bool.true_or, Bool.or_true, Bool.false_or, Bool.or_false, Bool.not_true, Bool.not_false]))) (Ln (eI (by simp) (e_K (hK13 _ _ _ _ (Cr (Zm rfl (Sv (o_addN rfl rfl (by omega)) (Za rfl (Ln (eR (σ := Nat × Bool) (s := ⟨j, x⟩) (⟨j + 1, (x || okK1 c.toNat g)⟩) ⟨rfl, rfl, rfl, rfl, rfl, rfl, rfl, trivial⟩ ⟨by omega, by rw [any_succ' _ hgj, ← hx], E⟩ (by dsimp only; omega))))))))))))
       ·exact tW 5 rfl (Sg rfl rfl (o_sidx Tryz.underlying9 rfl rfl (by omega) (by rw [Int.toNat_natCast]; exact hgj)) (Sg rfl rfl (oE rfl rfl) (bE (dF (show ¬ ((g.toNat : Int) = 48) by omega)) (tW 9 rfl (Sv ((o_as rfl).to (v' := .bool (x || okK1 c.toNat g)) (congrArg Value.bool (by simp only [okK1, bF hk0, dF hk97, dT hk65, dT hk651, dF hk652, dF (show ¬ ((g.toNat : Int) = 48) by omega), Bool.true_and, Bool.and_true, Bool.false_and, Bool.and_false, Bool.true_or, Bool.or_true, Bool.false_or, Bool.or_false, Bool.not_true, Bool.not_false]))) (Ln (eI (by simp) (e_K (hK13 _ _ _ _ (Cr (Zm rfl (Sv (o_addN rfl rfl (by omega)) (Za rfl (Ln (eR (σ := Nat × Bool) (s := ⟨j, x⟩) (⟨j + 1, (x || okK1 c.toNat g)⟩) ⟨rfl, rfl, rfl, rfl, rfl, rfl, rfl, trivial⟩ ⟨by omega, by rw [any_succ' _ hgj, ← hx], E⟩ (by dsimp only; omega))))))))))))))))
      ·exact tW 9 rfl (Sg rfl rfl (o_sidx Tryz.underlying9 rfl rfl (by omega) (by rw [Int.toNat_natCast]; exact hgj)) (Sg rfl rfl (oE rfl rfl) (bE (dF (show ¬ ((g.toNat : Int) = 48) by omega)) (tW 9 rfl (Sv ((o_as rfl).to (v' := .bool (x || okK1 c.toNat g)) (congrArg Value.bool (by simp only [okK1, bF hk0, dF hk97, dT hk65, dF hk651, dF (show ¬ ((g.toNat : Int) = 48) by omega), Bool.true_and, Bool.and_true, Bool.false_and, Bool.and_false, Bool.true_or, Bool.or_true, Bool.false_or, Bool.or_false, Bool.not_true, Bool.not_false]))) (Ln (eI (by simp) (e_K (hK13 _ _ _ _ (Cr (Zm rfl (Sv (o_addN rfl rfl (by omega)) (Za rfl (Ln (eR (σ := Nat × Bool) (s := ⟨j, x⟩) (⟨j + 1, (x || okK1 c.toNat g)⟩) ⟨rfl, rfl, rfl, rfl, rfl, rfl, rfl, trivial⟩ ⟨by omega, by rw [any_succ' _ hgj, ← hx], E⟩ (by dsimp only; omega))))))))))))))))
     ·refine tW 12 rfl (Sg rfl rfl (o_sidx Tryz.underlying9 rfl rfl (by omega) (by rw [Int.toNat_natCast]; exact hgj)) (Sg rfl rfl (oE rfl rfl) ?_))
      refine bD (fun hk48 : (g.toNat : Int) = 48 => ?_) (fun hk48 => ?_)
      ·refine tW 2 rfl (Sg rfl rfl (o_geq rfl rfl) ?_)
       refine bD (fun hk481 : (c.toNat : Int) ≥ 48 => ?_) (fun hk481 => ?_)
       ·refine tW 4 rfl ?_
        refine bD (fun hk482 : (c.toNat : Int) ≤ 57 => ?_) (fun hk482 => ?_)
        ·exact tW 2 rfl (Sv ((o_as rfl).to (v' := .bool (x || okK1 c.toNat g)) (congrArg Value.bool (by simp only [okK1, bF hk0, dF hk97, dF hk65, dT hk48, dT hk481, dT hk482, Bool.true_and, Bool.and_true, Bool.false_and, Bool.and_false, Bool.true_or, Bool.or_true, Bool.false_or, Bool.or_false, Bool.not_true, Bool.not_false]))) (Ln (eI (by simp) (e_K (hK13 _ _ _ _ (Cr (Zm rfl (Sv (o_addN rfl rfl (by omega)) (Za rfl (Ln (eR (σ := Nat × Bool) (s := ⟨j, x⟩) (⟨j + 1, (x || okK1 c.toNat g)⟩) ⟨rfl, rfl, rfl, rfl, rfl, rfl, rfl, trivial⟩ ⟨by omega, by rw [any_succ' _ hgj, ← hx], E⟩ (by dsimp only; omega))))))))))))
        ·exact tW 2 rfl (Sv ((o_as rfl).to (v' := .bool (x || okK1 c.toNat g)) (congrArg Value.bool (by simp only [okK1, bF hk0, dF hk97, dF hk65, dT hk48, dT hk481, dF hk482, Bool.true_and, Bool.and_true, Bool.false_and, Bool.and_false, Bool.true_or, Bool.or_true, Bool.false_or, Bool.or_false, Bool.not_true, Bool.not_false]))) (Ln (eI (by simp) (e_K (hK13 _ _ _ _ (Cr (Zm rfl (Sv (o_addN rfl rfl (by omega)) (Za rfl (Ln (eR (σ := Nat × Bool) (s := ⟨j, x⟩) (⟨j + 1, (x || okK1 c.toNat g)⟩) ⟨rfl, rfl, rfl, rfl, rfl, rfl, rfl, trivial⟩ ⟨by omega, by rw [any_succ' _ hgj, ← hx], E⟩ (by dsimp only; omega))))))))))))
       ·exact tW 6 rfl (Sv ((o_as rfl).to (v' := .bool (x || okK1 c.toNat g)) (congrArg Value.bool (by simp only [okK1, bF hk0, dF hk97, dF hk65, dT hk48, dF hk481, Bool.true_and, Bool.and_true, Bool.false_and, Bool.and_false, Bool.true_or, Bool.or_true, Bool.false_or, Bool.or_false, Bool.not_true, Bool.not_false]))) (Ln (eI (by simp) (e_K (hK13 _ _ _ _ (Cr (Zm rfl (Sv (o_addN rfl rfl (by omega)) (Za rfl (Ln (eR (σ := Nat × Bool) (s := ⟨j, x⟩) (⟨j + 1, (x || okK1 c.toNat g)⟩) ⟨rfl, rfl, rfl, rfl, rfl, rfl, rfl, trivial⟩ ⟨by omega, by rw [any_succ' _ hgj, ← hx], E⟩ (by dsimp only; omega))))))))))))
      ·exact tW 9 rfl (Sv ((o_as rfl).to (v' := .bool (x || okK1 c.toNat g)) (congrArg Value.bool (by simp only [okK1, bF hk0, dF hk97, dF hk65, dF hk48, Bool.true_and, Bool.and_true, Bool.false_and, Bool.and_false, Bool.true_or, Bool.or_true, Bool.false_or, Bool.or_false, Bool.not_true, Bool.not_false]))) (Ln (eI (by simp) (e_K (hK13 _ _ _ _ (Cr (Zm rfl (Sv (o_addN rfl rfl (by omega)) (Za rfl (Ln (eR (σ := Nat × Bool) (s := ⟨j, x⟩) (⟨j + 1, (x || okK1 c.toNat g)⟩) ⟨rfl, rfl, rfl, rfl, rfl, rfl, rfl, trivial⟩ ⟨by omega, by rw [any_succ' _ hgj, ← hx], E⟩ (by dsimp only; omega))))))))))))
  ·have hx1 : x = kinds.any (okK1 c.toNat) := by rw [hx, List.take_of_length_le (by omega)]
   refine c_exit (eT (by simp) (eT (by simp) (e_hit (e_K (hK9 _ _ _ _ (Cq fun K14 hK14 => Cq fun K15 hK15 => Cr (Za rfl (Ln (e_K (hK15 _ _ _ _ (cB (c_loop (σ := Nat × Bool) (fun ⟨j, x⟩ => [(0, S s), (1, S kinds), (2, S signs), (7, .int .i64 (i : Int)), (8, .int .u8 (c.toNat : Int)), (9, .bool x), (11, .int .i64 (j : Int))]) (fun ⟨j, x⟩ w1 => j ≤ signs.length ∧ x = (kinds.any (okK1 c.toNat) || (signs.take j).any (fun g => decide ((g.toNat : Int) = (c.toNat : Int)))) ∧ Mod [] w w1) (fun ⟨j, x⟩ => signs.length - j) (⟨0, x⟩) ⟨rfl, rfl, rfl, rfl, rfl, rfl, rfl, trivial⟩ (⟨by omega, by rw [hx1]; simp, E⟩) ?_))))))))))))
   rintro ⟨j, x⟩ w3 ⟨hj, hx, E⟩
   refine Cq fun K16 hK16 => Cq fun K17 hK17 => Cr (tW 2 rfl (Sv (o_slen Tryz.underlying9 rfl) (Sv (o_lss rfl rfl) (Ln (e_K (hK17 _ _ _ _ ?_))))))
   refine c_if rfl (fun h73 => ?_) (fun h73 => ?_)
   ·obtain ⟨g, hgj⟩ : ∃ g, signs[j]? = some g := ⟨_, List.getElem?_eq_getElem (by omega)⟩
    refine cK (e_K (hK16 _ _ _ _ (Cq fun K18 hK18 => cB (Cr (Zm rfl ?_)))))
    refine bB (fun hk0 : (x) = true => ?_) (fun hk0 => ?_)
    ·exact tW 7 rfl (Sv ((o_as rfl).to (v' := .bool (x || decide ((g.toNat : Int) = (c.toNat : Int)))) (congrArg Value.bool (by simp only [hk0, Bool.true_and, Bool.and_true, Bool.false_and, Bool.and_false, Bool.true_or, Bool.or_true, Bool.false_or, Bool.or_false, Bool.not_true, Bool.not_false]))) (Ln (eI (by simp) (e_K (hK18 _ _ _ _ (Cr (Zm rfl (Sv (o_addN rfl rfl (by omega)) (Za rfl (Ln (eR (σ := Nat × Bool) (s := ⟨j, x⟩) (⟨j + 1, (x || decide ((g.toNat : Int) = (c.toNat : Int)))⟩) ⟨rfl, rfl, rfl, rfl, rfl, rfl, rfl, trivial⟩ ⟨by omega, by rw [any_succ' _ hgj, ← Bool.or_assoc, ← hx], E⟩ (by dsimp only; omega))))))))))))
    ·refine tW 3 rfl (Sg rfl rfl (o_sidx Tryz.underlying9 rfl rfl (by omega) (by rw [Int.toNat_natCast]; exact hgj)) (tW 2 rfl ?_))
     refine bD (fun hk1 : (g.toNat : Int) = (c.toNat : Int) => ?_) (fun hk1 => ?_)
     ·exact Sv (oF rfl rfl rfl) (Sv ((o_as rfl).to (v' := .bool (x || decide ((g.toNat : Int) = (c.toNat : Int)))) (congrArg Value.bool (by simp only [bF hk0, dT hk1, Bool.true_and, Bool.and_true, Bool.false_and, Bool.and_false, Bool.true_or, Bool.or_true, Bool.false_or, Bool.or_false, Bool.not_true, Bool.not_false]))) (Ln (eI (by simp) (e_K (hK18 _ _ _ _ (Cr (Zm rfl (Sv (o_addN rfl rfl (by omega)) (Za rfl (Ln (eR (σ := Nat × Bool) (s := ⟨j, x⟩) (⟨j + 1, (x || decide ((g.toNat : Int) = (c.toNat : Int)))⟩) ⟨rfl, rfl, rfl, rfl, rfl, rfl, rfl, trivial⟩ ⟨by omega, by rw [any_succ' _ hgj, ← Bool.or_assoc, ← hx], E⟩ (by dsimp only; omega))))))))))))
     ·exact Sv (oF rfl rfl rfl) (Sv ((o_as rfl).to (v' := .bool (x || decide ((g.toNat : Int) = (c.toNat : Int)))) (congrArg Value.bool (by simp only [bF hk0, dF hk1, Bool.true_and, Bool.and_true, Bool.false_and, Bool.and_false, Bool.true_or, Bool.or_true, Bool.false_or, Bool.or_false, Bool.not_true, Bool.not_false]))) (Ln (eI (by simp) (e_K (hK18 _ _ _ _ (Cr (Zm rfl (Sv (o_addN rfl rfl (by omega)) (Za rfl (Ln (eR (σ := Nat × Bool) (s := ⟨j, x⟩) (⟨j + 1, (x || decide ((g.toNat : Int) = (c.toNat : Int)))⟩) ⟨rfl, rfl, rfl, rfl, rfl, rfl, rfl, trivial⟩ ⟨by omega, by rw [any_succ' _ hgj, ← Bool.or_assoc, ← hx], E⟩ (by dsimp only; omega))))))))))))
   ·have hok : x = okQ kinds signs c.toNat := by rw [hx, List.take_of_length_le (by omega)]; rfl
    refine c_exit (eT (by simp) (eT (by simp) (e_hit (e_K (hK14 _ _ _ _ (Cq fun K19 hK19 => Cr (tW 2 rfl (Ln (e_K (hK19 _ _ _ _ ?_))))))))))
    refine c_cond rfl (fun h85 => ?_) (fun h85 => ?_)
    ·have hR : allB (okQ kinds signs) s = false := allB_no hc (by rw [← hok]; simpa using h85)
     exact Cq fun K20 hK20 => Cr (Za rfl (Ln (e_K (hK20 _ _ _ _ (cR (eI (by simp) (eT (by simp) (eT (by simp) (eI (by simp) (eT (by simp) (ret1 rfl rfl ⟨by rw [hR], E⟩)))))))))))
    ·have hnx := all_succ hc ha (show okQ kinds signs c.toNat = true by rw [← hok]; simpa using h85)
     exact cK (eI (by simp) (e_K (hK6 _ _ _ _ (Cr (Zm rfl (Sv (o_addN rfl rfl (by omega)) (Za rfl (Ln (eR (σ := Nat) (s := i) (i + 1) ⟨rfl, rfl, rfl, rfl, trivial⟩ ⟨by omega, hnx, E⟩ (by omega))))))))))
 ·have hR := allB_yes (q := okQ kinds signs) (by omega) ha
  exact c_exit (eT (by simp) (eT (by simp) (e_hit (e_K (hK2 _ _ _ _ (Cq fun K21 hK21 => Cr (Zm rfl (Sv (o_sne rfl rfl) (Za rfl (Ln (e_K (hK21 _ _ _ _ (cR (ret1 rfl rfl ⟨by rw [hR], E⟩))))))))))))))

theorem c_ofq (w : World) (s kinds signs : Str) (q : Nat → Bool) (hq : ∀ b : UInt8, q b.toNat = okQ kinds signs b.toNat) (hs : s.length ≤ 140737488351232) (hk : kinds.length ≤ 100) (hg : signs.length ≤ 100) : Calls Tryz.prog 127 [S s, S kinds, S signs].toArray w (Ret fun u w' => u = .bool (allB q s) ∧ Mod [] w w') := by
 rw [allB_congr hq s]
 exact c_of w s kinds signs hs hk hg

theorem c_serverR (w : World) (s : Str) (hs : s.length ≤ 140737488351232) : Calls Tryz.prog 67 [S s].toArray w (Ret fun u w' => u = .bool (serverB s) ∧ Mod [] w w') := by
 refine enter Tryz.func67 rfl rfl rfl (l := [(0, _)]) ⟨rfl, trivial⟩ ?_
 have E := Mod.refl [] w
 have hcl := colon_le s
 refine Cq fun K1 hK1 => Cr (Za rfl (Ln (e_K (hK1 _ _ _ _ (Cq fun K2 hK2 => Cr (Zm rfl (sc (oC ent126 rfl) (c_colon _ _ (by omega)) rfl fun v_ w1 h_ => ?_)))))))
 obtain ⟨rfl, E_⟩ := h_
 replace E := E.then E_
 refine Za rfl (Ln (e_K (hK2 _ _ _ _ (Cq fun K3 hK3 => Cq fun K4 hK4 => Cr (Zm rfl (Sv (o_slen Tryz.underlying9 rfl) (Sv (o_gtr rfl rfl) ?_)))))))
 refine bD (fun hk0 : (s.length : Int) > 255 => ?_) (fun hk0 => ?_)
 ·refine tW 7 rfl (Ln (e_K (hK4 _ _ _ _ (c_true rfl ?_))))
  have hF : serverB s = false := by rw [serverB, show decide (s.length ≤ 255) = false from dF (by omega)]; simp
  exact Cq fun K5 hK5 => Cr (Za rfl (Ln (e_K (hK5 _ _ _ _ (cR (eT (by simp) (ret1 rfl rfl ⟨by rw [hF], E⟩)))))))
 ·refine tW 3 rfl (Sg rfl rfl (o_ssto Tryz.underlying9 rfl rfl hcl) (sgc rfl rfl (oC ent127 rfl) (c_ofq _ (s.take (colonAt s)) [97, 48] [46, 45] _ q_server (by have := colon_le s; simp only [List.length_take, List.length_drop]; omega) (by simp) (by simp)) rfl fun v_ w2 h_ => ?_))
  obtain ⟨rfl, E_⟩ := h_
  replace E := E.then E_
  refine Sg rfl rfl (o_not rfl) ?_
  refine bB (fun hk1 : (!allB qServer (s.take (colonAt s))) = true => ?_) (fun hk1 => ?_)
  ·refine Sv (oF rfl rfl rfl) (Ln (e_K (hK4 _ _ _ _ (c_true rfl ?_))))
   have hF : serverB s = false := by rw [serverB, show allB qServer (s.take (colonAt s)) = false by simpa using hk1]; simp
   exact Cq fun K6 hK6 => Cr (Za rfl (Ln (e_K (hK6 _ _ _ _ (cR (eT (by simp) (ret1 rfl rfl ⟨by rw [hF], E⟩)))))))
  ·refine Sv (oF rfl rfl rfl) (Ln (e_K (hK4 _ _ _ _ (c_false rfl ?_))))
   have hA : allB qServer (s.take (colonAt s)) = true := by simpa using hk1
   have hL : decide (s.length ≤ 255) = true := dT (by omega)
   refine cK (e_K (hK3 _ _ _ _ (Cq fun K7 hK7 => Cr (tW 2 rfl (Sv (o_slen Tryz.underlying9 rfl) (Sv (oE rfl rfl) ?_))))))
   refine bD (fun hk2 : (colonAt s : Int) = (s.length : Int) => ?_) (fun hk2 => ?_)
   ·exact tW 15 rfl (Ln (e_K (hK7 _ _ _ _ (cR (ret1 rfl rfl ⟨congrArg Value.bool (by rw [serverB, hA, hL, server_i1, server_i2]; simp only [dT hk2, Bool.true_and, Bool.and_true, Bool.false_and, Bool.and_false, Bool.true_or, Bool.or_true, Bool.false_or, Bool.or_false, Bool.not_true, Bool.not_false]), E⟩)))))
   ·refine tW 2 rfl (Sg rfl rfl (o_slen Tryz.underlying9 rfl) (Sg rfl rfl (oM rfl) (Sg rfl rfl (o_subE (r := ((s.length - colonAt s : Nat) : Int)) rfl rfl (by rw [wrap64_in _ (by omega)]; omega)) (Sg rfl rfl (o_leq rfl rfl) ?_))))
    refine bD (fun hk3 : ((s.length - colonAt s : Nat) : Int) ≤ 6 => ?_) (fun hk3 => ?_)
    ·refine tW 3 rfl (Sg rfl rfl (o_addE (r := ((colonAt s + 1 : Nat) : Int)) rfl rfl (by rw [wrap64_in _ (by omega)]; omega)) (Sg rfl rfl (o_ssfrom Tryz.underlying9 rfl rfl (by omega)) (sgc rfl rfl (oC ent127 rfl) (c_ofq _ (s.drop (colonAt s + 1)) [48] [] _ q_digit (by have := colon_le s; simp only [List.length_take, List.length_drop]; omega) (by simp) (by simp)) rfl fun v_ w3 h_ => ?_)))
     obtain ⟨rfl, E_⟩ := h_
     replace E := E.then E_
     refine bB (fun hk4 : (allB kD (s.drop (colonAt s + 1))) = true => ?_) (fun hk4 => ?_)
     ·exact tW 3 rfl (Ln (e_K (hK7 _ _ _ _ (cR (ret1 rfl rfl ⟨congrArg Value.bool (by rw [serverB, hA, hL, server_i1, server_i2]; simp only [dF hk2, dT hk3, hk4, Bool.true_and, Bool.and_true, Bool.false_and, Bool.and_false, Bool.true_or, Bool.or_true, Bool.false_or, Bool.or_false, Bool.not_true, Bool.not_false]), E⟩)))))
     ·exact tW 3 rfl (Ln (e_K (hK7 _ _ _ _ (cR (ret1 rfl rfl ⟨congrArg Value.bool (by rw [serverB, hA, hL, server_i1, server_i2]; simp only [dF hk2, dT hk3, bF hk4, Bool.true_and, Bool.and_true, Bool.false_and, Bool.and_false, Bool.true_or, Bool.or_true, Bool.false_or, Bool.or_false, Bool.not_true, Bool.not_false]), E⟩)))))
    ·exact tW 9 rfl (Ln (e_K (hK7 _ _ _ _ (cR (ret1 rfl rfl ⟨congrArg Value.bool (by rw [serverB, hA, hL, server_i1, server_i2]; simp only [dF hk2, dF hk3, Bool.true_and, Bool.and_true, Bool.false_and, Bool.and_false, Bool.true_or, Bool.or_true, Bool.false_or, Bool.or_false, Bool.not_true, Bool.not_false]), E⟩)))))

theorem c_named (w : World) (s : Str) (sign : UInt8) (kinds signs : Str) (q : Nat → Bool) (hq : ∀ b : UInt8, q b.toNat = okQ kinds signs b.toNat) (h58 : sign ≠ 58) (hs : s.length ≤ 140737488351232) (hk : kinds.length ≤ 100) (hg : signs.length ≤ 100) : Calls Tryz.prog 128 [S s, .int .u8 (sign.toNat : Int), S kinds, S signs].toArray w (Ret fun u w' => u = .bool (namedB sign q s) ∧ Mod [] w w') := by
 refine enter Tryz.func128 rfl rfl rfl (l := [(0, _), (1, _), (2, _), (3, _)]) ⟨rfl, rfl, rfl, rfl, trivial⟩ ?_
 have E := Mod.refl [] w
 have hcl := colon_le s
 refine Cq fun K1 hK1 => Cr (Za rfl (Ln (e_K (hK1 _ _ _ _ (Cq fun K2 hK2 => Cr (Zm rfl (sc (oC ent126 rfl) (c_colon _ _ (by omega)) rfl fun v_ w1 h_ => ?_)))))))
 obtain ⟨rfl, E_⟩ := h_
 replace E := E.then E_
 refine Za rfl (Ln (e_K (hK2 _ _ _ _ (Cq fun K3 hK3 => Cr (Zm rfl (Sv (o_slen Tryz.underlying9 rfl) (Sv (o_leq rfl rfl) ?_)))))))
 refine bD (fun hk0 : (s.length : Int) ≤ 255 => ?_) (fun hk0 => ?_)
 ·refine tW 3 rfl (Sg rfl rfl (o_slen Tryz.underlying9 rfl) (Sg rfl rfl (o_lss rfl rfl) ?_))
  refine bD (fun hk1 : (colonAt s : Int) < (s.length : Int) => ?_) (fun hk1 => ?_)
  ·refine tW 4 rfl ?_
   refine bD (fun hk2 : (colonAt s : Int) > 0 => ?_) (fun hk2 => ?_)
   ·obtain ⟨b0, hb0⟩ : ∃ b, s[0]? = some b := ⟨_, List.getElem?_eq_getElem (by omega)⟩
    have hhd := head_dec (sign := sign) hb0
    refine tW 3 rfl (Sg rfl rfl (o_sidx Tryz.underlying9 rfl rfl (by omega) hb0) (tW 2 rfl ?_))
    refine bD (fun hk3 : (b0.toNat : Int) = (sign.toNat : Int) => ?_) (fun hk3 => ?_)
    ·refine tW 4 rfl (Sg rfl rfl (o_ssmid (m := 1) Tryz.underlying9 rfl rfl rfl (by omega)) (tW 2 rfl (sgc rfl rfl (oC ent127 rfl) (c_ofq _ ((s.take (colonAt s)).drop 1) kinds signs q hq (by have := colon_le s; simp only [List.length_take, List.length_drop]; omega) hk hg) rfl fun v_ w2 h_ => ?_)))
     obtain ⟨rfl, E_⟩ := h_
     replace E := E.then E_
     refine bB (fun hk4 : (allB q ((s.take (colonAt s)).drop 1)) = true => ?_) (fun hk4 => ?_)
     ·refine tW 4 rfl (Sg rfl rfl (o_addE (r := ((colonAt s + 1 : Nat) : Int)) rfl rfl (by rw [wrap64_in _ (by omega)]; omega)) (Sg rfl rfl (o_ssfrom Tryz.underlying9 rfl rfl (by omega)) (sgc rfl rfl (oC ent67 rfl) (c_serverR _ (s.drop (colonAt s + 1)) (by have := colon_le s; simp only [List.length_take, List.length_drop]; omega)) rfl fun v_ w3 h_ => ?_)))
      obtain ⟨rfl, E_⟩ := h_
      replace E := E.then E_
      refine bB (fun hk5 : (serverB (s.drop (colonAt s + 1))) = true => ?_) (fun hk5 => ?_)
      ·exact tW 2 rfl (Ln (e_K (hK3 _ _ _ _ (cR (ret1 rfl rfl ⟨congrArg Value.bool (by rw [named_form]; simp only [hhd, dT hk0, dT hk1, dT hk2, dT hk3, hk4, hk5, Bool.true_and, Bool.and_true, Bool.false_and, Bool.and_false, Bool.true_or, Bool.or_true, Bool.false_or, Bool.or_false, Bool.not_true, Bool.not_false]), E⟩)))))
      ·exact tW 2 rfl (Ln (e_K (hK3 _ _ _ _ (cR (ret1 rfl rfl ⟨congrArg Value.bool (by rw [named_form]; simp only [hhd, dT hk0, dT hk1, dT hk2, dT hk3, hk4, bF hk5, Bool.true_and, Bool.and_true, Bool.false_and, Bool.and_false, Bool.true_or, Bool.or_true, Bool.false_or, Bool.or_false, Bool.not_true, Bool.not_false]), E⟩)))))
     ·exact tW 9 rfl (Ln (e_K (hK3 _ _ _ _ (cR (ret1 rfl rfl ⟨congrArg Value.bool (by rw [named_form]; simp only [hhd, dT hk0, dT hk1, dT hk2, dT hk3, bF hk4, Bool.true_and, Bool.and_true, Bool.false_and, Bool.and_false, Bool.true_or, Bool.or_true, Bool.false_or, Bool.or_false, Bool.not_true, Bool.not_false]), E⟩)))))
    ·exact tW 17 rfl (Ln (e_K (hK3 _ _ _ _ (cR (ret1 rfl rfl ⟨congrArg Value.bool (by rw [named_form]; simp only [hhd, dT hk0, dT hk1, dT hk2, dF hk3, Bool.true_and, Bool.and_true, Bool.false_and, Bool.and_false, Bool.true_or, Bool.or_true, Bool.false_or, Bool.or_false, Bool.not_true, Bool.not_false]), E⟩)))))
   ·have hh0 := head_no h58 hk2
    exact tW 23 rfl (Ln (e_K (hK3 _ _ _ _ (cR (ret1 rfl rfl ⟨congrArg Value.bool (by rw [named_form]; simp only [hh0, dT hk0, dT hk1, dF hk2, Bool.true_and, Bool.and_true, Bool.false_and, Bool.and_false, Bool.true_or, Bool.or_true, Bool.false_or, Bool.or_false, Bool.not_true, Bool.not_false]), E⟩)))))
  ·exact tW 27 rfl (Ln (e_K (hK3 _ _ _ _ (cR (ret1 rfl rfl ⟨congrArg Value.bool (by rw [named_form]; simp only [dT hk0, dF hk1, Bool.true_and, Bool.and_true, Bool.false_and, Bool.and_false, Bool.true_or, Bool.or_true, Bool.false_or, Bool.or_false, Bool.not_true, Bool.not_false]), E⟩)))))
 ·exact tW 32 rfl (Ln (e_K (hK3 _ _ _ _ (cR (ret1 rfl rfl ⟨congrArg Value.bool (by rw [named_form]; simp only [dF hk0, Bool.true_and, Bool.and_true, Bool.false_and, Bool.and_false, Bool.true_or, Bool.or_true, Bool.false_or, Bool.or_false, Bool.not_true, Bool.not_false]), E⟩)))))

theorem c_userR (w : World) (s : Str) (hs : s.length ≤ 140737488351232) : Calls Tryz.prog 71 [S s].toArray w (Ret fun u w' => u = .bool (namedB 64 qUser s) ∧ Mod [] w w') := by
 refine enter Tryz.func71 rfl rfl rfl (l := [(0, _)]) ⟨rfl, trivial⟩ ?_
 have E := Mod.refl [] w
 refine Cq fun K1 hK1 => Cr (Za rfl (Ln (e_K (hK1 _ _ _ _ (Cq fun K2 hK2 => Cr (Zm rfl (sc (oC ent128 rfl) (c_named _ s 64 [97, 48] userS qUser q_user (by decide) hs (by simp) (by simp)) rfl fun v_ w1 h_ => ?_)))))))
 obtain ⟨rfl, E_⟩ := h_
 replace E := E.then E_
 exact Za rfl (Ln (e_K (hK2 _ _ _ _ (cR (ret1 rfl rfl ⟨rfl, E⟩)))))

theorem c_roomR (w : World) (s : Str) (hs : s.length ≤ 140737488351232) : Calls Tryz.prog 70 [S s].toArray w (Ret fun u w' => u = .bool (namedB 33 qRoom s) ∧ Mod [] w w') := by
 refine enter Tryz.func70 rfl rfl rfl (l := [(0, _)]) ⟨rfl, trivial⟩ ?_
 have E := Mod.refl [] w
 refine Cq fun K1 hK1 => Cr (Za rfl (Ln (e_K (hK1 _ _ _ _ (Cq fun K2 hK2 => Cr (Zm rfl (sc (oC ent128 rfl) (c_named _ s 33 [97, 65, 48] [95, 45] qRoom q_room (by decide) hs (by simp) (by simp)) rfl fun v_ w1 h_ => ?_)))))))
 obtain ⟨rfl, E_⟩ := h_
 replace E := E.then E_
 exact Za rfl (Ln (e_K (hK2 _ _ _ _ (cR (ret1 rfl rfl ⟨rfl, E⟩)))))

theorem c_keyR (w : World) (s : Str) (hs : s.length ≤ 140737488351232) : Calls Tryz.prog 68 [S s].toArray w (Ret fun u w' => u = .bool (keyB s) ∧ Mod [] w w') := by
 refine enter Tryz.func68 rfl rfl rfl (l := [(0, _)]) ⟨rfl, trivial⟩ ?_
 have E := Mod.refl [] w
 refine Cq fun K1 hK1 => Cr (Za rfl (Ln (e_K (hK1 _ _ _ _ (Cq fun K2 hK2 => Cr (Zm rfl (Sv (o_slen Tryz.underlying9 rfl) (Sv (o_leq rfl rfl) ?_))))))))
 refine bD (fun hk0 : (s.length : Int) ≤ 255 => ?_) (fun hk0 => ?_)
 ·refine tW 2 rfl (Sg rfl rfl (o_slen Tryz.underlying9 rfl) (Sg rfl rfl (o_gtr rfl rfl) ?_))
  refine bD (fun hk1 : (s.length : Int) > 8 => ?_) (fun hk1 => ?_)
  ·refine tW 3 rfl (Sg rfl rfl (o_ssto (n := 8) Tryz.underlying9 rfl rfl (by omega)) (Sg rfl rfl (o_seq rfl rfl) ?_))
   refine bD (fun hk2 : s.take 8 = edS => ?_) (fun hk2 => ?_)
   ·refine tW 3 rfl (Sg rfl rfl (o_ssfrom (n := 8) Tryz.underlying9 rfl rfl (by omega)) (sgc rfl rfl (oC ent127 rfl) (c_ofq _ (s.drop 8) [97, 65, 48] [95] _ q_key (by simp only [List.length_drop]; omega) (by simp) (by simp)) rfl fun v_ w1 h_ => ?_))
    obtain ⟨rfl, E_⟩ := h_
    replace E := E.then E_
    refine bB (fun hk3 : (allB qKey (s.drop 8)) = true => ?_) (fun hk3 => ?_)
    ·exact tW 2 rfl (Ln (e_K (hK2 _ _ _ _ (cR (ret1 rfl rfl ⟨congrArg Value.bool (by rw [keyB, len_e3]; simp only [dT hk0, dT hk1, dT hk2, hk3, Bool.true_and, Bool.and_true, Bool.false_and, Bool.and_false, Bool.true_or, Bool.or_true, Bool.false_or, Bool.or_false, Bool.not_true, Bool.not_false]), E⟩)))))
    ·exact tW 2 rfl (Ln (e_K (hK2 _ _ _ _ (cR (ret1 rfl rfl ⟨congrArg Value.bool (by rw [keyB, len_e3]; simp only [dT hk0, dT hk1, dT hk2, bF hk3, Bool.true_and, Bool.and_true, Bool.false_and, Bool.and_false, Bool.true_or, Bool.or_true, Bool.false_or, Bool.or_false, Bool.not_true, Bool.not_false]), E⟩)))))
   ·exact tW 7 rfl (Ln (e_K (hK2 _ _ _ _ (cR (ret1 rfl rfl ⟨congrArg Value.bool (by rw [keyB, len_e3]; simp only [dT hk0, dT hk1, dF hk2, Bool.true_and, Bool.and_true, Bool.false_and, Bool.and_false, Bool.true_or, Bool.or_true, Bool.false_or, Bool.or_false, Bool.not_true, Bool.not_false]), E⟩)))))
  ·have h0 : allB qKey (s.drop 8) = false := by rw [List.drop_eq_nil_of_le (by omega)]; rfl
   exact tW 12 rfl (Ln (e_K (hK2 _ _ _ _ (cR (ret1 rfl rfl ⟨congrArg Value.bool (by rw [keyB, len_e3]; simp only [h0, dT hk0, dF hk1, Bool.true_and, Bool.and_true, Bool.false_and, Bool.and_false, Bool.true_or, Bool.or_true, Bool.false_or, Bool.or_false, Bool.not_true, Bool.not_false]), E⟩)))))
 ·exact tW 16 rfl (Ln (e_K (hK2 _ _ _ _ (cR (ret1 rfl rfl ⟨congrArg Value.bool (by rw [keyB, len_e3]; simp only [dF hk0, Bool.true_and, Bool.and_true, Bool.false_and, Bool.and_false, Bool.true_or, Bool.or_true, Bool.false_or, Bool.or_false, Bool.not_true, Bool.not_false]), E⟩)))))
end Go.Proofs.YtknndpjacklkeaaGreatDoor.V

set_option linter.unusedVariables false
set_option linter.unusedSimpArgs false
namespace Go.Proofs.YtknndpjacklkeaaGreatDoor.V
open Go
def abs64 (s : S8) (l : List UInt8) : Nat → S8
 | 0 => s
 | k + 1 => comp (abs64 s l k) (l.drop (64 * k))
theorem ob_adS {ad : Option Addr} {c lo sz n c' n' c'' : Nat} : ∀ x ∈ ob (.slice (adS ad c lo sz) n' c'), x ∈ ob (.slice ad n c'') := by
 intro x hx
 cases ad with
 | none =>
  unfold adS at hx
  split at hx <;> simp [ob] at hx
 | some a =>
  unfold adS at hx
  split at hx
  ·simpa [ob] using hx
  ·simp [ob, add_block] at hx
   simp [ob, hx]
theorem bytes_one {b : List UInt8} : ∀ x ∈ b, ∀ c ∈ bcells x, c.oneCell' = true := by
 intro x _ c hc
 simp at hc
 subst hc
 rfl
theorem Own.byts {w : World} {e n : Nat} {v : Value} {b : List UInt8} (A : List Nat) (h : Own w e 1 v n ((b.map bcells).flatten)) (hn : b.length = n) (hA : ∀ x ∈ ob v, x ∉ A) : Rep A w (byD b) v := Own.flat h (fun _ _ => rfl) bytes_one hn hA
theorem Own.as {w : World} {e sz m n : Nat} {v : Value} {us vs : List Value} (h : Own w e sz v n vs) (hm : n = m) (hv : vs = us) : Own w e sz v m us := by
 subst hm; subst hv; exact h
theorem flat_blen (m : List UInt8) : ((m.map bcells).flatten).length = m.length := by
 induction m with
 | nil => rfl
 | cons x m ih => simp [ih]
theorem Own.drop64 {w : World} {e c : Nat} {ad : Option Addr} {l : List UInt8} {k : Nat} (h : Own w e 1 (.slice ad (l.length - 64 * k) c) (l.length - 64 * k) (((l.drop (64 * k)).map bcells).flatten)) (hk : 64 ≤ l.length - 64 * k) :
  Own w e 1 (.slice (adS ad c 64 1) (l.length - 64 * k - 64) (c - 64)) (l.length - 64 * k - 64) (((l.drop (64 * (k + 1))).map bcells).flatten) := by
 have h1 := h.cut (lo := 64) (hi := l.length - 64 * k) hk (Nat.le_refl _)
 refine h1.as rfl ?_
 have h2 := flat_drop_ (cells := bcells) (sz := 1) (xs := l.drop (64 * k)) (fun _ => rfl) 64
 rw [h2, List.drop_drop, List.take_of_length_le]
 ·rfl
 ·rw [flat_blen, List.length_drop]
  omega
end Go.Proofs.YtknndpjacklkeaaGreatDoor.V

set_option linter.unusedVariables false
set_option linter.unusedSimpArgs false
namespace Go.Proofs.YtknndpjacklkeaaGreatDoor.V
open Go
def padz (m : Nat) : Nat := (119 - m % 64) % 64
theorem padz_at {m j : Nat} (hj : j ≤ padz m) : (m + 1 + j) % 64 = 56 ↔ j = padz m := by
 unfold padz at *
 omega
def lenb (n i : Nat) : UInt8 := UInt8.ofNat (n * 8 / 256 ^ i)
def lens (n k : Nat) : List UInt8 := (List.range k).map fun i => lenb n (7 - i)
theorem lens_succ (n k : Nat) : lens n (k + 1) = lens n k ++ [lenb n (7 - k)] := by
 simp [lens, List.range_succ]
def padL (m n : Nat) : List UInt8 := 128 :: List.replicate (padz m) 0 ++ lens n 8
theorem padL_len (m n : Nat) : (m + (padL m n).length) % 64 = 0 := by
 simp only [padL, lens, List.length_append, List.length_cons, List.length_replicate, List.length_map, List.length_range, padz]
 omega
def wb (x : UInt32) (j : Nat) : UInt8 := (x >>> UInt32.ofNat (8 * j)).toUInt8
def outB (s : S8) (k : Nat) : List UInt8 := (List.range k).map fun i => wb (at32 s.list (i / 4)) (3 - i % 4)
theorem outB_len (s : S8) (k : Nat) : (outB s k).length = k := by simp [outB]
theorem outB_succ (s : S8) (k : Nat) : outB s (k + 1) = outB s k ++ [wb (at32 s.list (k / 4)) (3 - k % 4)] := by
 simp [outB, List.range_succ]
def rowB (xs : List UInt8) (n : Nat) : List Value := xs.map B8 ++ List.replicate (n - xs.length) (B8 0)
theorem rowB_len {xs : List UInt8} {n : Nat} (h : xs.length ≤ n) : (rowB xs n).length = n := by
 simp only [rowB, List.length_append, List.length_map, List.length_replicate]
 omega
theorem rowB_set {xs : List UInt8} {n : Nat} {x : UInt8} (h : xs.length < n) : (rowB xs n).set xs.length (B8 x) = rowB (xs ++ [x]) n := by
 have h1 : n - xs.length = (n - (xs.length + 1)) + 1 := by omega
 rw [rowB, rowB, List.set_append_right _ _ (by simp), h1, List.replicate_succ]
 simp
theorem rowB_nil : rowB [] 32 = List.replicate 32 (.int .u8 0) := rfl
theorem rowB_all {xs : List UInt8} {n : Nat} (h : xs.length = n) : rowB xs n = xs.map B8 := by
 rw [rowB, h]
 simp
def fin64 (s : S8) (wt : List UInt8) (n : Nat) : S8 := abs64 s (wt ++ padL wt.length n) ((wt ++ padL wt.length n).length / 64)
theorem conv_len (n i : Nat) (h : n ≤ 1000000) : IntKind.u8.wrap (((n * 8 / 256 ^ i : Nat)) : Int) = ((lenb n i).toNat : Int) := by
 have h1 : IntKind.u8.wrap (((n * 8 / 256 ^ i : Nat)) : Int) = (((n * 8 / 256 ^ i : Nat)) : Int) % 256 := by simp [IntKind.wrap, IntKind.bits, IntKind.signed]
 rw [h1, lenb, UInt8.toNat_ofNat']
 omega
theorem byt_snoc {w : World} {e n n' : Nat} {v : Value} {l l' : List UInt8} (c : UInt8) (h : Own w e 1 v (n + 1) ((l.map bcells).flatten ++ [B8 c])) (hl : l' = l ++ [c]) (hn : n + 1 = n') : Own w e 1 v n' ((l'.map bcells).flatten) := by
 subst hl; subst hn
 simpa using h
theorem s8_get' {s : S8} {tl : List Value} {i : Nat} (h : i < 8) : (s.cells ++ tl)[i]? = some (W4 (at32 s.list i)) := by
 rw [List.getElem?_append_left (show i < s.cells.length from h)]
 exact s8_get h
theorem out_step {w : World} {g T k : Nat} {F : S8} (hk : k < 32) (B : Blk w g T ((rowB (outB F k) 32).set k (B8 (wb (at32 F.list (k / 4)) (3 - k % 4))))) : Blk w g T (rowB (outB F (k + 1)) 32) := by
 have h := rowB_set (xs := outB F k) (n := 32) (x := wb (at32 F.list (k / 4)) (3 - k % 4)) (by rw [outB_len]; exact hk)
 rw [outB_len, ← outB_succ] at h
 rw [h] at B
 exact B
theorem shr_len (n i : Nat) (hi : i ≤ 7) : ((n * 8 : Nat) : Int).fdiv (2 ^ (min (((8 * i : Nat) : Int).toNat) IntKind.u64.bits)) = ((n * 8 / 256 ^ i : Nat) : Int) := by
 have h1 : min (((8 * i : Nat) : Int).toNat) IntKind.u64.bits = 8 * i := by
  show min (((8 * i : Nat) : Int).toNat) 64 = 8 * i
  simp only [Int.toNat_natCast]
  omega
 have h2 : (2 : Int) ^ (8 * i) = ((256 ^ i : Nat) : Int) := by
  rw [Int.natCast_pow, Int.pow_mul]
  rfl
 rw [h1, h2, Int.fdiv_eq_ediv_of_nonneg _ (Int.natCast_nonneg _)]
 rfl
end Go.Proofs.YtknndpjacklkeaaGreatDoor.V

set_option linter.unusedVariables false
set_option linter.unusedSimpArgs false
namespace Go.Proofs.YtknndpjacklkeaaGreatDoor.V
open Go
def sha (b : List UInt8) : List UInt8 := outB (fin64 (abs64 s8of b (b.length / 64)) (b.drop (64 * (b.length / 64))) b.length) 32
def lensR (n : Nat) : Nat → List UInt8
 | 0 => []
 | k + 1 => lenb n k :: lensR n k
theorem lensR_all (n : Nat) : lensR n 8 = lens n 8 := rfl
theorem lensR_len (n : Nat) : ∀ k, (lensR n k).length = k
 | 0 => rfl
 | k + 1 => by simp [lensR, lensR_len n k]
def restN (n k : Nat) : Nat := if k = 0 then n else n * 8 / 256 ^ k
theorem restN_first (n : Nat) : n / 32 = restN n 1 := by
 unfold restN
 rw [if_neg (by omega), Nat.pow_one]
 omega
theorem restN_succ (n k : Nat) (h : k ≠ 0) : restN n k / 256 = restN n (k + 1) := by
 unfold restN
 rw [if_neg h, if_neg (by omega), Nat.div_div_eq_div_mul, Nat.pow_succ]
theorem restN_le (n k : Nat) : restN n k ≤ n * 8 := by
 unfold restN
 split
 ·omega
 ·exact Nat.div_le_self _ _
theorem conv_first (n : Nat) : IntKind.u8.wrap (((n % 32 * 8 : Nat)) : Int) = ((lenb n 0).toNat : Int) := by
 have h1 : IntKind.u8.wrap (((n % 32 * 8 : Nat)) : Int) = (((n % 32 * 8 : Nat)) : Int) % 256 := by simp [IntKind.wrap, IntKind.bits, IntKind.signed]
 rw [h1, lenb, UInt8.toNat_ofNat', Nat.pow_zero, Nat.div_one]
 omega
theorem conv_next (n k : Nat) (h : k ≠ 0) : IntKind.u8.wrap (((restN n k % 256 : Nat)) : Int) = ((lenb n k).toNat : Int) := by
 have h1 : IntKind.u8.wrap (((restN n k % 256 : Nat)) : Int) = (((restN n k % 256 : Nat)) : Int) % 256 := by simp [IntKind.wrap, IntKind.bits, IntKind.signed]
 rw [h1, lenb, UInt8.toNat_ofNat', restN, if_neg h]
 omega
theorem flat_b1 {b : List UInt8} : ∀ u ∈ (b.map bcells).flatten, u.oneCell' = true := by
 intro u hu
 obtain ⟨l, hl, hu⟩ := List.mem_flatten.1 hu
 obtain ⟨x, _, rfl⟩ := List.mem_map.1 hl
 simp at hu
 subst hu
 rfl
end Go.Proofs.YtknndpjacklkeaaGreatDoor.V

set_option linter.unusedVariables false
set_option linter.unusedSimpArgs false
namespace Go.Proofs.YtknndpjacklkeaaGreatDoor.V
open Go
theorem sch_pre {b b' : List UInt8} (h : b.take 64 = b'.take 64) : ∀ i, sch b i = sch b' i
 | 0 => rfl
 | i + 1 => by
  have hi := sch_pre h i
  by_cases h16 : i < 16
  ·have h1 : ∀ c : List UInt8, (c.drop (4 * i)).take 4 = ((c.take 64).drop (4 * i)).take 4 := by
    intro c
    rw [List.drop_take, List.take_take]
    congr 1
    omega
   simp only [sch, if_pos h16, hi]
   rw [h1 b, h1 b', h]
  ·simp only [sch, if_neg h16, hi]
theorem comp_pre {s : S8} {b b' : List UInt8} (h : b.take 64 = b'.take 64) : comp s b = comp s b' := by
 rw [comp, comp, sch_pre h]
theorem comp_take (s : S8) (b : List UInt8) : comp s (b.take 64) = comp s b := comp_pre (by rw [List.take_take]; rfl)
theorem abs64_pre {s : S8} {l p : List UInt8} : ∀ {k : Nat}, 64 * k ≤ l.length → abs64 s (l ++ p) k = abs64 s l k
 | 0, _ => rfl
 | k + 1, h => by
  rw [abs64, abs64, abs64_pre (by omega)]
  refine comp_pre ?_
  rw [List.drop_append_of_le_length (by omega), List.take_append_of_le_length (by rw [List.length_drop]; omega)]
theorem abs64_add {s : S8} {l : List UInt8} {k : Nat} : ∀ {m : Nat}, abs64 s l (k + m) = abs64 (abs64 s l k) (l.drop (64 * k)) m
 | 0 => rfl
 | m + 1 => by
  rw [show k + (m + 1) = (k + m) + 1 from rfl, abs64, abs64, abs64_add, List.drop_drop]
  congr 2
  omega
theorem padL_mod {m m' n : Nat} (h : m % 64 = m' % 64) : padL m n = padL m' n := by
 rw [padL, padL, padz, padz, h]
theorem sha_eq (b : List UInt8) : outB (abs64 s8of (b ++ padL b.length b.length) ((b ++ padL b.length b.length).length / 64)) 32 = sha b := by
 have hk : 64 * (b.length / 64) ≤ b.length := by omega
 have hp : padL (b.drop (64 * (b.length / 64))).length b.length = padL b.length b.length := padL_mod (by rw [List.length_drop]; omega)
 rw [sha, fin64, hp]
 congr 1
 have hd : (b ++ padL b.length b.length).drop (64 * (b.length / 64)) = b.drop (64 * (b.length / 64)) ++ padL b.length b.length := List.drop_append_of_le_length hk
 rw [← hd, ← abs64_pre (p := padL b.length b.length) hk, ← abs64_add]
 congr 1
 rw [List.length_drop]
 have : b.length ≤ (b ++ padL b.length b.length).length := by rw [List.length_append]; omega
 omega
theorem flat_B8 (l : List UInt8) : (l.map bcells).flatten = l.map B8 := by
 induction l with
 | nil => rfl
 | cons x l ih => simp [ih]
section
variable {P : Program} {l : List (Nat × Value)} {w : World} {ty : TypeId} {pos : String} {af : Array Edge}
variable {dd : Option Nat} {gg : Option (Nat × Bool)} {x y : Operand} {t : TypeId}
theorem o_slft {ad : Option Addr} {c c' e sz by_ lo hi : Nat} {h h' : Operand} (ht : slB P t e sz by_ = true) (hx : evO l x = some (.slice ad c c')) (hl : evO l h = some (.int .i64 (lo : Int))) (hh : evO l h' = some (.int .i64 (hi : Int))) (hb : lo ≤ hi ∧ hi ≤ c') (hc : c ≤ c') :
  Runs P l ⟨dd, .slice t x (some h) (some h') none, ty, pos, af, gg⟩ w (.slice (adS ad c' lo sz) (hi - lo) (c' - lo)) w := by
 have := o_sl (P := P) (w := w) (dd := dd) (ty := ty) (pos := pos) (af := af) (gg := gg) ht hx (lo := some h) (pl := some (.i64, (lo : Int))) (hi := some h') (ph := some (.i64, (hi : Int))) (by simp [evS, hl]) (by simp [evS, hh]) (by simp only [loV, hiV]; omega) hc
 refine this.to ?_
 simp [loV, hiV]
end
theorem Own.block {w : World} {e c i : Nat} {ad : Option Addr} {t : List UInt8} (h : Own w e 1 (.slice ad t.length c) t.length ((t.map bcells).flatten)) (hi : 64 * i + 64 ≤ t.length) : Rep [] w (byD ((t.drop (64 * i)).take 64)) (.slice (adS ad c (64 * i) 1) (64 * i + 64 - 64 * i) (c - 64 * i)) := by
 have h1 := h.cut (lo := 64 * i) (hi := 64 * i + 64) (by omega) hi
 have h2 := flat_drop_ (cells := bcells) (sz := 1) (xs := t) (fun _ => rfl) (64 * i)
 have h3 := flat_take_ (cells := bcells) (sz := 1) (xs := t.drop (64 * i)) (fun _ => rfl) (64 * i + 64 - 64 * i)
 rw [h2, h3] at h1
 have h4 : 64 * i + 64 - 64 * i = 64 := by omega
 rw [h4] at h1 ⊢
 exact Own.byts [] h1 (by rw [List.length_take, List.length_drop]; omega) (by simp)
end Go.Proofs.YtknndpjacklkeaaGreatDoor.V

set_option linter.unusedVariables false
set_option linter.unusedSimpArgs false
namespace Go.Proofs.YtknndpjacklkeaaGreatDoor.V
open Go
section
variable {P : Program} {l : List (Nat × Value)} {w : World} {ty : TypeId} {pos : String} {af : Array Edge}
variable {dd : Option Nat} {gg : Option (Nat × Bool)} {x y : Operand} {t t' : TypeId}
variable {ops : Array Oper} {Q : Exit → Act → World → Prop} {n : Nat} {ds : List Deferred} {rest : List Oper} {d : Nat}
theorem o_slar {g o n e sz : Nat} (ht : arB P t n e sz = true) (hx : evO l x = some (.pointer (some ⟨g, o, none⟩))) : Runs P l ⟨dd, .slice t x none none none, ty, pos, af, gg⟩ w (.slice (some ⟨g, o, none⟩) n n) w := fun ρ h => by
 obtain ⟨i, h1, h2, h3⟩ := arB_spec ht
 by_cases hn : n = 0
 ·simp [execOp, Instr.sliceAt, h _ _ hx, run_underlying h1, run_sizeOf_of h2, Instr.sureAddr, Instr.sliceBounds, hn]
 ·simp [execOp, Instr.sliceAt, h _ _ hx, run_underlying h1, run_sizeOf_of h2, Instr.sureAddr, Instr.sliceBounds, hn, Addr.add_zero']
end
end Go.Proofs.YtknndpjacklkeaaGreatDoor.V

set_option linter.unusedVariables false
set_option linter.unusedSimpArgs false
namespace Go.Proofs.YtknndpjacklkeaaGreatDoor.V
open Go
section
variable {P : Program} {ops : Array Oper} {Q : Exit → Act → World → Prop} {n : Nat} {ds : List Deferred} {l : List (Nat × Value)} {w w' : World}
variable {rest : List Oper} {ty : TypeId} {pos : String} {af : Array Edge} {x y : Operand}
theorem s_stown1 {e N c i : Nat} {ad : Addr} {vs : List Value} {u : Value} {T : TypeId} (ht : scB P T = true) (O : Own w e 1 (.slice (some ad) N c) N vs) (hx : evO l x = some (.pointer (some (ad.add (i * 1))))) (hy : evO l y = some u) (h1c : u.oneCell' = true) (hi : i < N)
  (h : ∀ w', Own w' e 1 (.slice (some ad) N c) N (vs.set i u) → Mod [ad.block] w w' → w'.heap.size = w.heap.size → WL P ops Q rest n ds l w') :
  WL P ops Q (⟨none, .store T x y, ty, pos, af, none⟩ :: rest) n ds l w := by
 rcases O.2 with ⟨h0, _⟩ | ⟨g, o, cap, cs, hv, hB, hc1, hc2, hc3, hc4⟩
 ·cases h0
 injection hv with e1 e2 e3
 injection e1 with e1
 subst e1; subst e3
 have hvl := O.1
 rw [Addr.add_lit, Nat.mul_one] at hx
 refine s_st ht hB hx hy h1c (by omega) fun w' hp => ?_
 refine h w' ⟨by simp [hvl], .inr ⟨g, o, c, _, rfl, hp.blk, hc1, hc2, by simp; omega, ?_⟩⟩ hp.mod hp.size
 subst hc4
 apply List.ext_getElem?
 intro j
 simp only [List.getElem?_take, List.getElem?_drop, List.getElem?_set, List.length_take, List.length_drop]
 repeat' split
 all_goals first
  | omega
  | rfl
  | skip
end
end Go.Proofs.YtknndpjacklkeaaGreatDoor.V
