/-
  A part of the proof: a text between quotes, byte by byte; errors' numbers. No condition of its own.
-/
import Derived.Test.YtkhbnhdlelmbnaaDoorM3
import Derived.Test.YtkhbnhdlelmbnaaDoorProg
import Derived.Test.YtkhbnhdlelmbnaaDoorM2
set_option linter.unusedVariables false
set_option linter.unusedSimpArgs false
set_option maxRecDepth 10000
namespace Go.Proofs.YtkhbnhdlelmbnaaDoor.V
open Go Go.Proofs

theorem c_rune (w : World) (s : Str) : Calls Tryd.prog 85 [S s].toArray w (Ret fun u w' => u = .tuple #[.int .i64 ((runeR s).1 : Int), .int .i64 ((runeR s).2 : Int)] ∧ Mod [] w w') := by
  refine enter Tryd.func85 rfl rfl rfl (l := [(0, _)]) ⟨rfl, trivial⟩ ?_
  have E := Mod.refl [] w
  refine c_seq fun K1 hK1 => ?_
  refine c_region ?_
  refine sv (o_as rfl) rfl ?_
  refine sv (o_as rfl) rfl ?_
  refine l_nil ?_
  refine e_K (hK1 _ _ _ _ ?_)
  refine c_seq fun K2 hK2 => ?_
  refine c_seq fun K3 hK3 => ?_
  refine c_region ?_
  refine sv (o_mv rfl) rfl ?_
  refine sv (o_seq rfl rfl) rfl ?_
  refine l_nil ?_
  refine e_K (hK3 _ _ _ _ ?_)
  refine c_if rfl (fun h9 => ?_) (fun h9 => ?_)
  · skip
    have hs0 : s = [] := h9
    subst hs0
    have hR : runeR [] = (0, 0) := rfl
    refine c_seq fun K4 hK4 => ?_
    refine c_region ?_
    refine sv (o_as rfl) rfl ?_
    refine sv (o_as rfl) rfl ?_
    refine l_nil ?_
    refine e_K (hK4 _ _ _ _ ?_)
    refine c_ret ?_
    refine e_then (by simp) ?_
    exact ret2 rfl rfl rfl ⟨by rw [hR]; try rfl, E⟩
  · skip
    obtain ⟨b0, r, rfl⟩ : ∃ b0 r, s = b0 :: r := by
      cases s with
      | nil => exact absurd rfl h9
      | cons b0 r => exact ⟨b0, r, rfl⟩
    have hb0 := b0.toNat_lt
    have hlen : (b0 :: r).length = r.length + 1 := rfl
    refine c_skip ?_
    refine e_K (hK2 _ _ _ _ ?_)
    refine c_seq fun K5 hK5 => ?_
    refine c_region ?_
    refine sv (o_mv rfl) rfl ?_
    refine s_sidx (m := 0) Tryd.underlying9 rfl rfl (by omega) (by simp) rfl fun b0_ hb0_ => ?_
    obtain rfl : b0 = b0_ := by simpa using hb0_
    refine sv (o_convE (r := (b0.toNat : Int)) Tryd.underlying5 Tryd.underlying3 rfl (wrap64_in _ (by omega))) rfl ?_
    refine sv (o_as rfl) rfl ?_
    refine l_nil ?_
    refine e_K (hK5 _ _ _ _ ?_)
    refine c_seq fun K6 hK6 => ?_
    refine c_seq fun K7 hK7 => ?_
    refine c_region ?_
    refine sv (o_mv rfl) rfl ?_
    refine sv (o_lss rfl rfl) rfl ?_
    refine l_nil ?_
    refine e_K (hK7 _ _ _ _ ?_)
    refine c_if rfl (fun h14 => ?_) (fun h14 => ?_)
    · skip
      have hR := runeR_small (b0 := b0) (r := r) (by omega)
      refine c_seq fun K8 hK8 => ?_
      refine c_region ?_
      refine sv (o_mv rfl) rfl ?_
      refine sv (o_as rfl) rfl ?_
      refine sv (o_as rfl) rfl ?_
      refine l_nil ?_
      refine e_K (hK8 _ _ _ _ ?_)
      refine c_ret ?_
      refine e_then (by simp) ?_
      exact ret2 rfl rfl rfl ⟨by rw [hR]; try rfl, E⟩
    · skip
      have hge : ¬ b0.toNat < 128 := by omega
      refine c_skip ?_
      refine e_K (hK6 _ _ _ _ ?_)
      refine c_seq fun K9 hK9 => ?_
      refine c_region ?_
      refine sv (o_as rfl) rfl ?_
      refine l_nil ?_
      refine e_K (hK9 _ _ _ _ ?_)
      refine c_seq fun K10 hK10 => ?_
      refine c_region ?_
      refine sv (o_as rfl) rfl ?_
      refine l_nil ?_
      refine e_K (hK10 _ _ _ _ ?_)
      refine c_seq fun K11 hK11 => ?_
      have J11 : ∀ (n l c : Nat) (w1 : World), runeH b0.toNat = (n, l, c) ∧ (n = 0 ∨ c < 32 ∧ 2 ≤ n ∧ n ≤ 4) ∧ Mod [] w w1 → ∀ a, Has 91 [] [(0, S (b0 :: r)), (4, .int .i64 (c : Int)), (5, .int .i64 (n : Int)), (6, .int .i64 (l : Int))] a → K11 a w1 := by
        intro n l c w1 hI
        obtain ⟨hH, hn, E⟩ := hI
        refine hK11 _ _ _ _ ?_
        refine c_seq fun K12 hK12 => ?_
        refine c_seq fun K13 hK13 => ?_
        by_cases hs20_0 : (n : Int) = 0
        · skip
          refine c_region ?_
          refine sv (o_mv rfl) rfl ?_
          refine sv (o_eql rfl rfl) rfl ?_
          refine sv (o_mv rfl) rfl ?_
          refine sn rfl (fun e_ => absurd ((decide_eq_true hs20_0).symm.trans e_) (by decide)) rfl ?_
          refine sn rfl (fun e_ => absurd ((decide_eq_true hs20_0).symm.trans e_) (by decide)) rfl ?_
          refine sn rfl (fun e_ => absurd ((decide_eq_true hs20_0).symm.trans e_) (by decide)) rfl ?_
          refine sn rfl (fun e_ => absurd ((decide_eq_true hs20_0).symm.trans e_) (by decide)) rfl ?_
          refine sv (o_pickT (decide_eq_true hs20_0) rfl rfl) rfl ?_
          refine l_nil ?_
          refine e_K (hK13 _ _ _ _ ?_)
          refine c_true rfl ?_
          have hR := runeR_short (r := r) hge hH (.inl (by omega))
          refine c_seq fun K14 hK14 => ?_
          refine c_region ?_
          refine sv (o_as rfl) rfl ?_
          refine sv (o_as rfl) rfl ?_
          refine l_nil ?_
          refine e_K (hK14 _ _ _ _ ?_)
          refine c_ret ?_
          refine e_then (by simp) ?_
          exact ret2 rfl rfl rfl ⟨by rw [hR]; try rfl, E⟩
        · skip
          by_cases hs20_1 : ((b0 :: r).length : Int) < n
          · skip
            refine c_region ?_
            refine sv (o_mv rfl) rfl ?_
            refine sv (o_eql rfl rfl) rfl ?_
            refine sv (o_mv rfl) rfl ?_
            refine sg rfl (decide_eq_false hs20_0) (o_mv rfl) rfl ?_
            refine sg rfl (decide_eq_false hs20_0) (o_slen Tryd.underlying9 rfl) rfl ?_
            refine sg rfl (decide_eq_false hs20_0) (o_mv rfl) rfl ?_
            refine sg rfl (decide_eq_false hs20_0) (o_lss rfl rfl) rfl ?_
            refine sv (o_pickF (decide_eq_false hs20_0) rfl rfl) rfl ?_
            refine l_nil ?_
            refine e_K (hK13 _ _ _ _ ?_)
            refine c_if rfl (fun h50 => ?_) (fun h50 => absurd hs20_1 h50)
            have hR := runeR_short (r := r) hge hH (.inr (by omega))
            refine c_seq fun K15 hK15 => ?_
            refine c_region ?_
            refine sv (o_as rfl) rfl ?_
            refine sv (o_as rfl) rfl ?_
            refine l_nil ?_
            refine e_K (hK15 _ _ _ _ ?_)
            refine c_ret ?_
            refine e_then (by simp) ?_
            exact ret2 rfl rfl rfl ⟨by rw [hR]; try rfl, E⟩
          · skip
            refine c_region ?_
            refine sv (o_mv rfl) rfl ?_
            refine sv (o_eql rfl rfl) rfl ?_
            refine sv (o_mv rfl) rfl ?_
            refine sg rfl (decide_eq_false hs20_0) (o_mv rfl) rfl ?_
            refine sg rfl (decide_eq_false hs20_0) (o_slen Tryd.underlying9 rfl) rfl ?_
            refine sg rfl (decide_eq_false hs20_0) (o_mv rfl) rfl ?_
            refine sg rfl (decide_eq_false hs20_0) (o_lss rfl rfl) rfl ?_
            refine sv (o_pickF (decide_eq_false hs20_0) rfl rfl) rfl ?_
            refine l_nil ?_
            refine e_K (hK13 _ _ _ _ ?_)
            refine c_if rfl (fun h50 => absurd h50 hs20_1) (fun h50 => ?_)
            have hln : ¬ (n = 0 ∨ (b0 :: r).length < n) := by omega
            refine c_skip ?_
            refine e_K (hK12 _ _ _ _ ?_)
            refine c_seq fun K16 hK16 => ?_
            refine c_seq fun K17 hK17 => ?_
            refine c_region ?_
            refine sv (o_as rfl) rfl ?_
            refine l_nil ?_
            refine e_K (hK17 _ _ _ _ ?_)
            refine c_block ?_
            refine c_loop (σ := Nat × Nat) (fun ⟨i, d⟩ => [(0, S (b0 :: r)), (4, .int .i64 (d : Int)), (5, .int .i64 (n : Int)), (6, .int .i64 (l : Int)), (7, .int .i64 (i : Int))]) (fun ⟨i, d⟩ w1 => 1 ≤ i ∧ i ≤ n ∧ runeC ((r.take (n - 1)).drop (i - 1)) d = runeC (r.take (n - 1)) c ∧ ((i = 1 ∧ d < 64) ∨ (i = 2 ∧ d < 4096) ∨ (i = 3 ∧ d < 262144) ∨ (i = 4 ∧ d < 16777216)) ∧ Mod [] w w1) (fun ⟨i, d⟩ => n - i) (⟨1, c⟩) ⟨rfl, rfl, rfl, rfl, rfl, trivial⟩ (⟨by omega, by omega, rfl, by omega, E⟩) ?_
            rintro ⟨i, d⟩ w2 ⟨hi1, hi, hC, hd, E⟩
            refine c_seq fun K18 hK18 => ?_
            refine c_seq fun K19 hK19 => ?_
            refine c_region ?_
            refine sv (o_mv rfl) rfl ?_
            refine sv (o_mv rfl) rfl ?_
            refine sv (o_lss rfl rfl) rfl ?_
            refine l_nil ?_
            refine e_K (hK19 _ _ _ _ ?_)
            refine c_if rfl (fun h53 => ?_) (fun h53 => ?_)
            · skip
              obtain ⟨b1, hb1⟩ : ∃ b1, (b0 :: r)[i]? = some b1 := ⟨_, List.getElem?_eq_getElem (by omega)⟩
              have hb1r : (r.take (n - 1))[i - 1]? = some b1 := by
                rw [List.getElem?_take, if_pos (by omega)]
                rw [← hb1]
                obtain ⟨j, rfl⟩ : ∃ j, i = j + 1 := ⟨i - 1, by omega⟩
                simp
              have hb1l := b1.toNat_lt
              refine c_skip ?_
              refine e_K (hK18 _ _ _ _ ?_)
              refine c_seq fun K20 hK20 => ?_
              refine c_block ?_
              refine c_seq fun K21 hK21 => ?_
              refine c_seq fun K22 hK22 => ?_
              by_cases hs25_0 : (b1.toNat : Int) < 128
              · skip
                refine c_region ?_
                refine sv (o_mv rfl) rfl ?_
                refine sv (o_mv rfl) rfl ?_
                refine s_sidx (m := i) Tryd.underlying9 rfl rfl (by omega) (by simp; omega) rfl fun b1_ hb1_ => ?_
                obtain rfl : b1 = b1_ := by rw [Int.toNat_natCast, hb1] at hb1_; injection hb1_
                refine sv (o_lss rfl rfl) rfl ?_
                refine sv (o_mv rfl) rfl ?_
                refine sn rfl (fun e_ => absurd ((decide_eq_true hs25_0).symm.trans e_) (by decide)) rfl ?_
                refine sn rfl (fun e_ => absurd ((decide_eq_true hs25_0).symm.trans e_) (by decide)) rfl ?_
                refine sn rfl (fun e_ => absurd ((decide_eq_true hs25_0).symm.trans e_) (by decide)) rfl ?_
                refine sn rfl (fun e_ => absurd ((decide_eq_true hs25_0).symm.trans e_) (by decide)) rfl ?_
                refine sv (o_pickT (decide_eq_true hs25_0) rfl rfl) rfl ?_
                refine l_nil ?_
                refine e_K (hK22 _ _ _ _ ?_)
                refine c_true rfl ?_
                have hR := runeR_none hge hH hln (by rw [← hC]; exact runeC_no hb1r (.inl (by omega)))
                refine c_seq fun K23 hK23 => ?_
                refine c_region ?_
                refine sv (o_as rfl) rfl ?_
                refine sv (o_as rfl) rfl ?_
                refine l_nil ?_
                refine e_K (hK23 _ _ _ _ ?_)
                refine c_ret ?_
                refine e_then (by simp) ?_
                refine e_in (by simp) ?_
                refine e_then (by simp) ?_
                refine e_then (by simp) ?_
                refine e_in (by simp) ?_
                refine e_then (by simp) ?_
                exact ret2 rfl rfl rfl ⟨by rw [hR]; try rfl, E⟩
              · skip
                by_cases hs25_1 : (b1.toNat : Int) ≥ 192
                · skip
                  refine c_region ?_
                  refine sv (o_mv rfl) rfl ?_
                  refine sv (o_mv rfl) rfl ?_
                  refine s_sidx (m := i) Tryd.underlying9 rfl rfl (by omega) (by simp; omega) rfl fun b1_ hb1_ => ?_
                  obtain rfl : b1 = b1_ := by rw [Int.toNat_natCast, hb1] at hb1_; injection hb1_
                  refine sv (o_lss rfl rfl) rfl ?_
                  refine sv (o_mv rfl) rfl ?_
                  refine sg rfl (decide_eq_false hs25_0) (o_mv rfl) rfl ?_
                  refine sg rfl (decide_eq_false hs25_0) (o_mv rfl) rfl ?_
                  refine sg rfl (decide_eq_false hs25_0) (o_sidx Tryd.underlying9 rfl rfl (by omega) (by rw [Int.toNat_natCast]; exact hb1)) rfl ?_
                  refine sg rfl (decide_eq_false hs25_0) (o_geq rfl rfl) rfl ?_
                  refine sv (o_pickF (decide_eq_false hs25_0) rfl rfl) rfl ?_
                  refine l_nil ?_
                  refine e_K (hK22 _ _ _ _ ?_)
                  refine c_if rfl (fun h65 => ?_) (fun h65 => absurd hs25_1 h65)
                  have hR := runeR_none hge hH hln (by rw [← hC]; exact runeC_no hb1r (.inr (by omega)))
                  refine c_seq fun K24 hK24 => ?_
                  refine c_region ?_
                  refine sv (o_as rfl) rfl ?_
                  refine sv (o_as rfl) rfl ?_
                  refine l_nil ?_
                  refine e_K (hK24 _ _ _ _ ?_)
                  refine c_ret ?_
                  refine e_then (by simp) ?_
                  refine e_in (by simp) ?_
                  refine e_then (by simp) ?_
                  refine e_then (by simp) ?_
                  refine e_in (by simp) ?_
                  refine e_then (by simp) ?_
                  exact ret2 rfl rfl rfl ⟨by rw [hR]; try rfl, E⟩
                · skip
                  refine c_region ?_
                  refine sv (o_mv rfl) rfl ?_
                  refine sv (o_mv rfl) rfl ?_
                  refine s_sidx (m := i) Tryd.underlying9 rfl rfl (by omega) (by simp; omega) rfl fun b1_ hb1_ => ?_
                  obtain rfl : b1 = b1_ := by rw [Int.toNat_natCast, hb1] at hb1_; injection hb1_
                  refine sv (o_lss rfl rfl) rfl ?_
                  refine sv (o_mv rfl) rfl ?_
                  refine sg rfl (decide_eq_false hs25_0) (o_mv rfl) rfl ?_
                  refine sg rfl (decide_eq_false hs25_0) (o_mv rfl) rfl ?_
                  refine sg rfl (decide_eq_false hs25_0) (o_sidx Tryd.underlying9 rfl rfl (by omega) (by rw [Int.toNat_natCast]; exact hb1)) rfl ?_
                  refine sg rfl (decide_eq_false hs25_0) (o_geq rfl rfl) rfl ?_
                  refine sv (o_pickF (decide_eq_false hs25_0) rfl rfl) rfl ?_
                  refine l_nil ?_
                  refine e_K (hK22 _ _ _ _ ?_)
                  refine c_if rfl (fun h65 => absurd h65 hs25_1) (fun h65 => ?_)
                  have hst := runeC_go (d := d) hb1r (by omega)
                  rw [show i - 1 + 1 = i by omega] at hst
                  refine c_skip ?_
                  refine e_K (hK21 _ _ _ _ ?_)
                  refine c_region ?_
                  refine sv (o_mv rfl) rfl ?_
                  refine sv (o_mulE (r := ((d * 64 : Nat) : Int)) rfl rfl (by rw [wrap64_in _ (by omega)]; omega)) rfl ?_
                  refine sv (o_mv rfl) rfl ?_
                  refine sv (o_mv rfl) rfl ?_
                  refine sv (o_sidx Tryd.underlying9 rfl rfl (by omega) (by rw [Int.toNat_natCast]; exact hb1)) rfl ?_
                  refine sv (o_convE (r := (b1.toNat : Int)) Tryd.underlying5 Tryd.underlying3 rfl (wrap64_in _ (by omega))) rfl ?_
                  refine sv ((o_remN rfl rfl (by omega)).to (v' := .int .i64 ((b1.toNat % 64 : Nat) : Int)) (by rw [Int.natCast_emod]; try rfl)) rfl ?_
                  refine sv (o_addE (r := ((d * 64 + b1.toNat % 64 : Nat) : Int)) rfl rfl (by rw [wrap64_in _ (by omega)]; omega)) rfl ?_
                  refine sv (o_as rfl) rfl ?_
                  refine l_nil ?_
                  refine e_in (by simp) ?_
                  refine e_K (hK20 _ _ _ _ ?_)
                  refine c_region ?_
                  refine sv (o_mv rfl) rfl ?_
                  refine sv (o_addN rfl rfl (by omega)) rfl ?_
                  refine sv (o_as rfl) rfl ?_
                  refine l_nil ?_
                  exact e_round (σ := Nat × Nat) (s := ⟨i, d⟩) (⟨i + 1, d * 64 + b1.toNat % 64⟩) ⟨rfl, rfl, rfl, rfl, rfl, trivial⟩ ⟨by omega, by omega, by rw [show i + 1 - 1 = i by omega, ← hst]; exact hC, by omega, E⟩ (by dsimp only; omega)
            · skip
              have hend : runeC (r.take (n - 1)) c = some d := by rw [← hC, List.drop_eq_nil_of_le (by rw [List.length_take]; omega)]; rfl
              refine c_exit ?_
              refine e_then (by simp) ?_
              refine e_then (by simp) ?_
              refine e_hit ?_
              refine e_K (hK16 _ _ _ _ ?_)
              refine c_seq fun K25 hK25 => ?_
              refine c_seq fun K26 hK26 => ?_
              by_cases hs28_0 : (d : Int) < l
              · skip
                refine c_region ?_
                refine sv (o_mv rfl) rfl ?_
                refine sv (o_mv rfl) rfl ?_
                refine sv (o_lss rfl rfl) rfl ?_
                refine sv (o_mv rfl) rfl ?_
                refine sn rfl (fun e_ => absurd ((decide_eq_true hs28_0).symm.trans e_) (by decide)) rfl ?_
                refine sn rfl (fun e_ => absurd ((decide_eq_true hs28_0).symm.trans e_) (by decide)) rfl ?_
                refine sv (o_pickT (decide_eq_true hs28_0) rfl rfl) rfl ?_
                refine sv (o_mv rfl) rfl ?_
                refine sn rfl (fun e_ => absurd ((rfl).symm.trans e_) (by decide)) rfl ?_
                refine sn rfl (fun e_ => absurd ((rfl).symm.trans e_) (by decide)) rfl ?_
                refine sn rfl (fun e_ => absurd ((rfl).symm.trans e_) (by decide)) rfl ?_
                refine snu rfl rfl rfl ?_
                refine snu rfl rfl rfl ?_
                refine sn rfl (fun e_ => absurd ((rfl).symm.trans e_) (by decide)) rfl ?_
                refine sv (o_pickT (rfl) rfl rfl) rfl ?_
                refine l_nil ?_
                refine e_K (hK26 _ _ _ _ ?_)
                refine c_true rfl ?_
                have hR := runeR_bad hge hH hln hend (by omega)
                refine c_seq fun K27 hK27 => ?_
                refine c_region ?_
                refine sv (o_as rfl) rfl ?_
                refine sv (o_as rfl) rfl ?_
                refine l_nil ?_
                refine e_K (hK27 _ _ _ _ ?_)
                refine c_ret ?_
                refine e_then (by simp) ?_
                exact ret2 rfl rfl rfl ⟨by rw [hR]; try rfl, E⟩
              · skip
                by_cases hs28_1 : (d : Int) > 1114111
                · skip
                  refine c_region ?_
                  refine sv (o_mv rfl) rfl ?_
                  refine sv (o_mv rfl) rfl ?_
                  refine sv (o_lss rfl rfl) rfl ?_
                  refine sv (o_mv rfl) rfl ?_
                  refine sg rfl (decide_eq_false hs28_0) (o_mv rfl) rfl ?_
                  refine sg rfl (decide_eq_false hs28_0) (o_gtr rfl rfl) rfl ?_
                  refine sv (o_pickF (decide_eq_false hs28_0) rfl rfl) rfl ?_
                  refine sv (o_mv rfl) rfl ?_
                  refine sn rfl (fun e_ => absurd ((decide_eq_true hs28_1).symm.trans e_) (by decide)) rfl ?_
                  refine sn rfl (fun e_ => absurd ((decide_eq_true hs28_1).symm.trans e_) (by decide)) rfl ?_
                  refine sn rfl (fun e_ => absurd ((decide_eq_true hs28_1).symm.trans e_) (by decide)) rfl ?_
                  refine snu rfl rfl rfl ?_
                  refine snu rfl rfl rfl ?_
                  refine sn rfl (fun e_ => absurd ((decide_eq_true hs28_1).symm.trans e_) (by decide)) rfl ?_
                  refine sv (o_pickT (decide_eq_true hs28_1) rfl rfl) rfl ?_
                  refine l_nil ?_
                  refine e_K (hK26 _ _ _ _ ?_)
                  refine c_true rfl ?_
                  have hR := runeR_bad hge hH hln hend (by omega)
                  refine c_seq fun K28 hK28 => ?_
                  refine c_region ?_
                  refine sv (o_as rfl) rfl ?_
                  refine sv (o_as rfl) rfl ?_
                  refine l_nil ?_
                  refine e_K (hK28 _ _ _ _ ?_)
                  refine c_ret ?_
                  refine e_then (by simp) ?_
                  exact ret2 rfl rfl rfl ⟨by rw [hR]; try rfl, E⟩
                · skip
                  by_cases hs28_2 : (d : Int) ≥ 55296
                  · skip
                    refine c_region ?_
                    refine sv (o_mv rfl) rfl ?_
                    refine sv (o_mv rfl) rfl ?_
                    refine sv (o_lss rfl rfl) rfl ?_
                    refine sv (o_mv rfl) rfl ?_
                    refine sg rfl (decide_eq_false hs28_0) (o_mv rfl) rfl ?_
                    refine sg rfl (decide_eq_false hs28_0) (o_gtr rfl rfl) rfl ?_
                    refine sv (o_pickF (decide_eq_false hs28_0) rfl rfl) rfl ?_
                    refine sv (o_mv rfl) rfl ?_
                    refine sg rfl (decide_eq_false hs28_1) (o_mv rfl) rfl ?_
                    refine sg rfl (decide_eq_false hs28_1) (o_geq rfl rfl) rfl ?_
                    refine sg rfl (decide_eq_false hs28_1) (o_mv rfl) rfl ?_
                    refine sg rfl (decide_eq_true hs28_2) (o_mv rfl) rfl ?_
                    refine sg rfl (decide_eq_true hs28_2) (o_leq rfl rfl) rfl ?_
                    refine sg rfl (decide_eq_false hs28_1) (o_pickT (decide_eq_true hs28_2) rfl rfl) rfl ?_
                    refine sv (o_pickF (decide_eq_false hs28_1) rfl rfl) rfl ?_
                    refine l_nil ?_
                    refine e_K (hK26 _ _ _ _ ?_)
                    refine c_if rfl (fun h88 => ?_) (fun h88 => ?_)
                    · skip
                      have hR := runeR_bad hge hH hln hend (by omega)
                      refine c_seq fun K29 hK29 => ?_
                      refine c_region ?_
                      refine sv (o_as rfl) rfl ?_
                      refine sv (o_as rfl) rfl ?_
                      refine l_nil ?_
                      refine e_K (hK29 _ _ _ _ ?_)
                      refine c_ret ?_
                      refine e_then (by simp) ?_
                      exact ret2 rfl rfl rfl ⟨by rw [hR]; try rfl, E⟩
                    · skip
                      have hR := runeR_good hge hH hln hend (by omega)
                      refine c_skip ?_
                      refine e_K (hK25 _ _ _ _ ?_)
                      refine c_seq fun K30 hK30 => ?_
                      refine c_region ?_
                      refine sv (o_mv rfl) rfl ?_
                      refine sv (o_mv rfl) rfl ?_
                      refine sv (o_as rfl) rfl ?_
                      refine sv (o_as rfl) rfl ?_
                      refine l_nil ?_
                      refine e_K (hK30 _ _ _ _ ?_)
                      refine c_ret ?_
                      exact ret2 rfl rfl rfl ⟨by rw [hR]; try rfl, E⟩
                  · skip
                    refine c_region ?_
                    refine sv (o_mv rfl) rfl ?_
                    refine sv (o_mv rfl) rfl ?_
                    refine sv (o_lss rfl rfl) rfl ?_
                    refine sv (o_mv rfl) rfl ?_
                    refine sg rfl (decide_eq_false hs28_0) (o_mv rfl) rfl ?_
                    refine sg rfl (decide_eq_false hs28_0) (o_gtr rfl rfl) rfl ?_
                    refine sv (o_pickF (decide_eq_false hs28_0) rfl rfl) rfl ?_
                    refine sv (o_mv rfl) rfl ?_
                    refine sg rfl (decide_eq_false hs28_1) (o_mv rfl) rfl ?_
                    refine sg rfl (decide_eq_false hs28_1) (o_geq rfl rfl) rfl ?_
                    refine sg rfl (decide_eq_false hs28_1) (o_mv rfl) rfl ?_
                    refine sn rfl (fun e_ => absurd ((decide_eq_false hs28_2).symm.trans e_) (by decide)) rfl ?_
                    refine sn rfl (fun e_ => absurd ((decide_eq_false hs28_2).symm.trans e_) (by decide)) rfl ?_
                    refine sg rfl (decide_eq_false hs28_1) (o_pickF (decide_eq_false hs28_2) rfl rfl) rfl ?_
                    refine sv (o_pickF (decide_eq_false hs28_1) rfl rfl) rfl ?_
                    refine l_nil ?_
                    refine e_K (hK26 _ _ _ _ ?_)
                    refine c_false rfl ?_
                    have hR := runeR_good hge hH hln hend (by omega)
                    refine c_skip ?_
                    refine e_K (hK25 _ _ _ _ ?_)
                    refine c_seq fun K31 hK31 => ?_
                    refine c_region ?_
                    refine sv (o_mv rfl) rfl ?_
                    refine sv (o_mv rfl) rfl ?_
                    refine sv (o_as rfl) rfl ?_
                    refine sv (o_as rfl) rfl ?_
                    refine l_nil ?_
                    refine e_K (hK31 _ _ _ _ ?_)
                    refine c_ret ?_
                    exact ret2 rfl rfl rfl ⟨by rw [hR]; try rfl, E⟩
      refine c_block ?_
      refine c_seq fun K32 hK32 => ?_
      by_cases hs8_0 : (b0.toNat : Int) ≥ 192
      · skip
        by_cases hs8_1 : (b0.toNat : Int) < 224
        · skip
          refine c_region ?_
          refine sv (o_mv rfl) rfl ?_
          refine sv (o_geq rfl rfl) rfl ?_
          refine sv (o_mv rfl) rfl ?_
          refine sg rfl (decide_eq_true hs8_0) (o_mv rfl) rfl ?_
          refine sg rfl (decide_eq_true hs8_0) (o_lss rfl rfl) rfl ?_
          refine sv (o_pickT (decide_eq_true hs8_0) rfl rfl) rfl ?_
          refine sv (o_as rfl) rfl ?_
          refine l_nil ?_
          refine e_K (hK32 _ _ _ _ ?_)
          refine c_if rfl (fun h16 => ?_) (fun h16 => absurd hs8_1 h16)
          refine c_seq fun K33 hK33 => ?_
          refine c_region ?_
          refine sv (o_as rfl) rfl ?_
          refine l_nil ?_
          refine e_K (hK33 _ _ _ _ ?_)
          refine c_seq fun K34 hK34 => ?_
          refine c_region ?_
          refine sv (o_as rfl) rfl ?_
          refine l_nil ?_
          refine e_K (hK34 _ _ _ _ ?_)
          refine c_region ?_
          refine sv (o_mv rfl) rfl ?_
          refine sv ((o_remN rfl rfl (by omega)).to (v' := .int .i64 ((b0.toNat % 32 : Nat) : Int)) (by rw [Int.natCast_emod]; try rfl)) rfl ?_
          refine sv (o_as rfl) rfl ?_
          refine l_nil ?_
          refine e_in (by simp) ?_
          refine WE.sub (l' := [(0, _), (4, _), (5, _), (6, _)]) ⟨rfl, rfl, rfl, rfl, trivial⟩ (e_K (J11 2 128 (b0.toNat % 32) w ⟨by unfold runeH; rw [if_pos (by omega)], by omega, E⟩))
        · skip
          refine c_region ?_
          refine sv (o_mv rfl) rfl ?_
          refine sv (o_geq rfl rfl) rfl ?_
          refine sv (o_mv rfl) rfl ?_
          refine sg rfl (decide_eq_true hs8_0) (o_mv rfl) rfl ?_
          refine sg rfl (decide_eq_true hs8_0) (o_lss rfl rfl) rfl ?_
          refine sv (o_pickT (decide_eq_true hs8_0) rfl rfl) rfl ?_
          refine sv (o_as rfl) rfl ?_
          refine l_nil ?_
          refine e_K (hK32 _ _ _ _ ?_)
          refine c_if rfl (fun h16 => absurd h16 hs8_1) (fun h16 => ?_)
          refine c_seq fun K35 hK35 => ?_
          by_cases hs12_0 : (b0.toNat : Int) ≥ 224
          · skip
            by_cases hs12_1 : (b0.toNat : Int) < 240
            · skip
              refine c_region ?_
              refine sv (o_mv rfl) rfl ?_
              refine sv (o_geq rfl rfl) rfl ?_
              refine sv (o_mv rfl) rfl ?_
              refine sg rfl (decide_eq_true hs12_0) (o_mv rfl) rfl ?_
              refine sg rfl (decide_eq_true hs12_0) (o_lss rfl rfl) rfl ?_
              refine sv (o_pickT (decide_eq_true hs12_0) rfl rfl) rfl ?_
              refine sv (o_as rfl) rfl ?_
              refine l_nil ?_
              refine e_K (hK35 _ _ _ _ ?_)
              refine c_if rfl (fun h25 => ?_) (fun h25 => absurd hs12_1 h25)
              refine c_seq fun K36 hK36 => ?_
              refine c_region ?_
              refine sv (o_as rfl) rfl ?_
              refine l_nil ?_
              refine e_K (hK36 _ _ _ _ ?_)
              refine c_seq fun K37 hK37 => ?_
              refine c_region ?_
              refine sv (o_as rfl) rfl ?_
              refine l_nil ?_
              refine e_K (hK37 _ _ _ _ ?_)
              refine c_region ?_
              refine sv (o_mv rfl) rfl ?_
              refine sv ((o_remN rfl rfl (by omega)).to (v' := .int .i64 ((b0.toNat % 16 : Nat) : Int)) (by rw [Int.natCast_emod]; try rfl)) rfl ?_
              refine sv (o_as rfl) rfl ?_
              refine l_nil ?_
              refine e_in (by simp) ?_
              refine WE.sub (l' := [(0, _), (4, _), (5, _), (6, _)]) ⟨rfl, rfl, rfl, rfl, trivial⟩ (e_K (J11 3 2048 (b0.toNat % 16) w ⟨by unfold runeH; rw [if_neg (by omega), if_pos (by omega)], by omega, E⟩))
            · skip
              refine c_region ?_
              refine sv (o_mv rfl) rfl ?_
              refine sv (o_geq rfl rfl) rfl ?_
              refine sv (o_mv rfl) rfl ?_
              refine sg rfl (decide_eq_true hs12_0) (o_mv rfl) rfl ?_
              refine sg rfl (decide_eq_true hs12_0) (o_lss rfl rfl) rfl ?_
              refine sv (o_pickT (decide_eq_true hs12_0) rfl rfl) rfl ?_
              refine sv (o_as rfl) rfl ?_
              refine l_nil ?_
              refine e_K (hK35 _ _ _ _ ?_)
              refine c_if rfl (fun h25 => absurd h25 hs12_1) (fun h25 => ?_)
              refine c_seq fun K38 hK38 => ?_
              by_cases hs16_0 : (b0.toNat : Int) ≥ 240
              · skip
                by_cases hs16_1 : (b0.toNat : Int) < 248
                · skip
                  refine c_region ?_
                  refine sv (o_mv rfl) rfl ?_
                  refine sv (o_geq rfl rfl) rfl ?_
                  refine sv (o_mv rfl) rfl ?_
                  refine sg rfl (decide_eq_true hs16_0) (o_mv rfl) rfl ?_
                  refine sg rfl (decide_eq_true hs16_0) (o_lss rfl rfl) rfl ?_
                  refine sv (o_pickT (decide_eq_true hs16_0) rfl rfl) rfl ?_
                  refine sv (o_as rfl) rfl ?_
                  refine l_nil ?_
                  refine e_K (hK38 _ _ _ _ ?_)
                  refine c_if rfl (fun h34 => ?_) (fun h34 => absurd hs16_1 h34)
                  refine c_seq fun K39 hK39 => ?_
                  refine c_region ?_
                  refine sv (o_as rfl) rfl ?_
                  refine l_nil ?_
                  refine e_K (hK39 _ _ _ _ ?_)
                  refine c_seq fun K40 hK40 => ?_
                  refine c_region ?_
                  refine sv (o_as rfl) rfl ?_
                  refine l_nil ?_
                  refine e_K (hK40 _ _ _ _ ?_)
                  refine c_region ?_
                  refine sv (o_mv rfl) rfl ?_
                  refine sv ((o_remN rfl rfl (by omega)).to (v' := .int .i64 ((b0.toNat % 8 : Nat) : Int)) (by rw [Int.natCast_emod]; try rfl)) rfl ?_
                  refine sv (o_as rfl) rfl ?_
                  refine l_nil ?_
                  refine e_in (by simp) ?_
                  refine WE.sub (l' := [(0, _), (4, _), (5, _), (6, _)]) ⟨rfl, rfl, rfl, rfl, trivial⟩ (e_K (J11 4 65536 (b0.toNat % 8) w ⟨by unfold runeH; rw [if_neg (by omega), if_neg (by omega), if_pos (by omega)], by omega, E⟩))
                · skip
                  refine c_region ?_
                  refine sv (o_mv rfl) rfl ?_
                  refine sv (o_geq rfl rfl) rfl ?_
                  refine sv (o_mv rfl) rfl ?_
                  refine sg rfl (decide_eq_true hs16_0) (o_mv rfl) rfl ?_
                  refine sg rfl (decide_eq_true hs16_0) (o_lss rfl rfl) rfl ?_
                  refine sv (o_pickT (decide_eq_true hs16_0) rfl rfl) rfl ?_
                  refine sv (o_as rfl) rfl ?_
                  refine l_nil ?_
                  refine e_K (hK38 _ _ _ _ ?_)
                  refine c_if rfl (fun h34 => absurd h34 hs16_1) (fun h34 => ?_)
                  refine c_skip ?_
                  refine e_in (by simp) ?_
                  refine WE.sub (l' := [(0, _), (4, _), (5, _), (6, _)]) ⟨rfl, rfl, rfl, rfl, trivial⟩ (e_K (J11 0 0 b0.toNat w ⟨by unfold runeH; rw [if_neg (by omega), if_neg (by omega), if_neg (by omega)], by omega, E⟩))
              · skip
                refine c_region ?_
                refine sv (o_mv rfl) rfl ?_
                refine sv (o_geq rfl rfl) rfl ?_
                refine sv (o_mv rfl) rfl ?_
                refine sn rfl (fun e_ => absurd ((decide_eq_false hs16_0).symm.trans e_) (by decide)) rfl ?_
                refine sn rfl (fun e_ => absurd ((decide_eq_false hs16_0).symm.trans e_) (by decide)) rfl ?_
                refine sv (o_pickF (decide_eq_false hs16_0) rfl rfl) rfl ?_
                refine sv (o_as rfl) rfl ?_
                refine l_nil ?_
                refine e_K (hK38 _ _ _ _ ?_)
                refine c_false rfl ?_
                refine c_skip ?_
                refine e_in (by simp) ?_
                refine WE.sub (l' := [(0, _), (4, _), (5, _), (6, _)]) ⟨rfl, rfl, rfl, rfl, trivial⟩ (e_K (J11 0 0 b0.toNat w ⟨by unfold runeH; rw [if_neg (by omega), if_neg (by omega), if_neg (by omega)], by omega, E⟩))
          · skip
            refine c_region ?_
            refine sv (o_mv rfl) rfl ?_
            refine sv (o_geq rfl rfl) rfl ?_
            refine sv (o_mv rfl) rfl ?_
            refine sn rfl (fun e_ => absurd ((decide_eq_false hs12_0).symm.trans e_) (by decide)) rfl ?_
            refine sn rfl (fun e_ => absurd ((decide_eq_false hs12_0).symm.trans e_) (by decide)) rfl ?_
            refine sv (o_pickF (decide_eq_false hs12_0) rfl rfl) rfl ?_
            refine sv (o_as rfl) rfl ?_
            refine l_nil ?_
            refine e_K (hK35 _ _ _ _ ?_)
            refine c_false rfl ?_
            refine c_seq fun K41 hK41 => ?_
            by_cases hs16_0 : (b0.toNat : Int) ≥ 240
            · skip
              by_cases hs16_1 : (b0.toNat : Int) < 248
              · skip
                refine c_region ?_
                refine sv (o_mv rfl) rfl ?_
                refine sv (o_geq rfl rfl) rfl ?_
                refine sv (o_mv rfl) rfl ?_
                refine sg rfl (decide_eq_true hs16_0) (o_mv rfl) rfl ?_
                refine sg rfl (decide_eq_true hs16_0) (o_lss rfl rfl) rfl ?_
                refine sv (o_pickT (decide_eq_true hs16_0) rfl rfl) rfl ?_
                refine sv (o_as rfl) rfl ?_
                refine l_nil ?_
                refine e_K (hK41 _ _ _ _ ?_)
                refine c_if rfl (fun h34 => ?_) (fun h34 => absurd hs16_1 h34)
                refine c_seq fun K42 hK42 => ?_
                refine c_region ?_
                refine sv (o_as rfl) rfl ?_
                refine l_nil ?_
                refine e_K (hK42 _ _ _ _ ?_)
                refine c_seq fun K43 hK43 => ?_
                refine c_region ?_
                refine sv (o_as rfl) rfl ?_
                refine l_nil ?_
                refine e_K (hK43 _ _ _ _ ?_)
                refine c_region ?_
                refine sv (o_mv rfl) rfl ?_
                refine sv ((o_remN rfl rfl (by omega)).to (v' := .int .i64 ((b0.toNat % 8 : Nat) : Int)) (by rw [Int.natCast_emod]; try rfl)) rfl ?_
                refine sv (o_as rfl) rfl ?_
                refine l_nil ?_
                refine e_in (by simp) ?_
                refine WE.sub (l' := [(0, _), (4, _), (5, _), (6, _)]) ⟨rfl, rfl, rfl, rfl, trivial⟩ (e_K (J11 4 65536 (b0.toNat % 8) w ⟨by unfold runeH; rw [if_neg (by omega), if_neg (by omega), if_pos (by omega)], by omega, E⟩))
              · skip
                refine c_region ?_
                refine sv (o_mv rfl) rfl ?_
                refine sv (o_geq rfl rfl) rfl ?_
                refine sv (o_mv rfl) rfl ?_
                refine sg rfl (decide_eq_true hs16_0) (o_mv rfl) rfl ?_
                refine sg rfl (decide_eq_true hs16_0) (o_lss rfl rfl) rfl ?_
                refine sv (o_pickT (decide_eq_true hs16_0) rfl rfl) rfl ?_
                refine sv (o_as rfl) rfl ?_
                refine l_nil ?_
                refine e_K (hK41 _ _ _ _ ?_)
                refine c_if rfl (fun h34 => absurd h34 hs16_1) (fun h34 => ?_)
                refine c_skip ?_
                refine e_in (by simp) ?_
                refine WE.sub (l' := [(0, _), (4, _), (5, _), (6, _)]) ⟨rfl, rfl, rfl, rfl, trivial⟩ (e_K (J11 0 0 b0.toNat w ⟨by unfold runeH; rw [if_neg (by omega), if_neg (by omega), if_neg (by omega)], by omega, E⟩))
            · skip
              refine c_region ?_
              refine sv (o_mv rfl) rfl ?_
              refine sv (o_geq rfl rfl) rfl ?_
              refine sv (o_mv rfl) rfl ?_
              refine sn rfl (fun e_ => absurd ((decide_eq_false hs16_0).symm.trans e_) (by decide)) rfl ?_
              refine sn rfl (fun e_ => absurd ((decide_eq_false hs16_0).symm.trans e_) (by decide)) rfl ?_
              refine sv (o_pickF (decide_eq_false hs16_0) rfl rfl) rfl ?_
              refine sv (o_as rfl) rfl ?_
              refine l_nil ?_
              refine e_K (hK41 _ _ _ _ ?_)
              refine c_false rfl ?_
              refine c_skip ?_
              refine e_in (by simp) ?_
              refine WE.sub (l' := [(0, _), (4, _), (5, _), (6, _)]) ⟨rfl, rfl, rfl, rfl, trivial⟩ (e_K (J11 0 0 b0.toNat w ⟨by unfold runeH; rw [if_neg (by omega), if_neg (by omega), if_neg (by omega)], by omega, E⟩))
      · skip
        refine c_region ?_
        refine sv (o_mv rfl) rfl ?_
        refine sv (o_geq rfl rfl) rfl ?_
        refine sv (o_mv rfl) rfl ?_
        refine sn rfl (fun e_ => absurd ((decide_eq_false hs8_0).symm.trans e_) (by decide)) rfl ?_
        refine sn rfl (fun e_ => absurd ((decide_eq_false hs8_0).symm.trans e_) (by decide)) rfl ?_
        refine sv (o_pickF (decide_eq_false hs8_0) rfl rfl) rfl ?_
        refine sv (o_as rfl) rfl ?_
        refine l_nil ?_
        refine e_K (hK32 _ _ _ _ ?_)
        refine c_false rfl ?_
        refine c_seq fun K44 hK44 => ?_
        by_cases hs12_0 : (b0.toNat : Int) ≥ 224
        · skip
          by_cases hs12_1 : (b0.toNat : Int) < 240
          · skip
            refine c_region ?_
            refine sv (o_mv rfl) rfl ?_
            refine sv (o_geq rfl rfl) rfl ?_
            refine sv (o_mv rfl) rfl ?_
            refine sg rfl (decide_eq_true hs12_0) (o_mv rfl) rfl ?_
            refine sg rfl (decide_eq_true hs12_0) (o_lss rfl rfl) rfl ?_
            refine sv (o_pickT (decide_eq_true hs12_0) rfl rfl) rfl ?_
            refine sv (o_as rfl) rfl ?_
            refine l_nil ?_
            refine e_K (hK44 _ _ _ _ ?_)
            refine c_if rfl (fun h25 => ?_) (fun h25 => absurd hs12_1 h25)
            refine c_seq fun K45 hK45 => ?_
            refine c_region ?_
            refine sv (o_as rfl) rfl ?_
            refine l_nil ?_
            refine e_K (hK45 _ _ _ _ ?_)
            refine c_seq fun K46 hK46 => ?_
            refine c_region ?_
            refine sv (o_as rfl) rfl ?_
            refine l_nil ?_
            refine e_K (hK46 _ _ _ _ ?_)
            refine c_region ?_
            refine sv (o_mv rfl) rfl ?_
            refine sv ((o_remN rfl rfl (by omega)).to (v' := .int .i64 ((b0.toNat % 16 : Nat) : Int)) (by rw [Int.natCast_emod]; try rfl)) rfl ?_
            refine sv (o_as rfl) rfl ?_
            refine l_nil ?_
            refine e_in (by simp) ?_
            refine WE.sub (l' := [(0, _), (4, _), (5, _), (6, _)]) ⟨rfl, rfl, rfl, rfl, trivial⟩ (e_K (J11 3 2048 (b0.toNat % 16) w ⟨by unfold runeH; rw [if_neg (by omega), if_pos (by omega)], by omega, E⟩))
          · skip
            refine c_region ?_
            refine sv (o_mv rfl) rfl ?_
            refine sv (o_geq rfl rfl) rfl ?_
            refine sv (o_mv rfl) rfl ?_
            refine sg rfl (decide_eq_true hs12_0) (o_mv rfl) rfl ?_
            refine sg rfl (decide_eq_true hs12_0) (o_lss rfl rfl) rfl ?_
            refine sv (o_pickT (decide_eq_true hs12_0) rfl rfl) rfl ?_
            refine sv (o_as rfl) rfl ?_
            refine l_nil ?_
            refine e_K (hK44 _ _ _ _ ?_)
            refine c_if rfl (fun h25 => absurd h25 hs12_1) (fun h25 => ?_)
            refine c_seq fun K47 hK47 => ?_
            by_cases hs16_0 : (b0.toNat : Int) ≥ 240
            · skip
              by_cases hs16_1 : (b0.toNat : Int) < 248
              · skip
                refine c_region ?_
                refine sv (o_mv rfl) rfl ?_
                refine sv (o_geq rfl rfl) rfl ?_
                refine sv (o_mv rfl) rfl ?_
                refine sg rfl (decide_eq_true hs16_0) (o_mv rfl) rfl ?_
                refine sg rfl (decide_eq_true hs16_0) (o_lss rfl rfl) rfl ?_
                refine sv (o_pickT (decide_eq_true hs16_0) rfl rfl) rfl ?_
                refine sv (o_as rfl) rfl ?_
                refine l_nil ?_
                refine e_K (hK47 _ _ _ _ ?_)
                refine c_if rfl (fun h34 => ?_) (fun h34 => absurd hs16_1 h34)
                refine c_seq fun K48 hK48 => ?_
                refine c_region ?_
                refine sv (o_as rfl) rfl ?_
                refine l_nil ?_
                refine e_K (hK48 _ _ _ _ ?_)
                refine c_seq fun K49 hK49 => ?_
                refine c_region ?_
                refine sv (o_as rfl) rfl ?_
                refine l_nil ?_
                refine e_K (hK49 _ _ _ _ ?_)
                refine c_region ?_
                refine sv (o_mv rfl) rfl ?_
                refine sv ((o_remN rfl rfl (by omega)).to (v' := .int .i64 ((b0.toNat % 8 : Nat) : Int)) (by rw [Int.natCast_emod]; try rfl)) rfl ?_
                refine sv (o_as rfl) rfl ?_
                refine l_nil ?_
                refine e_in (by simp) ?_
                refine WE.sub (l' := [(0, _), (4, _), (5, _), (6, _)]) ⟨rfl, rfl, rfl, rfl, trivial⟩ (e_K (J11 4 65536 (b0.toNat % 8) w ⟨by unfold runeH; rw [if_neg (by omega), if_neg (by omega), if_pos (by omega)], by omega, E⟩))
              · skip
                refine c_region ?_
                refine sv (o_mv rfl) rfl ?_
                refine sv (o_geq rfl rfl) rfl ?_
                refine sv (o_mv rfl) rfl ?_
                refine sg rfl (decide_eq_true hs16_0) (o_mv rfl) rfl ?_
                refine sg rfl (decide_eq_true hs16_0) (o_lss rfl rfl) rfl ?_
                refine sv (o_pickT (decide_eq_true hs16_0) rfl rfl) rfl ?_
                refine sv (o_as rfl) rfl ?_
                refine l_nil ?_
                refine e_K (hK47 _ _ _ _ ?_)
                refine c_if rfl (fun h34 => absurd h34 hs16_1) (fun h34 => ?_)
                refine c_skip ?_
                refine e_in (by simp) ?_
                refine WE.sub (l' := [(0, _), (4, _), (5, _), (6, _)]) ⟨rfl, rfl, rfl, rfl, trivial⟩ (e_K (J11 0 0 b0.toNat w ⟨by unfold runeH; rw [if_neg (by omega), if_neg (by omega), if_neg (by omega)], by omega, E⟩))
            · skip
              refine c_region ?_
              refine sv (o_mv rfl) rfl ?_
              refine sv (o_geq rfl rfl) rfl ?_
              refine sv (o_mv rfl) rfl ?_
              refine sn rfl (fun e_ => absurd ((decide_eq_false hs16_0).symm.trans e_) (by decide)) rfl ?_
              refine sn rfl (fun e_ => absurd ((decide_eq_false hs16_0).symm.trans e_) (by decide)) rfl ?_
              refine sv (o_pickF (decide_eq_false hs16_0) rfl rfl) rfl ?_
              refine sv (o_as rfl) rfl ?_
              refine l_nil ?_
              refine e_K (hK47 _ _ _ _ ?_)
              refine c_false rfl ?_
              refine c_skip ?_
              refine e_in (by simp) ?_
              refine WE.sub (l' := [(0, _), (4, _), (5, _), (6, _)]) ⟨rfl, rfl, rfl, rfl, trivial⟩ (e_K (J11 0 0 b0.toNat w ⟨by unfold runeH; rw [if_neg (by omega), if_neg (by omega), if_neg (by omega)], by omega, E⟩))
        · skip
          refine c_region ?_
          refine sv (o_mv rfl) rfl ?_
          refine sv (o_geq rfl rfl) rfl ?_
          refine sv (o_mv rfl) rfl ?_
          refine sn rfl (fun e_ => absurd ((decide_eq_false hs12_0).symm.trans e_) (by decide)) rfl ?_
          refine sn rfl (fun e_ => absurd ((decide_eq_false hs12_0).symm.trans e_) (by decide)) rfl ?_
          refine sv (o_pickF (decide_eq_false hs12_0) rfl rfl) rfl ?_
          refine sv (o_as rfl) rfl ?_
          refine l_nil ?_
          refine e_K (hK44 _ _ _ _ ?_)
          refine c_false rfl ?_
          refine c_seq fun K50 hK50 => ?_
          by_cases hs16_0 : (b0.toNat : Int) ≥ 240
          · skip
            by_cases hs16_1 : (b0.toNat : Int) < 248
            · skip
              refine c_region ?_
              refine sv (o_mv rfl) rfl ?_
              refine sv (o_geq rfl rfl) rfl ?_
              refine sv (o_mv rfl) rfl ?_
              refine sg rfl (decide_eq_true hs16_0) (o_mv rfl) rfl ?_
              refine sg rfl (decide_eq_true hs16_0) (o_lss rfl rfl) rfl ?_
              refine sv (o_pickT (decide_eq_true hs16_0) rfl rfl) rfl ?_
              refine sv (o_as rfl) rfl ?_
              refine l_nil ?_
              refine e_K (hK50 _ _ _ _ ?_)
              refine c_if rfl (fun h34 => ?_) (fun h34 => absurd hs16_1 h34)
              refine c_seq fun K51 hK51 => ?_
              refine c_region ?_
              refine sv (o_as rfl) rfl ?_
              refine l_nil ?_
              refine e_K (hK51 _ _ _ _ ?_)
              refine c_seq fun K52 hK52 => ?_
              refine c_region ?_
              refine sv (o_as rfl) rfl ?_
              refine l_nil ?_
              refine e_K (hK52 _ _ _ _ ?_)
              refine c_region ?_
              refine sv (o_mv rfl) rfl ?_
              refine sv ((o_remN rfl rfl (by omega)).to (v' := .int .i64 ((b0.toNat % 8 : Nat) : Int)) (by rw [Int.natCast_emod]; try rfl)) rfl ?_
              refine sv (o_as rfl) rfl ?_
              refine l_nil ?_
              refine e_in (by simp) ?_
              refine WE.sub (l' := [(0, _), (4, _), (5, _), (6, _)]) ⟨rfl, rfl, rfl, rfl, trivial⟩ (e_K (J11 4 65536 (b0.toNat % 8) w ⟨by unfold runeH; rw [if_neg (by omega), if_neg (by omega), if_pos (by omega)], by omega, E⟩))
            · skip
              refine c_region ?_
              refine sv (o_mv rfl) rfl ?_
              refine sv (o_geq rfl rfl) rfl ?_
              refine sv (o_mv rfl) rfl ?_
              refine sg rfl (decide_eq_true hs16_0) (o_mv rfl) rfl ?_
              refine sg rfl (decide_eq_true hs16_0) (o_lss rfl rfl) rfl ?_
              refine sv (o_pickT (decide_eq_true hs16_0) rfl rfl) rfl ?_
              refine sv (o_as rfl) rfl ?_
              refine l_nil ?_
              refine e_K (hK50 _ _ _ _ ?_)
              refine c_if rfl (fun h34 => absurd h34 hs16_1) (fun h34 => ?_)
              refine c_skip ?_
              refine e_in (by simp) ?_
              refine WE.sub (l' := [(0, _), (4, _), (5, _), (6, _)]) ⟨rfl, rfl, rfl, rfl, trivial⟩ (e_K (J11 0 0 b0.toNat w ⟨by unfold runeH; rw [if_neg (by omega), if_neg (by omega), if_neg (by omega)], by omega, E⟩))
          · skip
            refine c_region ?_
            refine sv (o_mv rfl) rfl ?_
            refine sv (o_geq rfl rfl) rfl ?_
            refine sv (o_mv rfl) rfl ?_
            refine sn rfl (fun e_ => absurd ((decide_eq_false hs16_0).symm.trans e_) (by decide)) rfl ?_
            refine sn rfl (fun e_ => absurd ((decide_eq_false hs16_0).symm.trans e_) (by decide)) rfl ?_
            refine sv (o_pickF (decide_eq_false hs16_0) rfl rfl) rfl ?_
            refine sv (o_as rfl) rfl ?_
            refine l_nil ?_
            refine e_K (hK50 _ _ _ _ ?_)
            refine c_false rfl ?_
            refine c_skip ?_
            refine e_in (by simp) ?_
            refine WE.sub (l' := [(0, _), (4, _), (5, _), (6, _)]) ⟨rfl, rfl, rfl, rfl, trivial⟩ (e_K (J11 0 0 b0.toNat w ⟨by unfold runeH; rw [if_neg (by omega), if_neg (by omega), if_neg (by omega)], by omega, E⟩))
end Go.Proofs.YtkhbnhdlelmbnaaDoor.V

set_option linter.unusedVariables false
set_option linter.unusedSimpArgs false
set_option maxRecDepth 10000
namespace Go.Proofs.YtkhbnhdlelmbnaaDoor.V
open Go Go.Proofs
theorem ent85 : Ent Tryd.prog 85 := Ent.of Tryd.func85 (by kernel_rfl) (by kernel_rfl)
theorem c_valid8 (w : World) (s : Str) : Calls Tryd.prog 68 [S s].toArray w (Ret fun u w' => u = .bool (validR s) ∧ Mod [] w w') := by
  refine enter Tryd.func68 rfl rfl rfl (l := [(0, _)]) ⟨rfl, trivial⟩ ?_
  have E := Mod.refl [] w
  refine c_seq fun K1 hK1 => ?_
  refine c_region ?_
  refine sv (o_as rfl) rfl ?_
  refine l_nil ?_
  refine e_K (hK1 _ _ _ _ ?_)
  refine c_seq fun K2 hK2 => ?_
  refine c_block ?_
  refine c_loop (σ := Str) (fun s1 => [(0, S s1)]) (fun s1 w1 => validR s = validR s1 ∧ Mod [] w w1) (fun s1 => s1.length) (s) ⟨rfl, trivial⟩ (⟨rfl, E⟩) ?_
  rintro s1 w1 ⟨hv, E⟩
  refine c_seq fun K3 hK3 => ?_
  refine c_seq fun K4 hK4 => ?_
  refine c_region ?_
  refine sv (o_mv rfl) rfl ?_
  refine sv (o_sne rfl rfl) rfl ?_
  refine l_nil ?_
  refine e_K (hK4 _ _ _ _ ?_)
  refine c_if rfl (fun h6 => ?_) (fun h6 => ?_)
  · skip
    have hne : s1 ≠ [] := h6
    refine c_skip ?_
    refine e_K (hK3 _ _ _ _ ?_)
    refine c_block ?_
    refine c_seq fun K5 hK5 => ?_
    refine c_region ?_
    refine sv (o_mv rfl) rfl ?_
    refine sc (o_call ent85 rfl) (c_rune _ _) rfl fun v_ w2 h_ => ?_
    obtain ⟨rfl, E_⟩ := h_
    replace E := E.then E_
    refine sv (o_mv rfl) rfl ?_
    refine sv (o_ext rfl rfl) rfl ?_
    refine sv (o_ext rfl rfl) rfl ?_
    refine sv (o_as rfl) rfl ?_
    refine sv (o_as rfl) rfl ?_
    refine l_nil ?_
    refine e_K (hK5 _ _ _ _ ?_)
    refine c_seq fun K6 hK6 => ?_
    refine c_seq fun K7 hK7 => ?_
    refine c_region ?_
    refine sv (o_mv rfl) rfl ?_
    refine sv (o_eql rfl rfl) rfl ?_
    refine l_nil ?_
    refine e_K (hK7 _ _ _ _ ?_)
    refine c_if rfl (fun h13 => ?_) (fun h13 => ?_)
    · skip
      have hR : validR s = false := by rw [hv, validR_no hne (by omega)]
      refine c_seq fun K8 hK8 => ?_
      refine c_region ?_
      refine sv (o_as rfl) rfl ?_
      refine l_nil ?_
      refine e_K (hK8 _ _ _ _ ?_)
      refine c_ret ?_
      refine e_then (by simp) ?_
      refine e_in (by simp) ?_
      refine e_then (by simp) ?_
      refine e_in (by simp) ?_
      refine e_then (by simp) ?_
      exact ret1 rfl rfl ⟨by rw [hR], E⟩
    · skip
      have hn0 : (runeR s1).2 ≠ 0 := by omega
      refine c_skip ?_
      refine e_K (hK6 _ _ _ _ ?_)
      refine c_region ?_
      refine sv (o_mv rfl) rfl ?_
      refine sv (o_mv rfl) rfl ?_
      have hle := runeR_le s1
      refine sv (o_ssfrom Tryd.underlying9 rfl rfl hle) rfl ?_
      refine sv (o_as rfl) rfl ?_
      refine l_nil ?_
      refine e_in (by simp) ?_
      exact e_round (σ := Str) (s := s1) (s1.drop (runeR s1).2) ⟨rfl, trivial⟩ ⟨hv.trans (validR_go hne hn0), E⟩ ((by have := runeR_le s1; have h0 : s1.length ≠ 0 := fun e => hne (List.eq_nil_of_length_eq_zero e); simp only [List.length_drop]; omega))
  · skip
    have hnil : s1 = [] := Classical.byContradiction h6
    have hR : validR s = true := by rw [hv, hnil, validR_nil]
    refine c_exit ?_
    refine e_then (by simp) ?_
    refine e_then (by simp) ?_
    refine e_hit ?_
    refine e_K (hK2 _ _ _ _ ?_)
    refine c_seq fun K9 hK9 => ?_
    refine c_region ?_
    refine sv (o_as rfl) rfl ?_
    refine l_nil ?_
    refine e_K (hK9 _ _ _ _ ?_)
    refine c_ret ?_
    exact ret1 rfl rfl ⟨by rw [hR], E⟩
end Go.Proofs.YtkhbnhdlelmbnaaDoor.V

set_option linter.unusedVariables false
set_option linter.unusedSimpArgs false
namespace Go.Proofs.YtkhbnhdlelmbnaaDoor.V
open Go
abbrev b8c (c : UInt8) : List Value := [B8 c]
theorem cells_b8 (b : List UInt8) : (b.map b8c).flatten = b.map B8 := by
  induction b with
  | nil => rfl
  | cons c b ih => simp [ih]
theorem u8_eq {c d : UInt8} (h : (c.toNat : Int) = d.toNat) : c = d := UInt8.toNat_inj.1 (by omega)
theorem escQ1 {c : UInt8} (h : (c.toNat : Int) = 34 ∨ (c.toNat : Int) = 92) : escQ c = [92, c] := by
  unfold escQ
  rw [if_pos (h.imp (fun h => u8_eq h) (fun h => u8_eq h))]
theorem escQ2 {c : UInt8} (h : (c.toNat : Int) = 8) : escQ c = [92, 98] := by obtain rfl : c = 8 := u8_eq h; rfl
theorem escQ3 {c : UInt8} (h : (c.toNat : Int) = 9) : escQ c = [92, 116] := by obtain rfl : c = 9 := u8_eq h; rfl
theorem escQ4 {c : UInt8} (h : (c.toNat : Int) = 10) : escQ c = [92, 110] := by obtain rfl : c = 10 := u8_eq h; rfl
theorem escQ5 {c : UInt8} (h : (c.toNat : Int) = 12) : escQ c = [92, 102] := by obtain rfl : c = 12 := u8_eq h; rfl
theorem escQ6 {c : UInt8} (h : (c.toNat : Int) = 13) : escQ c = [92, 114] := by obtain rfl : c = 13 := u8_eq h; rfl
theorem u8_ne {c d : UInt8} (h : ¬ (c.toNat : Int) = d.toNat) : c ≠ d := fun e => h (by rw [e])
theorem escQ7 {c : UInt8} (h1 : ¬ (c.toNat : Int) = 34) (h2 : ¬ (c.toNat : Int) = 92) (h3 : ¬ (c.toNat : Int) = 8) (h4 : ¬ (c.toNat : Int) = 9) (h5 : ¬ (c.toNat : Int) = 10) (h6 : ¬ (c.toNat : Int) = 12) (h7 : ¬ (c.toNat : Int) = 13) :
    escQ c = if c.toNat < 32 then [92, 117, 48, 48, hexD.getD (c.toNat / 16) 0, hexD.getD (c.toNat % 16) 0] else [c] := by
  unfold escQ
  rw [if_neg (fun h => h.elim (u8_ne (d := 34) h1) (u8_ne (d := 92) h2)), if_neg (u8_ne (d := 8) h3), if_neg (u8_ne (d := 9) h4), if_neg (u8_ne (d := 10) h5), if_neg (u8_ne (d := 12) h6), if_neg (u8_ne (d := 13) h7)]
theorem hex_at {i : Nat} (h : i < 16) : hexD[i]? = some (hexD.getD i 0) := by
  have : ∀ j : Fin 16, hexD[j.val]? = some (hexD.getD j.val 0) := by decide
  exact this ⟨i, h⟩
/-- the bytes that a result has; an error's number -/
def bts : Except Int Str → Str
  | .ok b => b
  | .error _ => []
def ern : Except Int Str → Int
  | .ok _ => 0
  | .error e => if e = 0 then 1 else e
theorem ern_ok {r : Except Int Str} (h : ern r = 0) : ∃ b, r = .ok b := by
  cases r with
  | ok b => exact ⟨b, rfl⟩
  | error e =>
    exfalso
    by_cases h0 : e = 0 <;> simp [ern, h0] at h
theorem ern_no {r : Except Int Str} (h : ¬ ern r = 0) : ∃ e, r = .error e := by
  cases r with
  | ok b => exact absurd rfl h
  | error e => exact ⟨e, rfl⟩
theorem bind_no {r : Except Int Str} (h : ¬ ern r = 0) (f : Str → Except Int Str) : r.bind f = r := by
  obtain ⟨e, rfl⟩ := ern_no h
  rfl
theorem lng_bts (b : Str) : (lng b = .ok b ∧ b.length ≤ 65536) ∨ (lng b = .error 3 ∧ 65536 < b.length) := by
  unfold lng
  by_cases h : 65536 < b.length
  · exact .inr ⟨if_pos h, h⟩
  · exact .inl ⟨if_neg h, by omega⟩
theorem lng_len (b : Str) : (bts (lng b)).length ≤ 65536 := by
  rcases lng_bts b with ⟨h, h2⟩ | ⟨h, _⟩
  · rw [h]; exact h2
  · rw [h]; simp [bts]
end Go.Proofs.YtkhbnhdlelmbnaaDoor.V
