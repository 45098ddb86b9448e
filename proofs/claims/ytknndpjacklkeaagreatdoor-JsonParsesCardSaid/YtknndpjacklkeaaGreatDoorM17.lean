/-
  A part of the proof: the document's reading of numbers and blanks, step by step. No condition of its own.
-/
import Derived.Test.YtknndpjacklkeaaGreatDoorM16
import Derived.Test.YtknndpjacklkeaaGreatDoorM4
import Derived.Test.YtknndpjacklkeaaGreatDoorM15
set_option linter.unusedVariables false
set_option linter.unusedSimpArgs false
set_option maxRecDepth 10000
namespace Go.Proofs.YtknndpjacklkeaaGreatDoor.V
open Go Go.Proofs
theorem ent183 : Ent Tryz.prog 183 := Ent.of Tryz.func183 (by kernel_rfl) (by kernel_rfl)
theorem ent148 : Ent Tryz.prog 148 := Ent.of Tryz.func148 (by kernel_rfl) (by kernel_rfl)
theorem ent149 : Ent Tryz.prog 149 := Ent.of Tryz.func149 (by kernel_rfl) (by kernel_rfl)
theorem c_escR (w : World) (s : Str) (hs : s.length ≤ 1000000) : Calls Tryz.prog 148 [S s].toArray w (Ret fun u w' => u = .tuple #[.int .i64 ((escR s).1 : Int), .int .i64 ((escR s).2 : Int)] ∧ Mod [] w w') := by
 refine enter Tryz.func148 rfl rfl rfl (l := [(0, _)]) ⟨rfl, trivial⟩ ?_
 have E := Mod.refl [] w
 refine Cq fun K1 hK1 => Cr (tW 2 rfl (Ln (e_K (hK1 _ _ _ _ (Cq fun K2 hK2 => Cq fun K3 hK3 => Cr (Zm rfl (Sv (o_slen Tryz.underlying9 rfl) (Sv (o_lss rfl rfl) (Ln (e_K (hK3 _ _ _ _ ?_)))))))))))
 refine c_if rfl (fun h11 => ?_) (fun h11 => ?_)
 ·have hR := escR_short (s := s) (by omega)
  exact Cq fun K4 hK4 => Cr (tW 2 rfl (Ln (e_K (hK4 _ _ _ _ (cR (eT (by simp) (ret2 rfl rfl rfl ⟨by rw [hR]; rfl, E⟩)))))))
 ·obtain ⟨c1, hc1⟩ : ∃ c, s[1]? = some c := ⟨_, List.getElem?_eq_getElem (by omega)⟩
  refine cK (e_K (hK2 _ _ _ _ (Cq fun K5 hK5 => Cr (Za rfl (Ln (e_K (hK5 _ _ _ _ (Cq fun K6 hK6 => Cr (Za rfl (Ln (e_K (hK6 _ _ _ _ (Cq fun K7 hK7 => Cq fun K8 hK8 => ?_)))))))))))))
  refine Cr (Za rfl (Ln (e_K (hK8 _ _ _ _ (cB (c_loop (σ := Nat) (fun i => [(0, S s), (4, S e8F), (5, S e8T), (6, .int .i64 (i : Int))]) (fun i w1 => i ≤ 8 ∧ e8 c1 i = escC c1 ∧ Mod [] w w1) (fun i => 8 - i) (0) ⟨rfl, rfl, rfl, rfl, trivial⟩ (⟨by omega, e8_all c1, E⟩) ?_))))))
  rintro i w1 ⟨hi, hinv, E⟩
  refine Cq fun K9 hK9 => Cq fun K10 hK10 => Cr (tW 2 rfl (Sv (o_slen Tryz.underlying9 rfl) (Sv (o_lss rfl rfl) (Ln (e_K (hK10 _ _ _ _ ?_))))))
  refine c_if rfl (fun h15 => ?_) (fun h15 => ?_)
  ·have hi8 : i < 8 := by have : (i : Int) < 8 := h15; omega
   obtain ⟨a, ha⟩ : ∃ a, e8F[i]? = some a := ⟨_, List.getElem?_eq_getElem (show i < 8 from hi8)⟩
   obtain ⟨b, hb⟩ : ∃ b, e8T[i]? = some b := ⟨_, List.getElem?_eq_getElem (show i < 8 from hi8)⟩
   have hbl := b.toNat_lt
   refine cK (e_K (hK9 _ _ _ _ (Cq fun K11 hK11 => cB (Cq fun K12 hK12 => ?_))))
   by_cases heq : (a.toNat : Int) = (c1.toNat : Int)
   ·refine c_draw wide (by kernel_rfl) (tU 2 rfl rfl (tv (fun w_ E_ => (o_sidx (c := a) Tryz.underlying9 rfl rfl (by omega) (by rw [Int.toNat_natCast]; exact ha))) rfl rfl (tv (fun w_ E_ => (oM rfl)) rfl rfl (tv (fun w_ E_ => (o_sidx (c := c1) Tryz.underlying9 rfl rfl (by omega) hc1)) rfl rfl (tv (fun w_ E_ => (oE rfl rfl)) rfl rfl (tw_nil rfl fun w2 E_ => ?_))))))
    replace E := E.then E_
    refine e_K (hK12 _ _ _ _ ?_)
    refine c_if rfl (fun h23 => ?_) (fun h23 => absurd heq h23)
    have hR : escR s = (b.toNat, 2) := escR_two hc1 (by rw [← hinv, e8_at hi8 ha hb, if_pos (u8_eq heq)])
    exact Cq fun K13 hK13 => Cr (tW 2 rfl (Sv (o_sidx (c := b) Tryz.underlying9 rfl rfl (by omega) (by rw [Int.toNat_natCast]; exact hb)) (Sv (o_convE (r := (b.toNat : Int)) Tryz.underlying5 Tryz.underlying3 rfl (wrap64_in _ (by omega))) (tW 2 rfl (Ln (e_K (hK13 _ _ _ _ (cR (eI (by simp) (eT (by simp) (eT (by simp) (eI (by simp) (eT (by simp) (ret2 rfl rfl rfl ⟨by rw [hR]; rfl, E⟩))))))))))))))
   ·refine c_draw wide (by kernel_rfl) (tU 2 rfl rfl (tv (fun w_ E_ => (o_sidx (c := a) Tryz.underlying9 rfl rfl (by omega) (by rw [Int.toNat_natCast]; exact ha))) rfl rfl (tv (fun w_ E_ => (oM rfl)) rfl rfl (tv (fun w_ E_ => (o_sidx (c := c1) Tryz.underlying9 rfl rfl (by omega) hc1)) rfl rfl (tv (fun w_ E_ => (oE rfl rfl)) rfl rfl (tw_nil rfl fun w3 E_ => ?_))))))
    replace E := E.then E_
    refine e_K (hK12 _ _ _ _ (c_if rfl (fun h23 => absurd h23 heq) (fun h23 => ?_)))
    have hne : ¬ a = c1 := fun e => heq (by rw [e])
    exact cK (eI (by simp) (e_K (hK11 _ _ _ _ (Cr (Zm rfl (Sv (o_addE (r := ((i + 1 : Nat) : Int)) rfl rfl (by rw [wrap64_in _ (by omega)]; omega)) (Za rfl (Ln (eR (σ := Nat) (s := i) (i + 1) ⟨rfl, rfl, rfl, rfl, trivial⟩ ⟨by omega, by rw [← hinv, e8_at hi8 ha hb, if_neg hne], E⟩ (by omega))))))))))
  ·have hi8 : i = 8 := by have : ¬ (i : Int) < 8 := h15; omega
   subst hi8
   have hes : escC c1 = none := hinv.symm.trans (e8_end c1)
   refine c_exit (eT (by simp) (eT (by simp) (e_hit (e_K (hK7 _ _ _ _ (Cq fun K14 hK14 => Cr (Zm rfl (sc (oC ent183 rfl) (c_hexR _ s hs) rfl fun v_ w4 h_ => ?_))))))))
   obtain ⟨rfl, E_⟩ := h_
   replace E := E.then E_
   obtain ⟨N, hN⟩ : ∃ N, hexI (hexU s) = N := ⟨_, rfl⟩
   rw [hN]
   have hNb := hexI_bound hN
   refine Za rfl (Ln (e_K (hK14 _ _ _ _ (Cq fun K15 hK15 => Cq fun K16 hK16 => Cr (tW 2 rfl ?_)))))
   refine bD (fun hq1 : N < 0 => ?_) (fun hq1 => ?_)
   ·refine tW 8 rfl (Ln (e_K (hK16 _ _ _ _ (c_true rfl ?_))))
    have hR := escR_z hc1 hes hN (by omega)
    exact Cq fun K17 hK17 => Cr (tW 2 rfl (Ln (e_K (hK17 _ _ _ _ (cR (eT (by simp) (ret2 rfl rfl rfl ⟨by rw [hR]; rfl, E⟩)))))))
   ·refine tW 2 rfl (Sg rfl rfl (o_geq rfl rfl) ?_)
    refine bD (fun hq2 : N ≥ 56320 => ?_) (fun hq2 => ?_)
    ·refine tW 3 rfl ?_
     refine bD (fun hq3 : N ≤ 57343 => ?_) (fun hq3 => ?_)
     ·refine tW 2 rfl (Ln (e_K (hK16 _ _ _ _ (c_true rfl ?_))))
      have hR := escR_z hc1 hes hN (by omega)
      exact Cq fun K18 hK18 => Cr (tW 2 rfl (Ln (e_K (hK18 _ _ _ _ (cR (eT (by simp) (ret2 rfl rfl rfl ⟨by rw [hR]; rfl, E⟩)))))))
     ·refine tW 2 rfl (Ln (e_K (hK16 _ _ _ _ (c_false rfl ?_))))
      have hz : ¬ (N < 0 ∨ (56320 ≤ N ∧ N ≤ 57343)) := by omega
      refine cK (e_K (hK15 _ _ _ _ (Cq fun K19 hK19 => Cq fun K20 hK20 => Cr (tW 2 rfl ?_))))
      refine bD (fun hq4 : N < 55296 => ?_) (fun hq4 => ?_)
      ·refine tW 4 rfl (Ln (e_K (hK20 _ _ _ _ (c_true rfl ?_))))
       have hR := escR_one hc1 hes hN hz (by omega)
       exact Cq fun K21 hK21 => Cr (tW 3 rfl (Ln (e_K (hK21 _ _ _ _ (cR (eT (by simp) (ret2 rfl rfl rfl ⟨by simp only [hR]; rw [Int.toNat_of_nonneg (by omega)]; rfl, E⟩)))))))
      ·refine tW 3 rfl ?_
       refine bD (fun hq5 : N > 57343 => ?_) (fun hq5 => ?_)
       ·refine Sv (oF rfl rfl rfl) (Ln (e_K (hK20 _ _ _ _ (c_true rfl ?_))))
        have hR := escR_one hc1 hes hN hz (by omega)
        exact Cq fun K22 hK22 => Cr (tW 3 rfl (Ln (e_K (hK22 _ _ _ _ (cR (eT (by simp) (ret2 rfl rfl rfl ⟨by simp only [hR]; rw [Int.toNat_of_nonneg (by omega)]; rfl, E⟩)))))))
       ·refine Sv (oF rfl rfl rfl) (Ln (e_K (hK20 _ _ _ _ (c_false rfl ?_))))
        have hy : ¬ (N < 55296 ∨ 57343 < N) := by omega
        have h6 : 6 ≤ s.length := hNb.2.2 (by omega)
        refine cK (e_K (hK19 _ _ _ _ (Cq fun K23 hK23 => Cr (Zm rfl (Sv (o_ssfrom (n := 6) Tryz.underlying9 rfl rfl h6) (sc (oC ent183 rfl) (c_hexR _ (s.drop 6) (by rw [List.length_drop]; omega)) rfl fun v_ w5 h_ => ?_))))))
        obtain ⟨rfl, E_⟩ := h_
        replace E := E.then E_
        obtain ⟨M, hM⟩ : ∃ M, hexI (hexU (s.drop 6)) = M := ⟨_, rfl⟩
        rw [hM]
        have hMb := hexI_bound hM
        refine Za rfl (Ln (e_K (hK23 _ _ _ _ (Cq fun K24 hK24 => Cq fun K25 hK25 => Cr (tW 2 rfl ?_)))))
        refine bD (fun hq6 : M < 56320 => ?_) (fun hq6 => ?_)
        ·refine tW 4 rfl (Ln (e_K (hK25 _ _ _ _ (c_true rfl ?_))))
         have hR := escR_z2 hc1 hes hN hz hy hM (by omega)
         exact Cq fun K26 hK26 => Cr (tW 2 rfl (Ln (e_K (hK26 _ _ _ _ (cR (eT (by simp) (ret2 rfl rfl rfl ⟨by rw [hR]; rfl, E⟩)))))))
        ·refine tW 3 rfl ?_
         refine bD (fun hq7 : M > 57343 => ?_) (fun hq7 => ?_)
         ·refine Sv (oF rfl rfl rfl) (Ln (e_K (hK25 _ _ _ _ (c_true rfl ?_))))
          have hR := escR_z2 hc1 hes hN hz hy hM (by omega)
          exact Cq fun K27 hK27 => Cr (tW 2 rfl (Ln (e_K (hK27 _ _ _ _ (cR (eT (by simp) (ret2 rfl rfl rfl ⟨by rw [hR]; rfl, E⟩)))))))
         ·refine Sv (oF rfl rfl rfl) (Ln (e_K (hK25 _ _ _ _ (c_false rfl ?_))))
          have hR := escR_pair hc1 hes hN hz hy hM (by omega)
          refine cK (e_K (hK24 _ _ _ _ (Cq fun K28 hK28 => Cr (Zm rfl (Sv (o_subN rfl rfl (by omega)) (Sv (o_mulN rfl rfl (by omega)) (Sv (o_addN rfl rfl (by omega)) (Zm rfl (Sv (o_subN rfl rfl (by omega)) (Sv (o_addN rfl rfl (by omega)) (tW 2 rfl (Ln (e_K (hK28 _ _ _ _ ?_))))))))))))))
          exact cR (ret2 rfl rfl rfl ⟨by simp only [hR]; rw [Int.toNat_of_nonneg (by omega)]; rfl, E⟩)
    ·refine tW 5 rfl (Ln (e_K (hK16 _ _ _ _ (c_false rfl ?_))))
     have hz : ¬ (N < 0 ∨ (56320 ≤ N ∧ N ≤ 57343)) := by omega
     refine cK (e_K (hK15 _ _ _ _ (Cq fun K29 hK29 => Cq fun K30 hK30 => Cr (tW 2 rfl ?_))))
     refine bD (fun hq4 : N < 55296 => ?_) (fun hq4 => ?_)
     ·refine tW 4 rfl (Ln (e_K (hK30 _ _ _ _ (c_true rfl ?_))))
      have hR := escR_one hc1 hes hN hz (by omega)
      exact Cq fun K31 hK31 => Cr (tW 3 rfl (Ln (e_K (hK31 _ _ _ _ (cR (eT (by simp) (ret2 rfl rfl rfl ⟨by simp only [hR]; rw [Int.toNat_of_nonneg (by omega)]; rfl, E⟩)))))))
     ·refine tW 3 rfl ?_
      refine bD (fun hq5 : N > 57343 => ?_) (fun hq5 => ?_)
      ·refine Sv (oF rfl rfl rfl) (Ln (e_K (hK30 _ _ _ _ (c_true rfl ?_))))
       have hR := escR_one hc1 hes hN hz (by omega)
       exact Cq fun K32 hK32 => Cr (tW 3 rfl (Ln (e_K (hK32 _ _ _ _ (cR (eT (by simp) (ret2 rfl rfl rfl ⟨by simp only [hR]; rw [Int.toNat_of_nonneg (by omega)]; rfl, E⟩)))))))
      ·refine Sv (oF rfl rfl rfl) (Ln (e_K (hK30 _ _ _ _ (c_false rfl ?_))))
       have hy : ¬ (N < 55296 ∨ 57343 < N) := by omega
       have h6 : 6 ≤ s.length := hNb.2.2 (by omega)
       refine cK (e_K (hK29 _ _ _ _ (Cq fun K33 hK33 => Cr (Zm rfl (Sv (o_ssfrom (n := 6) Tryz.underlying9 rfl rfl h6) (sc (oC ent183 rfl) (c_hexR _ (s.drop 6) (by rw [List.length_drop]; omega)) rfl fun v_ w6 h_ => ?_))))))
       obtain ⟨rfl, E_⟩ := h_
       replace E := E.then E_
       obtain ⟨M, hM⟩ : ∃ M, hexI (hexU (s.drop 6)) = M := ⟨_, rfl⟩
       rw [hM]
       have hMb := hexI_bound hM
       refine Za rfl (Ln (e_K (hK33 _ _ _ _ (Cq fun K34 hK34 => Cq fun K35 hK35 => Cr (tW 2 rfl ?_)))))
       refine bD (fun hq6 : M < 56320 => ?_) (fun hq6 => ?_)
       ·refine tW 4 rfl (Ln (e_K (hK35 _ _ _ _ (c_true rfl ?_))))
        have hR := escR_z2 hc1 hes hN hz hy hM (by omega)
        exact Cq fun K36 hK36 => Cr (tW 2 rfl (Ln (e_K (hK36 _ _ _ _ (cR (eT (by simp) (ret2 rfl rfl rfl ⟨by rw [hR]; rfl, E⟩)))))))
       ·refine tW 3 rfl ?_
        refine bD (fun hq7 : M > 57343 => ?_) (fun hq7 => ?_)
        ·refine Sv (oF rfl rfl rfl) (Ln (e_K (hK35 _ _ _ _ (c_true rfl ?_))))
         have hR := escR_z2 hc1 hes hN hz hy hM (by omega)
         exact Cq fun K37 hK37 => Cr (tW 2 rfl (Ln (e_K (hK37 _ _ _ _ (cR (eT (by simp) (ret2 rfl rfl rfl ⟨by rw [hR]; rfl, E⟩)))))))
        ·refine Sv (oF rfl rfl rfl) (Ln (e_K (hK35 _ _ _ _ (c_false rfl ?_))))
         have hR := escR_pair hc1 hes hN hz hy hM (by omega)
         refine cK (e_K (hK34 _ _ _ _ (Cq fun K38 hK38 => Cr (Zm rfl (Sv (o_subN rfl rfl (by omega)) (Sv (o_mulN rfl rfl (by omega)) (Sv (o_addN rfl rfl (by omega)) (Zm rfl (Sv (o_subN rfl rfl (by omega)) (Sv (o_addN rfl rfl (by omega)) (tW 2 rfl (Ln (e_K (hK38 _ _ _ _ ?_))))))))))))))
         exact cR (ret2 rfl rfl rfl ⟨by simp only [hR]; rw [Int.toNat_of_nonneg (by omega)]; rfl, E⟩)

theorem c_bytesR (w : World) (c : Nat) (hc : c ≤ 1114111) : Calls Tryz.prog 149 [.int .i64 (c : Int)].toArray w (Ret fun u w' => u = S (encB c) ∧ Mod [] w w') := by
 refine enter Tryz.func149 rfl rfl rfl (l := [(0, _)]) ⟨rfl, trivial⟩ ?_
 have E := Mod.refl [] w
 refine Cq fun K1 hK1 => Cr (Za rfl (Ln (e_K (hK1 _ _ _ _ (Cq fun K2 hK2 => Cq fun K3 hK3 => Cr (tW 2 rfl (Ln (e_K (hK3 _ _ _ _ ?_)))))))))
 refine c_if rfl (fun h4 => ?_) (fun h4 => ?_)
 ·have hA : c < 128 := by omega
  refine Cq fun K4 hK4 => Cr (Zm rfl (Sv (o_convE Tryz.underlying3 Tryz.underlying5 rfl (wrapu8_in _ (by omega))) (s_bslice (cs := [_]) sl74 zv5 rfl rfl rfl (by decide) rfl fun g1 w1 N1 => ?_)))
  have Lg1_E := N1.le E
  replace E := E.then N1.mod
  have Bg1 := N1.blk
  exact Sv (o_b2s_own (u := encB c) Tryz.underlying74 Tryz.underlying5 Tryz.underlying9 rfl ((Own.all (c := 1) Bg1 rfl (by omega)).same (encB_1 hA).1 (encB_1 hA).2.symm)) (Za rfl (Ln (e_K (hK4 _ _ _ _ (cR (eT (by simp) (ret1 rfl rfl ⟨rfl, E⟩)))))))
 ·have hA : ¬ c < 128 := by omega
  refine cK (e_K (hK2 _ _ _ _ (Cq fun K5 hK5 => Cq fun K6 hK6 => Cr (tW 2 rfl (Ln (e_K (hK6 _ _ _ _ ?_)))))))
  refine c_if rfl (fun h10 => ?_) (fun h10 => ?_)
  ·have hB : c < 2048 := by omega
   refine Cq fun K7 hK7 => Cr (Zm rfl (Sv ((o_quoN rfl rfl (by omega)).to (v' := .int .i64 ((c / 64 : Nat) : Int)) (by rw [Int.natCast_ediv]; try rfl)) (Sv (o_addE (r := ((192 + c / 64 : Nat) : Int)) rfl rfl (by rw [wrap64_in _ (by omega)]; omega)) (Sv (o_convE Tryz.underlying3 Tryz.underlying5 rfl (wrapu8_in _ (by omega))) (Zm rfl (Sv ((o_remN rfl rfl (by omega)).to (v' := .int .i64 ((c % 64 : Nat) : Int)) (by rw [Int.natCast_emod]; try rfl)) (Sv (o_addE (r := ((128 + c % 64 : Nat) : Int)) rfl rfl (by rw [wrap64_in _ (by omega)]; omega)) (Sv (o_convE Tryz.underlying3 Tryz.underlying5 rfl (wrapu8_in _ (by omega))) (s_bslice (cs := [_, _]) sl74 zv5 rfl rfl rfl (by decide) rfl fun g2 w2 N2 => ?_)))))))))
   have Lg2_E := N2.le E
   replace E := E.then N2.mod
   have Bg2 := N2.blk
   exact Sv (o_b2s_own (u := encB c) Tryz.underlying74 Tryz.underlying5 Tryz.underlying9 rfl ((Own.all (c := 2) Bg2 rfl (by omega)).same (encB_2 hA hB).1 (encB_2 hA hB).2.symm)) (Za rfl (Ln (e_K (hK7 _ _ _ _ (cR (eT (by simp) (ret1 rfl rfl ⟨rfl, E⟩)))))))
  ·have hB : ¬ c < 2048 := by omega
   refine cK (e_K (hK5 _ _ _ _ (Cq fun K8 hK8 => Cq fun K9 hK9 => Cr (tW 2 rfl (Ln (e_K (hK9 _ _ _ _ ?_)))))))
   refine c_if rfl (fun h22 => ?_) (fun h22 => ?_)
   ·have hC : c < 65536 := by omega
    refine Cq fun K10 hK10 => Cr (Zm rfl (Sv ((o_quoN rfl rfl (by omega)).to (v' := .int .i64 ((c / 4096 : Nat) : Int)) (by rw [Int.natCast_ediv]; try rfl)) (Sv (o_addE (r := ((224 + c / 4096 : Nat) : Int)) rfl rfl (by rw [wrap64_in _ (by omega)]; omega)) (Sv (o_convE Tryz.underlying3 Tryz.underlying5 rfl (wrapu8_in _ (by omega))) (Zm rfl (Sv ((o_quoN rfl rfl (by omega)).to (v' := .int .i64 ((c / 64 : Nat) : Int)) (by rw [Int.natCast_ediv]; try rfl)) (Sv ((o_remN rfl rfl (by omega)).to (v' := .int .i64 ((c / 64 % 64 : Nat) : Int)) (by rw [Int.natCast_emod]; try rfl)) (Sv (o_addE (r := ((128 + c / 64 % 64 : Nat) : Int)) rfl rfl (by rw [wrap64_in _ (by omega)]; omega)) (Sv (o_convE Tryz.underlying3 Tryz.underlying5 rfl (wrapu8_in _ (by omega))) (Zm rfl (Sv ((o_remN rfl rfl (by omega)).to (v' := .int .i64 ((c % 64 : Nat) : Int)) (by rw [Int.natCast_emod]; try rfl)) (Sv (o_addE (r := ((128 + c % 64 : Nat) : Int)) rfl rfl (by rw [wrap64_in _ (by omega)]; omega)) ?_))))))))))))
    refine Sv (o_convE Tryz.underlying3 Tryz.underlying5 rfl (wrapu8_in _ (by omega))) (s_bslice (cs := [_, _, _]) sl74 zv5 rfl rfl rfl (by decide) rfl fun g3 w3 N3 => ?_)
    have Lg3_E := N3.le E
    replace E := E.then N3.mod
    have Bg3 := N3.blk
    exact Sv (o_b2s_own (u := encB c) Tryz.underlying74 Tryz.underlying5 Tryz.underlying9 rfl ((Own.all (c := 3) Bg3 rfl (by omega)).same (encB_3 hB hC).1 (encB_3 hB hC).2.symm)) (Za rfl (Ln (e_K (hK10 _ _ _ _ (cR (eT (by simp) (ret1 rfl rfl ⟨rfl, E⟩)))))))
   ·have hC : ¬ c < 65536 := by omega
    refine cK (e_K (hK8 _ _ _ _ (Cq fun K11 hK11 => Cr (Zm rfl (Sv ((o_quoN rfl rfl (by omega)).to (v' := .int .i64 ((c / 262144 : Nat) : Int)) (by rw [Int.natCast_ediv]; try rfl)) (Sv (o_addE (r := ((240 + c / 262144 : Nat) : Int)) rfl rfl (by rw [wrap64_in _ (by omega)]; omega)) (Sv (o_convE Tryz.underlying3 Tryz.underlying5 rfl (wrapu8_in _ (by omega))) (Zm rfl (Sv ((o_quoN rfl rfl (by omega)).to (v' := .int .i64 ((c / 4096 : Nat) : Int)) (by rw [Int.natCast_ediv]; try rfl)) (Sv ((o_remN rfl rfl (by omega)).to (v' := .int .i64 ((c / 4096 % 64 : Nat) : Int)) (by rw [Int.natCast_emod]; try rfl)) (Sv (o_addE (r := ((128 + c / 4096 % 64 : Nat) : Int)) rfl rfl (by rw [wrap64_in _ (by omega)]; omega)) (Sv (o_convE Tryz.underlying3 Tryz.underlying5 rfl (wrapu8_in _ (by omega))) (Zm rfl ?_)))))))))))))
    refine Sv ((o_quoN rfl rfl (by omega)).to (v' := .int .i64 ((c / 64 : Nat) : Int)) (by rw [Int.natCast_ediv]; try rfl)) (Sv ((o_remN rfl rfl (by omega)).to (v' := .int .i64 ((c / 64 % 64 : Nat) : Int)) (by rw [Int.natCast_emod]; try rfl)) (Sv (o_addE (r := ((128 + c / 64 % 64 : Nat) : Int)) rfl rfl (by rw [wrap64_in _ (by omega)]; omega)) (Sv (o_convE Tryz.underlying3 Tryz.underlying5 rfl (wrapu8_in _ (by omega))) (Zm rfl (Sv ((o_remN rfl rfl (by omega)).to (v' := .int .i64 ((c % 64 : Nat) : Int)) (by rw [Int.natCast_emod]; try rfl)) (Sv (o_addE (r := ((128 + c % 64 : Nat) : Int)) rfl rfl (by rw [wrap64_in _ (by omega)]; omega)) (Sv (o_convE Tryz.underlying3 Tryz.underlying5 rfl (wrapu8_in _ (by omega))) (s_bslice (cs := [_, _, _, _]) sl74 zv5 rfl rfl rfl (by decide) rfl fun g4 w4 N4 => ?_))))))))
    have Lg4_E := N4.le E
    replace E := E.then N4.mod
    have Bg4 := N4.blk
    exact Sv (o_b2s_own (u := encB c) Tryz.underlying74 Tryz.underlying5 Tryz.underlying9 rfl ((Own.all (c := 4) Bg4 rfl (by omega)).same (encB_4 hC hc).1 (encB_4 hC hc).2.symm)) (Za rfl (Ln (e_K (hK11 _ _ _ _ (cR (ret1 rfl rfl ⟨rfl, E⟩))))))

theorem c_takeR (w : World) (s : Str) (k : Nat) (hs : s.length ≤ 200000) : Calls Tryz.prog 102 [S s, .int .i64 (k : Int)].toArray w (Ret fun u w' => u = .tuple #[S ((strT s k).getD ([], 0)).1, .int .i64 (((strT s k).getD ([], 0)).2 : Int), .bool (strT s k).isSome] ∧ Mod [] w w') := by
 refine enter Tryz.func102 rfl rfl rfl (l := [(0, _), (1, _)]) ⟨rfl, rfl, trivial⟩ ?_
 have E := Mod.refl [] w
 refine Cq fun K1 hK1 => Cr (tW 3 rfl (Ln (e_K (hK1 _ _ _ _ (Cq fun K2 hK2 => Cq fun K3 hK3 => Cr (tW 2 rfl (bE (dF (show ¬ ((k : Int) < 0) by omega)) (tW 3 rfl (Sg rfl rfl (o_slen Tryz.underlying9 rfl) (Sg rfl rfl (o_geq rfl rfl) ?_))))))))))
 refine bD (fun hge : (k : Int) ≥ (s.length : Int) => ?_) (fun hge => ?_)
 ·refine tW 7 rfl (Ln (e_K (hK3 _ _ _ _ (c_true rfl ?_))))
  have hW : (strT s k) = none := by
   unfold strT
   rw [if_neg]
   intro h
   first | (have := (List.getElem?_eq_some_iff.1 h).1; omega) | (rw [hc0] at h; injection h with h; subst h; exact hne rfl)
  exact Cq fun K4 hK4 => Cr (tW 3 rfl (Ln (e_K (hK4 _ _ _ _ (cR (eT (by simp) (ret3 rfl rfl rfl rfl ⟨by rw [hW]; rfl, E⟩)))))))
 ·obtain ⟨c0, hc0⟩ : ∃ c0, s[k]? = some c0 := ⟨_, List.getElem?_eq_getElem (by omega)⟩
  refine tW 4 rfl (Sg rfl rfl (o_sidx Tryz.underlying9 rfl rfl (by omega) (by rw [Int.toNat_natCast]; exact hc0)) (Sg rfl rfl (o_neq rfl rfl) ?_))
  refine bD (fun hne : (c0.toNat : Int) ≠ 34 => ?_) (fun hne => ?_)
  ·refine Sv (oF rfl rfl rfl) (Ln (e_K (hK3 _ _ _ _ (c_true rfl ?_))))
   have hW : (strT s k) = none := by
    unfold strT
    rw [if_neg]
    intro h
    first | (have := (List.getElem?_eq_some_iff.1 h).1; omega) | (rw [hc0] at h; injection h with h; subst h; exact hne rfl)
   exact Cq fun K5 hK5 => Cr (tW 3 rfl (Ln (e_K (hK5 _ _ _ _ (cR (eT (by simp) (ret3 rfl rfl rfl rfl ⟨by rw [hW]; rfl, E⟩)))))))
  ·refine Sv (oF rfl rfl rfl) (Ln (e_K (hK3 _ _ _ _ (c_false rfl ?_))))
   have hq : s[k]? = some 34 := by rw [hc0, u8_eq (show (c0.toNat : Int) = (34 : UInt8).toNat by rw [Classical.not_not.1 hne]; rfl)]
   refine cK (e_K (hK2 _ _ _ _ (Cq fun K6 hK6 => Cr (Za rfl (Ln (e_K (hK6 _ _ _ _ (Cq fun K7 hK7 => Cr (Zm rfl (Sv (o_addE (r := ((k + 1 : Nat) : Int)) rfl rfl (by rw [wrap64_in _ (by omega)]; omega)) (Za rfl (Ln (e_K (hK7 _ _ _ _ ?_))))))))))))))
   refine Cq fun K8 hK8 => cB (c_loop (σ := Nat × Value × Str) (fun ⟨i, v, out⟩ => [(0, S s), (7, v), (8, .int .i64 (i : Int))]) (fun ⟨i, v, out⟩ w1 => (k < i ∧ i ≤ s.length ∧ out.length ≤ 4 * i ∧ ∃ f, s.length - i < f ∧ strF f (s.drop i) i out = (strT s k)) ∧ OwB w1 v out ∧ (∀ x ∈ ob v, w.heap.size ≤ x) ∧ Mod [] w w1) (fun ⟨i, v, out⟩ => s.length - i) (⟨k + 1, .slice none 0 0, []⟩) ⟨rfl, rfl, rfl, trivial⟩ (⟨⟨by omega, by omega, by simp, s.length - k, by omega, by rw [strT, if_pos hq]⟩, Own.nil w 5 1, by simp [ob], E⟩) ?_)
   rintro ⟨i, v, out⟩ w1 ⟨⟨hk, hi, hol, f, hf, hinv⟩, O, L0, E⟩
   refine Cq fun K9 hK9 => Cq fun K10 hK10 => Cr (tW 2 rfl (Sv (o_slen Tryz.underlying9 rfl) (Sv (o_lss rfl rfl) (Ln (e_K (hK10 _ _ _ _ ?_))))))
   refine c_if rfl (fun h30 => ?_) (fun h30 => ?_)
   ·obtain ⟨c, hc⟩ : ∃ c, s[i]? = some c := ⟨_, List.getElem?_eq_getElem (by omega)⟩
    obtain ⟨g, rfl⟩ : ∃ g, f = g + 1 := ⟨f - 1, by omega⟩
    refine cK (e_K (hK9 _ _ _ _ (cB (Cq fun K11 hK11 => Cq fun K12 hK12 => Cr (tW 2 rfl (Sv (o_sidx Tryz.underlying9 rfl rfl (by omega) (by rw [Int.toNat_natCast]; exact hc)) (Sv (oE rfl rfl) (Ln (e_K (hK12 _ _ _ _ ?_))))))))))
    refine c_if rfl (fun h34 => ?_) (fun h34 => ?_)
    ·obtain rfl : c = 34 := u8_eq h34
     have hW : (strT s k) = some (out, i + 1) := by rw [← hinv, strF_quote hc]
     refine Cq fun K13 hK13 => Cr (Zm rfl (Sv (o_b2s_own (u := out) Tryz.underlying74 Tryz.underlying5 Tryz.underlying9 rfl (O.same rfl (cells_b8 _))) (Zm rfl (Sv (o_addE (r := ((i + 1 : Nat) : Int)) rfl rfl (by rw [wrap64_in _ (by omega)]; omega)) (tW 3 rfl (Ln (e_K (hK13 _ _ _ _ (cR (eT (by simp) (eI (by simp) (eT (by simp) (eI (by simp) ?_)))))))))))))
     exact eT (by simp) (ret3 rfl rfl rfl rfl ⟨by rw [hW]; rfl, E⟩)
    ·have h34' : c ≠ 34 := fun e => h34 (by rw [e]; rfl)
     have hst := hinv.symm.trans (strF_go hc h34')
     refine cK (e_K (hK11 _ _ _ _ (Cq fun K14 hK14 => Cr (tW 2 rfl (Sv (o_ssfrom Tryz.underlying9 rfl rfl hi) (sc (oC ent147 rfl) (c_rune _ (s.drop i)) rfl fun v_ w2 h_ => ?_))))))
     obtain ⟨rfl, E_⟩ := h_
     replace E := E.then E_
     replace O := O.mod0 E_
     refine tW 5 rfl (Ln (e_K (hK14 _ _ _ _ (Cq fun K15 hK15 => Cq fun K16 hK16 => Cr (tW 2 rfl (Sv (o_sidx Tryz.underlying9 rfl rfl (by omega) (by rw [Int.toNat_natCast]; exact hc)) (Sv (oE rfl rfl) (Ln (e_K (hK16 _ _ _ _ ?_))))))))))
     refine c_if rfl (fun h49 => ?_) (fun h49 => ?_)
     ·obtain rfl : c = 92 := u8_eq h49
      have hX : escX s i = escR (s.drop i) := by unfold escX; rw [if_pos hc]
      have hle := escX_le hc
      rw [hX] at hst hle
      refine Cr (tW 2 rfl (Sv (o_ssfrom Tryz.underlying9 rfl rfl hi) (sc (oC ent148 rfl) (c_escR _ (s.drop i) (by rw [List.length_drop]; omega)) rfl fun v_ w3 h_ => ?_)))
      obtain ⟨rfl, E_⟩ := h_
      replace E := E.then E_
      replace O := O.mod0 E_
      refine tW 5 rfl (Ln (e_K (hK15 _ _ _ _ (Cq fun K17 hK17 => Cq fun K18 hK18 => Cr (tW 2 rfl (Ln (e_K (hK18 _ _ _ _ ?_))))))))
      refine c_if rfl (fun h64 => ?_) (fun h64 => ?_)
      ·have hW : (strT s k) = none := by rw [hst, if_pos (.inl (by omega))]
       exact Cq fun K19 hK19 => Cr (tW 3 rfl (Ln (e_K (hK19 _ _ _ _ (cR (eT (by simp) (eI (by simp) (eT (by simp) (eI (by simp) (eT (by simp) (ret3 rfl rfl rfl rfl ⟨by rw [hW]; rfl, E⟩)))))))))))
      ·rw [if_neg (by rintro (h | ⟨h, h'⟩) <;> first | omega | exact h rfl)] at hst
       refine cK (e_K (hK17 _ _ _ _ (Cq fun K20 hK20 => Cr (tW 2 rfl (sc (oC ent149 rfl) (c_bytesR _ (escR (s.drop i)).1 hle.1) rfl fun v_ w4 h_ => ?_)))))
       obtain ⟨rfl, E_⟩ := h_
       replace E := E.then E_
       replace O := O.mod0 E_
       refine s_append sl74 rfl rfl O (Src.str Tryz.underlying9 _) (by decide) (by have := encB_le (escR (s.drop i)).1; omega) (by have := encB_le (escR (s.drop i)).1; omega) rfl fun v1 w5 AA => ?_
       have O1 : OwB w5 v1 (out ++ encB (escR (s.drop i)).1) := AA.own.same (by simp) (by simp [cells_b8, B8])
       have L1 : ∀ x ∈ ob v1, w.heap.size ≤ x := fun x hx => (AA.ob_ x hx).elim (L0 x) (fun h => Nat.le_trans E.size h)
       replace E := E.trans' AA.mod (fun x hx => .inr (L0 x hx))
       exact Za rfl (Ln (e_K (hK20 _ _ _ _ (Cr (tW 2 rfl (Sv (o_addE (r := ((i + (escR (s.drop i)).2 : Nat) : Int)) rfl rfl (by rw [wrap64_in _ (by omega)]; omega)) (Za rfl (Ln (eI (by simp) (eR (σ := Nat × Value × Str) (s := ⟨i, v, out⟩) (⟨i + (escR (s.drop i)).2, v1, out ++ encB (escR (s.drop i)).1⟩) ⟨rfl, rfl, rfl, trivial⟩ ⟨⟨by omega, by omega, by rw [List.length_append]; have := encB_le (escR (s.drop i)).1; omega, g, by omega, hst.symm⟩, O1, L1, E⟩ (by dsimp only; omega)))))))))))
     ·have h92 : c ≠ 92 := fun e => h49 (by rw [e]; rfl)
      have hX : escX s i = runeR (s.drop i) := by unfold escX; rw [if_neg (by rw [hc]; intro h; injection h with h; exact h92 h)]
      have hle := escX_le hc
      rw [hX] at hst hle
      refine Cq fun K21 hK21 => Cr (tW 2 rfl ?_)
      refine bD (fun hz1 : ((runeR (s.drop i)).2 : Int) = 0 => ?_) (fun hz1 => ?_)
      ·refine tW 4 rfl (Ln (e_K (hK21 _ _ _ _ (c_true rfl ?_))))
       have hW : (strT s k) = none := by rw [hst, if_pos (by first | exact .inl (by omega) | exact .inr ⟨h92, by omega⟩)]
       exact Cq fun K22 hK22 => Cr (tW 3 rfl (Ln (e_K (hK22 _ _ _ _ (cR (eT (by simp) (eI (by simp) (eT (by simp) (eI (by simp) (eT (by simp) (ret3 rfl rfl rfl rfl ⟨by rw [hW]; rfl, E⟩)))))))))))
      ·refine tW 3 rfl ?_
       refine bD (fun hz2 : ((runeR (s.drop i)).1 : Int) < 32 => ?_) (fun hz2 => ?_)
       ·refine Sv (oF rfl rfl rfl) (Ln (e_K (hK21 _ _ _ _ (c_true rfl ?_))))
        have hW : (strT s k) = none := by rw [hst, if_pos (by first | exact .inl (by omega) | exact .inr ⟨h92, by omega⟩)]
        exact Cq fun K23 hK23 => Cr (tW 3 rfl (Ln (e_K (hK23 _ _ _ _ (cR (eT (by simp) (eI (by simp) (eT (by simp) (eI (by simp) (eT (by simp) (ret3 rfl rfl rfl rfl ⟨by rw [hW]; rfl, E⟩)))))))))))
       ·refine Sv (oF rfl rfl rfl) (Ln (e_K (hK21 _ _ _ _ (c_false rfl (cK (e_K (hK15 _ _ _ _ (Cq fun K24 hK24 => Cq fun K25 hK25 => Cr (tW 2 rfl (Ln (e_K (hK25 _ _ _ _ ?_))))))))))))
        refine c_if rfl (fun h64 => ?_) (fun h64 => ?_)
        ·have hW : (strT s k) = none := by rw [hst, if_pos (.inl (by omega))]
         exact Cq fun K26 hK26 => Cr (tW 3 rfl (Ln (e_K (hK26 _ _ _ _ (cR (eT (by simp) (eI (by simp) (eT (by simp) (eI (by simp) (eT (by simp) (ret3 rfl rfl rfl rfl ⟨by rw [hW]; rfl, E⟩)))))))))))
        ·rw [if_neg (by rintro (h | ⟨h, h'⟩) <;> first | omega | exact h rfl)] at hst
         refine cK (e_K (hK24 _ _ _ _ (Cq fun K27 hK27 => Cr (tW 2 rfl (sc (oC ent149 rfl) (c_bytesR _ (runeR (s.drop i)).1 hle.1) rfl fun v_ w6 h_ => ?_)))))
         obtain ⟨rfl, E_⟩ := h_
         replace E := E.then E_
         replace O := O.mod0 E_
         refine s_append sl74 rfl rfl O (Src.str Tryz.underlying9 _) (by decide) (by have := encB_le (runeR (s.drop i)).1; omega) (by have := encB_le (runeR (s.drop i)).1; omega) rfl fun v1 w7 AA => ?_
         have O1 : OwB w7 v1 (out ++ encB (runeR (s.drop i)).1) := AA.own.same (by simp) (by simp [cells_b8, B8])
         have L1 : ∀ x ∈ ob v1, w.heap.size ≤ x := fun x hx => (AA.ob_ x hx).elim (L0 x) (fun h => Nat.le_trans E.size h)
         replace E := E.trans' AA.mod (fun x hx => .inr (L0 x hx))
         exact Za rfl (Ln (e_K (hK27 _ _ _ _ (Cr (tW 2 rfl (Sv (o_addE (r := ((i + (runeR (s.drop i)).2 : Nat) : Int)) rfl rfl (by rw [wrap64_in _ (by omega)]; omega)) (Za rfl (Ln (eI (by simp) (eR (σ := Nat × Value × Str) (s := ⟨i, v, out⟩) (⟨i + (runeR (s.drop i)).2, v1, out ++ encB (runeR (s.drop i)).1⟩) ⟨rfl, rfl, rfl, trivial⟩ ⟨⟨by omega, by omega, by rw [List.length_append]; have := encB_le (runeR (s.drop i)).1; omega, g, by omega, hst.symm⟩, O1, L1, E⟩ (by dsimp only; omega)))))))))))
   ·have hW : (strT s k) = none := by rw [← hinv, strF_end (by omega)]
    exact c_exit (eT (by simp) (eT (by simp) (e_hit (e_K (hK8 _ _ _ _ (Cq fun K28 hK28 => Cr (tW 3 rfl (Ln (e_K (hK28 _ _ _ _ (cR (ret3 rfl rfl rfl rfl ⟨by rw [hW]; rfl, E⟩))))))))))))
end Go.Proofs.YtknndpjacklkeaaGreatDoor.V

set_option linter.unusedVariables false
set_option linter.unusedSimpArgs false
namespace Go.Proofs.YtknndpjacklkeaaGreatDoor.V
open Go
theorem wsB_yes {c : UInt8} (h : (c.toNat : Int) = 32 ∨ (c.toNat : Int) = 9 ∨ (c.toNat : Int) = 10 ∨ (c.toNat : Int) = 13) : isWs c = true := by
 rcases h with h | h | h | h
 ·obtain rfl : c = 32 := u8_eq h; rfl
 ·obtain rfl : c = 9 := u8_eq h; rfl
 ·obtain rfl : c = 10 := u8_eq h; rfl
 ·obtain rfl : c = 13 := u8_eq h; rfl
theorem wsB_not {c : UInt8} (h : ¬ ((c.toNat : Int) = 32 ∨ (c.toNat : Int) = 9 ∨ (c.toNat : Int) = 10 ∨ (c.toNat : Int) = 13)) : isWs c = false := by
 unfold isWs
 rw [beq_eq_false_iff_ne.2 (fun e => h (by rw [e]; exact .inl rfl)), beq_eq_false_iff_ne.2 (fun e => h (by rw [e]; exact .inr (.inl rfl))), beq_eq_false_iff_ne.2 (fun e => h (by rw [e]; exact .inr (.inr (.inl rfl)))), beq_eq_false_iff_ne.2 (fun e => h (by rw [e]; exact .inr (.inr (.inr rfl))))]
 rfl
theorem dg_yes {c : UInt8} (h : 48 ≤ (c.toNat : Int) ∧ (c.toNat : Int) ≤ 57) : isDg c = true := by
 unfold isDg
 simp
 omega
theorem dg_not {c : UInt8} (h : ¬ (48 ≤ (c.toNat : Int) ∧ (c.toNat : Int) ≤ 57)) : isDg c = false := by
 unfold isDg
 rw [Bool.eq_false_iff]
 intro h2
 simp at h2
 omega
theorem nm_yes {c : UInt8} (h : (48 ≤ (c.toNat : Int) ∧ (c.toNat : Int) ≤ 57) ∨ (c.toNat : Int) = 43 ∨ (c.toNat : Int) = 45 ∨ (c.toNat : Int) = 46 ∨ (c.toNat : Int) = 101 ∨ (c.toNat : Int) = 69) : isNm c = true := by
 rcases h with h | h | h | h | h | h
 ·unfold isNm; rw [dg_yes h]; rfl
 ·obtain rfl : c = 43 := u8_eq h; rfl
 ·obtain rfl : c = 45 := u8_eq h; rfl
 ·obtain rfl : c = 46 := u8_eq h; rfl
 ·obtain rfl : c = 101 := u8_eq h; rfl
 ·obtain rfl : c = 69 := u8_eq h; rfl
theorem nm_not {c : UInt8} (h : ¬ ((48 ≤ (c.toNat : Int) ∧ (c.toNat : Int) ≤ 57) ∨ (c.toNat : Int) = 43 ∨ (c.toNat : Int) = 45 ∨ (c.toNat : Int) = 46 ∨ (c.toNat : Int) = 101 ∨ (c.toNat : Int) = 69)) : isNm c = false := by
 unfold isNm
 rw [dg_not (fun e => h (.inl e)), beq_eq_false_iff_ne.2 (fun e => h (by rw [e]; exact .inr (.inl rfl))), beq_eq_false_iff_ne.2 (fun e => h (by rw [e]; exact .inr (.inr (.inl rfl)))), beq_eq_false_iff_ne.2 (fun e => h (by rw [e]; exact .inr (.inr (.inr (.inl rfl))))), beq_eq_false_iff_ne.2 (fun e => h (by rw [e]; exact .inr (.inr (.inr (.inr (.inl rfl)))))), beq_eq_false_iff_ne.2 (fun e => h (by rw [e]; exact .inr (.inr (.inr (.inr (.inr rfl))))))]
 rfl
theorem hasA_dec {s t : Str} {k : Nat} : hasA s k t = decide ((s.drop k).take t.length = t) := by rw [Bool.eq_iff_iff, hasA_iff, decide_eq_true_eq]
theorem hasA_no {s t : Str} {k : Nat} (h : s.length < k + t.length) (hk : k ≤ s.length) : hasA s k t = false := by
 rw [hasA_dec, decide_eq_false]
 intro e
 have := congrArg List.length e
 rw [List.length_take, List.length_drop] at this
 omega
section
variable {w : Str} {a e e1 e2 : Nat}
theorem wh_bad1 (ha : a = if hasA w 0 [45] then 1 else 0) (he : e = spanA isDg w a) (h : e = a ∨ (a + 1 < e ∧ w[a]? = some 48)) : wholeA w = (false, false) := by
 subst he; subst ha
 unfold wholeA
 simp only
 rw [if_pos h]
theorem wh_bad2 (ha : a = if hasA w 0 [45] then 1 else 0) (he : e = spanA isDg w a) (h : ¬ (e = a ∨ (a + 1 < e ∧ w[a]? = some 48))) (hm : hasA w e [46] = true) (hk : spanA isDg w (e + 1) = e + 1) : wholeA w = (false, false) := by
 subst he; subst ha
 unfold wholeA
 simp only
 rw [if_neg h, if_pos ⟨hm, hk⟩]
theorem wh_int (ha : a = if hasA w 0 [45] then 1 else 0) (he : e = spanA isDg w a) (h : ¬ (e = a ∨ (a + 1 < e ∧ w[a]? = some 48))) (h2 : ¬ (hasA w e [46] = true ∧ spanA isDg w (e + 1) = e + 1)) (he1 : e1 = if hasA w e [46] then spanA isDg w (e + 1) else e) (hE : (hasA w e1 [101] || hasA w e1 [69]) = false) : wholeA w = (decide (e1 = w.length), hasA w e [46]) := by
 subst he1; subst he; subst ha
 unfold wholeA
 simp only
 rw [if_neg h, if_neg h2, if_neg (by rw [hE]; simp)]
theorem wh_bad3 (ha : a = if hasA w 0 [45] then 1 else 0) (he : e = spanA isDg w a) (h : ¬ (e = a ∨ (a + 1 < e ∧ w[a]? = some 48))) (h2 : ¬ (hasA w e [46] = true ∧ spanA isDg w (e + 1) = e + 1)) (he1 : e1 = if hasA w e [46] then spanA isDg w (e + 1) else e) (hE : (hasA w e1 [101] || hasA w e1 [69]) = true) (he2 : e2 = if hasA w (e1 + 1) [43] || hasA w (e1 + 1) [45] then e1 + 2 else e1 + 1) (hk : spanA isDg w e2 = e2) : wholeA w = (false, false) := by
 subst he2; subst he1; subst he; subst ha
 unfold wholeA
 simp only
 rw [if_neg h, if_neg h2, if_pos hE, if_pos hk]
theorem wh_exp (ha : a = if hasA w 0 [45] then 1 else 0) (he : e = spanA isDg w a) (h : ¬ (e = a ∨ (a + 1 < e ∧ w[a]? = some 48))) (h2 : ¬ (hasA w e [46] = true ∧ spanA isDg w (e + 1) = e + 1)) (he1 : e1 = if hasA w e [46] then spanA isDg w (e + 1) else e) (hE : (hasA w e1 [101] || hasA w e1 [69]) = true) (he2 : e2 = if hasA w (e1 + 1) [43] || hasA w (e1 + 1) [45] then e1 + 2 else e1 + 1) (hk : ¬ spanA isDg w e2 = e2) : wholeA w = (decide (spanA isDg w e2 = w.length), true) := by
 subst he2; subst he1; subst he; subst ha
 unfold wholeA
 simp only
 rw [if_neg h, if_neg h2, if_pos hE, if_neg hk]
end
def rV : PR → JV
 | .ok x => x.1
 | .error _ => JV.nul
def rP : PR → Nat
 | .ok x => x.2
 | .error _ => 0
def rE : PR → Int
 | .ok _ => 0
 | .error e => e
theorem numW_more {w : Str} (h1 : ¬ (wholeA w).1 = false) (h : (wholeA w).2 = true) : numW w = .error 7 := by
 unfold numW
 rw [if_neg h1, numZ_more h]
theorem numW_okZ {w : Str} {n : Int} (h1 : ¬ (wholeA w).1 = false) (h : Lib.itoa n = w) (h0 : -9007199254740991 ≤ n) (h2 : n ≤ 9007199254740991) : numW w = .ok n := by
 unfold numW
 rw [if_neg h1, numZ_some h0 h2 h]
end Go.Proofs.YtknndpjacklkeaaGreatDoor.V
