/-
  A part of the proof: numbers as they are written, and read: with blanks around, with a point behind, with a nought ahead. No condition of its own.
-/
import Derived.Test.YtknndpjacklkeaaGreatDoorM19
import Derived.Test.YtknndpjacklkeaaGreatDoorM10
import Derived.Test.YtknndpjacklkeaaGreatDoorM5
import Derived.Test.YtknndpjacklkeaaGreatDoorM4
import Derived.Test.YtknndpjacklkeaaGreatDoorM16
import Derived.Test.YtknndpjacklkeaaGreatDoorM15
import Derived.Test.YtknndpjacklkeaaGreatDoorM12
import Derived.Test.YtknndpjacklkeaaGreatDoorM7
set_option linter.unusedVariables false
set_option linter.unusedSimpArgs false
set_option maxRecDepth 10000
namespace Go.Proofs.YtknndpjacklkeaaGreatDoor.V
open Go Go.Proofs
theorem ent102 : Ent Tryz.prog 102 := Ent.of Tryz.func102 (by kernel_rfl) (by kernel_rfl)
theorem c_tableR (N : Nat) (ih : TkOK N) (A : List Nat) (w : World) (s : Str) (k deep : Nat) (r : PR) (f : Nat) (hA : ∀ a ∈ A, a < w.heap.size) (hk : k ≤ s.length) (hs : s.length ≤ 65536) (hd : deep ≤ 32) (hE : Env w) (hf : f ≤ N + 1) (hr : (if hasA s (spanA isWs s k) [125] then some (.ok (JV.obj [], spanA isWs s k + 1)) else tkM f s (spanA isWs s k) deep []) = some r) : Calls Tryz.prog 104 [S s, .int .i64 (k : Int), .int .i64 (deep : Int)].toArray w (Ret fun u w' => RRes A w w' r u) := by
 refine enter Tryz.func104 rfl rfl rfl (l := [(0, _), (1, _), (2, _)]) ⟨rfl, rfl, rfl, trivial⟩ ?_
 have E := Mod.refl [] w
 refine Cq fun K1 hK1 => Cr (s_alloc zv25 rfl fun g1 w1 N1 => ?_)
 have Lg1_E := N1.le E
 replace E := E.then N1.mod
 have Bg1 := N1.blk
 refine tW 2 rfl (Ln (e_K (hK1 _ _ _ _ (Cq fun K2 hK2 => Cr (Sv (o_build (cs := [_, _, _, _, _, _]) pl25 zv25 rfl rfl) (s_alloc zv25 rfl fun g2 w2 N2 => ?_))))))
 have Lg2_E := N2.le E
 have Dg1_g2 := N2.ne Bg1
 replace Bg1 := Bg1.mod0 N2.mod
 replace E := E.then N2.mod
 have Bg2 := N2.blk
 refine s_sta (vs := [_, _, _, _, _, _]) ag25 Bg2 rfl rfl rfl (by simp [Value.oneCell']) (by simp) fun w3 P3 => ?_
 replace Bg1 := Bg1.ne P3.mod (Ne.symm (Ne.symm Dg1_g2))
 replace E := E.own P3.mod Lg2_E
 replace Bg2 : Blk w3 g2 _ [_, _, _, _, _, _] := P3.blk
 refine Ln (e_K (hK2 _ _ _ _ (Cq fun K3 hK3 => Cr (tW 2 rfl (sc (oC ent55 rfl) (c_blankR _ s k hk (by omega)) rfl fun v_ w4 h_ => ?_)))))
 obtain ⟨rfl, E_⟩ := h_
 replace Bg1 := Bg1.mod0 E_
 replace Bg2 := Bg2.mod0 E_
 replace E := E.then E_
 have hgk0 := spanA_ge isWs s k
 have hlk0 : spanA isWs s k ≤ s.length := spanA_le hk
 obtain ⟨k0, ek0⟩ : ∃ q, q = spanA isWs s k := ⟨_, rfl⟩
 rw [← ek0] at hgk0 hlk0 ⊢ hr
 refine Za rfl (Ln (e_K (hK3 _ _ _ _ (Cq fun K4 hK4 => Cq fun K5 hK5 => Cr (tW 2 rfl (sc (oC ent101 rfl) (c_hasR _ s [125] k0 (by omega) (by omega)) rfl fun v_ w5 h_ => ?_))))))
 obtain ⟨rfl, E_⟩ := h_
 replace Bg1 := Bg1.mod0 E_
 replace Bg2 := Bg2.mod0 E_
 replace E := E.then E_
 refine Ln (e_K (hK5 _ _ _ _ ?_))
 refine c_cond rfl (fun h23 => ?_) (fun h23 => ?_)
 ·rw [if_pos h23] at hr
  injection hr with hr
  refine Cq fun K6 hK6 => Cr (Sv (o_lda (vs := [_, _, _, _, _, _]) ag25 rfl rfl (Bg2.cs rfl)) (Zm rfl (Sv (o_addE (r := ((k0 + 1 : Nat) : Int)) rfl rfl (by rw [wrap64_in _ (by omega)]; omega)) (s_sta (vs := [_, _, _, _, _, _]) ag25 Bg1 rfl rfl rfl (by simp [Value.oneCell']) (by simp) fun w6 P6 => ?_))))
  replace Bg2 := Bg2.ne P6.mod (Ne.symm Dg1_g2)
  replace E := E.own P6.mod Lg1_E
  replace Bg1 : Blk w6 g1 _ [_, _, _, _, _, _] := P6.blk
  exact tW 2 rfl (Ln (e_K (hK6 _ _ _ _ (cR (eT (by simp) (retctt (vs := [_, _, _, _, _, _]) rfl ag25 rfl rfl (Bg1.cs rfl) rfl rfl (RRes.yes hr.symm (JV.obj_repsN (m := []) rfl Rep.sl_nil) E)))))))
 ·rw [if_neg (by rw [h23]; simp)] at hr
  refine cK (e_K (hK4 _ _ _ _ (cB (c_loop (σ := Nat × Nat × List (Str × JV) × Value) (fun ⟨m, j, mm, mv⟩ => [(0, S s), (1, .int .i64 (j : Int)), (2, .int .i64 (deep : Int)), (6, .pointer (some ⟨g1, 0, none⟩)), (9, .pointer (some ⟨g2, 0, none⟩))]) (fun ⟨m, j, mm, mv⟩ w1 => (m ≤ f ∧ j ≤ s.length ∧ mm.length ≤ j ∧ ascM mm ∧ tkM m s j deep mm = some r) ∧ Rep (g1 :: g2 :: A) w1 (.sl 7 (mm.map JV.Dp)) mv ∧ Blk w1 g2 25 [.int .i64 5, .bool false, .int .i64 0, S [], .slice none 0 0, mv] ∧ Blk w1 g1 25 [.int .i64 0, .bool false, .int .i64 0, S [], .slice none 0 0, .slice none 0 0] ∧ Mod [] w w1) (fun ⟨m, j, mm, mv⟩ => m) (⟨f, k0, [], .slice none 0 0⟩) ⟨rfl, rfl, rfl, rfl, rfl, trivial⟩ (⟨⟨by omega, by omega, by simp, List.Pairwise.nil, hr⟩, Rep.sl_nil, Bg2, Bg1, E⟩) ?_))))
  rintro ⟨m, j, mm, mv⟩ w7 ⟨⟨hm, hj, hal, hasc, hrM⟩, Rm, Bg2, Bg1, E⟩
  obtain ⟨q, rfl⟩ : ∃ q, m = q + 1 := by
   cases m with
   | zero => simp [tkM] at hrM
   | succ q => exact ⟨q, rfl⟩
  rw [tkM] at hrM
  have Ek := Mod.refl [] w7
  refine cB (Cq fun K7 hK7 => Cr (tW 3 rfl (sc (oC ent55 rfl) (c_blankR _ s j hj (by omega)) rfl fun v_ w8 h_ => ?_)))
  obtain ⟨rfl, E_⟩ := h_
  replace Bg1 := Bg1.mod0 E_
  replace Bg2 := Bg2.mod0 E_
  replace E := E.then E_
  replace Ek := Ek.then E_
  have hgk1 := spanA_ge isWs s j
  have hlk1 : spanA isWs s j ≤ s.length := spanA_le hj
  obtain ⟨k1, ek1⟩ : ∃ q, q = spanA isWs s j := ⟨_, rfl⟩
  rw [← ek1] at hgk1 hlk1 ⊢
  refine sc (oC ent102 rfl) (c_takeR _ s k1 (by omega)) rfl fun v_ w9 h_ => ?_
  obtain ⟨rfl, E_⟩ := h_
  replace Bg1 := Bg1.mod0 E_
  replace Bg2 := Bg2.mod0 E_
  replace E := E.then E_
  replace Ek := Ek.then E_
  refine tW 7 rfl (Ln (e_K (hK7 _ _ _ _ (Cq fun K8 hK8 => Cq fun K9 hK9 => Cr (tW 2 rfl (Ln (e_K (hK9 _ _ _ _ ?_))))))))
  refine c_cond rfl (fun h37 => ?_) (fun h37 => ?_)
  ·have hS : strT s k1 = none := by cases h : strT s k1 with | none => rfl | some x => rw [h] at h37; cases h37
   have hK : keyA s j mm = .error 4 := by unfold keyA; rw [← ek1, hS]
   rw [hK] at hrM
   injection hrM with hrM
   refine Cq fun K10 hK10 => Cr (Sv (o_build (cs := [_, _, _, _, _, _]) pl25 zv25 rfl rfl) (s_sta (vs := [_, _, _, _, _, _]) ag25 Bg1 rfl rfl rfl (by simp [Value.oneCell']) (by simp) fun w10 P10 => ?_))
   replace Bg2 := Bg2.ne P10.mod (Ne.symm Dg1_g2)
   replace E := E.own P10.mod Lg1_E
   replace Bg1 : Blk w10 g1 _ [_, _, _, _, _, _] := P10.blk
   exact tW 2 rfl (Ln (e_K (hK10 _ _ _ _ (cR (eT (by simp) (eI (by simp) (eT (by simp) (eI (by simp) (retctt (vs := [_, _, _, _, _, _]) rfl ag25 rfl rfl (Bg1.cs rfl) rfl rfl (RRes.no hrM.symm JV.nul_reps E))))))))))
  ·obtain ⟨t, k2, hS⟩ : ∃ t k2, strT s k1 = some (t, k2) := by
    cases h : strT s k1 with
    | none => rw [h] at h37; cases h37
    | some x => exact ⟨x.1, x.2, rfl⟩
   rw [hS, Option.getD_some]
   have hkt := (strT_bound hS).2.1
   have hkt2 := (strT_bound hS).1
   refine cK (e_K (hK8 _ _ _ _ (Cq fun K11 hK11 => Cr (Sv (oA0 fd25_5 rfl) (Sv (oL sc23 rfl (Bg2.cell rfl)) (Zm rfl (sc (oC ent77 rfl) (c_jfindR (g1 :: g2 :: A) _ _ Ek mm _ Rm t) rfl fun v_ w11 h_ => ?_)))))))
   obtain ⟨us3, rfl, Rg, E_⟩ := h_
   replace Bg1 := Bg1.mod0 E_
   replace Bg2 := Bg2.mod0 E_
   replace E := E.then E_
   replace Ek := Ek.then E_
   obtain ⟨al3, cl3, am3, cm3, rfl, Rl3, Rm3⟩ := JV.cells_ Rg
   replace Rg := JV.reps_ Rl3 Rm3
   have Ekr3 := Mod.refl [] w11
   refine tW 3 rfl (s_alloc zv25 rfl fun g3 w12 N3 => ?_)
   have Lg3_E := N3.le E
   have Lg3_Ek := N3.le Ek
   have Lg3_Ekr3 := N3.le Ekr3
   have Dg1_g3 := N3.ne Bg1
   have Dg2_g3 := N3.ne Bg2
   replace Bg1 := Bg1.mod0 N3.mod
   replace Bg2 := Bg2.mod0 N3.mod
   replace E := E.then N3.mod
   replace Ek := Ek.then N3.mod
   replace Ekr3 := Ekr3.then N3.mod
   have Bg3 := N3.blk
   refine s_sta (vs := [_, _, _, _, _, _]) ag25 Bg3 rfl rfl rfl (by simp [Value.oneCell']) (by simp) fun w13 P13 => ?_
   replace Bg1 := Bg1.ne P13.mod (Ne.symm (Ne.symm Dg1_g3))
   replace Bg2 := Bg2.ne P13.mod (Ne.symm (Ne.symm Dg2_g3))
   replace E := E.own P13.mod Lg3_E
   replace Ek := Ek.own P13.mod Lg3_Ek
   replace Ekr3 := Ekr3.own P13.mod Lg3_Ekr3
   replace Bg3 : Blk w13 g3 _ [_, _, _, _, _, _] := P13.blk
   refine Za rfl (Ln (e_K (hK11 _ _ _ _ (Cq fun K12 hK12 => Cq fun K13 hK13 => Cr (Zm rfl (Ln (e_K (hK13 _ _ _ _ ?_))))))))
   refine c_cond rfl (fun h46 => ?_) (fun h46 => ?_)
   ·have hK : keyA s j mm = .error 6 := by unfold keyA; rw [← ek1, hS]; simp only; rw [if_pos h46]
    rw [hK] at hrM
    injection hrM with hrM
    refine Cq fun K14 hK14 => Cr (Sv (o_build (cs := [_, _, _, _, _, _]) pl25 zv25 rfl rfl) (s_sta (vs := [_, _, _, _, _, _]) ag25 Bg1 rfl rfl rfl (by simp [Value.oneCell']) (by simp) fun w14 P14 => ?_))
    replace Bg2 := Bg2.ne P14.mod (Ne.symm Dg1_g2)
    replace Bg3 := Bg3.ne P14.mod (Ne.symm Dg1_g3)
    replace E := E.own P14.mod Lg1_E
    replace Bg1 : Blk w14 g1 _ [_, _, _, _, _, _] := P14.blk
    exact tW 2 rfl (Ln (e_K (hK14 _ _ _ _ (cR (eT (by simp) (eI (by simp) (eT (by simp) (eI (by simp) (retctt (vs := [_, _, _, _, _, _]) rfl ag25 rfl rfl (Bg1.cs rfl) rfl rfl (RRes.no hrM.symm JV.nul_reps E))))))))))
   ·skip
    refine cK (e_K (hK12 _ _ _ _ (Cq fun K15 hK15 => Cr (tW 2 rfl (sc (oC ent55 rfl) (c_blankR _ s k2 hkt (by omega)) rfl fun v_ w15 h_ => ?_)))))
    obtain ⟨rfl, E_⟩ := h_
    replace Bg1 := Bg1.mod0 E_
    replace Bg2 := Bg2.mod0 E_
    replace Bg3 := Bg3.mod0 E_
    replace E := E.then E_
    replace Ek := Ek.then E_
    replace Ekr3 := Ekr3.then E_
    have hgk3 := spanA_ge isWs s k2
    have hlk3 : spanA isWs s k2 ≤ s.length := spanA_le hkt
    obtain ⟨k3, ek3⟩ : ∃ q, q = spanA isWs s k2 := ⟨_, rfl⟩
    rw [← ek3] at hgk3 hlk3 ⊢
    refine Za rfl (Ln (e_K (hK15 _ _ _ _ (Cq fun K16 hK16 => Cq fun K17 hK17 => Cr (tW 2 rfl (sc (oC ent101 rfl) (c_hasR _ s [58] k3 (by omega) (by omega)) rfl fun v_ w16 h_ => ?_))))))
    obtain ⟨rfl, E_⟩ := h_
    replace Bg1 := Bg1.mod0 E_
    replace Bg2 := Bg2.mod0 E_
    replace Bg3 := Bg3.mod0 E_
    replace E := E.then E_
    replace Ek := Ek.then E_
    replace Ekr3 := Ekr3.then E_
    refine Sv (o_not rfl) (Ln (e_K (hK17 _ _ _ _ ?_)))
    refine c_cond rfl (fun h54 => ?_) (fun h54 => ?_)
    ·have hn54 : hasA s k3 [58] = false := by simpa using h54
     have hK : keyA s j mm = .error 4 := by unfold keyA; rw [← ek1, hS]; simp only; rw [if_neg (by rw [h46]; simp), ← ek3, if_neg (by rw [hn54]; simp)]
     rw [hK] at hrM
     injection hrM with hrM
     refine Cq fun K18 hK18 => Cr (Sv (o_build (cs := [_, _, _, _, _, _]) pl25 zv25 rfl rfl) (s_sta (vs := [_, _, _, _, _, _]) ag25 Bg1 rfl rfl rfl (by simp [Value.oneCell']) (by simp) fun w17 P17 => ?_))
     replace Bg2 := Bg2.ne P17.mod (Ne.symm Dg1_g2)
     replace Bg3 := Bg3.ne P17.mod (Ne.symm Dg1_g3)
     replace E := E.own P17.mod Lg1_E
     replace Bg1 : Blk w17 g1 _ [_, _, _, _, _, _] := P17.blk
     exact tW 2 rfl (Ln (e_K (hK18 _ _ _ _ (cR (eT (by simp) (eI (by simp) (eT (by simp) (eI (by simp) (retctt (vs := [_, _, _, _, _, _]) rfl ag25 rfl rfl (Bg1.cs rfl) rfl rfl (RRes.no hrM.symm JV.nul_reps E))))))))))
    ·have hy54 : hasA s k3 [58] = true := by simpa using h54
     have hK : keyA s j mm = .ok (t, k3 + 1) := by unfold keyA; rw [← ek1, hS]; simp only; rw [if_neg (by rw [h46]; simp), ← ek3, if_pos hy54]
     rw [hK] at hrM
     dsimp only at hrM
     have hl9 := hasA_len hy54 (by simp)
     simp only [List.length_singleton] at hl9
     obtain ⟨r1, hr1⟩ := tkV_ex hrM
     rw [hr1] at hrM
     refine cK (e_K (hK16 _ _ _ _ (Cq fun K19 hK19 => Cr (tW 2 rfl (Sv (o_addE (r := ((k3 + 1 : Nat) : Int)) rfl rfl (by rw [wrap64_in _ (by omega)]; omega)) (Zm rfl (sc (oC ent54 rfl) (ih q (by omega) (g1 :: g2 :: A) _ s (k3 + 1) deep r1 (fun a ha => by rcases List.mem_cons.1 ha with rfl | ha; exact Bg1.lt; rcases List.mem_cons.1 ha with rfl | ha; exact Bg2.lt; exact Nat.lt_of_lt_of_le (hA a ha) E.size) (by omega) hs hd (hE.mod0 E) hr1) rfl fun v_ w18 h_ => ?_)))))))
     obtain ⟨us4, rfl, Rx, E_⟩ := h_
     replace Bg1 := Bg1.mod0 E_
     replace Bg2 := Bg2.mod0 E_
     replace Bg3 := Bg3.mod0 E_
     replace E := E.then E_
     replace Ek := Ek.then E_
     replace Ekr3 := Ekr3.then E_
     obtain ⟨al4, cl4, am4, cm4, rfl, Rl4, Rm4⟩ := JV.cells_ Rx
     replace Rx := JV.reps_ Rl4 Rm4
     have Ekr4 := Mod.refl [] w18
     refine tW 4 rfl (s_alloc zv25 rfl fun g4 w19 N4 => ?_)
     have Lg4_E := N4.le E
     have Lg4_Ek := N4.le Ek
     have Lg4_Ekr3 := N4.le Ekr3
     have Lg4_Ekr4 := N4.le Ekr4
     have Dg1_g4 := N4.ne Bg1
     have Dg2_g4 := N4.ne Bg2
     have Dg3_g4 := N4.ne Bg3
     replace Bg1 := Bg1.mod0 N4.mod
     replace Bg2 := Bg2.mod0 N4.mod
     replace Bg3 := Bg3.mod0 N4.mod
     replace E := E.then N4.mod
     replace Ek := Ek.then N4.mod
     replace Ekr3 := Ekr3.then N4.mod
     replace Ekr4 := Ekr4.then N4.mod
     have Bg4 := N4.blk
     refine s_sta (vs := [_, _, _, _, _, _]) ag25 Bg4 rfl rfl rfl (by simp [Value.oneCell']) (by simp) fun w20 P20 => ?_
     replace Bg1 := Bg1.ne P20.mod (Ne.symm (Ne.symm Dg1_g4))
     replace Bg2 := Bg2.ne P20.mod (Ne.symm (Ne.symm Dg2_g4))
     replace Bg3 := Bg3.ne P20.mod (Ne.symm (Ne.symm Dg3_g4))
     replace E := E.own P20.mod Lg4_E
     replace Ek := Ek.own P20.mod Lg4_Ek
     replace Ekr3 := Ekr3.own P20.mod Lg4_Ekr3
     replace Ekr4 := Ekr4.own P20.mod Lg4_Ekr4
     replace Bg4 : Blk w20 g4 _ [_, _, _, _, _, _] := P20.blk
     refine tW 2 rfl (Ln (e_K (hK19 _ _ _ _ (Cq fun K20 hK20 => Cq fun K21 hK21 => Cr (tW 2 rfl (Ln (e_K (hK21 _ _ _ _ ?_))))))))
     refine c_if rfl (fun h66 => ?_) (fun h66 => ?_)
     ·obtain ⟨e, rfl⟩ := rE_no h66
      have hR : r = .error e := by injection hrM with hrM; exact hrM.symm
      refine Cq fun K22 hK22 => Cr (Sv (o_build (cs := [_, _, _, _, _, _]) pl25 zv25 rfl rfl) (Zm rfl (s_sta (vs := [_, _, _, _, _, _]) ag25 Bg1 rfl rfl rfl (by simp [Value.oneCell']) (by simp) fun w21 P21 => ?_)))
      replace Bg2 := Bg2.ne P21.mod (Ne.symm Dg1_g2)
      replace Bg3 := Bg3.ne P21.mod (Ne.symm Dg1_g3)
      replace Bg4 := Bg4.ne P21.mod (Ne.symm Dg1_g4)
      replace E := E.own P21.mod Lg1_E
      replace Bg1 : Blk w21 g1 _ [_, _, _, _, _, _] := P21.blk
      exact tW 2 rfl (Ln (e_K (hK22 _ _ _ _ (cR (eT (by simp) (eI (by simp) (eT (by simp) (eI (by simp) (retctt (vs := [_, _, _, _, _, _]) rfl ag25 rfl rfl (Bg1.cs rfl) rfl rfl (RRes.no hR JV.nul_reps E))))))))))
     ·obtain ⟨x, k5, rfl⟩ := rE_ok hr1 (Classical.not_not.1 h66)
      have hJ := (tk_bound s q).1 _ _ _ _ (by omega) hr1
      dsimp only at hrM
      have hpl : (putM mm t x).length ≤ mm.length + 1 := putM_len hasc
      refine cK (e_K (hK20 _ _ _ _ (Cq fun K23 hK23 => Cr (Sv (oA0 fd25_5 rfl) (Sv (oL sc23 rfl (Bg2.cell rfl)) (Zm rfl (Sv (o_lda (vs := [_, _, _, _, _, _]) ag25 rfl rfl (Bg4.cs rfl)) (Sv ((o_build (cs := [_, _, _, _, _, _, _]) pl44 zv44 rfl rfl)) (sc (oC ent78 rfl) (c_jwith (g1 :: g2 :: A) _ (fun a ha => by rcases List.mem_cons.1 ha with rfl | ha; exact Bg1.lt; rcases List.mem_cons.1 ha with rfl | ha; exact Bg2.lt; exact Nat.lt_of_lt_of_le (hA a ha) E.size) mm _ (Rm.to0 Ek) t x _ (show Reps _ _ x.D _ from Rx.to0 Ekr4) (by omega)) rfl fun v_ w22 h_ => ?_)))))))))
      obtain ⟨Rw, E_⟩ := h_
      replace Bg1 := Bg1.mod0 E_
      replace Bg2 := Bg2.mod0 E_
      replace Bg3 := Bg3.mod0 E_
      replace Bg4 := Bg4.mod0 E_
      replace E := E.then E_
      replace Ek := Ek.then E_
      replace Ekr3 := Ekr3.then E_
      replace Ekr4 := Ekr4.then E_
      have Ekw := Mod.refl [] w22
      obtain ⟨adw, cw, hvw_, hw1, hw2⟩ := Rw.sl_
      rw [List.length_map] at hvw_
      subst hvw_
      refine Sv (oA0 fd25_5 rfl) (s_st sc23 Bg2 rfl rfl rfl (by simp) fun w23 P23 => ?_)
      replace Bg1 := Bg1.ne P23.mod (Ne.symm (Ne.symm Dg1_g2))
      replace Bg3 := Bg3.ne P23.mod (Ne.symm Dg2_g3)
      replace Bg4 := Bg4.ne P23.mod (Ne.symm Dg2_g4)
      replace E := E.own P23.mod Lg2_E
      replace Bg2 : Blk w23 g2 _ [_, _, _, _, _, _] := P23.blk
      replace Rw := Rw.toM P23.mod (fun a ha => by simp [List.mem_singleton.1 ha])
      have Ekq := Mod.refl [] w23
      refine Ln (e_K (hK23 _ _ _ _ (Cq fun K24 hK24 => Cr (tW 2 rfl (sc (oC ent55 rfl) (c_blankR _ s k5 hJ.2 (by omega)) rfl fun v_ w24 h_ => ?_)))))
      obtain ⟨rfl, E_⟩ := h_
      replace Bg1 := Bg1.mod0 E_
      replace Bg2 := Bg2.mod0 E_
      replace E := E.then E_
      replace Ekq := Ekq.then E_
      have hgk7 := spanA_ge isWs s k5
      have hlk7 : spanA isWs s k5 ≤ s.length := spanA_le hJ.2
      obtain ⟨k7, ek7⟩ : ∃ q, q = spanA isWs s k5 := ⟨_, rfl⟩
      rw [← ek7] at hgk7 hlk7 ⊢ hrM
      refine Za rfl (Ln (e_K (hK24 _ _ _ _ (Cq fun K25 hK25 => Cq fun K26 hK26 => Cr (tW 2 rfl (sc (oC ent101 rfl) (c_hasR _ s [125] k7 (by omega) (by omega)) rfl fun v_ w25 h_ => ?_))))))
      obtain ⟨rfl, E_⟩ := h_
      replace Bg1 := Bg1.mod0 E_
      replace Bg2 := Bg2.mod0 E_
      replace E := E.then E_
      replace Ekq := Ekq.then E_
      refine Ln (e_K (hK26 _ _ _ _ ?_))
      refine c_cond rfl (fun h81 => ?_) (fun h81 => ?_)
      ·rw [if_pos h81] at hrM
       injection hrM with hrM
       refine Cq fun K27 hK27 => Cr ?_
       have RLf := Rw.to0 Ekq
       refine Sv (o_lda (vs := [_, _, _, _, _, _]) ag25 rfl rfl (Bg2.cs rfl)) (Zm rfl (Sv (o_addE (r := ((k7 + 1 : Nat) : Int)) rfl rfl (by rw [wrap64_in _ (by omega)]; omega)) (s_sta (vs := [_, _, _, _, _, _]) ag25 Bg1 rfl rfl rfl (by simp [Value.oneCell']) (by simp) fun w26 P26 => ?_)))
       replace Bg2 := Bg2.ne P26.mod (Ne.symm Dg1_g2)
       replace E := E.own P26.mod Lg1_E
       replace Bg1 : Blk w26 g1 _ [_, _, _, _, _, _] := P26.blk
       replace RLf := RLf.toM P26.mod (fun a ha => by simp [List.mem_singleton.1 ha])
       exact tW 2 rfl (Ln (e_K (hK27 _ _ _ _ (cR (eT (by simp) (eI (by simp) (eT (by simp) (eI (by simp) (retctt (vs := [_, _, _, _, _, _]) rfl ag25 rfl rfl (Bg1.cs rfl) rfl rfl (RRes.yes hrM.symm (JV.obj_reps (RLf.anti (A' := A) (fun a ha => by simp [ha]))) E))))))))))
      ·rw [if_neg (by rw [h81]; simp)] at hrM
       refine cK (e_K (hK25 _ _ _ _ (Cq fun K28 hK28 => Cq fun K29 hK29 => Cr (tW 2 rfl (sc (oC ent101 rfl) (c_hasR _ s [44] k7 (by omega) (by omega)) rfl fun v_ w27 h_ => ?_)))))
       obtain ⟨rfl, E_⟩ := h_
       replace Bg1 := Bg1.mod0 E_
       replace Bg2 := Bg2.mod0 E_
       replace E := E.then E_
       replace Ekq := Ekq.then E_
       refine Sv (o_not rfl) (Ln (e_K (hK29 _ _ _ _ ?_)))
       refine c_cond rfl (fun h88 => ?_) (fun h88 => ?_)
       ·have hn88 : hasA s k7 [44] = false := by simpa using h88
        rw [if_neg (by rw [hn88]; simp)] at hrM
        injection hrM with hrM
        refine Cq fun K30 hK30 => Cr (Sv (o_build (cs := [_, _, _, _, _, _]) pl25 zv25 rfl rfl) (s_sta (vs := [_, _, _, _, _, _]) ag25 Bg1 rfl rfl rfl (by simp [Value.oneCell']) (by simp) fun w28 P28 => ?_))
        replace Bg2 := Bg2.ne P28.mod (Ne.symm Dg1_g2)
        replace E := E.own P28.mod Lg1_E
        replace Bg1 : Blk w28 g1 _ [_, _, _, _, _, _] := P28.blk
        exact tW 2 rfl (Ln (e_K (hK30 _ _ _ _ (cR (eT (by simp) (eI (by simp) (eT (by simp) (eI (by simp) (retctt (vs := [_, _, _, _, _, _]) rfl ag25 rfl rfl (Bg1.cs rfl) rfl rfl (RRes.no hrM.symm JV.nul_reps E))))))))))
       ·have hy88 : hasA s k7 [44] = true := by simpa using h88
        rw [if_pos hy88] at hrM
        have hl8 := hasA_len hy88 (by simp)
        simp only [List.length_singleton] at hl8
        exact cK (e_K (hK28 _ _ _ _ (Cr (Zm rfl (Sv (o_addE (r := ((k7 + 1 : Nat) : Int)) rfl rfl (by rw [wrap64_in _ (by omega)]; omega)) (Za rfl (Ln (eI (by simp) (eR (σ := Nat × Nat × List (Str × JV) × Value) (s := ⟨q + 1, j, mm, mv⟩) (⟨q, k7 + 1, putM mm t x, _⟩) ⟨rfl, rfl, rfl, rfl, rfl, trivial⟩ ⟨⟨by omega, by omega, by omega, ascM_put hasc, hrM⟩, Rw.to0 Ekq, Bg2, Bg1, E⟩ (by dsimp only; omega))))))))))
end Go.Proofs.YtknndpjacklkeaaGreatDoor.V

set_option linter.unusedVariables false
set_option linter.unusedSimpArgs false
set_option maxRecDepth 10000
namespace Go.Proofs.YtknndpjacklkeaaGreatDoor.V
open Go Go.Proofs
theorem ent103 : Ent Tryz.prog 103 := Ent.of Tryz.func103 (by kernel_rfl) (by kernel_rfl)
theorem ent104 : Ent Tryz.prog 104 := Ent.of Tryz.func104 (by kernel_rfl) (by kernel_rfl)
theorem ent105 : Ent Tryz.prog 105 := Ent.of Tryz.func105 (by kernel_rfl) (by kernel_rfl)
theorem c_take_step (N : Nat) (ih : TkOK N) (A : List Nat) (w : World) (s : Str) (k0 deep : Nat) (r : PR) (f : Nat) (hA : ∀ a ∈ A, a < w.heap.size) (hk : k0 ≤ s.length) (hs : s.length ≤ 65536) (hd : deep ≤ 32) (hE : Env w) (hf : f ≤ N) (hr : tkV (f + 1) s k0 deep = some r) : Calls Tryz.prog 54 [S s, .int .i64 (k0 : Int), .int .i64 (deep : Int)].toArray w (Ret fun u w' => RRes A w w' r u) := by
 refine enter Tryz.func54 rfl rfl rfl (l := [(0, _), (1, _), (2, _)]) ⟨rfl, rfl, rfl, trivial⟩ ?_
 have E := Mod.refl [] w
 rw [tkV] at hr
 dsimp only at hr
 refine Cq fun K1 hK1 => Cr (s_alloc zv25 rfl fun g1 w1 N1 => ?_)
 have Lg1_E := N1.le E
 replace E := E.then N1.mod
 have Bg1 := N1.blk
 refine tW 2 rfl (Ln (e_K (hK1 _ _ _ _ (Cq fun K2 hK2 => Cr (tW 2 rfl (sc (oC ent55 rfl) (c_blankR _ s k0 hk (by omega)) rfl fun v_ w2 h_ => ?_))))))
 obtain ⟨rfl, E_⟩ := h_
 replace Bg1 := Bg1.mod0 E_
 replace E := E.then E_
 have hgk := spanA_ge isWs s k0
 have hlk : spanA isWs s k0 ≤ s.length := spanA_le hk
 obtain ⟨k, ek⟩ : ∃ q, q = spanA isWs s k0 := ⟨_, rfl⟩
 rw [← ek] at hgk hlk ⊢ hr
 refine Za rfl (Ln (e_K (hK2 _ _ _ _ (Cq fun K3 hK3 => Cq fun K4 hK4 => Cr (tW 2 rfl (sc (oC ent101 rfl) (c_hasR _ s JV.tNull k (by omega) (by omega)) rfl fun v_ w3 h_ => ?_))))))
 obtain ⟨rfl, E_⟩ := h_
 replace Bg1 := Bg1.mod0 E_
 replace E := E.then E_
 refine Ln (e_K (hK4 _ _ _ _ ?_))
 refine c_cond rfl (fun h17 => ?_) (fun h17 => ?_)
 ·rw [if_pos h17] at hr
  injection hr with hr
  refine Cq fun K5 hK5 => Cr (Sv (o_build (cs := [_, _, _, _, _, _]) pl25 zv25 rfl rfl) (Zm rfl (Sv (o_addE (r := ((k + 4 : Nat) : Int)) rfl rfl (by rw [wrap64_in _ (by omega)]; omega)) (s_sta (vs := [_, _, _, _, _, _]) ag25 Bg1 rfl rfl rfl (by simp [Value.oneCell']) (by simp) fun w4 P4 => ?_))))
  replace E := E.own P4.mod Lg1_E
  replace Bg1 : Blk w4 g1 _ [_, _, _, _, _, _] := P4.blk
  exact tW 2 rfl (Ln (e_K (hK5 _ _ _ _ (cR (eT (by simp) (retctt (vs := [_, _, _, _, _, _]) rfl ag25 rfl rfl (Bg1.cs rfl) rfl rfl (RRes.yes hr.symm JV.nul_reps E)))))))
 ·rw [if_neg (by rw [h17]; simp)] at hr
  refine cK (e_K (hK3 _ _ _ _ (Cq fun K6 hK6 => Cq fun K7 hK7 => Cr (tW 2 rfl (sc (oC ent101 rfl) (c_hasR _ s JV.tTrue k (by omega) (by omega)) rfl fun v_ w5 h_ => ?_)))))
  obtain ⟨rfl, E_⟩ := h_
  replace Bg1 := Bg1.mod0 E_
  replace E := E.then E_
  refine Ln (e_K (hK7 _ _ _ _ ?_))
  refine c_cond rfl (fun h23 => ?_) (fun h23 => ?_)
  ·rw [if_pos h23] at hr
   injection hr with hr
   refine Cq fun K8 hK8 => Cr (Sv (o_build (cs := [_, _, _, _, _, _]) pl25 zv25 rfl rfl) (Zm rfl (Sv (o_addE (r := ((k + 4 : Nat) : Int)) rfl rfl (by rw [wrap64_in _ (by omega)]; omega)) (s_sta (vs := [_, _, _, _, _, _]) ag25 Bg1 rfl rfl rfl (by simp [Value.oneCell']) (by simp) fun w6 P6 => ?_))))
   replace E := E.own P6.mod Lg1_E
   replace Bg1 : Blk w6 g1 _ [_, _, _, _, _, _] := P6.blk
   exact tW 2 rfl (Ln (e_K (hK8 _ _ _ _ (cR (eT (by simp) (retctt (vs := [_, _, _, _, _, _]) rfl ag25 rfl rfl (Bg1.cs rfl) rfl rfl (RRes.yes hr.symm JV.bool_reps E)))))))
  ·rw [if_neg (by rw [h23]; simp)] at hr
   refine cK (e_K (hK6 _ _ _ _ (Cq fun K9 hK9 => Cq fun K10 hK10 => Cr (tW 2 rfl (sc (oC ent101 rfl) (c_hasR _ s JV.tFalse k (by omega) (by omega)) rfl fun v_ w7 h_ => ?_)))))
   obtain ⟨rfl, E_⟩ := h_
   replace Bg1 := Bg1.mod0 E_
   replace E := E.then E_
   refine Ln (e_K (hK10 _ _ _ _ ?_))
   refine c_cond rfl (fun h29 => ?_) (fun h29 => ?_)
   ·rw [if_pos h29] at hr
    injection hr with hr
    refine Cq fun K11 hK11 => Cr (Sv (o_build (cs := [_, _, _, _, _, _]) pl25 zv25 rfl rfl) (Zm rfl (Sv (o_addE (r := ((k + 5 : Nat) : Int)) rfl rfl (by rw [wrap64_in _ (by omega)]; omega)) (s_sta (vs := [_, _, _, _, _, _]) ag25 Bg1 rfl rfl rfl (by simp [Value.oneCell']) (by simp) fun w8 P8 => ?_))))
    replace E := E.own P8.mod Lg1_E
    replace Bg1 : Blk w8 g1 _ [_, _, _, _, _, _] := P8.blk
    exact tW 2 rfl (Ln (e_K (hK11 _ _ _ _ (cR (eT (by simp) (retctt (vs := [_, _, _, _, _, _]) rfl ag25 rfl rfl (Bg1.cs rfl) rfl rfl (RRes.yes hr.symm JV.bool_reps E)))))))
   ·rw [if_neg (by rw [h29]; simp)] at hr
    refine cK (e_K (hK9 _ _ _ _ (Cq fun K12 hK12 => Cq fun K13 hK13 => Cr (tW 2 rfl (sc (oC ent101 rfl) (c_hasR _ s [34] k (by omega) (by omega)) rfl fun v_ w9 h_ => ?_)))))
    obtain ⟨rfl, E_⟩ := h_
    replace Bg1 := Bg1.mod0 E_
    replace E := E.then E_
    refine Ln (e_K (hK13 _ _ _ _ ?_))
    refine c_cond rfl (fun h35 => ?_) (fun h35 => ?_)
    ·rw [if_pos h35] at hr
     skip
     refine Cq fun K14 hK14 => Cr (tW 2 rfl (sc (oC ent102 rfl) (c_takeR _ s k (by omega)) rfl fun v_ w10 h_ => ?_))
     obtain ⟨rfl, E_⟩ := h_
     replace Bg1 := Bg1.mod0 E_
     replace E := E.then E_
     refine tW 7 rfl (Ln (e_K (hK14 _ _ _ _ (Cq fun K15 hK15 => Cq fun K16 hK16 => Cr (tW 2 rfl (Ln (e_K (hK16 _ _ _ _ ?_))))))))
     refine c_cond rfl (fun h44 => ?_) (fun h44 => ?_)
     ·have hS : strT s k = none := by cases h : strT s k with | none => rfl | some x => rw [h] at h44; cases h44
      rw [hS] at hr
      injection hr with hr
      refine Cq fun K17 hK17 => Cr (Sv (o_build (cs := [_, _, _, _, _, _]) pl25 zv25 rfl rfl) (s_sta (vs := [_, _, _, _, _, _]) ag25 Bg1 rfl rfl rfl (by simp [Value.oneCell']) (by simp) fun w11 P11 => ?_))
      replace E := E.own P11.mod Lg1_E
      replace Bg1 : Blk w11 g1 _ [_, _, _, _, _, _] := P11.blk
      exact tW 2 rfl (Ln (e_K (hK17 _ _ _ _ (cR (eT (by simp) (eT (by simp) (retctt (vs := [_, _, _, _, _, _]) rfl ag25 rfl rfl (Bg1.cs rfl) rfl rfl (RRes.no hr.symm JV.nul_reps E))))))))
     ·obtain ⟨t, k2, hS⟩ : ∃ t k2, strT s k = some (t, k2) := by
       cases h : strT s k with
       | none => rw [h] at h44; cases h44
       | some x => exact ⟨x.1, x.2, rfl⟩
      rw [hS] at hr
      rw [hS, Option.getD_some]
      injection hr with hr
      refine cK (e_K (hK15 _ _ _ _ (Cq fun K18 hK18 => Cr (Zm rfl (Sv (o_build (cs := [_, _, _, _, _, _]) pl25 zv25 rfl rfl) (Zm rfl (s_sta (vs := [_, _, _, _, _, _]) ag25 Bg1 rfl rfl rfl (by simp [Value.oneCell']) (by simp) fun w12 P12 => ?_)))))))
      replace E := E.own P12.mod Lg1_E
      replace Bg1 : Blk w12 g1 _ [_, _, _, _, _, _] := P12.blk
      exact tW 2 rfl (Ln (e_K (hK18 _ _ _ _ (cR (eT (by simp) (retctt (vs := [_, _, _, _, _, _]) rfl ag25 rfl rfl (Bg1.cs rfl) rfl rfl (RRes.yes hr.symm JV.txt_repsN E)))))))
    ·rw [if_neg (by rw [h35]; simp)] at hr
     refine cK (e_K (hK12 _ _ _ _ (Cq fun K19 hK19 => Cq fun K20 hK20 => Cr (tW 2 rfl (sc (oC ent101 rfl) (c_hasR _ s [91] k (by omega) (by omega)) rfl fun v_ w13 h_ => ?_)))))
     obtain ⟨rfl, E_⟩ := h_
     replace Bg1 := Bg1.mod0 E_
     replace E := E.then E_
     refine bC (fun hx1 : (hasA s k [91]) = true => ?_) (fun hx1 => ?_)
     ·refine tW 5 rfl (Ln (e_K (hK20 _ _ _ _ (c_true rfl ?_))))
      have hB : (hasA s k [91] || hasA s k [123]) = true := by first | (simp only [hx1, Bool.true_or]; done) | (simp only [hx1, Bool.false_or]; first | exact hx2 | exact h56)
      rw [if_pos hB] at hr
      obtain ⟨c, hc⟩ : ∃ c, s[k]? = some c := by
       rcases Bool.or_eq_true_iff.1 hB with h | h <;> exact ⟨_, hasA_one.1 h⟩
      have hkl := (List.getElem?_eq_some_iff.1 hc).1
      refine Cq fun K21 hK21 => Cq fun K22 hK22 => Cr (tW 2 rfl (Ln (e_K (hK22 _ _ _ _ ?_))))
      refine c_if rfl (fun h58 => ?_) (fun h58 => ?_)
      ·rw [if_pos (by omega)] at hr
       injection hr with hr
       refine Cq fun K23 hK23 => Cr (Sv (o_build (cs := [_, _, _, _, _, _]) pl25 zv25 rfl rfl) (s_sta (vs := [_, _, _, _, _, _]) ag25 Bg1 rfl rfl rfl (by simp [Value.oneCell']) (by simp) fun w14 P14 => ?_))
       replace E := E.own P14.mod Lg1_E
       replace Bg1 : Blk w14 g1 _ [_, _, _, _, _, _] := P14.blk
       exact tW 2 rfl (Ln (e_K (hK23 _ _ _ _ (cR (eT (by simp) (eT (by simp) (retctt (vs := [_, _, _, _, _, _]) rfl ag25 rfl rfl (Bg1.cs rfl) rfl rfl (RRes.no hr.symm JV.nul_reps E))))))))
      ·rw [if_neg (by omega)] at hr
       refine cK (e_K (hK21 _ _ _ _ (Cq fun K24 hK24 => Cq fun K25 hK25 => Cr (tW 2 rfl (Sv (o_sidx Tryz.underlying9 rfl rfl (by omega) (by rw [Int.toNat_natCast]; exact hc)) (Sv (oE rfl rfl) (Ln (e_K (hK25 _ _ _ _ ?_)))))))))
       refine c_if rfl (fun h63 => ?_) (fun h63 => ?_)
       ·rw [if_pos (by rw [hasA_at hc]; exact dT (u8_eq h63))] at hr
        refine Cq fun K26 hK26 => Cr (tW 2 rfl (Sv (o_addE (r := ((k + 1 : Nat) : Int)) rfl rfl (by rw [wrap64_in _ (by omega)]; omega)) (Zm rfl (Sv (o_addE (r := ((deep + 1 : Nat) : Int)) rfl rfl (by rw [wrap64_in _ (by omega)]; omega)) (sc (oC ent103 rfl) (c_listR N ih (g1 :: A) _ s (k + 1) (deep + 1) r f (fun a ha => by rcases List.mem_cons.1 ha with rfl | ha; exact Bg1.lt; exact Nat.lt_of_lt_of_le (hA a ha) E.size) (by omega) hs (by omega) (hE.mod0 E) (by omega) hr) rfl fun v_ w15 h_ => ?_)))))
        obtain ⟨us3, rfl, Rx, E_⟩ := h_
        replace Bg1 := Bg1.mod0 E_
        replace E := E.then E_
        obtain ⟨al3, cl3, am3, cm3, rfl, Rl3, Rm3⟩ := JV.cells_ Rx
        replace Rx := JV.reps_ Rl3 Rm3
        have Ekr3 := Mod.refl [] w15
        refine tW 3 rfl (s_sta (vs := [_, _, _, _, _, _]) ag25 Bg1 rfl rfl rfl (by simp [Value.oneCell']) (by simp) fun w16 P16 => ?_)
        replace E := E.own P16.mod Lg1_E
        replace Bg1 : Blk w16 g1 _ [_, _, _, _, _, _] := P16.blk
        replace Rx := Rx.toM P16.mod (fun a ha => by simp [List.mem_singleton.1 ha])
        exact tW 2 rfl (Ln (e_K (hK26 _ _ _ _ (cR (eT (by simp) (eT (by simp) (retctt (vs := [_, _, _, _, _, _]) rfl ag25 rfl rfl (Bg1.cs rfl) rfl rfl ⟨_, rfl, Rx.anti (A' := A) (fun a ha => by simp [ha]), E⟩)))))))
       ·rw [if_neg (by rw [hasA_at hc]; intro h; exact h63 (by rw [of_decide_eq_true h]; rfl))] at hr
        refine cK (e_K (hK24 _ _ _ _ (Cq fun K27 hK27 => Cr (tW 2 rfl (Sv (o_addE (r := ((k + 1 : Nat) : Int)) rfl rfl (by rw [wrap64_in _ (by omega)]; omega)) (Zm rfl (Sv (o_addE (r := ((deep + 1 : Nat) : Int)) rfl rfl (by rw [wrap64_in _ (by omega)]; omega)) (sc (oC ent104 rfl) (c_tableR N ih (g1 :: A) _ s (k + 1) (deep + 1) r f (fun a ha => by rcases List.mem_cons.1 ha with rfl | ha; exact Bg1.lt; exact Nat.lt_of_lt_of_le (hA a ha) E.size) (by omega) hs (by omega) (hE.mod0 E) (by omega) hr) rfl fun v_ w17 h_ => ?_))))))))
        obtain ⟨us3, rfl, Rx, E_⟩ := h_
        replace Bg1 := Bg1.mod0 E_
        replace E := E.then E_
        obtain ⟨al3, cl3, am3, cm3, rfl, Rl3, Rm3⟩ := JV.cells_ Rx
        replace Rx := JV.reps_ Rl3 Rm3
        have Ekr3 := Mod.refl [] w17
        refine tW 3 rfl (s_sta (vs := [_, _, _, _, _, _]) ag25 Bg1 rfl rfl rfl (by simp [Value.oneCell']) (by simp) fun w18 P18 => ?_)
        replace E := E.own P18.mod Lg1_E
        replace Bg1 : Blk w18 g1 _ [_, _, _, _, _, _] := P18.blk
        replace Rx := Rx.toM P18.mod (fun a ha => by simp [List.mem_singleton.1 ha])
        exact tW 2 rfl (Ln (e_K (hK27 _ _ _ _ (cR (eT (by simp) (retctt (vs := [_, _, _, _, _, _]) rfl ag25 rfl rfl (Bg1.cs rfl) rfl rfl ⟨_, rfl, Rx.anti (A' := A) (fun a ha => by simp [ha]), E⟩))))))
     ·refine tW 3 rfl (sgc rfl rfl (oC ent101 rfl) (c_hasR _ s [123] k (by omega) (by omega)) rfl fun v_ w19 h_ => ?_)
      obtain ⟨rfl, E_⟩ := h_
      replace Bg1 := Bg1.mod0 E_
      replace E := E.then E_
      refine bC (fun hx2 : (hasA s k [123]) = true => ?_) (fun hx2 => ?_)
      ·refine Sv (oF rfl rfl rfl) (Ln (e_K (hK20 _ _ _ _ (c_true rfl ?_))))
       have h56 := hx2
       have hB : (hasA s k [91] || hasA s k [123]) = true := by first | (simp only [hx1, Bool.true_or]; done) | (simp only [hx1, Bool.false_or]; first | exact hx2 | exact h56)
       rw [if_pos hB] at hr
       obtain ⟨c, hc⟩ : ∃ c, s[k]? = some c := by
        rcases Bool.or_eq_true_iff.1 hB with h | h <;> exact ⟨_, hasA_one.1 h⟩
       have hkl := (List.getElem?_eq_some_iff.1 hc).1
       refine Cq fun K28 hK28 => Cq fun K29 hK29 => Cr (tW 2 rfl (Ln (e_K (hK29 _ _ _ _ ?_))))
       refine c_if rfl (fun h58 => ?_) (fun h58 => ?_)
       ·rw [if_pos (by omega)] at hr
        injection hr with hr
        refine Cq fun K30 hK30 => Cr (Sv (o_build (cs := [_, _, _, _, _, _]) pl25 zv25 rfl rfl) (s_sta (vs := [_, _, _, _, _, _]) ag25 Bg1 rfl rfl rfl (by simp [Value.oneCell']) (by simp) fun w20 P20 => ?_))
        replace E := E.own P20.mod Lg1_E
        replace Bg1 : Blk w20 g1 _ [_, _, _, _, _, _] := P20.blk
        exact tW 2 rfl (Ln (e_K (hK30 _ _ _ _ (cR (eT (by simp) (eT (by simp) (retctt (vs := [_, _, _, _, _, _]) rfl ag25 rfl rfl (Bg1.cs rfl) rfl rfl (RRes.no hr.symm JV.nul_reps E))))))))
       ·rw [if_neg (by omega)] at hr
        refine cK (e_K (hK28 _ _ _ _ (Cq fun K31 hK31 => Cq fun K32 hK32 => Cr (tW 2 rfl (Sv (o_sidx Tryz.underlying9 rfl rfl (by omega) (by rw [Int.toNat_natCast]; exact hc)) (Sv (oE rfl rfl) (Ln (e_K (hK32 _ _ _ _ ?_)))))))))
        refine c_if rfl (fun h63 => ?_) (fun h63 => ?_)
        ·rw [if_pos (by rw [hasA_at hc]; exact dT (u8_eq h63))] at hr
         refine Cq fun K33 hK33 => Cr (tW 2 rfl (Sv (o_addE (r := ((k + 1 : Nat) : Int)) rfl rfl (by rw [wrap64_in _ (by omega)]; omega)) (Zm rfl (Sv (o_addE (r := ((deep + 1 : Nat) : Int)) rfl rfl (by rw [wrap64_in _ (by omega)]; omega)) (sc (oC ent103 rfl) (c_listR N ih (g1 :: A) _ s (k + 1) (deep + 1) r f (fun a ha => by rcases List.mem_cons.1 ha with rfl | ha; exact Bg1.lt; exact Nat.lt_of_lt_of_le (hA a ha) E.size) (by omega) hs (by omega) (hE.mod0 E) (by omega) hr) rfl fun v_ w21 h_ => ?_)))))
         obtain ⟨us3, rfl, Rx, E_⟩ := h_
         replace Bg1 := Bg1.mod0 E_
         replace E := E.then E_
         obtain ⟨al3, cl3, am3, cm3, rfl, Rl3, Rm3⟩ := JV.cells_ Rx
         replace Rx := JV.reps_ Rl3 Rm3
         have Ekr3 := Mod.refl [] w21
         refine tW 3 rfl (s_sta (vs := [_, _, _, _, _, _]) ag25 Bg1 rfl rfl rfl (by simp [Value.oneCell']) (by simp) fun w22 P22 => ?_)
         replace E := E.own P22.mod Lg1_E
         replace Bg1 : Blk w22 g1 _ [_, _, _, _, _, _] := P22.blk
         replace Rx := Rx.toM P22.mod (fun a ha => by simp [List.mem_singleton.1 ha])
         exact tW 2 rfl (Ln (e_K (hK33 _ _ _ _ (cR (eT (by simp) (eT (by simp) (retctt (vs := [_, _, _, _, _, _]) rfl ag25 rfl rfl (Bg1.cs rfl) rfl rfl ⟨_, rfl, Rx.anti (A' := A) (fun a ha => by simp [ha]), E⟩)))))))
        ·rw [if_neg (by rw [hasA_at hc]; intro h; exact h63 (by rw [of_decide_eq_true h]; rfl))] at hr
         refine cK (e_K (hK31 _ _ _ _ (Cq fun K34 hK34 => Cr (tW 2 rfl (Sv (o_addE (r := ((k + 1 : Nat) : Int)) rfl rfl (by rw [wrap64_in _ (by omega)]; omega)) (Zm rfl (Sv (o_addE (r := ((deep + 1 : Nat) : Int)) rfl rfl (by rw [wrap64_in _ (by omega)]; omega)) (sc (oC ent104 rfl) (c_tableR N ih (g1 :: A) _ s (k + 1) (deep + 1) r f (fun a ha => by rcases List.mem_cons.1 ha with rfl | ha; exact Bg1.lt; exact Nat.lt_of_lt_of_le (hA a ha) E.size) (by omega) hs (by omega) (hE.mod0 E) (by omega) hr) rfl fun v_ w23 h_ => ?_))))))))
         obtain ⟨us3, rfl, Rx, E_⟩ := h_
         replace Bg1 := Bg1.mod0 E_
         replace E := E.then E_
         obtain ⟨al3, cl3, am3, cm3, rfl, Rl3, Rm3⟩ := JV.cells_ Rx
         replace Rx := JV.reps_ Rl3 Rm3
         have Ekr3 := Mod.refl [] w23
         refine tW 3 rfl (s_sta (vs := [_, _, _, _, _, _]) ag25 Bg1 rfl rfl rfl (by simp [Value.oneCell']) (by simp) fun w24 P24 => ?_)
         replace E := E.own P24.mod Lg1_E
         replace Bg1 : Blk w24 g1 _ [_, _, _, _, _, _] := P24.blk
         replace Rx := Rx.toM P24.mod (fun a ha => by simp [List.mem_singleton.1 ha])
         exact tW 2 rfl (Ln (e_K (hK34 _ _ _ _ (cR (eT (by simp) (retctt (vs := [_, _, _, _, _, _]) rfl ag25 rfl rfl (Bg1.cs rfl) rfl rfl ⟨_, rfl, Rx.anti (A' := A) (fun a ha => by simp [ha]), E⟩))))))
      ·refine Sv (oF rfl rfl rfl) (Ln (e_K (hK20 _ _ _ _ (c_false rfl ?_))))
       have h56 := hx2
       have hB : (hasA s k [91] || hasA s k [123]) = false := by simp only [hx1, Bool.false_or]; first | exact hx2 | exact h56
       rw [if_neg (by rw [hB]; simp)] at hr
       injection hr with hr
       subst hr
       refine cK (e_K (hK19 _ _ _ _ (Cq fun K35 hK35 => Cr (tW 2 rfl (sc (oC ent105 rfl) (c_numR (g1 :: A) _ s k (by omega) (by omega) (hE.mod0 E)) rfl fun v_ w25 h_ => ?_)))))
       obtain ⟨us3, rfl, Rx, E_⟩ := h_
       replace Bg1 := Bg1.mod0 E_
       replace E := E.then E_
       obtain ⟨al3, cl3, am3, cm3, rfl, Rl3, Rm3⟩ := JV.cells_ Rx
       replace Rx := JV.reps_ Rl3 Rm3
       have Ekr3 := Mod.refl [] w25
       refine tW 3 rfl (s_sta (vs := [_, _, _, _, _, _]) ag25 Bg1 rfl rfl rfl (by simp [Value.oneCell']) (by simp) fun w26 P26 => ?_)
       replace E := E.own P26.mod Lg1_E
       replace Bg1 : Blk w26 g1 _ [_, _, _, _, _, _] := P26.blk
       replace Rx := Rx.toM P26.mod (fun a ha => by simp [List.mem_singleton.1 ha])
       exact tW 2 rfl (Ln (e_K (hK35 _ _ _ _ (cR (retctt (vs := [_, _, _, _, _, _]) rfl ag25 rfl rfl (Bg1.cs rfl) rfl rfl ⟨_, rfl, Rx.anti (A' := A) (fun a ha => by simp [ha]), E⟩)))))
end Go.Proofs.YtknndpjacklkeaaGreatDoor.V

set_option linter.unusedVariables false
set_option linter.unusedSimpArgs false
set_option maxRecDepth 10000
namespace Go.Proofs.YtknndpjacklkeaaGreatDoor.V
open Go Go.Proofs

theorem eqJ_self (v : JV) : JV.eqJ v v = true := JV.eqJ_iff.2 rfl
end Go.Proofs.YtknndpjacklkeaaGreatDoor.V

set_option linter.unusedVariables false
set_option linter.unusedSimpArgs false
set_option maxRecDepth 10000
namespace Go.Proofs.YtknndpjacklkeaaGreatDoor.V
open Go Go.Proofs

theorem tk_all : ∀ N : Nat, TkOK N
 | 0, f, hf, A, w, s, k, deep, r, hA, hk, hs, hd, hE, hr => by
  obtain rfl : f = 0 := by omega
  simp [tkV] at hr
 | N + 1, f, hf, A, w, s, k, deep, r, hA, hk, hs, hd, hE, hr => by
  cases f with
  | zero => simp [tkV] at hr
  | succ f => exact c_take_step N (tk_all N) A w s k deep r f hA hk hs hd hE (by omega) hr
theorem c_takeA (A : List Nat) (w : World) (s : Str) (hA : ∀ a ∈ A, a < w.heap.size) (hs : s.length ≤ 65536) (hE : Env w) : Calls Tryz.prog 54 [S s, .int .i64 0, .int .i64 0].toArray w (Ret fun u w' => RRes A w w' (rdA s) u) := tk_all _ _ (Nat.le_refl _) A w s 0 0 _ hA (by omega) hs (by decide) hE (rdA_eq s)
theorem par_long {s : Str} (h : 65536 < s.length) : parV s = JV.nul ∧ parE s = 3 := by
 have : parse s = .error 3 := by unfold parse; rw [if_pos h]
 exact ⟨by unfold parV; rw [this], by unfold parE; rw [this]⟩
theorem par_no {s : Str} {e : Int} (hs : s.length ≤ 65536) (h : rdA s = .error e) : parV s = JV.nul ∧ parE s = rE (rdA s) := by
 have : parse s = .error e := by unfold parse; rw [if_neg (by omega), h]
 exact ⟨by unfold parV; rw [this], by unfold parE; rw [this, h]; rfl⟩
theorem par_rest {s : Str} {x : JV} {k : Nat} (hs : s.length ≤ 65536) (h : rdA s = .ok (x, k)) (hk : spanA isWs s k < s.length) : parV s = JV.nul ∧ parE s = 4 := by
 have : parse s = .error 4 := by
  unfold parse
  rw [if_neg (by omega), h]
  simp only
  rw [if_pos hk]
 exact ⟨by unfold parV; rw [this], by unfold parE; rw [this]⟩
theorem par_yes {s : Str} {x : JV} {k : Nat} (hs : s.length ≤ 65536) (h : rdA s = .ok (x, k)) (hk : ¬ spanA isWs s k < s.length) : parV s = rV (rdA s) ∧ parE s = 0 := by
 have : parse s = .ok x := by
  unfold parse
  rw [if_neg (by omega), h]
  simp only
  rw [if_neg hk]
 exact ⟨by unfold parV; rw [this, h]; rfl, by unfold parE; rw [this]⟩

theorem c_parseR (w : World) (s : Str) (hE : Env w) (hs2 : s.length ≤ 1000000) : Calls Tryz.prog 15 [S s].toArray w (Ret fun u w' => ∃ us, u = .tuple #[.agg us.toArray, .int .i64 (parE s)] ∧ Reps [] w' (parV s).D us ∧ Mod [] w w') := by
 refine enter Tryz.func15 rfl rfl rfl (l := [(0, _)]) ⟨rfl, trivial⟩ ?_
 have E := Mod.refl [] w
 refine Cq fun K1 hK1 => Cr (s_alloc zv25 rfl fun g1 w1 N1 => ?_)
 have Lg1_E := N1.le E
 replace E := E.then N1.mod
 have Bg1 := N1.blk
 refine Za rfl (Ln (e_K (hK1 _ _ _ _ (Cq fun K2 hK2 => Cq fun K3 hK3 => Cr (Zm rfl (Sv (o_slen Tryz.underlying9 rfl) (Sv (o_gtr rfl rfl) (Ln (e_K (hK3 _ _ _ _ ?_))))))))))
 refine c_if rfl (fun h9 => ?_) (fun h9 => ?_)
 ·have hp := par_long (s := s) (by omega)
  refine Cq fun K4 hK4 => Cr (Sv (o_build (cs := [_, _, _, _, _, _]) pl25 zv25 rfl rfl) (s_sta (vs := [_, _, _, _, _, _]) ag25 Bg1 rfl rfl rfl (by simp [Value.oneCell']) (by simp) fun w2 P2 => ?_))
  replace E := E.own P2.mod Lg1_E
  replace Bg1 : Blk w2 g1 _ [_, _, _, _, _, _] := P2.blk
  exact Za rfl (Ln (e_K (hK4 _ _ _ _ (cR (eT (by simp) (retct (vs := [_, _, _, _, _, _]) rfl ag25 rfl rfl (Bg1.cs rfl) rfl ⟨_, by rw [hp.2]; try rfl, by rw [hp.1]; exact JV.nul_reps, E⟩))))))
 ·have hsl : s.length ≤ 65536 := by omega
  refine cK (e_K (hK2 _ _ _ _ (Cq fun K5 hK5 => Cr (Zm rfl (sc (oC ent54 rfl) (c_takeA [g1] _ s (fun a ha => by rw [List.mem_singleton.1 ha]; exact Bg1.lt) hsl (hE.mod0 E)) rfl fun v_ w3 h_ => ?_)))))
  obtain ⟨us3, rfl, Rx, E_⟩ := h_
  replace Bg1 := Bg1.mod0 E_
  replace E := E.then E_
  obtain ⟨al3, cl3, am3, cm3, rfl, Rl3, Rm3⟩ := JV.cells_ Rx
  replace Rx := JV.reps_ Rl3 Rm3
  have Ekr3 := Mod.refl [] w3
  refine tW 4 rfl (s_alloc zv25 rfl fun g2 w4 N2 => ?_)
  have Lg2_E := N2.le E
  have Lg2_Ekr3 := N2.le Ekr3
  have Dg1_g2 := N2.ne Bg1
  replace Bg1 := Bg1.mod0 N2.mod
  replace E := E.then N2.mod
  replace Ekr3 := Ekr3.then N2.mod
  have Bg2 := N2.blk
  refine s_sta (vs := [_, _, _, _, _, _]) ag25 Bg2 rfl rfl rfl (by simp [Value.oneCell']) (by simp) fun w5 P5 => ?_
  replace Bg1 := Bg1.ne P5.mod (Ne.symm (Ne.symm Dg1_g2))
  replace E := E.own P5.mod Lg2_E
  replace Ekr3 := Ekr3.own P5.mod Lg2_Ekr3
  replace Bg2 : Blk w5 g2 _ [_, _, _, _, _, _] := P5.blk
  refine tW 2 rfl (Ln (e_K (hK5 _ _ _ _ (Cq fun K6 hK6 => Cq fun K7 hK7 => Cr (tW 2 rfl ?_)))))
  refine bD (fun hz : rE (rdA s) = 0 => ?_) (fun hz => ?_)
  ·obtain ⟨x, k, hrd⟩ := rE_ok (rdA_eq s) hz
   have hb := (tk_bound s _).1 _ _ _ _ (Nat.zero_le _) ((rdA_eq s).trans (by rw [hrd]))
   have hP : rP (rdA s) = k := by rw [hrd]; rfl
   rw [hP]
   refine tW 3 rfl (sgc rfl rfl (oC ent55 rfl) (c_blankR _ s k (by omega) (by omega)) rfl fun v_ w6 h_ => ?_)
   obtain ⟨rfl, E_⟩ := h_
   replace Bg1 := Bg1.mod0 E_
   replace Bg2 := Bg2.mod0 E_
   replace E := E.then E_
   replace Ekr3 := Ekr3.then E_
   refine Sg rfl rfl (oM rfl) (Sg rfl rfl (o_slen Tryz.underlying9 rfl) (Sg rfl rfl (o_lss rfl rfl) ?_))
   refine bD (fun hlt : ((spanA isWs s k : Nat) : Int) < (s.length : Int) => ?_) (fun hlt => ?_)
   ·have hp := par_rest hsl hrd (by omega)
    refine Sv (oT rfl rfl rfl) (Ln (e_K (hK7 _ _ _ _ (c_true rfl (Cr (Za rfl (Ln (e_K (hK6 _ _ _ _ (Cq fun K8 hK8 => Cq fun K9 hK9 => Cr (tW 2 rfl (bE (dT (by decide)) (Ln ?_)))))))))))))
    refine e_K (hK9 _ _ _ _ (c_true rfl (Cq fun K10 hK10 => Cr (Sv (o_build (cs := [_, _, _, _, _, _]) pl25 zv25 rfl rfl) (Zm rfl (s_sta (vs := [_, _, _, _, _, _]) ag25 Bg1 rfl rfl rfl (by simp [Value.oneCell']) (by simp) fun w7 P7 => ?_))))))
    replace Bg2 := Bg2.ne P7.mod (Ne.symm Dg1_g2)
    replace E := E.own P7.mod Lg1_E
    replace Bg1 : Blk w7 g1 _ [_, _, _, _, _, _] := P7.blk
    exact Za rfl (Ln (e_K (hK10 _ _ _ _ (cR (eT (by simp) (retct (vs := [_, _, _, _, _, _]) rfl ag25 rfl rfl (Bg1.cs rfl) rfl ⟨_, by rw [hp.2]; try rfl, by rw [hp.1]; exact JV.nul_reps, E⟩))))))
   ·have hp := par_yes hsl hrd (by omega)
    refine Sv (oT rfl rfl rfl) (Ln (e_K (hK7 _ _ _ _ (c_false rfl (cK (e_K (hK6 _ _ _ _ (Cq fun K11 hK11 => Cq fun K12 hK12 => Cr (tW 2 rfl (bE (dF (fun h => h hz)) (Ln (e_K (hK12 _ _ _ _ (c_false rfl ?_))))))))))))))
    refine cK (e_K (hK11 _ _ _ _ (Cq fun K13 hK13 => Cr (Sv (o_lda (vs := [_, _, _, _, _, _]) ag25 rfl rfl (Bg2.cs rfl)) ?_))))
    replace Rx := Rx.to0 Ekr3
    refine s_sta (vs := [_, _, _, _, _, _]) ag25 Bg1 rfl rfl rfl (by simp [Value.oneCell']) (by simp) fun w8 P8 => ?_
    replace Bg2 := Bg2.ne P8.mod (Ne.symm Dg1_g2)
    replace E := E.own P8.mod Lg1_E
    replace Bg1 : Blk w8 g1 _ [_, _, _, _, _, _] := P8.blk
    replace Rx := Rx.toM P8.mod (fun a ha => by simp [List.mem_singleton.1 ha])
    exact Za rfl (Ln (e_K (hK13 _ _ _ _ (cR (retct (vs := [_, _, _, _, _, _]) rfl ag25 rfl rfl (Bg1.cs rfl) rfl ⟨_, by rw [hp.2]; try rfl, by rw [hp.1]; exact Rx.anti (by simp), E⟩)))))
  ·obtain ⟨e, hrd⟩ := rE_no hz
   have hp := par_no hsl hrd
   refine tW 8 rfl (Ln (e_K (hK7 _ _ _ _ (c_false rfl (cK (e_K (hK6 _ _ _ _ (Cq fun K14 hK14 => Cq fun K15 hK15 => Cr (tW 2 rfl (bE (dT hz) (Ln (e_K (hK15 _ _ _ _ (c_true rfl ?_))))))))))))))
   refine Cq fun K16 hK16 => Cr (Sv (o_build (cs := [_, _, _, _, _, _]) pl25 zv25 rfl rfl) (Zm rfl (s_sta (vs := [_, _, _, _, _, _]) ag25 Bg1 rfl rfl rfl (by simp [Value.oneCell']) (by simp) fun w9 P9 => ?_)))
   replace Bg2 := Bg2.ne P9.mod (Ne.symm Dg1_g2)
   replace E := E.own P9.mod Lg1_E
   replace Bg1 : Blk w9 g1 _ [_, _, _, _, _, _] := P9.blk
   exact Za rfl (Ln (e_K (hK16 _ _ _ _ (cR (eT (by simp) (retct (vs := [_, _, _, _, _, _]) rfl ag25 rfl rfl (Bg1.cs rfl) rfl ⟨_, by rw [hp.2]; try rfl, by rw [hp.1]; exact JV.nul_reps, E⟩))))))
end Go.Proofs.YtknndpjacklkeaaGreatDoor.V

set_option linter.unusedVariables false
set_option linter.unusedSimpArgs false
namespace Go.Proofs.YtknndpjacklkeaaGreatDoor.V
open Go
section
variable {n : Int} (h0 : -9007199254740991 ≤ n) (h1 : n ≤ 9007199254740991)
include h0 h1
theorem wr_num (d : Nat) (b : Str) : (JV.numV n).wr d b = lng (b ++ Lib.itoa n) := by
 rw [JV.wr_eq, if_neg (by rw [bare_numV h0 h1]; simp), if_neg (by simp [JV.numV, JV.kind]), if_neg (by simp [JV.numV, JV.kind]), if_pos (by simp [JV.numV, JV.kind])]
 rfl
end
end Go.Proofs.YtknndpjacklkeaaGreatDoor.V

set_option linter.unusedVariables false
set_option linter.unusedSimpArgs false
set_option maxRecDepth 10000
namespace Go.Proofs.YtknndpjacklkeaaGreatDoor.V
open Go Go.Proofs

theorem parV_ok {s : Str} {v : JV} (h : parse s = .ok v) : parV s = v := by unfold parV; rw [h]
theorem parE_ok {s : Str} {v : JV} (h : parse s = .ok v) : parE s = 0 := by unfold parE; rw [h]
end Go.Proofs.YtknndpjacklkeaaGreatDoor.V

set_option linter.unusedVariables false
set_option linter.unusedSimpArgs false
set_option maxRecDepth 10000
namespace Go.Proofs.YtknndpjacklkeaaGreatDoor.V
open Go Go.Proofs
theorem ent15 : Ent Tryz.prog 15 := Ent.of Tryz.func15 (by kernel_rfl) (by kernel_rfl)
theorem parse_1 : parse [91, 49, 93] = .ok (JV.lst [JV.numV 1]) := by
 have h1 : Lib.itoa 1 = [49] := by
  rw [Lib.itoa, if_neg (by decide)]
  show Lib.decDigits 1 = [49]
  unfold Lib.decDigits
  rfl
 have hw : (JV.lst [JV.numV 1]).wr 0 [] = .ok [91, 49, 93] := by
  rw [JV.wr_eq, if_neg (by rw [bare_lst]; simp), if_neg (by simp [JV.lst, JV.kind]), if_neg (by simp [JV.lst, JV.kind]), if_neg (by simp [JV.lst, JV.kind]), if_neg (by simp [JV.lst, JV.kind]), if_neg (by decide), if_pos (by simp [JV.lst, JV.kind])]
  show ((JV.wrl [JV.numV 1] 0 true [91]).bind fun b => lng (b ++ [93])) = _
  rw [JV.wrl_step']
  show (((JV.numV 1).wr (0 + 1) [91]).bind fun b => JV.wrl [] 0 false b).bind _ = _
  rw [wr_num (by decide) (by decide), h1]
  show (JV.wrl [] 0 false [91, 49]).bind _ = _
  rw [JV.wrl]
  rfl
 exact parse_wr hw

theorem c_JsonParses (w : World) (s : Str) (hE : Env w) : Calls Tryz.prog 3 [S s].toArray w (Ret fun u w' => u = .bool true ∧ Mod [] w w') := by
 refine enter Tryz.func3 rfl rfl rfl (l := [(0, _)]) ⟨rfl, trivial⟩ ?_
 have E := Mod.refl [] w
 have hT := hE.tab
 refine Cq fun K1 hK1 => Cr (Za rfl (Ln (e_K (hK1 _ _ _ _ (Cq fun K2 hK2 => Cr (sc (oC ent14 rfl) (c_parse2 _ [91, 49, 93] (hE.mod0 E) (parV_ok parse_1) (parE_ok parse_1)) rfl fun v_ w1 h_ => ?_))))))
 obtain ⟨us1, rfl, R1, E_⟩ := h_
 replace E := E.then E_
 have Ep1 := Mod.refl [] w1
 obtain ⟨al1, cl1, am1, cm1, rfl, Rl1, Rm1⟩ := JV.cells_ R1
 replace R1 := JV.reps_ Rl1 Rm1
 refine tW 3 rfl (s_alloc zv25 rfl fun g1 w2 N1 => ?_)
 have Lg1_E := N1.le E
 have Lg1_Ep1 := N1.le Ep1
 replace E := E.then N1.mod
 replace Ep1 := Ep1.then N1.mod
 have Bg1 := N1.blk
 refine s_sta (vs := [_, _, _, _, _, _]) ag25 Bg1 rfl rfl rfl (by simp [Value.oneCell']) (by simp) fun w3 P3 => ?_
 replace E := E.own P3.mod Lg1_E
 replace Ep1 := Ep1.own P3.mod Lg1_Ep1
 replace Bg1 : Blk w3 g1 _ [_, _, _, _, _, _] := P3.blk
 refine Za rfl (Ln (e_K (hK2 _ _ _ _ (Cq fun K3 hK3 => Cq fun K4 hK4 => ?_))))
 obtain ⟨x1, hx1⟩ : ∃ x, (JV.lst [JV.numV 1]).list[0]? = some x := ⟨_, rfl⟩
 have hxe : x1 = JV.numV 1 := by injection hx1 with h; exact h.symm
 obtain ⟨ax, usx, hax, Rx, hcs0⟩ := JV.at_l Rl1 hx1
 subst hxe
 obtain ⟨alx, clx, amx, cmx, rfl, Rlx, Rmx⟩ := JV.cells_ Rx
 obtain rfl := hax
 have hcs := hcs0.mod0 Ep1
 refine Cr (tW 2 rfl (bE (dF (by decide)) (Zm rfl (Sg rfl rfl (oA0 fd25_4 rfl) (Sg rfl rfl (oL sc22 rfl (Bg1.cell rfl)) (Sg rfl rfl (o_len Tryz.underlying22 rfl) (Sg rfl rfl (o_neq rfl rfl) (bE (dF (by decide)) (tW 2 rfl (Sg rfl rfl (oA0 fd25_4 rfl) (Sg rfl rfl (oL sc22 rfl (Bg1.cell rfl)) (Sg rfl rfl (o_ix sl22 rfl rfl (by decide)) (Sg rfl rfl (o_fad fd25_2 rfl) ?_)))))))))))))
 refine Sg rfl rfl (oL sc3 rfl (hcs 2 _ rfl)) (Sg rfl rfl (o_neq rfl rfl) (bE (dF (by decide)) (Sv (oF rfl rfl rfl) (Ln (e_K (hK4 _ _ _ _ (c_false rfl (cK (e_K (hK3 _ _ _ _ (Cq fun K5 hK5 => Cq fun K6 hK6 => Cr (Zm rfl (Sv (o_slen Tryz.underlying9 rfl) ?_)))))))))))))
 refine Sv (o_gtr rfl rfl) ?_
 refine bD (fun hl : (s.length : Int) > 8192 => ?_) (fun hl => ?_)
 ·exact Ln (e_K (hK6 _ _ _ _ (c_true rfl (Cq fun K7 hK7 => Cr (Za rfl (Ln (e_K (hK7 _ _ _ _ (cR (eT (by simp) (ret1 rfl rfl ⟨rfl, E⟩)))))))))))
 ·refine Ln (e_K (hK6 _ _ _ _ (c_false rfl (cK (e_K (hK5 _ _ _ _ (Cq fun K8 hK8 => Cr (Zm rfl (sc (oC ent14 rfl) (c_parse2 _ s (hE.mod0 E) rfl rfl) rfl fun v_ w4 h_ => ?_)))))))))
  obtain ⟨us2, rfl, R2, E_⟩ := h_
  replace Bg1 := Bg1.mod0 E_
  replace E := E.then E_
  replace Ep1 := Ep1.then E_
  have Ep2 := Mod.refl [] w4
  obtain ⟨al2, cl2, am2, cm2, rfl, Rl2, Rm2⟩ := JV.cells_ R2
  replace R2 := JV.reps_ Rl2 Rm2
  refine tW 3 rfl (s_alloc zv25 rfl fun g2 w5 N2 => ?_)
  have Lg2_E := N2.le E
  have Lg2_Ep1 := N2.le Ep1
  have Lg2_Ep2 := N2.le Ep2
  have Dg1_g2 := N2.ne Bg1
  replace Bg1 := Bg1.mod0 N2.mod
  replace E := E.then N2.mod
  replace Ep1 := Ep1.then N2.mod
  replace Ep2 := Ep2.then N2.mod
  have Bg2 := N2.blk
  refine s_sta (vs := [_, _, _, _, _, _]) ag25 Bg2 rfl rfl rfl (by simp [Value.oneCell']) (by simp) fun w6 P6 => ?_
  replace Bg1 := Bg1.ne P6.mod (Ne.symm (Ne.symm Dg1_g2))
  replace E := E.own P6.mod Lg2_E
  replace Ep1 := Ep1.own P6.mod Lg2_Ep1
  replace Ep2 := Ep2.own P6.mod Lg2_Ep2
  replace Bg2 : Blk w6 g2 _ [_, _, _, _, _, _] := P6.blk
  refine Za rfl (Ln (e_K (hK8 _ _ _ _ (Cq fun K9 hK9 => Cr (Zm rfl (sc (oC ent15 rfl) (c_parseR _ s (hE.mod0 E) (by omega)) rfl fun v_ w7 h_ => ?_))))))
  obtain ⟨us3, rfl, R3, E_⟩ := h_
  replace Bg1 := Bg1.mod0 E_
  replace Bg2 := Bg2.mod0 E_
  replace E := E.then E_
  replace Ep1 := Ep1.then E_
  replace Ep2 := Ep2.then E_
  have Ep3 := Mod.refl [] w7
  obtain ⟨al3, cl3, am3, cm3, rfl, Rl3, Rm3⟩ := JV.cells_ R3
  replace R3 := JV.reps_ Rl3 Rm3
  refine tW 3 rfl (s_alloc zv25 rfl fun g3 w8 N3 => ?_)
  have Lg3_E := N3.le E
  have Lg3_Ep1 := N3.le Ep1
  have Lg3_Ep2 := N3.le Ep2
  have Lg3_Ep3 := N3.le Ep3
  have Dg1_g3 := N3.ne Bg1
  have Dg2_g3 := N3.ne Bg2
  replace Bg1 := Bg1.mod0 N3.mod
  replace Bg2 := Bg2.mod0 N3.mod
  replace E := E.then N3.mod
  replace Ep1 := Ep1.then N3.mod
  replace Ep2 := Ep2.then N3.mod
  replace Ep3 := Ep3.then N3.mod
  have Bg3 := N3.blk
  refine s_sta (vs := [_, _, _, _, _, _]) ag25 Bg3 rfl rfl rfl (by simp [Value.oneCell']) (by simp) fun w9 P9 => ?_
  replace Bg1 := Bg1.ne P9.mod (Ne.symm (Ne.symm Dg1_g3))
  replace Bg2 := Bg2.ne P9.mod (Ne.symm (Ne.symm Dg2_g3))
  replace E := E.own P9.mod Lg3_E
  replace Ep1 := Ep1.own P9.mod Lg3_Ep1
  replace Ep2 := Ep2.own P9.mod Lg3_Ep2
  replace Ep3 := Ep3.own P9.mod Lg3_Ep3
  replace Bg3 : Blk w9 g3 _ [_, _, _, _, _, _] := P9.blk
  refine Za rfl (Ln (e_K (hK9 _ _ _ _ (Cq fun K10 hK10 => Cr (tW 3 rfl (bE (dT rfl) (Zm rfl (Sg rfl rfl (o_lda (vs := [_, _, _, _, _, _]) ag25 rfl rfl (Bg2.cs rfl)) (Sg rfl rfl (o_lda (vs := [_, _, _, _, _, _]) ag25 rfl rfl (Bg3.cs rfl)) (sgc rfl rfl (oC ent16 rfl) (c_same _ (parV s) (parV s) _ _ (R2.to0 Ep2) (R3.to0 Ep3)) rfl fun v_ w10 h_ => ?_))))))))))
  obtain ⟨rfl, E_⟩ := h_
  replace Bg1 := Bg1.mod0 E_
  replace Bg2 := Bg2.mod0 E_
  replace Bg3 := Bg3.mod0 E_
  replace E := E.then E_
  replace Ep1 := Ep1.then E_
  replace Ep2 := Ep2.then E_
  replace Ep3 := Ep3.then E_
  exact bE (eqJ_self (parV s)) (tW 2 rfl (Ln (e_K (hK10 _ _ _ _ (cR (ret1 rfl rfl ⟨rfl, E⟩))))))
end Go.Proofs.YtknndpjacklkeaaGreatDoor.V
