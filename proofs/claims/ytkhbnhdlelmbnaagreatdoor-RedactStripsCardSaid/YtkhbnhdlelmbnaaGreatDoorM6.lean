/-
  A part of the proof: a text between quotes, byte by byte; errors' numbers. No condition of its own.
-/
import Derived.Test.YtkhbnhdlelmbnaaGreatDoorM5
import Derived.Test.YtkhbnhdlelmbnaaGreatDoorM4
import Derived.Test.YtkhbnhdlelmbnaaGreatDoorProg
import Derived.Test.YtkhbnhdlelmbnaaGreatDoorM3
set_option linter.unusedVariables false
set_option linter.unusedSimpArgs false
set_option maxRecDepth 10000
namespace Go.Proofs.YtkhbnhdlelmbnaaGreatDoor.V
open Go Go.Proofs
theorem cmp80 : CmpX Tryz.prog 152 := fun args w => run_callFunc_extern Tryz.func152 (by kernel_rfl) (by kernel_rfl) (by kernel_rfl) (by kernel_rfl) args w
theorem ent140 : Ent Tryz.prog 140 := Ent.of Tryz.func140 (by kernel_rfl) (by kernel_rfl)
theorem ent126 : Ent Tryz.prog 126 := Ent.of Tryz.func126 (by kernel_rfl) (by kernel_rfl)
theorem ent93 : Ent Tryz.prog 93 := Ent.of Tryz.func93 (by kernel_rfl) (by kernel_rfl)
theorem pl41 : plB Tryz.prog 41 [(0, 1), (1, 6)] = true := by kernel_rfl
theorem ent92 : Ent Tryz.prog 92 := Ent.of Tryz.func92 (by kernel_rfl) (by kernel_rfl)
theorem c_cmpS (w : World) (a b : Str) : Calls Tryz.prog 140 [S a, S b].toArray w (Ret fun u w' => u = .int .i64 (scmp a b) ∧ Mod [] w w') := by
 refine enter Tryz.func140 rfl rfl rfl (l := [(0, _), (1, _)]) ⟨rfl, rfl, trivial⟩ ?_
 have E := Mod.refl [] w
 refine Cq fun K1 hK1 => Cr (Za rfl (Ln (e_K (hK1 _ _ _ _ (Cq fun K2 hK2 => Cr (Zm rfl (Zm rfl (Sv ((o_cmpstr cmp80 rfl rfl).to (by rw [cmp_scmp])) ?_))))))))
 exact Za rfl (Ln (e_K (hK2 _ _ _ _ (cR (ret1 rfl rfl ⟨rfl, E⟩)))))

theorem c_sCmp (w : World) (a b : Str) : Calls Tryz.prog 126 [S a, S b].toArray w (Ret fun u w' => u = .int .i64 (scmp a b) ∧ Mod [] w w') := by
 refine enter Tryz.func126 rfl rfl rfl (l := [(0, _), (1, _)]) ⟨rfl, rfl, trivial⟩ ?_
 have E := Mod.refl [] w
 refine Cq fun K1 hK1 => Cr (Za rfl (Ln (e_K (hK1 _ _ _ _ (Cq fun K2 hK2 => Cr (Zm rfl (Zm rfl (sc (oC ent140 rfl) (c_cmpS _ _ _) rfl fun v_ w1 h_ => ?_))))))))
 obtain ⟨rfl, E_⟩ := h_
 replace E := E.then E_
 exact Za rfl (Ln (e_K (hK2 _ _ _ _ (cR (ret1 rfl rfl ⟨rfl, E⟩)))))

theorem c_byKey (w : World) (a b : Str) (us vs : List Value) : Calls Tryz.prog 93 [.agg (S a :: us).toArray, .agg (S b :: vs).toArray].toArray w (Ret fun u w' => u = .int .i64 (scmp a b) ∧ Mod [] w w') := by
 refine enter Tryz.func93 rfl rfl rfl (l := [(0, _), (1, _)]) ⟨rfl, rfl, trivial⟩ ?_
 have E := Mod.refl [] w
 refine Cq fun K1 hK1 => Cr (s_box rfl rfl rfl fun g1 w1 N1 => ?_)
 have Lg1_E := N1.le E
 replace E := E.then N1.mod
 have Bg1 := N1.blk
 refine s_box rfl rfl rfl fun g2 w2 N2 => ?_
 have Lg2_E := N2.le E
 have Dg1_g2 := N2.ne Bg1
 replace Bg1 := Bg1.mod0 N2.mod
 replace E := E.then N2.mod
 have Bg2 := N2.blk
 refine Za rfl (Ln (e_K (hK1 _ _ _ _ (Cq fun K2 hK2 => Cr (Sv (oA0 fd41_0 rfl) (Sv (oL sc9 rfl (Bg1.cell rfl)) (Sv (oA0 fd41_0 rfl) (Sv (oL sc9 rfl (Bg2.cell rfl)) (sc (oC ent126 rfl) (c_sCmp _ _ _) rfl fun v_ w3 h_ => ?_)))))))))
 obtain ⟨rfl, E_⟩ := h_
 replace Bg1 := Bg1.mod0 E_
 replace Bg2 := Bg2.mod0 E_
 replace E := E.then E_
 exact Za rfl (Ln (e_K (hK2 _ _ _ _ (cR (ret1 rfl rfl ⟨rfl, E⟩)))))

theorem c_bsM (w : World) (m : List (Str × JV)) (v : Value) (R : Rep [] w (.sl 7 (m.map JV.Dp)) v) (k : Str) (z1 z2 z3 z4 z5 z6 : Value) (ha : ascM m) (hn : m.length ≤ 1353245080310) : Calls Tryz.prog 92 [v, .agg [S k, z1, z2, z3, z4, z5, z6].toArray, .func (.func 93) #[] #[]].toArray w (Ret fun u w' => u = .tuple #[.int .i64 (posM m k), .bool (look m k).isSome] ∧ Mod [] w w') := by
 refine enter Tryz.func92 rfl rfl rfl (l := [(0, _), (1, _), (2, _)]) ⟨rfl, rfl, rfl, trivial⟩ ?_
 have E := Mod.refl [] w
 obtain ⟨ad, c, rfl, hc1, hc2⟩ : ∃ ad c, v = .slice ad m.length c ∧ m.length ≤ c ∧ c ≤ 9223372036854775807 := by
  obtain ⟨ad, c, h1, h2, h3⟩ := R.sl_
  rw [List.length_map] at h1 h2
  exact ⟨ad, c, h1, h2, h3⟩
 refine Cq fun K1 hK1 => Cr (s_box rfl rfl rfl fun g1 w1 N1 => ?_)
 have Lg1_E := N1.le E
 replace E := E.then N1.mod
 have Bg1 := N1.blk
 refine Za rfl (Za rfl (Ln (e_K (hK1 _ _ _ _ (Cq fun K2 hK2 => Cr (Zm rfl (Sv (o_len Tryz.underlying23 rfl) (Za rfl (Ln (e_K (hK2 _ _ _ _ (Cq fun K3 hK3 => Cr (Zm rfl ?_)))))))))))))
 refine Za rfl (Za rfl (Ln (e_K (hK3 _ _ _ _ (Cq fun K4 hK4 => cB ?_)))))
 refine c_loop (σ := Nat × Nat) (fun ⟨i, j⟩ => [(0, .slice ad m.length c), (2, .func (.func 93) #[] #[]), (4, .pointer (some ⟨g1, 0, none⟩)), (8, .int .i64 m.length), (9, .int .i64 (i : Int)), (10, .int .i64 (j : Int))]) (fun ⟨i, j⟩ w1 => i ≤ j ∧ j ≤ m.length ∧ (∀ (a : Nat) (y : Str × JV), a < i → m[a]? = some y → bl y.1 k = true) ∧ (∀ (a : Nat) (y : Str × JV), j ≤ a → m[a]? = some y → bl y.1 k = false) ∧ Blk w1 g1 41 [S k, z1, z2, z3, z4, z5, z6] ∧ Mod [] w w1) (fun ⟨i, j⟩ => j - i) (⟨0, m.length⟩) ⟨rfl, rfl, rfl, rfl, rfl, rfl, trivial⟩ (⟨by omega, by omega, fun a y h => by omega, fun a y h hy => (by rw [List.getElem?_eq_none h] at hy; cases hy), Bg1, E⟩) ?_
 rintro ⟨i, j⟩ w2 ⟨hij, hj, h1, h2, Bg1, E⟩
 refine Cq fun K5 hK5 => Cq fun K6 hK6 => Cr (Zm rfl (Zm rfl (Sv (o_lss rfl rfl) (Ln (e_K (hK6 _ _ _ _ ?_))))))
 refine c_if rfl (fun h17 => ?_) (fun h17 => ?_)
 ·have hlt : (i + j) / 2 < m.length := by omega
  obtain ⟨x, hx_x⟩ : ∃ x, m[((i + j) / 2)]? = some x := ⟨_, List.getElem?_eq_getElem (by omega)⟩
  obtain ⟨a_x, us_x, ha_x, R_x, hcs0_x⟩ := JV.at_m R hx_x
  obtain ⟨al_x, cl_x, am_x, cm_x, rfl, Rl_x, Rm_x⟩ := JV.cells_ R_x
  have hcs_x := hcs0_x.mod0 E
  have hcap_x := JV.cap_m R
  obtain rfl := ha_x
  refine cK (e_K (hK5 _ _ _ _ (cB (Cq fun K7 hK7 => Cr (Zm rfl (Zm rfl (Sv (o_addN rfl rfl (by omega)) (Sv (o_convE (r := ((i : Int) + j)) Tryz.underlying3 Tryz.underlying74 rfl (wrapu64_in _ (by omega))) (Sv (o_shrE (r := (((i + j) / 2 : Nat) : Int)) rfl rfl (by omega) (by rw [← half_cast]; exact fdiv_two _)) (Sv (o_convE (r := (((i + j) / 2 : Nat) : Int)) Tryz.underlying74 Tryz.underlying3 rfl (wrap64_in _ (by omega))) (Za rfl (Ln (e_K (hK7 _ _ _ _ ?_))))))))))))))
  refine Cq fun K8 hK8 => c_draw wide (by kernel_rfl) (tv (fun w_ E_ => (oM rfl)) rfl rfl (tv (fun w_ E_ => (oM rfl)) rfl rfl (tv (fun w_ E_ => (oM rfl)) rfl rfl (tv (fun w_ E_ => (o_ix sl23 rfl rfl (by omega))) rfl rfl (tv (fun w_ E_ => (o_lda ag41 rfl rfl (hcs_x.mod0 E_))) rfl rfl (tv (fun w_ E_ => (o_lda (vs := [_, _, _, _, _, _, _]) ag41 rfl rfl ((Bg1.mod0 E_).cs rfl))) rfl rfl (tc (fun w_ E_ => o_callv ent93 rfl rfl) (fun w_ E_ => c_byKey _ x.1 k _ _) rfl rfl (tv (fun w_ E_ => (o_lss rfl rfl)) rfl rfl (tw_nil rfl fun w3 E_ => ?_)))))))))
  replace Bg1 := Bg1.mod0 E_
  replace E := E.then E_
  refine e_K (hK8 _ _ _ _ ?_)
  refine c_if rfl (fun h31 => ?_) (fun h31 => ?_)
  ·have hlow : ∀ (a : Nat) (y : Str × JV), a < (i + j) / 2 + 1 → m[a]? = some y → bl y.1 k = true := fun a y hal hy => by
    rcases Nat.lt_succ_iff_lt_or_eq.1 hal with h | h
    ·exact bl_trans (ascM_lt ha hy hx_x h) (scmp_lt.1 h31)
    ·subst h; rw [hx_x] at hy; injection hy with hy; subst hy; exact scmp_lt.1 h31
   exact Cr (Zm rfl (Sv (o_addE (r := (((i + j) / 2 + 1 : Nat) : Int)) rfl rfl (by rw [wrap64_in _ (by omega)]; omega)) (Za rfl (Ln (eI (by simp) (eR (σ := Nat × Nat) (s := ⟨i, j⟩) (⟨(i + j) / 2 + 1, j⟩) ⟨rfl, rfl, rfl, rfl, rfl, rfl, trivial⟩ ⟨by omega, by omega, hlow, h2, Bg1, E⟩ (by dsimp only; omega)))))))
  ·have hhi : ∀ (a : Nat) (y : Str × JV), (i + j) / 2 ≤ a → m[a]? = some y → bl y.1 k = false := fun a y hal hy => by
    cases hpy : bl y.1 k with
    | false => rfl
    | true =>
     rcases Nat.lt_or_ge ((i + j) / 2) a with h | h
     ·exact absurd (scmp_lt.2 (bl_trans (ascM_lt ha hx_x hy h) hpy)) h31
     ·have : a = (i + j) / 2 := by omega
      subst this
      rw [hx_x] at hy; injection hy with hy; subst hy; exact absurd (scmp_lt.2 hpy) h31
   exact Cr (Zm rfl (Za rfl (Ln (eI (by simp) (eR (σ := Nat × Nat) (s := ⟨i, j⟩) (⟨i, (i + j) / 2⟩) ⟨rfl, rfl, rfl, rfl, rfl, rfl, trivial⟩ ⟨by omega, by omega, h1, hhi, Bg1, E⟩ (by dsimp only; omega))))))
 ·refine c_exit (eT (by simp) (eT (by simp) (e_hit (e_K (hK4 _ _ _ _ (Cq fun K9 hK9 => ?_))))))
  by_cases hs8_0 : (i : Int) < (m.length : Int)
  ·have hij2 : i = j := by omega
   subst hij2
   have hpos := posM_eq (by omega) h1 h2
   obtain ⟨x, hx_x⟩ : ∃ x, m[i]? = some x := ⟨_, List.getElem?_eq_getElem (by omega)⟩
   obtain ⟨a_x, us_x, ha_x, R_x, hcs0_x⟩ := JV.at_m R hx_x
   obtain ⟨al_x, cl_x, am_x, cm_x, rfl, Rl_x, Rm_x⟩ := JV.cells_ R_x
   have hcs_x := hcs0_x.mod0 E
   have hcap_x := JV.cap_m R
   obtain rfl := ha_x
   have hE2 : decide (scmp x.1 k = 0) = (look m k).isSome := (isM ha hpos hx_x).symm
   refine c_draw wide (by kernel_rfl) (tv (fun w_ E_ => (oM rfl)) rfl rfl (tv (fun w_ E_ => (oM rfl)) rfl rfl (tv (fun w_ E_ => (oM rfl)) rfl rfl (tv (fun w_ E_ => (o_lss rfl rfl)) rfl rfl (tv (fun w_ E_ => (oM rfl)) rfl rfl (tvg rfl (dT hs8_0) (fun w_ E_ => (oM rfl)) rfl rfl (tvg rfl (dT hs8_0) (fun w_ E_ => (oM rfl)) rfl rfl (tvg rfl (dT hs8_0) (fun w_ E_ => (oM rfl)) rfl rfl (tvg rfl (dT hs8_0) (fun w_ E_ => (o_ix sl23 rfl rfl (by omega))) rfl rfl (tvg rfl (dT hs8_0) (fun w_ E_ => (o_lda ag41 rfl rfl (hcs_x.mod0 E_))) rfl rfl (tvg rfl (dT hs8_0) (fun w_ E_ => (o_lda (vs := [_, _, _, _, _, _, _]) ag41 rfl rfl ((Bg1.mod0 E_).cs rfl))) rfl rfl (tcg rfl (dT hs8_0) (fun w_ E_ => o_callv ent93 rfl rfl) (fun w_ E_ => c_byKey _ x.1 k _ _) rfl rfl (tvg rfl (dT hs8_0) (fun w_ E_ => (oE rfl rfl)) rfl rfl ?_)))))))))))))
   refine tv (fun w_ E_ => (oT (dT hs8_0) rfl rfl)) rfl rfl (tv (fun w_ E_ => (o_as rfl)) rfl rfl (tv (fun w_ E_ => (o_as rfl)) rfl rfl (tw_nil rfl fun w4 E_ => ?_)))
   replace Bg1 := Bg1.mod0 E_
   replace E := E.then E_
   exact e_K (hK9 _ _ _ _ (cR (ret2 rfl rfl rfl ⟨by rw [hpos, ← hE2], E⟩)))
  ·have hij2 : i = j := by omega
   subst hij2
   have hpos := posM_eq (by omega) h1 h2
   have hE2 : false = (look m k).isSome := (isM_end ha (by omega)).symm
   refine c_draw wide (by kernel_rfl) (tv (fun w_ E_ => (oM rfl)) rfl rfl (tv (fun w_ E_ => (oM rfl)) rfl rfl (tv (fun w_ E_ => (oM rfl)) rfl rfl (tv (fun w_ E_ => (o_lss rfl rfl)) rfl rfl (tv (fun w_ E_ => (oM rfl)) rfl rfl (Tx rfl (dF hs8_0) (Tx rfl (dF hs8_0) (Tx rfl (dF hs8_0) (Tx rfl (dF hs8_0) (Tx rfl (dF hs8_0) (Tx rfl (dF hs8_0) (Tx rfl (dF hs8_0) (Tx rfl (dF hs8_0) ?_)))))))))))))
   refine tv (fun w_ E_ => (oF (dF hs8_0) rfl rfl)) rfl rfl (tv (fun w_ E_ => (o_as rfl)) rfl rfl (tv (fun w_ E_ => (o_as rfl)) rfl rfl (tw_nil rfl fun w5 E_ => ?_)))
   replace Bg1 := Bg1.mod0 E_
   replace E := E.then E_
   exact e_K (hK9 _ _ _ _ (cR (ret2 rfl rfl rfl ⟨by rw [hpos, ← hE2], E⟩)))

theorem c_jfind (w : World) (m : List (Str × JV)) (v : Value) (R : Rep [] w (.sl 7 (m.map JV.Dp)) v) (k : Str) (ha : ascM m) (hn : m.length ≤ 1353245080310) : Calls Tryz.prog 59 [v, S k].toArray w (Ret fun u w' => u = .tuple #[.int .i64 (posM m k), .bool (look m k).isSome] ∧ Mod [] w w') := by
 refine enter Tryz.func59 rfl rfl rfl (l := [(0, _), (1, _)]) ⟨rfl, rfl, trivial⟩ ?_
 have E := Mod.refl [] w
 refine Cq fun K1 hK1 => Cr (Za rfl (Za rfl (Ln (e_K (hK1 _ _ _ _ (Cq fun K2 hK2 => Cr (Zm rfl (Zm rfl (Sv (o_build (cs := [_, _, _, _, _, _, _]) pl41 zv41 rfl rfl) (sc (oC ent92 rfl) (c_bsM _ m _ (R.to0 E) k _ _ _ _ _ _ ha hn) rfl fun v_ w1 h_ => ?_))))))))))
 obtain ⟨rfl, E_⟩ := h_
 replace E := E.then E_
 exact Sv (o_ext rfl rfl) (Sv (o_ext rfl rfl) (Za rfl (Za rfl (Ln (e_K (hK2 _ _ _ _ (cR (ret2 rfl rfl rfl ⟨rfl, E⟩))))))))
end Go.Proofs.YtkhbnhdlelmbnaaGreatDoor.V

set_option linter.unusedVariables false
set_option linter.unusedSimpArgs false
set_option maxRecDepth 10000
namespace Go.Proofs.YtkhbnhdlelmbnaaGreatDoor.V
open Go Go.Proofs
theorem ent59 : Ent Tryz.prog 59 := Ent.of Tryz.func59 (by kernel_rfl) (by kernel_rfl)
theorem pl25 : plB Tryz.prog 25 [(0, 1), (1, 1), (2, 1), (3, 1), (4, 1), (5, 1)] = true := by kernel_rfl
theorem c_jget (A : List Nat) (w0 w : World) (E0 : Mod [] w0 w) (v : JV) (us : List Value) (R : Reps A w0 v.D us) (k : Str) (ha : ascM v.map) (hn : v.map.length ≤ 1353245080310) : Calls Tryz.prog 39 [.agg us.toArray, S k].toArray w (Ret fun u w' => ∃ us', u = .tuple #[.agg us'.toArray, .bool (v.get k).isSome] ∧ Reps A w0 ((v.get k).getD JV.nul).D us' ∧ Mod [] w w') := by
 refine enter Tryz.func39 rfl rfl rfl (l := [(0, _), (1, _)]) ⟨rfl, rfl, trivial⟩ ?_
 have E := Mod.refl [] w
 obtain ⟨al, cl, am, cm, rfl, Rl, Rm⟩ := JV.cells_ R
 refine Cq fun K1 hK1 => Cr (s_box rfl rfl rfl fun g1 w1 N1 => ?_)
 have Lg1_E := N1.le E
 replace E := E.then N1.mod
 have Bg1 := N1.blk
 refine s_alloc zv25 rfl fun g2 w2 N2 => ?_
 have Lg2_E := N2.le E
 have Dg1_g2 := N2.ne Bg1
 replace Bg1 := Bg1.mod0 N2.mod
 replace E := E.then N2.mod
 have Bg2 := N2.blk
 refine Za rfl (Ln (e_K (hK1 _ _ _ _ (Cq fun K2 hK2 => Cr (Sv (oA0 fd25_5 rfl) (Sv (oL sc23 rfl (Bg1.cell rfl)) (Zm rfl (sc (oC ent59 rfl) (c_jfind _ v.map _ ((Rm.anti (by simp)).to0 (E0.then E)) k ha hn) rfl fun v_ w3 h_ => ?_))))))))
 obtain ⟨rfl, E_⟩ := h_
 replace Bg1 := Bg1.mod0 E_
 replace Bg2 := Bg2.mod0 E_
 replace E := E.then E_
 refine Zm rfl (Sv (o_ext rfl rfl) (Sv (o_ext rfl rfl) (Za rfl (Za rfl (Ln (e_K (hK2 _ _ _ _ (Cq fun K3 hK3 => Cq fun K4 hK4 => ?_))))))))
 by_cases hs2_0 : v.kind ≠ 5
 ·refine Cr (Sv (oA0 fd25_0 rfl) (Sv (oL sc3 rfl (Bg1.cell rfl)) (Sv (o_neq rfl rfl) (Zm rfl (Sx rfl (dT hs2_0) (Sx rfl (dT hs2_0) (Sv (oT (dT hs2_0) rfl rfl) (Ln (e_K (hK4 _ _ _ _ (c_true rfl ?_)))))))))))
  have hno : v.get k = none := by simp [JV.get, hs2_0]
  refine Cq fun K5 hK5 => Cr (Sv (o_build (cs := [_, _, _, _, _, _]) pl25 zv25 rfl rfl) (s_sta (vs := [_, _, _, _, _, _]) ag25 Bg2 rfl rfl rfl (by simp [Value.oneCell']) (by simp) fun w4 P4 => ?_))
  replace Bg1 := Bg1.ne P4.mod (Ne.symm (Ne.symm Dg1_g2))
  replace E := E.own P4.mod Lg2_E
  replace Bg2 : Blk w4 g2 _ [_, _, _, _, _, _] := P4.blk
  exact Za rfl (Ln (e_K (hK5 _ _ _ _ (cR (eT (by simp) (retct (vs := [_, _, _, _, _, _]) rfl ag25 rfl rfl (Bg2.cs rfl) rfl ⟨_, by rw [hno]; rfl, by rw [hno]; exact JV.nul_reps, E⟩))))))
 ·refine Cr (Sv (oA0 fd25_0 rfl) (Sv (oL sc3 rfl (Bg1.cell rfl)) (Sv (o_neq rfl rfl) (Zm rfl (Sg rfl (dF hs2_0) (oM rfl) (Sg rfl (dF hs2_0) (o_not rfl) (Sv (oF (dF hs2_0) rfl rfl) (Ln (e_K (hK4 _ _ _ _ ?_))))))))))
  refine c_cond rfl (fun h21 => ?_) (fun h21 => ?_)
  ·have hno : v.get k = none := by
    have h : look v.map k = none := by simpa using h21
    simp [JV.get, h]
   refine Cq fun K6 hK6 => Cr (Sv (o_build (cs := [_, _, _, _, _, _]) pl25 zv25 rfl rfl) (s_sta (vs := [_, _, _, _, _, _]) ag25 Bg2 rfl rfl rfl (by simp [Value.oneCell']) (by simp) fun w5 P5 => ?_))
   replace Bg1 := Bg1.ne P5.mod (Ne.symm (Ne.symm Dg1_g2))
   replace E := E.own P5.mod Lg2_E
   replace Bg2 : Blk w5 g2 _ [_, _, _, _, _, _] := P5.blk
   exact Za rfl (Ln (e_K (hK6 _ _ _ _ (cR (eT (by simp) (retct (vs := [_, _, _, _, _, _]) rfl ag25 rfl rfl (Bg2.cs rfl) rfl ⟨_, by rw [hno]; rfl, by rw [hno]; exact JV.nul_reps, E⟩))))))
  ·have hk5 : v.kind = 5 := Classical.byContradiction hs2_0
   obtain ⟨x, hx_x, hxk, hxl⟩ := isM_some ha (by simpa using h21)
   have hget : v.get k = some x.2 := by simp [JV.get, hk5, hxl]
   have hpl := (List.getElem?_eq_some_iff.1 hx_x).1
   obtain ⟨a_x, us_x, ha_x, R_x, hcs0_x⟩ := JV.at_m Rm hx_x
   obtain ⟨al_x, cl_x, am_x, cm_x, rfl, Rl_x, Rm_x⟩ := JV.cells_ R_x
   have hcs_x := hcs0_x.mod0 (E0.then E)
   obtain rfl := ha_x
   refine cK (e_K (hK3 _ _ _ _ (Cq fun K7 hK7 => Cr (Sv (oA0 fd25_5 rfl) (Sv (oL sc23 rfl (Bg1.cell rfl)) (Zm rfl (Sv (o_ix sl23 rfl rfl (by omega)) (Sv (o_fad fd41_1 rfl) (Sv (o_lda ag25 rfl rfl hcs_x.tail_) (s_sta (vs := [_, _, _, _, _, _]) ag25 Bg2 rfl rfl rfl (by simp [Value.oneCell']) (by simp) fun w6 P6 => ?_))))))))))
   replace Bg1 := Bg1.ne P6.mod (Ne.symm (Ne.symm Dg1_g2))
   replace E := E.own P6.mod Lg2_E
   replace Bg2 : Blk w6 g2 _ [_, _, _, _, _, _] := P6.blk
   exact Za rfl (Ln (e_K (hK7 _ _ _ _ (cR (retct (vs := [_, _, _, _, _, _]) rfl ag25 rfl rfl (Bg2.cs rfl) rfl ⟨_, by rw [hget]; rfl, by rw [hget]; exact R_x, E⟩)))))

theorem c_jtable (A : List Nat) (w0 w : World) (v : JV) (us : List Value) (R : Reps A w0 v.D us) : Calls Tryz.prog 61 [.agg us.toArray].toArray w (Ret fun u w' => Rep A w0 (.sl 7 (v.tbl.map JV.Dp)) u ∧ Mod [] w w') := by
 refine enter Tryz.func61 rfl rfl rfl (l := [(0, _)]) ⟨rfl, trivial⟩ ?_
 have E := Mod.refl [] w
 obtain ⟨al, cl, am, cm, rfl, Rl, Rm⟩ := JV.cells_ R
 refine Cq fun K1 hK1 => Cr (s_box rfl rfl rfl fun g1 w1 N1 => ?_)
 have Lg1_E := N1.le E
 replace E := E.then N1.mod
 have Bg1 := N1.blk
 refine Za rfl (Ln (e_K (hK1 _ _ _ _ (Cq fun K2 hK2 => Cq fun K3 hK3 => Cr (Sv (oA0 fd25_0 rfl) (Sv (oL sc3 rfl (Bg1.cell rfl)) (Sv (o_neq rfl rfl) (Ln (e_K (hK3 _ _ _ _ ?_))))))))))
 refine c_if rfl (fun h5 => ?_) (fun h5 => ?_)
 ·have ht : v.tbl = [] := by simp [JV.tbl, h5]
  exact Cq fun K4 hK4 => Cr (Za rfl (Ln (e_K (hK4 _ _ _ _ (cR (eT (by simp) (ret1 rfl rfl ⟨by rw [ht]; exact Rep.sl_nil, E⟩)))))))
 ·have ht : v.tbl = v.map := by simp [JV.tbl]; intro h; exact absurd h h5
  exact cK (e_K (hK2 _ _ _ _ (Cq fun K5 hK5 => Cr (Sv (oA0 fd25_5 rfl) (Sv (oL sc23 rfl (Bg1.cell rfl)) (Za rfl (Ln (e_K (hK5 _ _ _ _ (cR (ret1 rfl rfl ⟨by rw [ht]; exact Rm, E⟩)))))))))))

theorem c_jfindR (A : List Nat) (w0 w : World) (E0 : Mod [] w0 w) (m : List (Str × JV)) (v : Value) (R : Rep A w0 (.sl 7 (m.map JV.Dp)) v) (k : Str) : Calls Tryz.prog 42 [v, S k].toArray w (Ret fun u w' => ∃ us', u = .tuple #[.agg us'.toArray, .bool (look m k).isSome] ∧ Reps A w0 ((look m k).getD JV.nul).D us' ∧ Mod [] w w') := by
 refine enter Tryz.func42 rfl rfl rfl (l := [(0, _), (1, _)]) ⟨rfl, rfl, trivial⟩ ?_
 have E := Mod.refl [] w
 obtain ⟨ad, c, rfl, hc1, hc2⟩ : ∃ ad c, v = .slice ad m.length c ∧ m.length ≤ c ∧ c ≤ 9223372036854775807 := by
  obtain ⟨ad, c, h1, h2, h3⟩ := R.sl_
  rw [List.length_map] at h1 h2
  exact ⟨ad, c, h1, h2, h3⟩
 refine Cq fun K1 hK1 => Cr (s_alloc zv25 rfl fun g1 w1 N1 => ?_)
 have Lg1_E := N1.le E
 replace E := E.then N1.mod
 have Bg1 := N1.blk
 refine Za rfl (Ln (e_K (hK1 _ _ _ _ (Cq fun K2 hK2 => Cq fun K3 hK3 => Cr (Zm rfl (Sv (o_len Tryz.underlying23 rfl) (Zm rfl (Ln (e_K (hK3 _ _ _ _ (cB (c_loop (σ := Nat) (fun i => [(1, S k), (4, .pointer (some ⟨g1, 0, none⟩)), (5, .bool false), (8, .slice ad m.length c), (9, .int .i64 m.length), (10, .int .i64 (i : Int))]) (fun i w1 => i ≤ m.length ∧ (∀ (j : Nat) (y : Str × JV), j < i → m[j]? = some y → y.1 ≠ k) ∧ Blk w1 g1 25 [.int .i64 0, .bool false, .int .i64 0, S [], .slice none 0 0, .slice none 0 0] ∧ w.heap.size ≤ g1 ∧ Mod [] w w1) (fun i => m.length - i) (0) ⟨rfl, rfl, rfl, rfl, rfl, rfl, trivial⟩ (⟨by omega, fun j y h => by omega, Bg1, Lg1_E, E⟩) ?_))))))))))))
 rintro i w2 ⟨hi, hA, Bg1, Lg1_E, E⟩
 refine Cq fun K4 hK4 => Cr (Sv (o_lss rfl rfl) (Ln (e_K (hK4 _ _ _ _ (Cq fun K5 hK5 => ?_)))))
 refine c_if rfl (fun h11 => ?_) (fun h11 => ?_)
 ·obtain ⟨x, hx_x⟩ : ∃ x, m[i]? = some x := ⟨_, List.getElem?_eq_getElem (by omega)⟩
  obtain ⟨a_x, us_x, ha_x, R_x, hcs0_x⟩ := JV.at_m R hx_x
  obtain ⟨al_x, cl_x, am_x, cm_x, rfl, Rl_x, Rm_x⟩ := JV.cells_ R_x
  have hcs_x := hcs0_x.mod0 (E0.then E)
  have hcap_x := JV.cap_m R
  obtain rfl := ha_x
  refine cK (e_K (hK5 _ _ _ _ (Cq fun K6 hK6 => cB (Cq fun K7 hK7 => Cr (Sv (o_ix sl23 rfl rfl (by omega)) (Sv (o_lda ag41 rfl rfl hcs_x) (s_alloc zv41 rfl fun g2 w3 N2 => ?_)))))))
  have Lg2_E := N2.le E
  have Dg1_g2 := N2.ne Bg1
  replace Bg1 := Bg1.mod0 N2.mod
  replace E := E.then N2.mod
  have Bg2 := N2.blk
  refine s_sta (vs := [_, _, _, _, _, _, _]) ag41 Bg2 rfl rfl rfl (by simp [Value.oneCell']) (by simp) fun w4 P4 => ?_
  replace Bg1 := Bg1.ne P4.mod (Ne.symm (Ne.symm Dg1_g2))
  replace E := E.own P4.mod Lg2_E
  replace Bg2 : Blk w4 g2 _ [_, _, _, _, _, _, _] := P4.blk
  refine Ln (e_K (hK7 _ _ _ _ (Cq fun K8 hK8 => Cr (Sv (oA0 fd41_0 rfl) (Sv (oL sc9 rfl (Bg2.cell rfl)) (Zm rfl (Sv (o_seq rfl rfl) (Ln (e_K (hK8 _ _ _ _ ?_))))))))))
  refine c_if rfl (fun h17 => ?_) (fun h17 => ?_)
  ·have hlk : look m k = some x.2 := look_hit hA hx_x h17
   refine Cq fun K9 hK9 => Cr (Sv (oA0 fd41_1 rfl) (Sv (o_lda (vs := [_, _, _, _, _, _]) ag25 rfl rfl (Bg2.cs rfl)) (s_sta (vs := [_, _, _, _, _, _]) ag25 Bg1 rfl rfl rfl (by simp [Value.oneCell']) (by simp) fun w5 P5 => ?_)))
   replace Bg2 := Bg2.ne P5.mod (Ne.symm Dg1_g2)
   replace E := E.own P5.mod Lg1_E
   replace Bg1 : Blk w5 g1 _ [_, _, _, _, _, _] := P5.blk
   exact Za rfl (Ln (e_K (hK9 _ _ _ _ (cR (eI (by simp) (eT (by simp) (eT (by simp) (eI (by simp) (eT (by simp) (retct (vs := [_, _, _, _, _, _]) rfl ag25 rfl rfl (Bg1.cs rfl) rfl ⟨_, by rw [hlk]; rfl, by rw [hlk]; exact R_x, E⟩))))))))))
  ·have hA2 : ∀ (j : Nat) (y : Str × JV), j < i + 1 → m[j]? = some y → y.1 ≠ k := fun j y hj hy => by
    rcases Nat.lt_succ_iff_lt_or_eq.1 hj with h | h
    ·exact hA j y h hy
    ·subst h; rw [hx_x] at hy; injection hy with hy; subst hy; exact h17
   exact cK (eI (by simp) (e_K (hK6 _ _ _ _ (Cr (Sv (o_addN rfl rfl (by omega)) (Zm rfl (Ln (eR (σ := Nat) (s := i) (i + 1) ⟨rfl, rfl, rfl, rfl, rfl, rfl, trivial⟩ ⟨by omega, hA2, Bg1, Lg1_E, E⟩ (by omega)))))))))
 ·refine c_exit (eT (by simp) (eT (by simp) (e_hit (e_K (hK2 _ _ _ _ (Cq fun K10 hK10 => Cr (Sv (o_build (cs := [_, _, _, _, _, _]) pl25 zv25 rfl rfl) (s_sta (vs := [_, _, _, _, _, _]) ag25 Bg1 rfl rfl rfl (by simp [Value.oneCell']) (by simp) fun w6 P6 => ?_))))))))
  replace E := E.own P6.mod Lg1_E
  replace Bg1 : Blk w6 g1 _ [_, _, _, _, _, _] := P6.blk
  exact Za rfl (Ln (e_K (hK10 _ _ _ _ (cR (retct (vs := [_, _, _, _, _, _]) rfl ag25 rfl rfl (Bg1.cs rfl) rfl ⟨_, by rw [look_none_of fun j y hy => hA j y (by have := (List.getElem?_eq_some_iff.1 hy).1; omega) hy]; rfl, by rw [look_none_of fun j y hy => hA j y (by have := (List.getElem?_eq_some_iff.1 hy).1; omega) hy]; exact JV.nul_reps, E⟩)))))
end Go.Proofs.YtkhbnhdlelmbnaaGreatDoor.V

set_option linter.unusedVariables false
set_option linter.unusedSimpArgs false
set_option maxRecDepth 10000
namespace Go.Proofs.YtkhbnhdlelmbnaaGreatDoor.V
open Go Go.Proofs

theorem c_rune (w : World) (s : Str) : Calls Tryz.prog 128 [S s].toArray w (Ret fun u w' => u = .tuple #[.int .i64 ((runeR s).1 : Int), .int .i64 ((runeR s).2 : Int)] ∧ Mod [] w w') := by
 refine enter Tryz.func128 rfl rfl rfl (l := [(0, _)]) ⟨rfl, trivial⟩ ?_
 have E := Mod.refl [] w
 refine Cq fun K1 hK1 => Cr (Za rfl (Za rfl (Ln (e_K (hK1 _ _ _ _ (Cq fun K2 hK2 => Cq fun K3 hK3 => Cr (Zm rfl (Sv (o_seq rfl rfl) (Ln (e_K (hK3 _ _ _ _ ?_)))))))))))
 refine c_if rfl (fun h9 => ?_) (fun h9 => ?_)
 ·have hs0 : s = [] := h9
  subst hs0
  have hR : runeR [] = (0, 0) := rfl
  exact Cq fun K4 hK4 => Cr (Za rfl (Za rfl (Ln (e_K (hK4 _ _ _ _ (cR (eT (by simp) (ret2 rfl rfl rfl ⟨by rw [hR]; try rfl, E⟩))))))))
 ·obtain ⟨b0, r, rfl⟩ : ∃ b0 r, s = b0 :: r := by
   cases s with
   | nil => exact absurd rfl h9
   | cons b0 r => exact ⟨b0, r, rfl⟩
  have hb0 := b0.toNat_lt
  have hlen : (b0 :: r).length = r.length + 1 := rfl
  refine cK (e_K (hK2 _ _ _ _ (Cq fun K5 hK5 => Cr (Zm rfl (s_sidx (m := 0) Tryz.underlying9 rfl rfl (by omega) (by simp) rfl fun b0_ hb0_ => ?_)))))
  obtain rfl : b0 = b0_ := by simpa using hb0_
  refine Sv (o_convE (r := (b0.toNat : Int)) Tryz.underlying5 Tryz.underlying3 rfl (wrap64_in _ (by omega))) (Za rfl (Ln (e_K (hK5 _ _ _ _ (Cq fun K6 hK6 => Cq fun K7 hK7 => Cr (Zm rfl (Sv (o_lss rfl rfl) (Ln (e_K (hK7 _ _ _ _ ?_))))))))))
  refine c_if rfl (fun h14 => ?_) (fun h14 => ?_)
  ·have hR := runeR_small (b0 := b0) (r := r) (by omega)
   exact Cq fun K8 hK8 => Cr (Zm rfl (Za rfl (Za rfl (Ln (e_K (hK8 _ _ _ _ (cR (eT (by simp) (ret2 rfl rfl rfl ⟨by rw [hR]; try rfl, E⟩)))))))))
  ·have hge : ¬ b0.toNat < 128 := by omega
   refine cK (e_K (hK6 _ _ _ _ (Cq fun K9 hK9 => Cr (Za rfl (Ln (e_K (hK9 _ _ _ _ (Cq fun K10 hK10 => Cr (Za rfl (Ln (e_K (hK10 _ _ _ _ (Cq fun K11 hK11 => ?_)))))))))))))
   have J11 : ∀ (n l c : Nat) (w1 : World), runeH b0.toNat = (n, l, c) ∧ (n = 0 ∨ c < 32 ∧ 2 ≤ n ∧ n ≤ 4) ∧ Mod [] w w1 → ∀ a, Has 91 [] [(0, S (b0 :: r)), (4, .int .i64 (c : Int)), (5, .int .i64 (n : Int)), (6, .int .i64 (l : Int))] a → K11 a w1 := by
    intro n l c w1 hI
    obtain ⟨hH, hn, E⟩ := hI
    refine hK11 _ _ _ _ (Cq fun K12 hK12 => Cq fun K13 hK13 => ?_)
    by_cases hs20_0 : (n : Int) = 0
    ·refine Cr (Zm rfl (Sv (oE rfl rfl) (Zm rfl (Sx rfl (dT hs20_0) (Sx rfl (dT hs20_0) (Sx rfl (dT hs20_0) (Sx rfl (dT hs20_0) (Sv (oT (dT hs20_0) rfl rfl) (Ln (e_K (hK13 _ _ _ _ (c_true rfl ?_))))))))))))
     have hR := runeR_short (r := r) hge hH (.inl (by omega))
     exact Cq fun K14 hK14 => Cr (Za rfl (Za rfl (Ln (e_K (hK14 _ _ _ _ (cR (eT (by simp) (ret2 rfl rfl rfl ⟨by rw [hR]; try rfl, E⟩))))))))
    ·by_cases hs20_1 : ((b0 :: r).length : Int) < n
     ·refine Cr (Zm rfl (Sv (oE rfl rfl) (Zm rfl (Sg rfl (dF hs20_0) (oM rfl) (Sg rfl (dF hs20_0) (o_slen Tryz.underlying9 rfl) (Sg rfl (dF hs20_0) (oM rfl) (Sg rfl (dF hs20_0) (o_lss rfl rfl) (Sv (oF (dF hs20_0) rfl rfl) (Ln (e_K (hK13 _ _ _ _ ?_)))))))))))
      refine c_if rfl (fun h50 => ?_) (fun h50 => absurd hs20_1 h50)
      have hR := runeR_short (r := r) hge hH (.inr (by omega))
      exact Cq fun K15 hK15 => Cr (Za rfl (Za rfl (Ln (e_K (hK15 _ _ _ _ (cR (eT (by simp) (ret2 rfl rfl rfl ⟨by rw [hR]; try rfl, E⟩))))))))
     ·refine Cr (Zm rfl (Sv (oE rfl rfl) (Zm rfl (Sg rfl (dF hs20_0) (oM rfl) (Sg rfl (dF hs20_0) (o_slen Tryz.underlying9 rfl) (Sg rfl (dF hs20_0) (oM rfl) (Sg rfl (dF hs20_0) (o_lss rfl rfl) (Sv (oF (dF hs20_0) rfl rfl) (Ln (e_K (hK13 _ _ _ _ (c_if rfl (fun h50 => absurd h50 hs20_1) (fun h50 => ?_)))))))))))))
      have hln : ¬ (n = 0 ∨ (b0 :: r).length < n) := by omega
      refine cK (e_K (hK12 _ _ _ _ (Cq fun K16 hK16 => Cq fun K17 hK17 => Cr (Za rfl (Ln (e_K (hK17 _ _ _ _ (cB (c_loop (σ := Nat × Nat) (fun ⟨i, d⟩ => [(0, S (b0 :: r)), (4, .int .i64 (d : Int)), (5, .int .i64 (n : Int)), (6, .int .i64 (l : Int)), (7, .int .i64 (i : Int))]) (fun ⟨i, d⟩ w1 => 1 ≤ i ∧ i ≤ n ∧ runeC ((r.take (n - 1)).drop (i - 1)) d = runeC (r.take (n - 1)) c ∧ ((i = 1 ∧ d < 64) ∨ (i = 2 ∧ d < 4096) ∨ (i = 3 ∧ d < 262144) ∨ (i = 4 ∧ d < 16777216)) ∧ Mod [] w w1) (fun ⟨i, d⟩ => n - i) (⟨1, c⟩) ⟨rfl, rfl, rfl, rfl, rfl, trivial⟩ (⟨by omega, by omega, rfl, by omega, E⟩) ?_)))))))))
      rintro ⟨i, d⟩ w2 ⟨hi1, hi, hC, hd, E⟩
      refine Cq fun K18 hK18 => Cq fun K19 hK19 => Cr (Zm rfl (Zm rfl (Sv (o_lss rfl rfl) (Ln (e_K (hK19 _ _ _ _ ?_))))))
      refine c_if rfl (fun h53 => ?_) (fun h53 => ?_)
      ·obtain ⟨b1, hb1⟩ : ∃ b1, (b0 :: r)[i]? = some b1 := ⟨_, List.getElem?_eq_getElem (by omega)⟩
       have hb1r : (r.take (n - 1))[i - 1]? = some b1 := by
        rw [List.getElem?_take, if_pos (by omega)]
        rw [← hb1]
        obtain ⟨j, rfl⟩ : ∃ j, i = j + 1 := ⟨i - 1, by omega⟩
        simp
       have hb1l := b1.toNat_lt
       refine cK (e_K (hK18 _ _ _ _ (Cq fun K20 hK20 => cB (Cq fun K21 hK21 => Cq fun K22 hK22 => ?_))))
       by_cases hs25_0 : (b1.toNat : Int) < 128
       ·refine Cr (Zm rfl (Zm rfl (s_sidx (m := i) Tryz.underlying9 rfl rfl (by omega) (by simp; omega) rfl fun b1_ hb1_ => ?_)))
        obtain rfl : b1 = b1_ := by rw [Int.toNat_natCast, hb1] at hb1_; injection hb1_
        refine Sv (o_lss rfl rfl) (Zm rfl (Sx rfl (dT hs25_0) (Sx rfl (dT hs25_0) (Sx rfl (dT hs25_0) (Sx rfl (dT hs25_0) (Sv (oT (dT hs25_0) rfl rfl) (Ln (e_K (hK22 _ _ _ _ (c_true rfl ?_))))))))))
        have hR := runeR_none hge hH hln (by rw [← hC]; exact runeC_no hb1r (.inl (by omega)))
        exact Cq fun K23 hK23 => Cr (Za rfl (Za rfl (Ln (e_K (hK23 _ _ _ _ (cR (eT (by simp) (eI (by simp) (eT (by simp) (eT (by simp) (eI (by simp) (eT (by simp) (ret2 rfl rfl rfl ⟨by rw [hR]; try rfl, E⟩)))))))))))))
       ·by_cases hs25_1 : (b1.toNat : Int) ≥ 192
        ·refine Cr (Zm rfl (Zm rfl (s_sidx (m := i) Tryz.underlying9 rfl rfl (by omega) (by simp; omega) rfl fun b1_ hb1_ => ?_)))
         obtain rfl : b1 = b1_ := by rw [Int.toNat_natCast, hb1] at hb1_; injection hb1_
         refine Sv (o_lss rfl rfl) (Zm rfl (Sg rfl (dF hs25_0) (oM rfl) (Sg rfl (dF hs25_0) (oM rfl) (Sg rfl (dF hs25_0) (o_sidx Tryz.underlying9 rfl rfl (by omega) (by rw [Int.toNat_natCast]; exact hb1)) (Sg rfl (dF hs25_0) (o_geq rfl rfl) (Sv (oF (dF hs25_0) rfl rfl) (Ln (e_K (hK22 _ _ _ _ ?_)))))))))
         refine c_if rfl (fun h65 => ?_) (fun h65 => absurd hs25_1 h65)
         have hR := runeR_none hge hH hln (by rw [← hC]; exact runeC_no hb1r (.inr (by omega)))
         exact Cq fun K24 hK24 => Cr (Za rfl (Za rfl (Ln (e_K (hK24 _ _ _ _ (cR (eT (by simp) (eI (by simp) (eT (by simp) (eT (by simp) (eI (by simp) (eT (by simp) (ret2 rfl rfl rfl ⟨by rw [hR]; try rfl, E⟩)))))))))))))
        ·refine Cr (Zm rfl (Zm rfl (s_sidx (m := i) Tryz.underlying9 rfl rfl (by omega) (by simp; omega) rfl fun b1_ hb1_ => ?_)))
         obtain rfl : b1 = b1_ := by rw [Int.toNat_natCast, hb1] at hb1_; injection hb1_
         refine Sv (o_lss rfl rfl) (Zm rfl (Sg rfl (dF hs25_0) (oM rfl) (Sg rfl (dF hs25_0) (oM rfl) (Sg rfl (dF hs25_0) (o_sidx Tryz.underlying9 rfl rfl (by omega) (by rw [Int.toNat_natCast]; exact hb1)) (Sg rfl (dF hs25_0) (o_geq rfl rfl) (Sv (oF (dF hs25_0) rfl rfl) (Ln (e_K (hK22 _ _ _ _ (c_if rfl (fun h65 => absurd h65 hs25_1) (fun h65 => ?_)))))))))))
         have hst := runeC_go (d := d) hb1r (by omega)
         rw [show i - 1 + 1 = i by omega] at hst
         refine cK (e_K (hK21 _ _ _ _ (Cr (Zm rfl (Sv (o_mulE (r := ((d * 64 : Nat) : Int)) rfl rfl (by rw [wrap64_in _ (by omega)]; omega)) (Zm rfl (Zm rfl (Sv (o_sidx Tryz.underlying9 rfl rfl (by omega) (by rw [Int.toNat_natCast]; exact hb1)) (Sv (o_convE (r := (b1.toNat : Int)) Tryz.underlying5 Tryz.underlying3 rfl (wrap64_in _ (by omega))) (Sv ((o_remN rfl rfl (by omega)).to (v' := .int .i64 ((b1.toNat % 64 : Nat) : Int)) (by rw [Int.natCast_emod]; try rfl)) (Sv (o_addE (r := ((d * 64 + b1.toNat % 64 : Nat) : Int)) rfl rfl (by rw [wrap64_in _ (by omega)]; omega)) (Za rfl (Ln (eI (by simp) ?_))))))))))))))
         exact e_K (hK20 _ _ _ _ (Cr (Zm rfl (Sv (o_addN rfl rfl (by omega)) (Za rfl (Ln (eR (σ := Nat × Nat) (s := ⟨i, d⟩) (⟨i + 1, d * 64 + b1.toNat % 64⟩) ⟨rfl, rfl, rfl, rfl, rfl, trivial⟩ ⟨by omega, by omega, by rw [show i + 1 - 1 = i by omega, ← hst]; exact hC, by omega, E⟩ (by dsimp only; omega))))))))
      ·have hend : runeC (r.take (n - 1)) c = some d := by rw [← hC, List.drop_eq_nil_of_le (by rw [List.length_take]; omega)]; rfl
       refine c_exit (eT (by simp) (eT (by simp) (e_hit (e_K (hK16 _ _ _ _ (Cq fun K25 hK25 => Cq fun K26 hK26 => ?_))))))
       by_cases hs28_0 : (d : Int) < l
       ·refine Cr (Zm rfl (Zm rfl (Sv (o_lss rfl rfl) (Zm rfl (Sx rfl (dT hs28_0) (Sx rfl (dT hs28_0) (Sv (oT (dT hs28_0) rfl rfl) (Zm rfl (Sx rfl rfl (Sx rfl rfl (Sx rfl rfl (snu rfl rfl rfl (snu rfl rfl rfl ?_)))))))))))))
        refine Sx rfl rfl (Sv (oT rfl rfl rfl) (Ln (e_K (hK26 _ _ _ _ (c_true rfl ?_)))))
        have hR := runeR_bad hge hH hln hend (by omega)
        exact Cq fun K27 hK27 => Cr (Za rfl (Za rfl (Ln (e_K (hK27 _ _ _ _ (cR (eT (by simp) (ret2 rfl rfl rfl ⟨by rw [hR]; try rfl, E⟩))))))))
       ·by_cases hs28_1 : (d : Int) > 1114111
        ·refine Cr (Zm rfl (Zm rfl (Sv (o_lss rfl rfl) (Zm rfl (Sg rfl (dF hs28_0) (oM rfl) (Sg rfl (dF hs28_0) (o_gtr rfl rfl) (Sv (oF (dF hs28_0) rfl rfl) (Zm rfl (Sx rfl (dT hs28_1) (Sx rfl (dT hs28_1) (Sx rfl (dT hs28_1) (snu rfl rfl rfl (snu rfl rfl rfl ?_)))))))))))))
         refine Sx rfl (dT hs28_1) (Sv (oT (dT hs28_1) rfl rfl) (Ln (e_K (hK26 _ _ _ _ (c_true rfl ?_)))))
         have hR := runeR_bad hge hH hln hend (by omega)
         exact Cq fun K28 hK28 => Cr (Za rfl (Za rfl (Ln (e_K (hK28 _ _ _ _ (cR (eT (by simp) (ret2 rfl rfl rfl ⟨by rw [hR]; try rfl, E⟩))))))))
        ·by_cases hs28_2 : (d : Int) ≥ 55296
         ·refine Cr (Zm rfl (Zm rfl (Sv (o_lss rfl rfl) (Zm rfl (Sg rfl (dF hs28_0) (oM rfl) (Sg rfl (dF hs28_0) (o_gtr rfl rfl) (Sv (oF (dF hs28_0) rfl rfl) (Zm rfl (Sg rfl (dF hs28_1) (oM rfl) (Sg rfl (dF hs28_1) (o_geq rfl rfl) (Sg rfl (dF hs28_1) (oM rfl) (Sg rfl (dT hs28_2) (oM rfl) (Sg rfl (dT hs28_2) (o_leq rfl rfl) ?_)))))))))))))
          refine Sg rfl (dF hs28_1) (oT (dT hs28_2) rfl rfl) (Sv (oF (dF hs28_1) rfl rfl) (Ln (e_K (hK26 _ _ _ _ ?_))))
          refine c_if rfl (fun h88 => ?_) (fun h88 => ?_)
          ·have hR := runeR_bad hge hH hln hend (by omega)
           exact Cq fun K29 hK29 => Cr (Za rfl (Za rfl (Ln (e_K (hK29 _ _ _ _ (cR (eT (by simp) (ret2 rfl rfl rfl ⟨by rw [hR]; try rfl, E⟩))))))))
          ·have hR := runeR_good hge hH hln hend (by omega)
           exact cK (e_K (hK25 _ _ _ _ (Cq fun K30 hK30 => Cr (Zm rfl (Zm rfl (Za rfl (Za rfl (Ln (e_K (hK30 _ _ _ _ (cR (ret2 rfl rfl rfl ⟨by rw [hR]; try rfl, E⟩))))))))))))
         ·refine Cr (Zm rfl (Zm rfl (Sv (o_lss rfl rfl) (Zm rfl (Sg rfl (dF hs28_0) (oM rfl) (Sg rfl (dF hs28_0) (o_gtr rfl rfl) (Sv (oF (dF hs28_0) rfl rfl) (Zm rfl (Sg rfl (dF hs28_1) (oM rfl) (Sg rfl (dF hs28_1) (o_geq rfl rfl) (Sg rfl (dF hs28_1) (oM rfl) (Sx rfl (dF hs28_2) (Sx rfl (dF hs28_2) ?_)))))))))))))
          refine Sg rfl (dF hs28_1) (oF (dF hs28_2) rfl rfl) (Sv (oF (dF hs28_1) rfl rfl) (Ln (e_K (hK26 _ _ _ _ (c_false rfl ?_)))))
          have hR := runeR_good hge hH hln hend (by omega)
          exact cK (e_K (hK25 _ _ _ _ (Cq fun K31 hK31 => Cr (Zm rfl (Zm rfl (Za rfl (Za rfl (Ln (e_K (hK31 _ _ _ _ (cR (ret2 rfl rfl rfl ⟨by rw [hR]; try rfl, E⟩))))))))))))
   refine cB (Cq fun K32 hK32 => ?_)
   by_cases hs8_0 : (b0.toNat : Int) ≥ 192
   ·by_cases hs8_1 : (b0.toNat : Int) < 224
    ·refine Cr (Zm rfl (Sv (o_geq rfl rfl) (Zm rfl (Sg rfl (dT hs8_0) (oM rfl) (Sg rfl (dT hs8_0) (o_lss rfl rfl) (Sv (oT (dT hs8_0) rfl rfl) (Za rfl (Ln (e_K (hK32 _ _ _ _ ?_))))))))))
     refine c_if rfl (fun h16 => ?_) (fun h16 => absurd hs8_1 h16)
     refine Cq fun K33 hK33 => Cr (Za rfl (Ln (e_K (hK33 _ _ _ _ (Cq fun K34 hK34 => Cr (Za rfl (Ln (e_K (hK34 _ _ _ _ (Cr (Zm rfl (Sv ((o_remN rfl rfl (by omega)).to (v' := .int .i64 ((b0.toNat % 32 : Nat) : Int)) (by rw [Int.natCast_emod]; try rfl)) (Za rfl ?_)))))))))))))
     refine Ln (eI (by simp) ?_)
     refine WE.sub (l' := [(0, _), (4, _), (5, _), (6, _)]) ⟨rfl, rfl, rfl, rfl, trivial⟩ (e_K (J11 2 128 (b0.toNat % 32) w ⟨by unfold runeH; rw [if_pos (by omega)], by omega, E⟩))
    ·refine Cr (Zm rfl (Sv (o_geq rfl rfl) (Zm rfl (Sg rfl (dT hs8_0) (oM rfl) (Sg rfl (dT hs8_0) (o_lss rfl rfl) (Sv (oT (dT hs8_0) rfl rfl) (Za rfl (Ln (e_K (hK32 _ _ _ _ (c_if rfl (fun h16 => absurd h16 hs8_1) (fun h16 => Cq fun K35 hK35 => ?_))))))))))))
     by_cases hs12_0 : (b0.toNat : Int) ≥ 224
     ·by_cases hs12_1 : (b0.toNat : Int) < 240
      ·refine Cr (Zm rfl (Sv (o_geq rfl rfl) (Zm rfl (Sg rfl (dT hs12_0) (oM rfl) (Sg rfl (dT hs12_0) (o_lss rfl rfl) (Sv (oT (dT hs12_0) rfl rfl) (Za rfl (Ln (e_K (hK35 _ _ _ _ ?_))))))))))
       refine c_if rfl (fun h25 => ?_) (fun h25 => absurd hs12_1 h25)
       refine Cq fun K36 hK36 => Cr (Za rfl (Ln (e_K (hK36 _ _ _ _ (Cq fun K37 hK37 => Cr (Za rfl (Ln (e_K (hK37 _ _ _ _ (Cr (Zm rfl (Sv ((o_remN rfl rfl (by omega)).to (v' := .int .i64 ((b0.toNat % 16 : Nat) : Int)) (by rw [Int.natCast_emod]; try rfl)) (Za rfl ?_)))))))))))))
       refine Ln (eI (by simp) ?_)
       refine WE.sub (l' := [(0, _), (4, _), (5, _), (6, _)]) ⟨rfl, rfl, rfl, rfl, trivial⟩ (e_K (J11 3 2048 (b0.toNat % 16) w ⟨by unfold runeH; rw [if_neg (by omega), if_pos (by omega)], by omega, E⟩))
      ·refine Cr (Zm rfl (Sv (o_geq rfl rfl) (Zm rfl (Sg rfl (dT hs12_0) (oM rfl) (Sg rfl (dT hs12_0) (o_lss rfl rfl) (Sv (oT (dT hs12_0) rfl rfl) (Za rfl (Ln (e_K (hK35 _ _ _ _ (c_if rfl (fun h25 => absurd h25 hs12_1) (fun h25 => Cq fun K38 hK38 => ?_))))))))))))
       by_cases hs16_0 : (b0.toNat : Int) ≥ 240
       ·by_cases hs16_1 : (b0.toNat : Int) < 248
        ·refine Cr (Zm rfl (Sv (o_geq rfl rfl) (Zm rfl (Sg rfl (dT hs16_0) (oM rfl) (Sg rfl (dT hs16_0) (o_lss rfl rfl) (Sv (oT (dT hs16_0) rfl rfl) (Za rfl (Ln (e_K (hK38 _ _ _ _ ?_))))))))))
         refine c_if rfl (fun h34 => ?_) (fun h34 => absurd hs16_1 h34)
         refine Cq fun K39 hK39 => Cr (Za rfl (Ln (e_K (hK39 _ _ _ _ (Cq fun K40 hK40 => Cr (Za rfl (Ln (e_K (hK40 _ _ _ _ (Cr (Zm rfl (Sv ((o_remN rfl rfl (by omega)).to (v' := .int .i64 ((b0.toNat % 8 : Nat) : Int)) (by rw [Int.natCast_emod]; try rfl)) (Za rfl ?_)))))))))))))
         refine Ln (eI (by simp) ?_)
         refine WE.sub (l' := [(0, _), (4, _), (5, _), (6, _)]) ⟨rfl, rfl, rfl, rfl, trivial⟩ (e_K (J11 4 65536 (b0.toNat % 8) w ⟨by unfold runeH; rw [if_neg (by omega), if_neg (by omega), if_pos (by omega)], by omega, E⟩))
        ·refine Cr (Zm rfl (Sv (o_geq rfl rfl) (Zm rfl (Sg rfl (dT hs16_0) (oM rfl) (Sg rfl (dT hs16_0) (o_lss rfl rfl) (Sv (oT (dT hs16_0) rfl rfl) (Za rfl (Ln (e_K (hK38 _ _ _ _ (c_if rfl (fun h34 => absurd h34 hs16_1) (fun h34 => cK (eI (by simp) ?_)))))))))))))
         refine WE.sub (l' := [(0, _), (4, _), (5, _), (6, _)]) ⟨rfl, rfl, rfl, rfl, trivial⟩ (e_K (J11 0 0 b0.toNat w ⟨by unfold runeH; rw [if_neg (by omega), if_neg (by omega), if_neg (by omega)], by omega, E⟩))
       ·refine Cr (Zm rfl (Sv (o_geq rfl rfl) (Zm rfl (Sx rfl (dF hs16_0) (Sx rfl (dF hs16_0) (Sv (oF (dF hs16_0) rfl rfl) (Za rfl (Ln (e_K (hK38 _ _ _ _ (c_false rfl (cK (eI (by simp) ?_)))))))))))))
        refine WE.sub (l' := [(0, _), (4, _), (5, _), (6, _)]) ⟨rfl, rfl, rfl, rfl, trivial⟩ (e_K (J11 0 0 b0.toNat w ⟨by unfold runeH; rw [if_neg (by omega), if_neg (by omega), if_neg (by omega)], by omega, E⟩))
     ·refine Cr (Zm rfl (Sv (o_geq rfl rfl) (Zm rfl (Sx rfl (dF hs12_0) (Sx rfl (dF hs12_0) (Sv (oF (dF hs12_0) rfl rfl) (Za rfl (Ln (e_K (hK35 _ _ _ _ (c_false rfl (Cq fun K41 hK41 => ?_))))))))))))
      by_cases hs16_0 : (b0.toNat : Int) ≥ 240
      ·by_cases hs16_1 : (b0.toNat : Int) < 248
       ·refine Cr (Zm rfl (Sv (o_geq rfl rfl) (Zm rfl (Sg rfl (dT hs16_0) (oM rfl) (Sg rfl (dT hs16_0) (o_lss rfl rfl) (Sv (oT (dT hs16_0) rfl rfl) (Za rfl (Ln (e_K (hK41 _ _ _ _ ?_))))))))))
        refine c_if rfl (fun h34 => ?_) (fun h34 => absurd hs16_1 h34)
        refine Cq fun K42 hK42 => Cr (Za rfl (Ln (e_K (hK42 _ _ _ _ (Cq fun K43 hK43 => Cr (Za rfl (Ln (e_K (hK43 _ _ _ _ (Cr (Zm rfl (Sv ((o_remN rfl rfl (by omega)).to (v' := .int .i64 ((b0.toNat % 8 : Nat) : Int)) (by rw [Int.natCast_emod]; try rfl)) (Za rfl ?_)))))))))))))
        refine Ln (eI (by simp) ?_)
        refine WE.sub (l' := [(0, _), (4, _), (5, _), (6, _)]) ⟨rfl, rfl, rfl, rfl, trivial⟩ (e_K (J11 4 65536 (b0.toNat % 8) w ⟨by unfold runeH; rw [if_neg (by omega), if_neg (by omega), if_pos (by omega)], by omega, E⟩))
       ·refine Cr (Zm rfl (Sv (o_geq rfl rfl) (Zm rfl (Sg rfl (dT hs16_0) (oM rfl) (Sg rfl (dT hs16_0) (o_lss rfl rfl) (Sv (oT (dT hs16_0) rfl rfl) (Za rfl (Ln (e_K (hK41 _ _ _ _ (c_if rfl (fun h34 => absurd h34 hs16_1) (fun h34 => cK (eI (by simp) ?_)))))))))))))
        refine WE.sub (l' := [(0, _), (4, _), (5, _), (6, _)]) ⟨rfl, rfl, rfl, rfl, trivial⟩ (e_K (J11 0 0 b0.toNat w ⟨by unfold runeH; rw [if_neg (by omega), if_neg (by omega), if_neg (by omega)], by omega, E⟩))
      ·refine Cr (Zm rfl (Sv (o_geq rfl rfl) (Zm rfl (Sx rfl (dF hs16_0) (Sx rfl (dF hs16_0) (Sv (oF (dF hs16_0) rfl rfl) (Za rfl (Ln (e_K (hK41 _ _ _ _ (c_false rfl (cK (eI (by simp) ?_)))))))))))))
       refine WE.sub (l' := [(0, _), (4, _), (5, _), (6, _)]) ⟨rfl, rfl, rfl, rfl, trivial⟩ (e_K (J11 0 0 b0.toNat w ⟨by unfold runeH; rw [if_neg (by omega), if_neg (by omega), if_neg (by omega)], by omega, E⟩))
   ·refine Cr (Zm rfl (Sv (o_geq rfl rfl) (Zm rfl (Sx rfl (dF hs8_0) (Sx rfl (dF hs8_0) (Sv (oF (dF hs8_0) rfl rfl) (Za rfl (Ln (e_K (hK32 _ _ _ _ (c_false rfl (Cq fun K44 hK44 => ?_))))))))))))
    by_cases hs12_0 : (b0.toNat : Int) ≥ 224
    ·by_cases hs12_1 : (b0.toNat : Int) < 240
     ·refine Cr (Zm rfl (Sv (o_geq rfl rfl) (Zm rfl (Sg rfl (dT hs12_0) (oM rfl) (Sg rfl (dT hs12_0) (o_lss rfl rfl) (Sv (oT (dT hs12_0) rfl rfl) (Za rfl (Ln (e_K (hK44 _ _ _ _ ?_))))))))))
      refine c_if rfl (fun h25 => ?_) (fun h25 => absurd hs12_1 h25)
      refine Cq fun K45 hK45 => Cr (Za rfl (Ln (e_K (hK45 _ _ _ _ (Cq fun K46 hK46 => Cr (Za rfl (Ln (e_K (hK46 _ _ _ _ (Cr (Zm rfl (Sv ((o_remN rfl rfl (by omega)).to (v' := .int .i64 ((b0.toNat % 16 : Nat) : Int)) (by rw [Int.natCast_emod]; try rfl)) (Za rfl ?_)))))))))))))
      refine Ln (eI (by simp) ?_)
      refine WE.sub (l' := [(0, _), (4, _), (5, _), (6, _)]) ⟨rfl, rfl, rfl, rfl, trivial⟩ (e_K (J11 3 2048 (b0.toNat % 16) w ⟨by unfold runeH; rw [if_neg (by omega), if_pos (by omega)], by omega, E⟩))
     ·refine Cr (Zm rfl (Sv (o_geq rfl rfl) (Zm rfl (Sg rfl (dT hs12_0) (oM rfl) (Sg rfl (dT hs12_0) (o_lss rfl rfl) (Sv (oT (dT hs12_0) rfl rfl) (Za rfl (Ln (e_K (hK44 _ _ _ _ (c_if rfl (fun h25 => absurd h25 hs12_1) (fun h25 => Cq fun K47 hK47 => ?_))))))))))))
      by_cases hs16_0 : (b0.toNat : Int) ≥ 240
      ·by_cases hs16_1 : (b0.toNat : Int) < 248
       ·refine Cr (Zm rfl (Sv (o_geq rfl rfl) (Zm rfl (Sg rfl (dT hs16_0) (oM rfl) (Sg rfl (dT hs16_0) (o_lss rfl rfl) (Sv (oT (dT hs16_0) rfl rfl) (Za rfl (Ln (e_K (hK47 _ _ _ _ ?_))))))))))
        refine c_if rfl (fun h34 => ?_) (fun h34 => absurd hs16_1 h34)
        refine Cq fun K48 hK48 => Cr (Za rfl (Ln (e_K (hK48 _ _ _ _ (Cq fun K49 hK49 => Cr (Za rfl (Ln (e_K (hK49 _ _ _ _ (Cr (Zm rfl (Sv ((o_remN rfl rfl (by omega)).to (v' := .int .i64 ((b0.toNat % 8 : Nat) : Int)) (by rw [Int.natCast_emod]; try rfl)) (Za rfl ?_)))))))))))))
        refine Ln (eI (by simp) ?_)
        refine WE.sub (l' := [(0, _), (4, _), (5, _), (6, _)]) ⟨rfl, rfl, rfl, rfl, trivial⟩ (e_K (J11 4 65536 (b0.toNat % 8) w ⟨by unfold runeH; rw [if_neg (by omega), if_neg (by omega), if_pos (by omega)], by omega, E⟩))
       ·refine Cr (Zm rfl (Sv (o_geq rfl rfl) (Zm rfl (Sg rfl (dT hs16_0) (oM rfl) (Sg rfl (dT hs16_0) (o_lss rfl rfl) (Sv (oT (dT hs16_0) rfl rfl) (Za rfl (Ln (e_K (hK47 _ _ _ _ (c_if rfl (fun h34 => absurd h34 hs16_1) (fun h34 => cK (eI (by simp) ?_)))))))))))))
        refine WE.sub (l' := [(0, _), (4, _), (5, _), (6, _)]) ⟨rfl, rfl, rfl, rfl, trivial⟩ (e_K (J11 0 0 b0.toNat w ⟨by unfold runeH; rw [if_neg (by omega), if_neg (by omega), if_neg (by omega)], by omega, E⟩))
      ·refine Cr (Zm rfl (Sv (o_geq rfl rfl) (Zm rfl (Sx rfl (dF hs16_0) (Sx rfl (dF hs16_0) (Sv (oF (dF hs16_0) rfl rfl) (Za rfl (Ln (e_K (hK47 _ _ _ _ (c_false rfl (cK (eI (by simp) ?_)))))))))))))
       refine WE.sub (l' := [(0, _), (4, _), (5, _), (6, _)]) ⟨rfl, rfl, rfl, rfl, trivial⟩ (e_K (J11 0 0 b0.toNat w ⟨by unfold runeH; rw [if_neg (by omega), if_neg (by omega), if_neg (by omega)], by omega, E⟩))
    ·refine Cr (Zm rfl (Sv (o_geq rfl rfl) (Zm rfl (Sx rfl (dF hs12_0) (Sx rfl (dF hs12_0) (Sv (oF (dF hs12_0) rfl rfl) (Za rfl (Ln (e_K (hK44 _ _ _ _ (c_false rfl (Cq fun K50 hK50 => ?_))))))))))))
     by_cases hs16_0 : (b0.toNat : Int) ≥ 240
     ·by_cases hs16_1 : (b0.toNat : Int) < 248
      ·refine Cr (Zm rfl (Sv (o_geq rfl rfl) (Zm rfl (Sg rfl (dT hs16_0) (oM rfl) (Sg rfl (dT hs16_0) (o_lss rfl rfl) (Sv (oT (dT hs16_0) rfl rfl) (Za rfl (Ln (e_K (hK50 _ _ _ _ ?_))))))))))
       refine c_if rfl (fun h34 => ?_) (fun h34 => absurd hs16_1 h34)
       refine Cq fun K51 hK51 => Cr (Za rfl (Ln (e_K (hK51 _ _ _ _ (Cq fun K52 hK52 => Cr (Za rfl (Ln (e_K (hK52 _ _ _ _ (Cr (Zm rfl (Sv ((o_remN rfl rfl (by omega)).to (v' := .int .i64 ((b0.toNat % 8 : Nat) : Int)) (by rw [Int.natCast_emod]; try rfl)) (Za rfl ?_)))))))))))))
       refine Ln (eI (by simp) ?_)
       refine WE.sub (l' := [(0, _), (4, _), (5, _), (6, _)]) ⟨rfl, rfl, rfl, rfl, trivial⟩ (e_K (J11 4 65536 (b0.toNat % 8) w ⟨by unfold runeH; rw [if_neg (by omega), if_neg (by omega), if_pos (by omega)], by omega, E⟩))
      ·refine Cr (Zm rfl (Sv (o_geq rfl rfl) (Zm rfl (Sg rfl (dT hs16_0) (oM rfl) (Sg rfl (dT hs16_0) (o_lss rfl rfl) (Sv (oT (dT hs16_0) rfl rfl) (Za rfl (Ln (e_K (hK50 _ _ _ _ (c_if rfl (fun h34 => absurd h34 hs16_1) (fun h34 => cK (eI (by simp) ?_)))))))))))))
       refine WE.sub (l' := [(0, _), (4, _), (5, _), (6, _)]) ⟨rfl, rfl, rfl, rfl, trivial⟩ (e_K (J11 0 0 b0.toNat w ⟨by unfold runeH; rw [if_neg (by omega), if_neg (by omega), if_neg (by omega)], by omega, E⟩))
     ·refine Cr (Zm rfl (Sv (o_geq rfl rfl) (Zm rfl (Sx rfl (dF hs16_0) (Sx rfl (dF hs16_0) (Sv (oF (dF hs16_0) rfl rfl) (Za rfl (Ln (e_K (hK50 _ _ _ _ (c_false rfl (cK (eI (by simp) ?_)))))))))))))
      refine WE.sub (l' := [(0, _), (4, _), (5, _), (6, _)]) ⟨rfl, rfl, rfl, rfl, trivial⟩ (e_K (J11 0 0 b0.toNat w ⟨by unfold runeH; rw [if_neg (by omega), if_neg (by omega), if_neg (by omega)], by omega, E⟩))
end Go.Proofs.YtkhbnhdlelmbnaaGreatDoor.V

set_option linter.unusedVariables false
set_option linter.unusedSimpArgs false
set_option maxRecDepth 10000
namespace Go.Proofs.YtkhbnhdlelmbnaaGreatDoor.V
open Go Go.Proofs
theorem ent128 : Ent Tryz.prog 128 := Ent.of Tryz.func128 (by kernel_rfl) (by kernel_rfl)
theorem c_valid8 (w : World) (s : Str) : Calls Tryz.prog 100 [S s].toArray w (Ret fun u w' => u = .bool (validR s) ∧ Mod [] w w') := by
 refine enter Tryz.func100 rfl rfl rfl (l := [(0, _)]) ⟨rfl, trivial⟩ ?_
 have E := Mod.refl [] w
 refine Cq fun K1 hK1 => Cr (Za rfl (Ln (e_K (hK1 _ _ _ _ (Cq fun K2 hK2 => cB (c_loop (σ := Str) (fun s1 => [(0, S s1)]) (fun s1 w1 => validR s = validR s1 ∧ Mod [] w w1) (fun s1 => s1.length) (s) ⟨rfl, trivial⟩ (⟨rfl, E⟩) ?_))))))
 rintro s1 w1 ⟨hv, E⟩
 refine Cq fun K3 hK3 => Cq fun K4 hK4 => Cr (Zm rfl (Sv (o_sne rfl rfl) (Ln (e_K (hK4 _ _ _ _ ?_)))))
 refine c_if rfl (fun h6 => ?_) (fun h6 => ?_)
 ·have hne : s1 ≠ [] := h6
  refine cK (e_K (hK3 _ _ _ _ (cB (Cq fun K5 hK5 => Cr (Zm rfl (sc (oC ent128 rfl) (c_rune _ _) rfl fun v_ w2 h_ => ?_))))))
  obtain ⟨rfl, E_⟩ := h_
  replace E := E.then E_
  refine Zm rfl (Sv (o_ext rfl rfl) (Sv (o_ext rfl rfl) (Za rfl (Za rfl (Ln (e_K (hK5 _ _ _ _ (Cq fun K6 hK6 => Cq fun K7 hK7 => Cr (Zm rfl (Sv (oE rfl rfl) (Ln (e_K (hK7 _ _ _ _ ?_)))))))))))))
  refine c_if rfl (fun h13 => ?_) (fun h13 => ?_)
  ·have hR : validR s = false := by rw [hv, validR_no hne (by omega)]
   exact Cq fun K8 hK8 => Cr (Za rfl (Ln (e_K (hK8 _ _ _ _ (cR (eT (by simp) (eI (by simp) (eT (by simp) (eI (by simp) (eT (by simp) (ret1 rfl rfl ⟨by rw [hR], E⟩)))))))))))
  ·have hn0 : (runeR s1).2 ≠ 0 := by omega
   refine cK (e_K (hK6 _ _ _ _ (Cr (Zm rfl (Zm rfl ?_)))))
   have hle := runeR_le s1
   exact Sv (o_ssfrom Tryz.underlying9 rfl rfl hle) (Za rfl (Ln (eI (by simp) (eR (σ := Str) (s := s1) (s1.drop (runeR s1).2) ⟨rfl, trivial⟩ ⟨hv.trans (validR_go hne hn0), E⟩ ((by have := runeR_le s1; have h0 : s1.length ≠ 0 := fun e => hne (List.eq_nil_of_length_eq_zero e); simp only [List.length_drop]; omega))))))
 ·have hnil : s1 = [] := Classical.byContradiction h6
  have hR : validR s = true := by rw [hv, hnil, validR_nil]
  exact c_exit (eT (by simp) (eT (by simp) (e_hit (e_K (hK2 _ _ _ _ (Cq fun K9 hK9 => Cr (Za rfl (Ln (e_K (hK9 _ _ _ _ (cR (ret1 rfl rfl ⟨by rw [hR], E⟩))))))))))))
end Go.Proofs.YtkhbnhdlelmbnaaGreatDoor.V

set_option linter.unusedVariables false
set_option linter.unusedSimpArgs false
namespace Go.Proofs.YtkhbnhdlelmbnaaGreatDoor.V
open Go
abbrev b8c (c : UInt8) : List Value := [B8 c]
theorem cells_b8 (b : List UInt8) : (b.map b8c).flatten = b.map B8 := by
  induction b with
  | nil => rfl
  | cons c b ih => simp [ih]
theorem u8_eq {c d : UInt8} (h : (c.toNat : Int) = d.toNat) : c = d := UInt8.toNat_inj.1 (by omega)
theorem escQ1 {c : UInt8} (h : (c.toNat : Int) = 34 ∨ (c.toNat : Int) = 92) : escQ c = [92, c] := by
  unfold escQ
  rw [if_pos (h.imp (fun h => u8_eq h) (fun h => u8_eq h))]
theorem escQ2 {c : UInt8} (h : (c.toNat : Int) = 8) : escQ c = [92, 98] := by obtain rfl : c = 8 := u8_eq h; rfl
theorem escQ3 {c : UInt8} (h : (c.toNat : Int) = 9) : escQ c = [92, 116] := by obtain rfl : c = 9 := u8_eq h; rfl
theorem escQ4 {c : UInt8} (h : (c.toNat : Int) = 10) : escQ c = [92, 110] := by obtain rfl : c = 10 := u8_eq h; rfl
theorem escQ5 {c : UInt8} (h : (c.toNat : Int) = 12) : escQ c = [92, 102] := by obtain rfl : c = 12 := u8_eq h; rfl
theorem escQ6 {c : UInt8} (h : (c.toNat : Int) = 13) : escQ c = [92, 114] := by obtain rfl : c = 13 := u8_eq h; rfl
theorem u8_ne {c d : UInt8} (h : ¬ (c.toNat : Int) = d.toNat) : c ≠ d := fun e => h (by rw [e])
theorem escQ7 {c : UInt8} (h1 : ¬ (c.toNat : Int) = 34) (h2 : ¬ (c.toNat : Int) = 92) (h3 : ¬ (c.toNat : Int) = 8) (h4 : ¬ (c.toNat : Int) = 9) (h5 : ¬ (c.toNat : Int) = 10) (h6 : ¬ (c.toNat : Int) = 12) (h7 : ¬ (c.toNat : Int) = 13) :
    escQ c = if c.toNat < 32 then [92, 117, 48, 48, hexD.getD (c.toNat / 16) 0, hexD.getD (c.toNat % 16) 0] else [c] := by
  unfold escQ
  rw [if_neg (fun h => h.elim (u8_ne (d := 34) h1) (u8_ne (d := 92) h2)), if_neg (u8_ne (d := 8) h3), if_neg (u8_ne (d := 9) h4), if_neg (u8_ne (d := 10) h5), if_neg (u8_ne (d := 12) h6), if_neg (u8_ne (d := 13) h7)]
theorem hex_at {i : Nat} (h : i < 16) : hexD[i]? = some (hexD.getD i 0) := by
  have : ∀ j : Fin 16, hexD[j.val]? = some (hexD.getD j.val 0) := by decide
  exact this ⟨i, h⟩
/-- the bytes that a result has; an error's number -/
def bts : Except Int Str → Str
  | .ok b => b
  | .error _ => []
def ern : Except Int Str → Int
  | .ok _ => 0
  | .error e => if e = 0 then 1 else e
theorem ern_ok {r : Except Int Str} (h : ern r = 0) : ∃ b, r = .ok b := by
  cases r with
  | ok b => exact ⟨b, rfl⟩
  | error e =>
    exfalso
    by_cases h0 : e = 0 <;> simp [ern, h0] at h
theorem ern_no {r : Except Int Str} (h : ¬ ern r = 0) : ∃ e, r = .error e := by
  cases r with
  | ok b => exact absurd rfl h
  | error e => exact ⟨e, rfl⟩
theorem bind_no {r : Except Int Str} (h : ¬ ern r = 0) (f : Str → Except Int Str) : r.bind f = r := by
  obtain ⟨e, rfl⟩ := ern_no h
  rfl
theorem lng_bts (b : Str) : (lng b = .ok b ∧ b.length ≤ 65536) ∨ (lng b = .error 3 ∧ 65536 < b.length) := by
  unfold lng
  by_cases h : 65536 < b.length
  · exact .inr ⟨if_pos h, h⟩
  · exact .inl ⟨if_neg h, by omega⟩
theorem lng_len (b : Str) : (bts (lng b)).length ≤ 65536 := by
  rcases lng_bts b with ⟨h, h2⟩ | ⟨h, _⟩
  · rw [h]; exact h2
  · rw [h]; simp [bts]
end Go.Proofs.YtkhbnhdlelmbnaaGreatDoor.V
