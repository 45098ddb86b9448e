/-
  A part of the proof: what stays of a content is no longer than memory; a drawn region's operations that look at two or three slots of which something is known; its tail behind two such slots; an event as a JSON value, in plain Lean; a slice of rows that was built anew is a list that may grow. No condition of its own.
-/
import Derived.Test.YtkhbnhdlelmbnaaGreatDoorM23
import Derived.Test.YtkhbnhdlelmbnaaGreatDoorM22
import Derived.Test.YtkhbnhdlelmbnaaGreatDoorM9
set_option linter.unusedVariables false
set_option linter.unusedSimpArgs false
set_option maxRecDepth 10000
namespace Go.Proofs.YtkhbnhdlelmbnaaGreatDoor.V
open Go Go.Proofs
theorem se43 : ∀ (a0 : List UInt8) (a1 : List UInt8) (a2 : List UInt8) (b0 : List UInt8) (b1 : List UInt8) (b2 : List UInt8), seB Tryz.prog 43 [S a0, S a1, S a2] [S b0, S b1, S b2] = true := by intros; kernel_rfl
theorem ent25 : Ent Tryz.prog 25 := Ent.of Tryz.func25 (by kernel_rfl) (by kernel_rfl)
theorem zv29 : zvB Tryz.prog 29 ([S [], S [], S [], .bool false, S [], .int .i64 0, .bool false, .int .i64 0, S [], .slice none 0 0, .slice none 0 0, .slice none 0 0, .slice none 0 0, .int .i64 0, .int .i64 0, S [], .slice none 0 0]) := by unfold zvB; kernel_rfl
theorem ag29 : agB Tryz.prog 29 17 = true := by kernel_rfl
theorem c_list11 (w : World) (xs : List Str) (a1 a2 : Option Addr) (c1 c2 : Nat) (R : Rep [] w (strD xs) (.slice a1 xs.length c1)) (R2 : Rep [] w (strD xs) (.slice a2 xs.length c2)) (hl : xs.length ≤ 140737488351232) : Calls Tryz.prog 25 [.slice a1 xs.length c1, .slice a2 xs.length c2].toArray w (Ret fun u w' => u = .bool true ∧ Mod [] w w') := by
 refine enter Tryz.func25 rfl rfl rfl (l := [(0, _), (1, _)]) ⟨rfl, rfl, trivial⟩ ?_
 have E := Mod.refl [] w
 have hL : ¬ ((xs.length : Int) ≠ xs.length) := fun h => h rfl
 obtain ⟨_, c9a, hfla, hcc1a, hcc2a⟩ := flat_len R
 injection hfla with _ _ hfca
 subst hfca
 obtain ⟨_, c9b, hflb, hcc1b, hcc2b⟩ := flat_len R2
 injection hflb with _ _ hfcb
 subst hfcb
 refine Cq fun K1 hK1 => Cr (Za rfl (Ln (e_K (hK1 _ _ _ _ (Cq fun K2 hK2 => Cq fun K3 hK3 => Cr (Zm rfl (Sv (o_len Tryz.underlying26 rfl) (Zm rfl (Sv (o_len Tryz.underlying26 rfl) (Sv (o_neq rfl rfl) (Ln ?_)))))))))))
 refine e_K (hK3 _ _ _ _ (c_if rfl (fun h10 => absurd h10 hL) (fun h10 => cK (e_K (hK2 _ _ _ _ (Cq fun K4 hK4 => Cq fun K5 hK5 => Cr (Zm rfl (Sv (o_len Tryz.underlying26 rfl) (Zm rfl (Ln (e_K (hK5 _ _ _ _ (cB (c_loop (σ := Nat) (fun k => [(0, .slice a1 xs.length c1), (1, .slice a2 xs.length c2), (11, .slice a1 xs.length c1), (12, .int .i64 (xs.length : Int)), (13, .int .i64 (k : Int))]) (fun k w1 => k ≤ xs.length ∧ Mod [] w w1) (fun k => xs.length - k) (0) ⟨rfl, rfl, rfl, rfl, rfl, trivial⟩ (⟨by omega, E⟩) ?_))))))))))))))
 rintro k w1 ⟨hk, E⟩
 refine Cq fun K6 hK6 => Cr (Sv (o_lss rfl rfl) (Ln (e_K (hK6 _ _ _ _ (Cq fun K7 hK7 => ?_)))))
 refine c_if rfl (fun h14 => ?_) (fun h14 => ?_)
 ·obtain ⟨x, hx⟩ : ∃ x, xs[k]? = some x := ⟨_, List.getElem?_eq_getElem (by omega)⟩
  obtain ⟨a_x, ha_x, hcs_x, _⟩ := flat_at (R.to0 E) hx
  obtain ⟨a_y, ha_y, hcs_y, _⟩ := flat_at (R2.to0 E) hx
  cases ha_x
  cases ha_y
  refine cK (e_K (hK7 _ _ _ _ (Cq fun K8 hK8 => cB (Cq fun K9 hK9 => Cr (Zm rfl (Za rfl (Ln (e_K (hK9 _ _ _ _ (Cq fun K10 hK10 => c_draw wide (by kernel_rfl) (tv (fun w_ E_ => (oM rfl)) rfl rfl (tv (fun w_ E_ => (oM rfl)) rfl rfl ?_))))))))))))
  refine tv (fun w_ E_ => (o_ix sl26 rfl rfl (by omega))) rfl rfl (tv (fun w_ E_ => (oL sc9 rfl (hcs_x.mod0 E_).first)) rfl rfl (tv (fun w_ E_ => (oM rfl)) rfl rfl (tv (fun w_ E_ => (oM rfl)) rfl rfl (tv (fun w_ E_ => (o_ix sl26 rfl rfl (by omega))) rfl rfl (tv (fun w_ E_ => (oL sc9 rfl (hcs_y.mod0 E_).first)) rfl rfl (tv (fun w_ E_ => ((o_sne rfl rfl).to (v' := .bool false) (by simp))) rfl rfl (tw_nil rfl fun w2 E_ => ?_)))))))
  replace E := E.then E_
  exact e_K (hK10 _ _ _ _ (c_false rfl (cK (eI (by simp) (e_K (hK8 _ _ _ _ (Cr (Sv (o_addN rfl rfl (by omega)) (Zm rfl (Ln (eR (σ := Nat) (s := k) (k + 1) ⟨rfl, rfl, rfl, rfl, rfl, trivial⟩ ⟨by omega, E⟩ (by omega))))))))))))
 ·exact c_exit (eT (by simp) (eT (by simp) (e_hit (e_K (hK4 _ _ _ _ (Cq fun K11 hK11 => Cr (Za rfl (Ln (e_K (hK11 _ _ _ _ (cR (ret1 rfl rfl ⟨rfl, E⟩))))))))))))

theorem c_same_refl (w : World) (v : JV) (us vs : List Value) (R : Reps [] w v.D us) (R2 : Reps [] w v.D vs) : Calls Tryz.prog 24 [.agg us.toArray, .agg vs.toArray].toArray w (Ret fun u w' => u = .bool true ∧ Mod [] w w') := by
 have := c_same w v v us vs R R2
 rw [JV.eqJ_self] at this
 exact this

theorem c_same11 (w : World) (e : EV) (us vs : List Value) (R : Reps [] w e.D us) (R2 : Reps [] w e.D vs) (ho : e.ok) : Calls Tryz.prog 8 [.agg us.toArray, .agg vs.toArray].toArray w (Ret fun u w' => u = .bool true ∧ Mod [] w w') := by
 refine enter Tryz.func8 rfl rfl rfl (l := [(0, _), (1, _)]) ⟨rfl, rfl, trivial⟩ ?_
 have E := Mod.refl [] w
 obtain ⟨al, cl, am, cm, ap, cp, aa, ca, aS, cS, rfl, Rc, Rp, Ra, Rs⟩ := EV.cells17 R
 obtain ⟨al2, cl2, am2, cm2, ap2, cp2, aa2, ca2, aS2, cS2, rfl, Rc2, Rp2, Ra2, Rs2⟩ := EV.cells17 R2
 obtain ⟨ho1, ho2, ho3, ho4, ho5, ho6, ho7, ho8, ho9, ho10, ho11, ho12⟩ := ho
 have hL : ¬ ((e.sigs.length : Int) ≠ e.sigs.length) := fun h => h rfl
 obtain ⟨_, c9a, hfla, hcc1a, hcc2a⟩ := flat_len Rs
 injection hfla with _ _ hfca
 subst hfca
 obtain ⟨_, c9b, hflb, hcc1b, hcc2b⟩ := flat_len Rs2
 injection hflb with _ _ hfcb
 subst hfcb
 refine Cq fun K1 hK1 => Cr (s_box rfl rfl rfl fun g1 w1 N1 => ?_)
 have Lg1_E := N1.le E
 replace E := E.then N1.mod
 have Bg1 := N1.blk
 refine s_box rfl rfl rfl fun g2 w2 N2 => ?_
 have Lg2_E := N2.le E
 have Dg1_g2 := N2.ne Bg1
 replace Bg1 := Bg1.mod0 N2.mod
 replace E := E.then N2.mod
 have Bg2 := N2.blk
 refine Za rfl (Ln (e_K (hK1 _ _ _ _ (Cq fun K2 hK2 => Cq fun K3 hK3 => Cr (Sv (oA0 fd29_0 rfl) (Sv (oL sc9 rfl (Bg1.cell rfl)) (Sv (oA0 fd29_0 rfl) (Sv (oL sc9 rfl (Bg2.cell rfl)) (Sv (o_sne rfl rfl) (Zm rfl (Sg rfl (dF (show ¬ (e.room ≠ e.room) from fun h => h rfl)) (oA0 fd29_1 rfl) (Sg rfl (dF (show ¬ (e.room ≠ e.room) from fun h => h rfl)) (oL sc9 rfl (Bg1.cell rfl)) ?_))))))))))))
 refine Sg rfl (dF (show ¬ (e.room ≠ e.room) from fun h => h rfl)) (oA0 fd29_1 rfl) (Sg rfl (dF (show ¬ (e.room ≠ e.room) from fun h => h rfl)) (oL sc9 rfl (Bg2.cell rfl)) (Sg rfl (dF (show ¬ (e.room ≠ e.room) from fun h => h rfl)) (o_sne rfl rfl) (Sv (oF (dF (show ¬ (e.room ≠ e.room) from fun h => h rfl)) rfl rfl) (Zm rfl (Sg rfl (dF (show ¬ (e.snd ≠ e.snd) from fun h => h rfl)) (oA0 fd29_2 rfl) (Sg rfl (dF (show ¬ (e.snd ≠ e.snd) from fun h => h rfl)) (oL sc9 rfl (Bg1.cell rfl)) (Sg rfl (dF (show ¬ (e.snd ≠ e.snd) from fun h => h rfl)) (oA0 fd29_2 rfl) (Sg rfl (dF (show ¬ (e.snd ≠ e.snd) from fun h => h rfl)) (oL sc9 rfl (Bg2.cell rfl)) (Sg rfl (dF (show ¬ (e.snd ≠ e.snd) from fun h => h rfl)) (o_sne rfl rfl) (Sv (oF (dF (show ¬ (e.snd ≠ e.snd) from fun h => h rfl)) rfl rfl) (Zm rfl (Sg rfl (dF (show ¬ (e.ty ≠ e.ty) from fun h => h rfl)) (oA0 fd29_3 rfl) (Sg rfl (dF (show ¬ (e.ty ≠ e.ty) from fun h => h rfl)) (oL sc4 rfl (Bg1.cell rfl)) ?_)))))))))))))
 refine Sg rfl (dF (show ¬ (e.ty ≠ e.ty) from fun h => h rfl)) (oA0 fd29_3 rfl) (Sg rfl (dF (show ¬ (e.ty ≠ e.ty) from fun h => h rfl)) (oL sc4 rfl (Bg2.cell rfl)) (Sg rfl (dF (show ¬ (e.ty ≠ e.ty) from fun h => h rfl)) (o_bsne Tryz.underlying4 rfl rfl) (Sv (oF (dF (show ¬ (e.ty ≠ e.ty) from fun h => h rfl)) rfl rfl) (Zm rfl (Sg rfl ((show (e.st != e.st) = false by simp)) (oA0 fd29_4 rfl) (Sg rfl ((show (e.st != e.st) = false by simp)) (oL sc9 rfl (Bg1.cell rfl)) (Sg rfl ((show (e.st != e.st) = false by simp)) (oA0 fd29_4 rfl) (Sg rfl ((show (e.st != e.st) = false by simp)) (oL sc9 rfl (Bg2.cell rfl)) (Sg rfl ((show (e.st != e.st) = false by simp)) (o_sne rfl rfl) (Sv (oF ((show (e.st != e.st) = false by simp)) rfl rfl) (Zm rfl (Sg rfl (dF (show ¬ (e.key ≠ e.key) from fun h => h rfl)) (oA0 fd29_8 rfl) (Sg rfl (dF (show ¬ (e.key ≠ e.key) from fun h => h rfl)) (oL sc3 rfl (Bg1.cell rfl)) ?_)))))))))))))
 refine Sg rfl (dF (show ¬ (e.key ≠ e.key) from fun h => h rfl)) (oA0 fd29_8 rfl) (Sg rfl (dF (show ¬ (e.key ≠ e.key) from fun h => h rfl)) (oL sc3 rfl (Bg2.cell rfl)) (Sg rfl (dF (show ¬ (e.key ≠ e.key) from fun h => h rfl)) (o_neq rfl rfl) (Sv (oF (dF (show ¬ (e.key ≠ e.key) from fun h => h rfl)) rfl rfl) (Zm rfl (Sg rfl (dF (show ¬ ((e.dep : Int) ≠ (e.dep : Int)) from fun h => h rfl)) (oA0 fd29_9 rfl) (Sg rfl (dF (show ¬ ((e.dep : Int) ≠ (e.dep : Int)) from fun h => h rfl)) (oL sc3 rfl (Bg1.cell rfl)) (Sg rfl (dF (show ¬ ((e.dep : Int) ≠ (e.dep : Int)) from fun h => h rfl)) (oA0 fd29_9 rfl) (Sg rfl (dF (show ¬ ((e.dep : Int) ≠ (e.dep : Int)) from fun h => h rfl)) (oL sc3 rfl (Bg2.cell rfl)) (Sg rfl (dF (show ¬ ((e.dep : Int) ≠ (e.dep : Int)) from fun h => h rfl)) (o_neq rfl rfl) (Sv (oF (dF (show ¬ ((e.dep : Int) ≠ (e.dep : Int)) from fun h => h rfl)) rfl rfl) (Zm rfl (Sg rfl (dF (show ¬ ((e.time : Int) ≠ (e.time : Int)) from fun h => h rfl)) (oA0 fd29_10 rfl) (Sg rfl (dF (show ¬ ((e.time : Int) ≠ (e.time : Int)) from fun h => h rfl)) (oL sc9 rfl (Bg1.cell rfl)) ?_)))))))))))))
 refine Sg rfl (dF (show ¬ ((e.time : Int) ≠ (e.time : Int)) from fun h => h rfl)) (oA0 fd29_10 rfl) (Sg rfl (dF (show ¬ ((e.time : Int) ≠ (e.time : Int)) from fun h => h rfl)) (oL sc9 rfl (Bg2.cell rfl)) (Sg rfl (dF (show ¬ ((e.time : Int) ≠ (e.time : Int)) from fun h => h rfl)) (o_sne rfl rfl) (Sv (oF (dF (show ¬ ((e.time : Int) ≠ (e.time : Int)) from fun h => h rfl)) rfl rfl) (Zm rfl (Sg rfl (dF (show ¬ (e.hash ≠ e.hash) from fun h => h rfl)) (oA0 fd29_11 rfl) (Sg rfl (dF (show ¬ (e.hash ≠ e.hash) from fun h => h rfl)) (oL sc27 rfl (Bg1.cell rfl)) (Sg rfl (dF (show ¬ (e.hash ≠ e.hash) from fun h => h rfl)) (o_len Tryz.underlying27 rfl) (Sg rfl (dF (show ¬ (e.hash ≠ e.hash) from fun h => h rfl)) (oA0 fd29_11 rfl) (Sg rfl (dF (show ¬ (e.hash ≠ e.hash) from fun h => h rfl)) (oL sc27 rfl (Bg2.cell rfl)) (Sg rfl (dF (show ¬ (e.hash ≠ e.hash) from fun h => h rfl)) (o_len Tryz.underlying27 rfl) (Sg rfl (dF (show ¬ (e.hash ≠ e.hash) from fun h => h rfl)) (o_neq rfl rfl) (Sv (oF (dF (show ¬ (e.hash ≠ e.hash) from fun h => h rfl)) rfl rfl) (Ln ?_)))))))))))))
 refine e_K (hK3 _ _ _ _ (c_if rfl (fun h68 => absurd h68 hL) (fun h68 => cK (e_K (hK2 _ _ _ _ (Cq fun K4 hK4 => Cq fun K5 hK5 => Cr (Sv (oA0 fd29_11 rfl) (Sv (oL sc27 rfl (Bg1.cell rfl)) (Sv (o_len Tryz.underlying27 rfl) (Zm rfl (Ln (e_K (hK5 _ _ _ _ (cB ?_))))))))))))))
 refine c_loop (σ := Nat) (fun k => [(2, .pointer (some ⟨g1, 0, none⟩)), (3, .pointer (some ⟨g2, 0, none⟩)), (71, .int .i64 (e.sigs.length : Int)), (72, .int .i64 (k : Int))]) (fun k w1 => k ≤ e.sigs.length ∧ Blk w1 g1 29 [S e.room, S e.snd, S e.ty, .bool e.st, S e.key, .int .i64 e.con.kind, .bool e.con.is, .int .i64 e.con.num, S e.con.str, .slice al e.con.list.length cl, .slice am e.con.map.length cm, .slice ap e.prev.length cp, .slice aa e.auth.length ca, .int .i64 e.dep, .int .i64 e.time, S e.hash, .slice aS e.sigs.length cS] ∧ Blk w1 g2 29 [S e.room, S e.snd, S e.ty, .bool e.st, S e.key, .int .i64 e.con.kind, .bool e.con.is, .int .i64 e.con.num, S e.con.str, .slice al2 e.con.list.length cl2, .slice am2 e.con.map.length cm2, .slice ap2 e.prev.length cp2, .slice aa2 e.auth.length ca2, .int .i64 e.dep, .int .i64 e.time, S e.hash, .slice aS2 e.sigs.length cS2] ∧ Mod [] w w1) (fun k => e.sigs.length - k) (0) ⟨rfl, rfl, rfl, rfl, trivial⟩ (⟨by omega, Bg1, Bg2, E⟩) ?_
 rintro k w3 ⟨hk, Bg1, Bg2, E⟩
 refine Cq fun K6 hK6 => Cr (Sv (o_lss rfl rfl) (Ln (e_K (hK6 _ _ _ _ (Cq fun K7 hK7 => ?_)))))
 refine c_if rfl (fun h73 => ?_) (fun h73 => ?_)
 ·obtain ⟨x, hx⟩ : ∃ x, e.sigs[k]? = some x := ⟨_, List.getElem?_eq_getElem (by omega)⟩
  obtain ⟨a_x, ha_x, hcs_x, _⟩ := flat_at (Rs.to0 E) hx
  obtain ⟨a_y, ha_y, hcs_y, _⟩ := flat_at (Rs2.to0 E) hx
  cases ha_x
  cases ha_y
  refine cK (e_K (hK7 _ _ _ _ (Cq fun K8 hK8 => cB (Cq fun K9 hK9 => Cr (Zm rfl (Za rfl (Ln (e_K (hK9 _ _ _ _ (Cq fun K10 hK10 => c_draw wide (by kernel_rfl) (tv (fun w_ E_ => (oA0 fd29_11 rfl)) rfl rfl (tv (fun w_ E_ => (oL sc27 rfl ((Bg1.mod0 E_).cell rfl))) rfl rfl ?_))))))))))))
  refine tv (fun w_ E_ => (oM rfl)) rfl rfl (tv (fun w_ E_ => (o_ix sl27 rfl rfl (by omega))) rfl rfl (tv (fun w_ E_ => (o_lda ag43 rfl rfl (hcs_x.mod0 E_))) rfl rfl (tv (fun w_ E_ => (oA0 fd29_11 rfl)) rfl rfl (tv (fun w_ E_ => (oL sc27 rfl ((Bg2.mod0 E_).cell rfl))) rfl rfl (tv (fun w_ E_ => (oM rfl)) rfl rfl (tv (fun w_ E_ => (o_ix sl27 rfl rfl (by omega))) rfl rfl (tv (fun w_ E_ => (o_lda ag43 rfl rfl (hcs_y.mod0 E_))) rfl rfl (tv (fun w_ E_ => ((o_stne (se43 ..) rfl rfl rfl).to (v' := .bool false) (by simp))) rfl rfl (tw_nil rfl fun w4 E_ => ?_)))))))))
  replace Bg1 := Bg1.mod0 E_
  replace Bg2 := Bg2.mod0 E_
  replace E := E.then E_
  exact e_K (hK10 _ _ _ _ (c_false rfl (cK (eI (by simp) (e_K (hK8 _ _ _ _ (Cr (Sv (o_addN rfl rfl (by omega)) (Zm rfl (Ln (eR (σ := Nat) (s := k) (k + 1) ⟨rfl, rfl, rfl, rfl, trivial⟩ ⟨by omega, Bg1, Bg2, E⟩ (by omega))))))))))))
 ·refine c_exit (eT (by simp) (eT (by simp) (e_hit (e_K (hK4 _ _ _ _ (Cq fun K11 hK11 => Cr (Sv (oA0 fd29_5 rfl) (Sv (o_lda (vs := [_, _, _, _, _, _]) ag25 rfl rfl (Bg1.cs rfl)) (Sv (oA0 fd29_5 rfl) (Sv (o_lda (vs := [_, _, _, _, _, _]) ag25 rfl rfl (Bg2.cs rfl)) (sc (oC ent24 rfl) (c_same_refl _ e.con _ _ (Rc.to0 E) (Rc2.to0 E)) rfl fun v_ w5 h_ => ?_)))))))))))
  obtain ⟨rfl, E_⟩ := h_
  replace Bg1 := Bg1.mod0 E_
  replace Bg2 := Bg2.mod0 E_
  replace E := E.then E_
  refine Zm rfl (Sg rfl rfl (oA0 fd29_6 rfl) (Sg rfl rfl (oL sc26 rfl (Bg1.cell rfl)) (Sg rfl rfl (oA0 fd29_6 rfl) (Sg rfl rfl (oL sc26 rfl (Bg2.cell rfl)) (sgc rfl rfl (oC ent25 rfl) (c_list11 _ e.prev ap ap2 cp cp2 (Rp.to0 E) (Rp2.to0 E) ho7) rfl fun v_ w6 h_ => ?_)))))
  obtain ⟨rfl, E_⟩ := h_
  replace Bg1 := Bg1.mod0 E_
  replace Bg2 := Bg2.mod0 E_
  replace E := E.then E_
  refine Sv (oT rfl rfl rfl) (Zm rfl (Sg rfl rfl (oA0 fd29_7 rfl) (Sg rfl rfl (oL sc26 rfl (Bg1.cell rfl)) (Sg rfl rfl (oA0 fd29_7 rfl) (Sg rfl rfl (oL sc26 rfl (Bg2.cell rfl)) (sgc rfl rfl (oC ent25 rfl) (c_list11 _ e.auth aa aa2 ca ca2 (Ra.to0 E) (Ra2.to0 E) ho9) rfl fun v_ w7 h_ => ?_))))))
  obtain ⟨rfl, E_⟩ := h_
  replace Bg1 := Bg1.mod0 E_
  replace Bg2 := Bg2.mod0 E_
  replace E := E.then E_
  exact Sv (oT rfl rfl rfl) (Za rfl (Ln (e_K (hK11 _ _ _ _ (cR (ret1 rfl rfl ⟨rfl, E⟩))))))

theorem c_strip (w : World) (e : EV) (us : List Value) (R : Reps [] w e.D us) (hva : ascM e.con.map) (hvn : e.con.map.length ≤ 1353245080310) (hta : ascM e.con.third.map) (htn : e.con.third.map.length ≤ 1353245080310) : Calls Tryz.prog 9 [.agg us.toArray].toArray w (Ret fun u w' => ∃ us', u = .agg us'.toArray ∧ Reps [] w' e.strip.D us' ∧ Mod [] w w') := by
 refine enter Tryz.func9 rfl rfl rfl (l := [(0, _)]) ⟨rfl, trivial⟩ ?_
 have E := Mod.refl [] w
 obtain ⟨al, cl, am, cm, ap, cp, aa, ca, aS, cS, rfl, Rc, Rp, Ra, Rs⟩ := EV.cells17 R
 refine Cq fun K1 hK1 => Cr (s_box rfl rfl rfl fun g1 w1 N1 => ?_)
 have Lg1_E := N1.le E
 replace E := E.then N1.mod
 have Bg1 := N1.blk
 refine s_alloc zv29 rfl fun g2 w2 N2 => ?_
 have Lg2_E := N2.le E
 have Dg1_g2 := N2.ne Bg1
 replace Bg1 := Bg1.mod0 N2.mod
 replace E := E.then N2.mod
 have Bg2 := N2.blk
 refine Ln (e_K (hK1 _ _ _ _ (Cq fun K2 hK2 => Cr (Sv (oA0 fd29_2 rfl) (Sv (oL sc9 rfl (Bg1.cell rfl)) (Sv (oA0 fd29_5 rfl) (Sv (o_lda (vs := [_, _, _, _, _, _]) ag25 rfl rfl (Bg1.cs rfl)) (sc (oC ent21 rfl) (c_contentA [g1, g2] _ (fun a ha => by rcases List.mem_cons.1 ha with rfl | ha; exact Bg1.lt; rcases List.mem_cons.1 ha with rfl | ha; exact Bg2.lt; cases ha) e.ty e.con _ ((Rc.more (A' := [g1, g2]) (fun a ha => by rcases List.mem_cons.1 ha with rfl | ha; exact .inr Lg1_E; rcases List.mem_cons.1 ha with rfl | ha; exact .inr Lg2_E; cases ha)).to0 E) hva hvn hta htn) rfl fun v_ w3 h_ => ?_))))))))
 obtain ⟨us7, rfl, Rx, E_⟩ := h_
 replace Bg1 := Bg1.mod0 E_
 replace Bg2 := Bg2.mod0 E_
 replace E := E.then E_
 obtain ⟨al7, cl7, am7, cm7, rfl, Rl7, Rm7⟩ := JV.cells_ Rx
 clear Rx
 refine Sv (oA0 fd29_5 rfl) (s_sta (vs := [_, _, _, _, _, _]) ag25 Bg1 rfl rfl rfl (by simp [Value.oneCell']) (by simp) fun w4 P4 => ?_)
 replace Bg2 := Bg2.ne P4.mod (Ne.symm Dg1_g2)
 replace E := E.own P4.mod Lg1_E
 replace Bg1 : Blk w4 g1 _ [_, _, _, _, _, _, _, _, _, _, _, _, _, _, _, _, _] := P4.blk
 replace Rl7 := Rl7.toM P4.mod (fun a ha => by simp [List.mem_singleton.1 ha])
 replace Rm7 := Rm7.toM P4.mod (fun a ha => by simp [List.mem_singleton.1 ha])
 refine Ln (e_K (hK2 _ _ _ _ (Cq fun K3 hK3 => Cr (Sv (o_lda (vs := [_, _, _, _, _, _, _, _, _, _, _, _, _, _, _, _, _]) ag29 rfl rfl (Bg1.cs rfl)) (s_sta (vs := [_, _, _, _, _, _, _, _, _, _, _, _, _, _, _, _, _]) ag29 Bg2 rfl rfl rfl (by simp [Value.oneCell']) (by simp) fun w5 P5 => ?_)))))
 replace Bg1 := Bg1.ne P5.mod (Ne.symm (Ne.symm Dg1_g2))
 replace E := E.own P5.mod Lg2_E
 replace Bg2 : Blk w5 g2 _ [_, _, _, _, _, _, _, _, _, _, _, _, _, _, _, _, _] := P5.blk
 replace Rl7 := Rl7.toM P5.mod (fun a ha => by simp [List.mem_singleton.1 ha])
 replace Rm7 := Rm7.toM P5.mod (fun a ha => by simp [List.mem_singleton.1 ha])
 exact Ln (e_K (hK3 _ _ _ _ (cR (retc (vs := [_, _, _, _, _, _, _, _, _, _, _, _, _, _, _, _, _]) rfl ag29 rfl rfl (Bg2.cs rfl) ⟨_, rfl, EV.reps_ (e := e.strip) (JV.reps_ (v := JV.content e.ty e.con) (Rl7.anti (A' := []) (by simp)) (Rm7.anti (A' := []) (by simp))) (Rp.to0 E) (Ra.to0 E) (Rs.to0 E), E⟩))))
end Go.Proofs.YtkhbnhdlelmbnaaGreatDoor.V

set_option linter.unusedVariables false
set_option linter.unusedSimpArgs false
set_option maxRecDepth 10000
namespace Go.Proofs.YtkhbnhdlelmbnaaGreatDoor.V
open Go Go.Proofs

end Go.Proofs.YtkhbnhdlelmbnaaGreatDoor.V

set_option linter.unusedVariables false
set_option linter.unusedSimpArgs false
namespace Go.Proofs.YtkhbnhdlelmbnaaGreatDoor.V
open Go
namespace JV
theorem stay_ok (kind : Str) (p q : Str × JV) (hp : p.1.length ≤ 140737488351232 ∧ p.2.ok) (h : stay kind p = some q) : q.1.length ≤ 140737488351232 ∧ q.2.ok := by
  have s0 : stay0 kind p = some q → q.1.length ≤ 140737488351232 ∧ q.2.ok := fun e => by
    unfold stay0 at e
    split at e
    · injection e with e
      subst e
      exact hp
    · cases e
  unfold stay at h
  split at h
  · split at h
    · rename_i y hy
      injection h with h
      subst h
      refine ⟨hp.1, (ok_eq _).2 ⟨by simp [obj, str], by simp [obj, list], by simp [obj, map], by simp [obj, list], fun x hx => ?_⟩⟩
      simp only [obj, map, List.mem_singleton] at hx
      subst hx
      exact ⟨(show kSigned.length ≤ 140737488351232 by decide), (((ok_eq _).1 hp.2).2.2.2.2 _ (look_some hy)).2⟩
    · exact s0 h
  · exact s0 h
theorem contentR_ok {kind : Str} {v : JV} (h : v.ok) : (contentR kind v).ok := by
  unfold contentR
  split
  · exact h
  obtain ⟨h1, h2, h3, h4, h5⟩ := (ok_eq v).1 h
  split
  · exact (ok_eq _).2 ⟨by simp [obj, str], by simp [obj, list], by simp [obj, map], by simp [obj, list], by simp [obj, map]⟩
  · refine (ok_eq _).2 ⟨by simp [obj, str], by simp [obj, list], ?_, by simp [obj, list], fun x hx => ?_⟩
    · simp only [obj, map]
      exact Nat.le_trans (List.length_filterMap_le _ _) h3
    · simp only [obj, map] at hx
      obtain ⟨p, hp, hq⟩ := List.mem_filterMap.1 hx
      exact stay_ok kind p x (h5 p hp) hq
end JV
namespace EV
theorem strip_ok {e : EV} (ha : ascM e.con.map) (ho : e.ok) : e.strip.ok := by
  obtain ⟨ho1, ho2, ho3, ho4, ho5, ho6, ho7, ho8, ho9, ho10, ho11, ho12⟩ := ho
  exact ⟨ho1, ho2, ho3, ho4, by show (JV.content e.ty e.con).ok; rw [JV.content_eq ha]; exact JV.contentR_ok ho5, ho6, ho7, ho8, ho9, ho10, ho11, ho12⟩
end EV
end Go.Proofs.YtkhbnhdlelmbnaaGreatDoor.V

set_option linter.unusedVariables false
set_option linter.unusedSimpArgs false
set_option maxRecDepth 10000
namespace Go.Proofs.YtkhbnhdlelmbnaaGreatDoor.V
open Go Go.Proofs
theorem ent9 : Ent Tryz.prog 9 := Ent.of Tryz.func9 (by kernel_rfl) (by kernel_rfl)
theorem ent8 : Ent Tryz.prog 8 := Ent.of Tryz.func8 (by kernel_rfl) (by kernel_rfl)
end Go.Proofs.YtkhbnhdlelmbnaaGreatDoor.V

set_option linter.unusedVariables false
set_option linter.unusedSimpArgs false
namespace Go.Proofs.YtkhbnhdlelmbnaaGreatDoor.V
open Go
section
variable {P : Program} {ops : Array Oper} {Q : Exit → Act → World → Prop} {n : Nat} {ds : List Deferred} {l : List (Nat × Value)} {M : List (Nat × (Value → World → Prop))} {w : World} {Fin : Kn → Prop} {rest : List Oper} {d : Nat} {ty : TypeId} {pos : String} {af : Array Edge} {op : Op}
theorem tr2 (V : Value → World → Prop) (hV : ∀ v w1 w2, Mod [] w1 w2 → V v w1 → V v w2) (t s : Nat) {U U' : Value → World → Prop} (ht : lk t l = none) (hM : lkM t M = some U) (hx : ∃ x ∈ op.operands.toList, x = .tmp t) (hs' : lk s l = none) (hM' : lkM s M = some U') (hx' : ∃ x ∈ op.operands.toList, x = .tmp s)
    (hr : ∀ w1 u u', Mod [] w w1 → U u w1 → U' u' w1 → ∃ v w2, Runs P ((t, u) :: (s, u') :: l) ⟨some d, op, ty, pos, af, none⟩ w1 v w2 ∧ Mod [] w1 w2 ∧ V v w2) (hd : Nat.blt d n = true) (hs : notSel op = true) (hl : lk d l = none)
    (h : TWL P ops w n Fin rest l ((d, V) :: M)) : TWL P ops w n Fin (⟨some d, op, ty, pos, af, none⟩ :: rest) l M := by
  refine ⟨V, J_of2 ht hM hx hs' hM' hx' hV hd hs fun ρ w1 u u' hC hU hU' h1 => ?_, ?_⟩
  · obtain ⟨v, w2, e, hm, hv⟩ := hr w1 u u' hC hU hU'
    rw [e ρ h1]
    exact ⟨hm, hv⟩
  · rw [kn_put_r rfl hl]; exact h
theorem J_of3 {V : Value → World → Prop} {t s r : Nat} {U U' U2 : Value → World → Prop} (ht : lk t l = none) (hM : lkM t M = some U) (hx : ∃ x ∈ op.operands.toList, x = .tmp t) (hs' : lk s l = none) (hM' : lkM s M = some U') (hx' : ∃ x ∈ op.operands.toList, x = .tmp s) (hr' : lk r l = none) (hM2 : lkM r M = some U2) (hx2 : ∃ x ∈ op.operands.toList, x = .tmp r) (hV : ∀ v w1 w2, Mod [] w1 w2 → V v w1 → V v w2) (hd : Nat.blt d n = true) (hs : notSel op = true)
    (hr : ∀ (ρ : Operand → Value) w1 u u' u2, Mod [] w w1 → U u w1 → U' u' w1 → U2 u2 w1 → (∀ x v, evO ((t, u) :: (s, u') :: (r, u2) :: l) x = some v → ρ x = v) → TameUpon P (Mod []) w1 V ((execOp ρ ⟨some d, op, ty, pos, af, none⟩).run P w1)) :
    J P ops (Mod []) (Mod [] w) n (kn l M) ⟨some d, op, ty, pos, af, none⟩ V := by
  refine J_of hV hd hs fun ρ w1 hC h1 h2 => hr ρ w1 (ρ (.tmp t)) (ρ (.tmp s)) (ρ (.tmp r)) hC (h2 t U ht hM hx) (h2 s U' hs' hM' hx') (h2 r U2 hr' hM2 hx2) fun x v hv => ?_
  cases x with
  | tmp q =>
    simp only [evO, lk] at hv
    cases hb : Nat.beq t q with
    | true =>
      rw [hb] at hv
      have := Nat.eq_of_beq_eq_true hb
      subst this
      injection hv
    | false =>
      rw [hb] at hv
      cases hb' : Nat.beq s q with
      | true =>
        rw [hb'] at hv
        have := Nat.eq_of_beq_eq_true hb'
        subst this
        injection hv
      | false =>
        rw [hb'] at hv
        cases hb2 : Nat.beq r q with
        | true =>
          rw [hb2] at hv
          have := Nat.eq_of_beq_eq_true hb2
          subst this
          injection hv
        | false => rw [hb2] at hv; exact h1 _ _ hv
  | const c => exact h1 _ _ hv
  | global g => exact h1 _ _ hv
  | func f => exact h1 _ _ hv
theorem tr3 (V : Value → World → Prop) (hV : ∀ v w1 w2, Mod [] w1 w2 → V v w1 → V v w2) (t s r : Nat) {U U' U2 : Value → World → Prop} (ht : lk t l = none) (hM : lkM t M = some U) (hx : ∃ x ∈ op.operands.toList, x = .tmp t) (hs' : lk s l = none) (hM' : lkM s M = some U') (hx' : ∃ x ∈ op.operands.toList, x = .tmp s) (hr' : lk r l = none) (hM2 : lkM r M = some U2) (hx2 : ∃ x ∈ op.operands.toList, x = .tmp r)
    (hr : ∀ w1 u u' u2, Mod [] w w1 → U u w1 → U' u' w1 → U2 u2 w1 → ∃ v w2, Runs P ((t, u) :: (s, u') :: (r, u2) :: l) ⟨some d, op, ty, pos, af, none⟩ w1 v w2 ∧ Mod [] w1 w2 ∧ V v w2) (hd : Nat.blt d n = true) (hs : notSel op = true) (hl : lk d l = none)
    (h : TWL P ops w n Fin rest l ((d, V) :: M)) : TWL P ops w n Fin (⟨some d, op, ty, pos, af, none⟩ :: rest) l M := by
  refine ⟨V, J_of3 ht hM hx hs' hM' hx' hr' hM2 hx2 hV hd hs fun ρ w1 u u' u2 hC hU hU' hU2 h1 => ?_, ?_⟩
  · obtain ⟨v, w2, e, hm, hv⟩ := hr w1 u u' u2 hC hU hU' hU2
    rw [e ρ h1]
    exact ⟨hm, hv⟩
  · rw [kn_put_r rfl hl]; exact h
theorem tw_tail2 {rest' : List Oper} {t r : Nat} {V U : Value → World → Prop} (hf : fitB n l = true) (ht : lk t l = none) (hM : lkM t M = some V) (hr : lk r l = none) (hN : lkM r M = some U) (htn : Nat.blt t n = true) (hrn : Nat.blt r n = true)
    (h : ∀ w' v u, Mod [] w w' → V v w' → U u w' → WL P ops Q rest' n ds ((t, v) :: (r, u) :: l) w') :
    TWL P ops w n (fun N => ∀ a w', a.defers = ds → Mod [] w w' → N.all n a w' → wpList P ops Q rest' a w') [] l M := by
  intro a w' hd hC hN'
  have h1 := kn_has hd hN'
  rw [fitB_filter hf] at h1
  have htn' : t < a.tmps.size := by rw [hN'.1]; simpa [Nat.blt_eq] using htn
  have hrn' : r < a.tmps.size := by rw [hN'.1]; simpa [Nat.blt_eq] using hrn
  have h2 := hN'.2 t V (by simp [kn, ht, hM])
  have h4 := hN'.2 r U (by simp [kn, hr, hN])
  have h3 : a.tmps.getD t undef = a.tmps[t] := by simp [htn']
  have h5 : a.tmps.getD r undef = a.tmps[r] := by simp [hrn']
  rw [h3] at h2
  rw [h5] at h4
  refine h w' _ _ hC h2 h4 a ⟨h1.size, h1.defers, fun s v hv => ?_⟩
  simp only [lk] at hv
  cases hb : Nat.beq t s with
  | true =>
    rw [hb] at hv
    have := Nat.eq_of_beq_eq_true hb
    subst this
    injection hv with hv
    subst hv
    simp [htn']
  | false =>
    rw [hb] at hv
    cases hb2 : Nat.beq r s with
    | true =>
      rw [hb2] at hv
      have := Nat.eq_of_beq_eq_true hb2
      subst this
      injection hv with hv
      subst hv
      simp [hrn']
    | false => rw [hb2] at hv; exact h1.get s v hv
/-- a new block in a drawn region -/
theorem t_alloc {t : TypeId} {zs : List Value} (hz : zvB P t zs) (hd : Nat.blt d n = true) (hl : lk d l = none)
    (h : TWL P ops w n Fin rest l ((d, fun u w2 => ∃ g, u = .pointer (some ⟨g, 0, none⟩) ∧ w.heap.size ≤ g ∧ Blk w2 g t zs) :: M)) : TWL P ops w n Fin (⟨some d, .alloc t, ty, pos, af, none⟩ :: rest) l M :=
  tr _ (fun v w1 w2 k h => by obtain ⟨g, h1, h2, h3⟩ := h; exact ⟨g, h1, h2, h3.mod0 k⟩) (fun w1 k => by
    have h2 := New.mk' w1 t zs
    exact ⟨_, _, r_alloc hz, h2.mod, _, rfl, k.size, h2.blk⟩) hd rfl hl h
end
/-- what is read from rows that begin with a value that a block lacks lies in another block -/
theorem Rep.off_ {A : List Nat} {w : World} {sz g T : Nat} {x : Value} {zs : List Value} {r : List D} {rows : List (List D)} {ad : Option Addr} {n c : Nat} (R : Rep A w (.sl sz ((.v x :: r) :: rows)) (.slice ad n c)) (hg : Blk w g T zs) (hx : x ∉ zs) : ∃ a, ad = some a ∧ a.block ≠ g := by
  obtain ⟨a, us, rfl, h2, h3, h4, _⟩ := R.at_ (i := 0) rfl
  refine ⟨a, rfl, fun e => hx ?_⟩
  obtain ⟨u, us', rfl, h5, _⟩ := h2
  have hu := h5.v_eq
  subst hu
  have hc := h4 0 _ rfl
  rw [Nat.zero_mul] at hc
  unfold World.cell? at hc
  rw [show (a.add 0).add 0 = a by simp [Addr.add], e, hg] at hc
  dsimp only at hc
  split at hc
  · cases hc
  · have : zs[a.off]? = some u := by simpa using hc
    exact List.mem_of_getElem? this
end Go.Proofs.YtkhbnhdlelmbnaaGreatDoor.V

set_option linter.unusedVariables false
set_option linter.unusedSimpArgs false
namespace Go.Proofs.YtkhbnhdlelmbnaaGreatDoor.V
open Go
namespace JV
def numV (n : Int) : JV := .mk 2 false n [] [] []
def lst (l : List JV) : JV := .mk 4 false 0 [] l []
theorem num_reps {A : List Nat} {w : World} {n : Int} : Reps A w (numV n).D [.int .i64 2, .bool false, .int .i64 n, S [], .slice none 0 0, .slice none 0 0] := by
  have := reps_ (A := A) (w := w) (v := numV n) (al := none) (am := none) (cl := 0) (cm := 0) Rep.sl_nil Rep.sl_nil
  exact this
theorem lst_reps {A : List Nat} {w : World} {l : List JV} {al : Option Addr} {cl : Nat} (R : Rep A w (.sl 6 (l.map D)) (.slice al l.length cl)) : Reps A w (lst l).D [.int .i64 4, .bool false, .int .i64 0, S [], .slice al l.length cl, .slice none 0 0] :=
  reps_ (v := lst l) (am := none) (cm := 0) R Rep.sl_nil
theorem txt_repsN {A : List Nat} {w : World} {s : Str} : Reps A w (txtV s).D [.int .i64 3, .bool false, .int .i64 0, S s, .slice none 0 0, .slice none 0 0] := txt_reps
theorem put_mem {m : List (Str × JV)} {k : Str} {x : JV} {p : Str × JV} (h : p ∈ putM m k x) : p ∈ m ∨ p = (k, x) := by
  unfold putM at h
  simp only [List.mem_append, List.mem_filter, List.mem_singleton] at h
  rcases h with (h | h) | h
  · exact .inl h.1
  · exact .inr h
  · exact .inl h.1
end JV
abbrev kAuth : Str := [97, 117, 116, 104, 95, 101, 118, 101, 110, 116, 115]
abbrev kCont : Str := [99, 111, 110, 116, 101, 110, 116]
abbrev kDepth : Str := [100, 101, 112, 116, 104]
abbrev kHashes : Str := [104, 97, 115, 104, 101, 115]
abbrev kSha : Str := [115, 104, 97, 50, 53, 54]
abbrev kOts : Str := [111, 114, 105, 103, 105, 110, 95, 115, 101, 114, 118, 101, 114, 95, 116, 115]
abbrev kPrev : Str := [112, 114, 101, 118, 95, 101, 118, 101, 110, 116, 115]
abbrev kRoom : Str := [114, 111, 111, 109, 95, 105, 100]
abbrev kSender : Str := [115, 101, 110, 100, 101, 114]
abbrev kSigs : Str := [115, 105, 103, 110, 97, 116, 117, 114, 101, 115]
abbrev kType : Str := [116, 121, 112, 101]
abbrev kState : Str := [115, 116, 97, 116, 101, 95, 107, 101, 121]
namespace EV
open JV
/-- a server's signatures so far -/
def one (m : List (Str × JV)) (k : Str) : JV := (look m k).getD JV.nul
def sgStep (m : List (Str × JV)) (s : Sig3) : List (Str × JV) := putM m s.srv (obj (putM (one m s.srv).map s.key (txtV s.sig)))
def sg (l : List Sig3) (k : Nat) : List (Str × JV) := (l.take k).foldl sgStep []
theorem sg_zero (l : List Sig3) : sg l 0 = [] := by simp [sg]
theorem sg_succ {l : List Sig3} {k : Nat} {s : Sig3} (h : l[k]? = some s) : sg l (k + 1) = sgStep (sg l k) s := by
  have hlt := (List.getElem?_eq_some_iff.1 h).1
  rw [sg, List.take_succ_eq_append_getElem hlt, (List.getElem?_eq_some_iff.1 h).2, List.foldl_append]
  rfl
structure SgI (m : List (Str × JV)) (n : Nat) : Prop where
  asc : ascM m
  len : m.length ≤ n
  each : ∀ p ∈ m, ∃ m', p.2 = obj m' ∧ ascM m' ∧ m'.length ≤ n
theorem SgI.one_ {m : List (Str × JV)} {n : Nat} (h : SgI m n) (k : Str) : (one m k).tbl = (one m k).map ∧ ascM (one m k).map ∧ (one m k).map.length ≤ n := by
  unfold one
  cases hl : look m k with
  | none => exact ⟨by simp [JV.nul, JV.tbl, JV.map, JV.kind], by simp [JV.nul, JV.map, ascM], by simp [JV.nul, JV.map]⟩
  | some y =>
    obtain ⟨m', h1, h2, h3⟩ := h.each _ (look_some hl)
    have h1' : y = obj m' := h1
    subst h1'
    exact ⟨by simp [obj, tbl, map, kind], h2, h3⟩
theorem SgI.step {m : List (Str × JV)} {n : Nat} {s : Sig3} (h : SgI m n) : SgI (sgStep m s) (n + 1) := by
  obtain ⟨_, h2, h3⟩ := h.one_ s.srv
  refine ⟨ascM_put h.asc, Nat.le_trans (putM_len h.asc) (by have := h.len; omega), fun p hp => ?_⟩
  rcases put_mem hp with hp | rfl
  · obtain ⟨m', h4, h5, h6⟩ := h.each p hp
    exact ⟨m', h4, h5, by omega⟩
  · exact ⟨_, rfl, ascM_put h2, Nat.le_trans (putM_len h2) (by omega)⟩
theorem sg_inv (l : List Sig3) : ∀ k, SgI (sg l k) k
  | 0 => by rw [sg_zero]; exact ⟨by simp [ascM], by simp, by simp⟩
  | k + 1 => by
    rcases Nat.lt_or_ge k l.length with h | h
    · rw [sg_succ (List.getElem?_eq_getElem h)]
      exact (sg_inv l k).step
    · have e : sg l (k + 1) = sg l k := by unfold sg; rw [List.take_of_length_le (by omega), List.take_of_length_le h]
      rw [e]
      obtain ⟨h1, h2, h3⟩ := sg_inv l k
      exact ⟨h1, by omega, fun p hp => by obtain ⟨m', h4, h5, h6⟩ := h3 p hp; exact ⟨m', h4, h5, by omega⟩⟩
/-- the members -/
def mem10 (e : EV) : List (Str × JV) := [(kAuth, lst (e.auth.map txtV)), (kCont, e.con), (kDepth, numV e.dep), (kHashes, obj [(kSha, txtV e.hash)]), (kOts, numV e.time), (kPrev, lst (e.prev.map txtV)), (kRoom, txtV e.room), (kSender, txtV e.snd), (kSigs, obj (sg e.sigs e.sigs.length)), (kType, txtV e.ty)]
def memR (e : EV) : List (Str × JV) := e.mem10 ++ (if e.st then [(kState, txtV e.key)] else [])
def memV (e : EV) : List (Str × JV) := if e.st then putM e.mem10 kState (txtV e.key) else e.mem10
def val (e : EV) : JV := obj e.memV
theorem put10 (e : EV) : putAll e.mem10 10 = e.mem10 := by kernel_rfl
theorem putR (e : EV) : putAll e.memR e.memR.length = e.memV := by
  unfold memR memV
  cases e.st with
  | false => rw [if_neg (by simp), if_neg (by simp), List.append_nil]; exact e.put10
  | true =>
    rw [if_pos rfl, if_pos rfl]
    have h1 : (e.mem10 ++ [(kState, txtV e.key)])[10]? = some (kState, txtV e.key) := rfl
    have h2 := putAll_succ h1
    have h3 : putAll (e.mem10 ++ [(kState, txtV e.key)]) 10 = putAll e.mem10 10 := by rw [putAll, putAll]; rfl
    rw [h3, put10] at h2
    exact h2
/-- an event's text, and what is wrong -/
noncomputable def ern (e : EV) : Int := if e.chk ≠ 0 then e.chk else Go.Proofs.YtkhbnhdlelmbnaaGreatDoor.V.ern (e.val.wr 0 [])
noncomputable def txt (e : EV) : Str := if e.chk ≠ 0 then [] else bts (e.val.wr 0 [])
end EV
end Go.Proofs.YtkhbnhdlelmbnaaGreatDoor.V

set_option linter.unusedVariables false
set_option linter.unusedSimpArgs false
set_option maxRecDepth 10000
namespace Go.Proofs.YtkhbnhdlelmbnaaGreatDoor.V
open Go Go.Proofs
theorem ent74 : Ent Tryz.prog 74 := Ent.of Tryz.func74 (by kernel_rfl) (by kernel_rfl)
theorem ent105 : Ent Tryz.prog 105 := Ent.of Tryz.func105 (by kernel_rfl) (by kernel_rfl)
theorem c_jtext (w : World) (s : Str) : Calls Tryz.prog 74 [S s].toArray w (Ret fun u w' => u = .agg #[.int .i64 3, .bool false, .int .i64 0, S s, .slice none 0 0, .slice none 0 0] ∧ Mod [] w w') := by
 refine enter Tryz.func74 rfl rfl rfl (l := [(0, _)]) ⟨rfl, trivial⟩ ?_
 have E := Mod.refl [] w
 refine Cq fun K1 hK1 => Cr (s_alloc zv25 rfl fun g1 w1 N1 => ?_)
 have Lg1_E := N1.le E
 replace E := E.then N1.mod
 have Bg1 := N1.blk
 refine Ln (e_K (hK1 _ _ _ _ (Cq fun K2 hK2 => Cr (Zm rfl (Sv (o_build (cs := [_, _, _, _, _, _]) pl25 zv25 rfl rfl) (s_sta (vs := [_, _, _, _, _, _]) ag25 Bg1 rfl rfl rfl (by simp [Value.oneCell']) (by simp) fun w2 P2 => ?_))))))
 replace E := E.own P2.mod Lg1_E
 replace Bg1 : Blk w2 g1 _ [_, _, _, _, _, _] := P2.blk
 exact Ln (e_K (hK2 _ _ _ _ (cR (retc (vs := [_, _, _, _, _, _]) rfl ag25 rfl rfl (Bg1.cs rfl) ⟨rfl, E⟩))))

theorem c_text11 (w : World) (s : Str) : Calls Tryz.prog 72 [S s].toArray w (Ret fun u w' => u = .agg #[.int .i64 3, .bool false, .int .i64 0, S s, .slice none 0 0, .slice none 0 0] ∧ Mod [] w w') := by
 refine enter Tryz.func72 rfl rfl rfl (l := [(0, _)]) ⟨rfl, trivial⟩ ?_
 have E := Mod.refl [] w
 refine Cq fun K1 hK1 => Cr (s_alloc zv25 rfl fun g1 w1 N1 => ?_)
 have Lg1_E := N1.le E
 replace E := E.then N1.mod
 have Bg1 := N1.blk
 refine Ln (e_K (hK1 _ _ _ _ (Cq fun K2 hK2 => Cr (Zm rfl (Sv (o_build (cs := [_, _, _, _, _, _]) pl25 zv25 rfl rfl) (s_sta (vs := [_, _, _, _, _, _]) ag25 Bg1 rfl rfl rfl (by simp [Value.oneCell']) (by simp) fun w2 P2 => ?_))))))
 replace E := E.own P2.mod Lg1_E
 replace Bg1 : Blk w2 g1 _ [_, _, _, _, _, _] := P2.blk
 exact Ln (e_K (hK2 _ _ _ _ (cR (retc (vs := [_, _, _, _, _, _]) rfl ag25 rfl rfl (Bg1.cs rfl) ⟨rfl, E⟩))))

theorem c_jnum (w : World) (n : Int) : Calls Tryz.prog 76 [.int .i64 n].toArray w (Ret fun u w' => u = .agg #[.int .i64 2, .bool false, .int .i64 n, S [], .slice none 0 0, .slice none 0 0] ∧ Mod [] w w') := by
 refine enter Tryz.func76 rfl rfl rfl (l := [(0, _)]) ⟨rfl, trivial⟩ ?_
 have E := Mod.refl [] w
 refine Cq fun K1 hK1 => Cr (s_alloc zv25 rfl fun g1 w1 N1 => ?_)
 have Lg1_E := N1.le E
 replace E := E.then N1.mod
 have Bg1 := N1.blk
 refine Ln (e_K (hK1 _ _ _ _ (Cq fun K2 hK2 => Cr (Zm rfl (Sv (o_build (cs := [_, _, _, _, _, _]) pl25 zv25 rfl rfl) (s_sta (vs := [_, _, _, _, _, _]) ag25 Bg1 rfl rfl rfl (by simp [Value.oneCell']) (by simp) fun w2 P2 => ?_))))))
 replace E := E.own P2.mod Lg1_E
 replace Bg1 : Blk w2 g1 _ [_, _, _, _, _, _] := P2.blk
 exact Ln (e_K (hK2 _ _ _ _ (cR (retc (vs := [_, _, _, _, _, _]) rfl ag25 rfl rfl (Bg1.cs rfl) ⟨rfl, E⟩))))

theorem c_jlist (A : List Nat) (w : World) (hA : ∀ a ∈ A, a < w.heap.size) (l : List JV) (v : Value) (R : Rep A w (.sl 6 (l.map JV.D)) v) (hn : l.length ≤ 1000000) : Calls Tryz.prog 105 [v].toArray w (Ret fun u w' => ∃ us', u = .agg us'.toArray ∧ Reps A w' (JV.lst l).D us' ∧ Mod [] w w') := by
 refine enter Tryz.func105 rfl rfl rfl (l := [(0, _)]) ⟨rfl, trivial⟩ ?_
 have E := Mod.refl [] w
 obtain ⟨ad, c, rfl, hc1, hc2⟩ : ∃ ad c, v = .slice ad l.length c ∧ l.length ≤ c ∧ c ≤ 9223372036854775807 := by
  obtain ⟨ad, c, h1, h2, h3⟩ := R.sl_
  rw [List.length_map] at h1 h2
  exact ⟨ad, c, h1, h2, h3⟩
 obtain ⟨vs, hvs, hvl, hsrc⟩ := Src.rep0 (P := Tryz.prog) Tryz.underlying22 R
 rw [List.length_map] at hvl hsrc
 refine Cq fun K1 hK1 => Cr (s_alloc zv25 rfl fun g1 w1 N1 => ?_)
 have Lg1_E := N1.le E
 replace E := E.then N1.mod
 have Bg1 := N1.blk
 refine Ln (e_K (hK1 _ _ _ _ (Cq fun K2 hK2 => Cr (s_bslice (cs := []) sl22 zv25 rfl rfl rfl (by decide) rfl fun g2 w2 N2 => ?_))))
 have Lg2_E := N2.le E
 have Dg1_g2 := N2.ne Bg1
 replace Bg1 := Bg1.mod0 N2.mod
 replace E := E.then N2.mod
 have Bg2 := N2.blk
 refine Zm rfl (s_append sl22 rfl rfl (Own.all (c := 0) (cs := []) Bg2 rfl (by omega)) (hsrc _ E) (by decide) (by omega) (by omega) rfl fun v1 w3 A1 => ?_)
 have L1 : ∀ x ∈ ob v1, w.heap.size ≤ x := fun x hx => (A1.ob_ x hx).elim (fun h => by simp [ob] at h; subst h; exact Lg2_E) (fun h => Nat.le_trans (Nat.le_trans Lg2_E (Nat.le_of_lt Bg2.lt)) h)
 have D1 : ∀ x ∈ ob v1, x ≠ g1 := fun x hx => (A1.ob_ x hx).elim (fun h => by simp [ob] at h; subst h; exact Dg1_g2.symm) (fun h e => by have := Bg1.lt; omega)
 replace Bg1 := Bg1.mod A1.mod (fun h => by simp [ob] at h; exact Dg1_g2 h)
 replace E := E.trans' A1.mod (fun x hx => .inr (by simp [ob] at hx; subst hx; exact Lg2_E))
 have O1 : Own w3 25 6 v1 l.length vs := A1.own.same (by simp) (by simp)
 obtain ⟨ad2, c2, rfl, hd1, hd2⟩ := O1.form
 refine Sv (o_build (cs := [_, _, _, _, _, _]) pl25 zv25 rfl rfl) (s_sta (vs := [_, _, _, _, _, _]) ag25 Bg1 rfl rfl rfl (by simp [Value.oneCell']) (by simp) fun w4 P4 => ?_)
 replace E := E.own P4.mod Lg1_E
 replace O1 := O1.put P4.mod D1
 replace Bg1 : Blk w4 g1 _ [_, _, _, _, _, _] := P4.blk
 exact Ln (e_K (hK2 _ _ _ _ (cR (retc (vs := [_, _, _, _, _, _]) rfl ag25 rfl rfl (Bg1.cs rfl) ⟨_, rfl, JV.lst_reps (Own.rep O1 (hvs.to0 E) (fun r hr => by obtain ⟨x_, _, rfl⟩ := List.mem_map.1 hr; exact JV.D_len _) (by simp) (fun x hx h => by have := L1 x hx; have := hA x h; omega)), E⟩))))

theorem c_etexts (A : List Nat) (w : World) (hA : ∀ a ∈ A, a < w.heap.size) (xs : List Str) (ax : Option Addr) (cx : Nat) (R : Rep [] w (strD xs) (.slice ax xs.length cx)) (hn : xs.length ≤ 1000000) : Calls Tryz.prog 75 [.slice ax xs.length cx].toArray w (Ret fun u w' => ∃ us', u = .agg us'.toArray ∧ Reps A w' (JV.lst (xs.map JV.txtV)).D us' ∧ Mod [] w w') := by
 refine enter Tryz.func75 rfl rfl rfl (l := [(0, _)]) ⟨rfl, trivial⟩ ?_
 have E := Mod.refl [] w
 obtain ⟨_, c9, hfl, hcc1, hcc2⟩ := flat_len R
 injection hfl with _ _ hfc
 subst hfc
 refine Cq fun K1 hK1 => Cr (s_alloc zv25 rfl fun g1 w1 N1 => ?_)
 have Lg1_E := N1.le E
 replace E := E.then N1.mod
 have Bg1 := N1.blk
 refine Ln (e_K (hK1 _ _ _ _ (Cq fun K2 hK2 => Cr (Za rfl (Ln (e_K (hK2 _ _ _ _ (Cq fun K3 hK3 => Cq fun K4 hK4 => Cr (Zm rfl (Sv (o_len Tryz.underlying26 rfl) (Zm rfl (Ln ?_))))))))))))
 refine e_K (hK4 _ _ _ _ (cB (c_loop (σ := Nat × Value × List Value) (fun ⟨k, wv, vs⟩ => [(2, .pointer (some ⟨g1, 0, none⟩)), (3, wv), (6, .slice ax xs.length cx), (7, .int .i64 xs.length), (8, .int .i64 (k : Int))]) (fun ⟨k, wv, vs⟩ w1 => k ≤ xs.length ∧ GL (g1 :: A) w w1 25 6 wv k ((xs.take k).map fun s => (JV.txtV s).D) vs ∧ Blk w1 g1 25 [.int .i64 0, .bool false, .int .i64 0, S [], .slice none 0 0, .slice none 0 0] ∧ Mod [] w w1) (fun ⟨k, wv, vs⟩ => xs.length - k) (⟨0, .slice none 0 0, []⟩) ⟨rfl, rfl, rfl, rfl, rfl, trivial⟩ (⟨by omega, GL.nil (fun a ha => by rcases List.mem_cons.1 ha with rfl | ha; exact Bg1.lt; exact Nat.lt_of_lt_of_le (hA a ha) E.size), Bg1, E⟩) ?_)))
 rintro ⟨k, wv, vs⟩ w2 ⟨hk, GG, Bg1, E⟩
 have Ek := Mod.refl [] w2
 refine Cq fun K5 hK5 => Cr (Sv (o_lss rfl rfl) (Ln (e_K (hK5 _ _ _ _ (Cq fun K6 hK6 => ?_)))))
 refine c_if rfl (fun h9 => ?_) (fun h9 => ?_)
 ·obtain ⟨x, hx_x⟩ : ∃ x, xs[k]? = some x := ⟨_, List.getElem?_eq_getElem (by omega)⟩
  obtain ⟨a_x, ha_x, hcs_x, _⟩ := flat_at (R.to0 E) hx_x
  cases ha_x
  refine cK (e_K (hK6 _ _ _ _ (Cq fun K7 hK7 => cB (Cq fun K8 hK8 => Cr (Sv (o_ix sl26 rfl rfl (by omega)) (Sv (oL sc9 rfl hcs_x.first) (Za rfl (Ln (e_K (hK8 _ _ _ _ (Cr (Zm rfl (Zm rfl ?_)))))))))))))
  refine sc (oC ent74 rfl) (c_jtext _ x) rfl fun v_ w3 h_ => ?_
  obtain ⟨rfl, E_⟩ := h_
  replace Bg1 := Bg1.mod0 E_
  replace E := E.then E_
  replace Ek := Ek.then E_
  refine s_bslice (cs := [_, _, _, _, _, _]) sl22 zv25 rfl rfl rfl (by decide) rfl fun g2 w4 N2 => ?_
  have Lg2_E := N2.le E
  have Lg2_Ek := N2.le Ek
  have Dg1_g2 := N2.ne Bg1
  replace Bg1 := Bg1.mod0 N2.mod
  replace E := E.then N2.mod
  replace Ek := Ek.then N2.mod
  have Bg2 := N2.blk
  have GN := GG.mod0 Ek
  refine s_append sl22 rfl rfl GN.own (Src.own Tryz.underlying22 (Own.all (cs := [_, _, _, _, _, _]) Bg2 rfl (by omega)) (by simp [Value.oneCell', B8])) (by decide) (by omega) (by omega) rfl fun wv2 w5 AA => ?_
  replace Bg1 := Bg1.mod AA.mod (fun hx => GN.dj _ hx (by simp))
  have GG2 := GN.app E AA rfl JV.txt_repsN
  rw [← take_map_succ (fun s => (JV.txtV s).D) hx_x] at GG2
  replace E := E.trans' AA.mod (fun y hy => .inr (GN.fr y hy))
  exact Za rfl (Ln (eI (by simp) (e_K (hK7 _ _ _ _ (Cr (Sv (o_addN rfl rfl (by omega)) (Zm rfl (Ln (eR (σ := Nat × Value × List Value) (s := ⟨k, wv, vs⟩) (⟨k + 1, wv2, vs ++ _⟩) ⟨rfl, rfl, rfl, rfl, rfl, trivial⟩ ⟨by omega, GG2, Bg1, E⟩ (by dsimp only; omega))))))))))
 ·have hkl : k = xs.length := by omega
  subst hkl
  have RL0 := GG.rep (fun r hr => by obtain ⟨x_, _, rfl⟩ := List.mem_map.1 hr; exact JV.D_len _) (by simp)
  rw [List.take_length, show (xs.map fun s => (JV.txtV s).D) = (xs.map JV.txtV).map JV.D by simp] at RL0
  refine c_exit (eT (by simp) (eT (by simp) (e_hit (e_K (hK3 _ _ _ _ (Cq fun K9 hK9 => Cr (Zm rfl (sc (oC ent105 rfl) (c_jlist (g1 :: A) _ GG.al (xs.map JV.txtV) _ RL0 (by simp; omega)) rfl fun v_ w6 h_ => ?_))))))))
  obtain ⟨us3, rfl, Rx3, E_⟩ := h_
  replace Bg1 := Bg1.mod0 E_
  replace E := E.then E_
  replace Ek := Ek.then E_
  obtain ⟨al3, cl3, am3, cm3, rfl, Rl3, Rm3⟩ := JV.cells_ Rx3
  replace Rx3 := JV.reps_ Rl3 Rm3
  refine s_sta (vs := [_, _, _, _, _, _]) ag25 Bg1 rfl rfl rfl (by simp [Value.oneCell']) (by simp) fun w7 P7 => ?_
  replace E := E.own P7.mod Lg1_E
  replace Bg1 : Blk w7 g1 _ [_, _, _, _, _, _] := P7.blk
  replace Rx3 := Rx3.toM P7.mod (fun a ha => by simp [List.mem_singleton.1 ha])
  exact Ln (e_K (hK9 _ _ _ _ (cR (retc (vs := [_, _, _, _, _, _]) rfl ag25 rfl rfl (Bg1.cs rfl) ⟨_, rfl, Rx3.anti (A' := A) (fun a ha => by simp [ha]), E⟩))))
end Go.Proofs.YtkhbnhdlelmbnaaGreatDoor.V

set_option linter.unusedVariables false
set_option linter.unusedSimpArgs false
namespace Go.Proofs.YtkhbnhdlelmbnaaGreatDoor.V
open Go
theorem GL.new {A : List Nat} {w0 w1 w2 : World} {g e sz n : Nat} {cs : List Value} {rows : List (List D)} (N : New w1 w2 g e cs) (R : Reps A w1 rows.flatten cs) (hA : ∀ a ∈ A, a < w1.heap.size) (h0 : w0.heap.size ≤ w1.heap.size) (hl : cs.length = n * sz) (hn : n ≤ 9223372036854775807) : GL A w0 w2 e sz (.slice (some ⟨g, 0, none⟩) n n) n rows cs := by
  have hg := N.at_
  refine ⟨Own.all N.blk hl hn, Reps.to N.mod (by simp) (fun x hx => ?_) _ _ R, fun y hy => ?_, fun y hy ha => ?_, fun a ha => Nat.lt_of_lt_of_le (hA a ha) N.mod.size⟩
  · rcases List.mem_append.1 hx with h | h
    · exact .inl h
    · simp only [ob, List.mem_singleton] at h
      exact .inr (by omega)
  · simp only [ob, List.mem_singleton] at hy
    omega
  · simp only [ob, List.mem_singleton] at hy
    have := hA y ha
    omega
theorem GL.bs {P : Program} {l : List (Nat × Value)} {dd : Option Nat} {t : TypeId} {ty : TypeId} {pos : String} {af : Array Edge} {gg : Option (Nat × Bool)} {ps : List (Nat × Operand)} {us : List (Nat × Value)} {e c sz by_ : Nat} {zs cs : List Value} {A : List Nat} {w0 w : World} {rows : List (List D)} (ht : slB P t e sz by_ = true) (hz : zvB P e zs) (hx : evP l ps = some us)
    (hf : fillF (fun i => some (i * sz, sz)) ((List.replicate c zs).flatten) us = some cs) (hzl : zs.length = sz) (hc : c * sz ≤ 16777216) (R : Reps A w rows.flatten cs) (hA : ∀ a ∈ A, a < w.heap.size) (h0 : w0.heap.size ≤ w.heap.size) (hl : cs.length = c * sz) (hn : c ≤ 9223372036854775807) :
    ∃ v w2, Runs P l ⟨dd, .buildSlice t c ps.toArray, ty, pos, af, gg⟩ w v w2 ∧ Mod [] w w2 ∧ ∃ vs, GL A w0 w2 e sz v c rows vs := by
  have N := New.mk' w e cs
  exact ⟨_, _, r_bslice ht hz hx hf hzl hc, N.mod, cs, GL.new N R hA h0 hl hn⟩
theorem GL.toM {A M : List Nat} {w0 w w' : World} {e sz n : Nat} {wv : Value} {rows : List (List D)} {vs : List Value} (G : GL A w0 w e sz wv n rows vs) (k : Mod M w w') (hM : ∀ x ∈ M, x ∈ A) : GL A w0 w' e sz wv n rows vs :=
  ⟨G.own.mod k (fun x hx h => G.dj x hx (hM x h)), G.rd.toM k (fun x hx => List.mem_append_left _ (hM x hx)), G.fr, G.dj, fun a ha => Nat.lt_of_lt_of_le (G.al a ha) k.size⟩
theorem bslice_blk {P : Program} {l : List (Nat × Value)} {dd : Option Nat} {t : TypeId} {ty : TypeId} {pos : String} {af : Array Edge} {gg : Option (Nat × Bool)} {ps : List (Nat × Operand)} {us : List (Nat × Value)} {e c sz by_ : Nat} {zs cs : List Value} {w : World} (ht : slB P t e sz by_ = true) (hz : zvB P e zs) (hx : evP l ps = some us)
    (hf : fillF (fun i => some (i * sz, sz)) ((List.replicate c zs).flatten) us = some cs) (hzl : zs.length = sz) (hc : c * sz ≤ 16777216) :
    ∃ w2, Runs P l ⟨dd, .buildSlice t c ps.toArray, ty, pos, af, gg⟩ w (.slice (some ⟨w.heap.size, 0, none⟩) c c) w2 ∧ Mod [] w w2 ∧ Blk w2 w.heap.size e cs := by
  have N := New.mk' w e cs
  exact ⟨_, r_bslice ht hz hx hf hzl hc, N.mod, N.blk⟩
theorem Blk.neT {w : World} {g g' T T' : Nat} {cs cs' : List Value} (h : Blk w g T cs) (h' : Blk w g' T' cs') (hT : T ≠ T') : g ≠ g' := fun e => by
  subst e
  unfold Blk at h h'
  rw [h] at h'
  injection h' with h'
  injection h' with _ h'
  exact hT h'
theorem JV.lst_repsN {A : List Nat} {w : World} {l : List JV} {al : Option Addr} {cl n : Nat} (hn : l.length = n) (R : Rep A w (.sl 6 (l.map JV.D)) (.slice al n cl)) : Reps A w (JV.lst l).D [.int .i64 4, .bool false, .int .i64 0, S [], .slice al n cl, .slice none 0 0] := by
  subst hn
  exact JV.lst_reps R
theorem RepRow.flat_ {A A' : List Nat} {w : World} {a : Addr} : ∀ {j : Nat} {r : List D}, (∀ d ∈ r, (∃ x, d = .v x) ∨ ∃ sz, d = .sl sz []) → RepRow A w a j r → RepRow A' w a j r
  | j, [], _, _ => by simp only [RepRow]
  | j, d :: ds, hd, h => by
    simp only [RepRow] at h ⊢
    obtain ⟨⟨u, hc, hr⟩, ht⟩ := h
    refine ⟨⟨u, hc, ?_⟩, RepRow.flat_ (fun d' h' => hd d' (List.mem_cons_of_mem _ h')) ht⟩
    rcases hd d (List.mem_cons_self ..) with ⟨x, rfl⟩ | ⟨sz, rfl⟩
    · simpa only [Rep] using hr
    · simp only [Rep] at hr ⊢
      obtain ⟨ad, c, h1, h2, h3, _⟩ := hr
      exact ⟨ad, c, h1, h2, h3, fun h => absurd rfl h⟩
theorem RepRows.flat_ {A A' : List Nat} {w : World} {sz : Nat} {a : Addr} : ∀ {i : Nat} {rows : List (List D)}, (∀ r ∈ rows, ∀ d ∈ r, (∃ x, d = .v x) ∨ ∃ sz, d = .sl sz []) → RepRows A w sz a i rows → RepRows A' w sz a i rows
  | i, [], _, _ => by simp only [RepRows]
  | i, r :: rs, hd, h => by
    simp only [RepRows] at h ⊢
    exact ⟨h.1, RepRow.flat_ (hd r (List.mem_cons_self ..)) h.2.1, RepRows.flat_ (fun r' h' => hd r' (List.mem_cons_of_mem _ h')) h.2.2⟩
/-- a list of texts is read from no block that has zeros alone -/
theorem JV.txts_off {A : List Nat} {w : World} {xs : List Str} {ad : Option Addr} {n c g T : Nat} (R : Rep A w (.sl 6 ((xs.map JV.txtV).map JV.D)) (.slice ad n c)) (hg : Blk w g T [.int .i64 0, .bool false, .int .i64 0, S [], .slice none 0 0, .slice none 0 0]) : Rep (g :: A) w (.sl 6 ((xs.map JV.txtV).map JV.D)) (.slice ad n c) := by
  cases xs with
  | nil =>
    simp only [List.map_nil] at R ⊢
    simp only [Rep] at R ⊢
    obtain ⟨ad', c', h1, h2, h3, _⟩ := R
    exact ⟨ad', c', h1, h2, h3, fun h => absurd rfl h⟩
  | cons x r =>
    have hD : ∀ y : Str, (JV.txtV y).D = [.v (.int .i64 3), .v (.bool false), .v (.int .i64 0), .v (S y), .sl 6 [], .sl 7 []] := fun y => by rw [JV.D_eq]; rfl
    have R0 := R
    simp only [List.map_cons, hD] at R0
    obtain ⟨a, rfl, ha⟩ := Rep.off_ R0 hg (by simp [S])
    simp only [Rep] at R ⊢
    obtain ⟨ad', c', h1, h2, h3, h4⟩ := R
    refine ⟨ad', c', h1, h2, h3, fun hn => ?_⟩
    obtain ⟨a', h7, h8, h9, h10⟩ := h4 hn
    injection h1 with h1 h5 h6
    have h11 : some a = some a' := h1.trans h7
    injection h11 with h11
    subst h11
    refine ⟨a, h7, fun h => (List.mem_cons.1 h).elim ha h8, h9, RepRows.flat_ (fun r' hr' d hd => ?_) h10⟩
    obtain ⟨v, hv, rfl⟩ := List.mem_map.1 hr'
    obtain ⟨y, _, rfl⟩ := List.mem_map.1 hv
    rw [hD] at hd
    simp only [List.mem_cons, List.not_mem_nil, or_false] at hd
    rcases hd with rfl | rfl | rfl | rfl | rfl | rfl
    all_goals first | exact .inl ⟨_, rfl⟩ | exact .inr ⟨_, rfl⟩
theorem JV.ltx_off {A : List Nat} {w : World} {xs : List Str} {us : List Value} {g T : Nat} (R : Reps A w (JV.lst (xs.map JV.txtV)).D us) (hg : Blk w g T [.int .i64 0, .bool false, .int .i64 0, S [], .slice none 0 0, .slice none 0 0]) : Reps (g :: A) w (JV.lst (xs.map JV.txtV)).D us := by
  obtain ⟨al, cl, am, cm, rfl, rl, rm⟩ := JV.cells_ R
  refine JV.reps_ (JV.txts_off rl hg) ?_
  have rm' : Rep A w (.sl 7 []) (.slice am 0 cm) := rm
  show Rep (g :: A) w (.sl 7 []) (.slice am 0 cm)
  simp only [Rep] at rm' ⊢
  obtain ⟨ad', c', h1, h2, h3, _⟩ := rm'
  exact ⟨ad', c', h1, h2, h3, fun h => absurd rfl h⟩
theorem bslice_ex {P : Program} {l : List (Nat × Value)} {dd : Option Nat} {t : TypeId} {ty : TypeId} {pos : String} {af : Array Edge} {gg : Option (Nat × Bool)} {ps : List (Nat × Operand)} {us : List (Nat × Value)} {e c sz by_ : Nat} {zs cs : List Value} {w : World} {V : Value → World → Prop} (ht : slB P t e sz by_ = true) (hz : zvB P e zs) (hx : evP l ps = some us)
    (hf : fillF (fun i => some (i * sz, sz)) ((List.replicate c zs).flatten) us = some cs) (hzl : zs.length = sz) (hc : c * sz ≤ 16777216) (hV : ∀ w2, Mod [] w w2 → Blk w2 w.heap.size e cs → V (.slice (some ⟨w.heap.size, 0, none⟩) c c) w2) :
    ∃ v w2, Runs P l ⟨dd, .buildSlice t c ps.toArray, ty, pos, af, gg⟩ w v w2 ∧ Mod [] w w2 ∧ V v w2 := by
  obtain ⟨w2, h1, h2, h3⟩ := bslice_blk (P := P) (l := l) (dd := dd) (ty := ty) (pos := pos) (af := af) (gg := gg) ht hz hx hf hzl hc (w := w)
  exact ⟨_, w2, h1, h2, hV w2 h2 h3⟩
theorem JV.rows_cons {A : List Nat} {w : World} {p : Str × JV} {m : List (Str × JV)} {us vs : List Value} (h : Reps A w (JV.Dp p) us) (h' : Reps A w (m.map JV.Dp).flatten vs) : Reps A w ((p :: m).map JV.Dp).flatten (us ++ vs) := by
  rw [List.map_cons, List.flatten_cons]
  exact h.append h'
theorem JV.rows_nil {A : List Nat} {w : World} : Reps A w (([] : List (Str × JV)).map JV.Dp).flatten [] := Reps.nil_
theorem JV.row_len {m : List (Str × JV)} : ∀ r ∈ m.map JV.Dp, r.length = 7 := fun r hr => by
  obtain ⟨x, _, rfl⟩ := List.mem_map.1 hr
  exact JV.Dp_len x
theorem EV.get_one (m : List (Str × JV)) (k : Str) : ((JV.obj m).get k).getD JV.nul = EV.one m k := rfl
end Go.Proofs.YtkhbnhdlelmbnaaGreatDoor.V
