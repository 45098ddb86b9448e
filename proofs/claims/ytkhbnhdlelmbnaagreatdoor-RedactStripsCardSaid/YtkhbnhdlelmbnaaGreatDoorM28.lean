/-
  A part of the proof: walks of functions. No condition of its own.
-/
import Derived.Test.YtkhbnhdlelmbnaaGreatDoorM27
import Derived.Test.YtkhbnhdlelmbnaaGreatDoorM26
set_option linter.unusedVariables false
set_option linter.unusedSimpArgs false
set_option maxRecDepth 10000
namespace Go.Proofs.YtkhbnhdlelmbnaaGreatDoor.V
open Go Go.Proofs
theorem ent58 : Ent Tryz.prog 58 := Ent.of Tryz.func58 (by kernel_rfl) (by kernel_rfl)
theorem ent46 : Ent Tryz.prog 46 := Ent.of Tryz.func46 (by kernel_rfl) (by kernel_rfl)
theorem ent43 : Ent Tryz.prog 43 := Ent.of Tryz.func43 (by kernel_rfl) (by kernel_rfl)
theorem ent45 : Ent Tryz.prog 45 := Ent.of Tryz.func45 (by kernel_rfl) (by kernel_rfl)
theorem ent36 : Ent Tryz.prog 36 := Ent.of Tryz.func36 (by kernel_rfl) (by kernel_rfl)
theorem c_encode (w : World) (e : EV) (us : List Value) (R : Reps [] w e.D us) (ho : e.ok) (hsm : e.lens) (hf : e.few) (hT : Tab w) (hM : MaxL w) : Calls Tryz.prog 36 [.agg us.toArray].toArray w (Ret fun u w' => u = .tuple #[S e.txt, .int .i64 e.ern] ∧ Mod [] w w') := by
 refine enter Tryz.func36 rfl rfl rfl (l := [(0, _)]) ⟨rfl, trivial⟩ ?_
 have E := Mod.refl [] w
 obtain ⟨al, cl, am, cm, ap, cp, aa, ca, aS, cS, rfl, Rc, Rp, Ra, Rs⟩ := EV.cells17 R
 have R := EV.reps_ (e := e) Rc Rp Ra Rs
 refine Cq fun K1 hK1 => Cr (s_box rfl rfl rfl fun g1 w1 N1 => ?_)
 have Lg1_E := N1.le E
 replace E := E.then N1.mod
 have Bg1 := N1.blk
 refine Za rfl (Za rfl (Ln (e_K (hK1 _ _ _ _ (Cq fun K2 hK2 => Cq fun K3 hK3 => Cr (Sv (o_lda (vs := [_, _, _, _, _, _, _, _, _, _, _, _, _, _, _, _, _]) ag29 rfl rfl (Bg1.cs rfl)) (sc (oC ent58 rfl) (c_check _ e _ (R.to0 E) ho hsm (hT.mod E (by simp)) (hM.mod0 E)) rfl fun v_ w2 h_ => ?_)))))))
 obtain ⟨rfl, E_⟩ := h_
 replace Bg1 := Bg1.mod0 E_
 replace E := E.then E_
 refine Za rfl (Ln (e_K (hK3 _ _ _ _ (Cq fun K4 hK4 => Cr (Zm rfl (Sv (o_neq rfl rfl) (Ln (e_K (hK4 _ _ _ _ ?_)))))))))
 refine c_if rfl (fun h8 => ?_) (fun h8 => ?_)
 ·exact Cq fun K5 hK5 => Cr (Zm rfl (Za rfl (Za rfl (Ln (e_K (hK5 _ _ _ _ (cR (eT (by simp) (ret2 rfl rfl rfl ⟨by rw [EV.txt, EV.ern, if_pos h8, if_pos h8], E⟩)))))))))
 ·refine cK (e_K (hK2 _ _ _ _ (Cq fun K6 hK6 => Cr (Sv (o_lda (vs := [_, _, _, _, _, _, _, _, _, _, _, _, _, _, _, _, _]) ag29 rfl rfl (Bg1.cs rfl)) (sc (oC ent46 rfl) (c_evalue [] _ (by simp) e _ (R.to0 E) hf.1 hf.2.1 hf.2.2) rfl fun v_ w3 h_ => ?_)))))
  obtain ⟨us9, rfl, Rv, E_⟩ := h_
  replace Bg1 := Bg1.mod0 E_
  replace E := E.then E_
  obtain ⟨al9, cl9, am9, cm9, rfl, Rl9, Rm9⟩ := JV.cells_ Rv
  replace Rv := JV.reps_ Rl9 Rm9
  have Ev := Mod.refl [] w3
  refine sc (oC ent48 rfl) (c_canon _ e.val _ (Rv.to0 Ev) (hT.mod E (by simp))) rfl fun v_ w4 h_ => ?_
  obtain ⟨rfl, E_⟩ := h_
  replace Bg1 := Bg1.mod0 E_
  replace E := E.then E_
  replace Ev := Ev.then E_
  exact Sv (o_ext rfl rfl) (Sv (o_ext rfl rfl) (Za rfl (Za rfl (Ln (e_K (hK6 _ _ _ _ (cR (ret2 rfl rfl rfl ⟨by rw [EV.txt, EV.ern, if_neg h8, if_neg h8]; try rfl, E⟩))))))))

theorem c_encodeR (w : World) (e : EV) (us : List Value) (R : Reps [] w e.D us) (ho : e.ok) (hsm : e.lens) (hf : e.few) (hT : Tab w) (hM : MaxL w) : Calls Tryz.prog 28 [.agg us.toArray].toArray w (Ret fun u w' => u = .tuple #[S e.txt, .int .i64 e.ern] ∧ Mod [] w w') := by
 refine enter Tryz.func28 rfl rfl rfl (l := [(0, _)]) ⟨rfl, trivial⟩ ?_
 have E := Mod.refl [] w
 obtain ⟨al, cl, am, cm, ap, cp, aa, ca, aS, cS, rfl, Rc, Rp, Ra, Rs⟩ := EV.cells17 R
 have R := EV.reps_ (e := e) Rc Rp Ra Rs
 refine Cq fun K1 hK1 => Cr (s_box rfl rfl rfl fun g1 w1 N1 => ?_)
 have Lg1_E := N1.le E
 replace E := E.then N1.mod
 have Bg1 := N1.blk
 refine Za rfl (Za rfl (Ln (e_K (hK1 _ _ _ _ (Cq fun K2 hK2 => Cr (Sv (o_lda (vs := [_, _, _, _, _, _, _, _, _, _, _, _, _, _, _, _, _]) ag29 rfl rfl (Bg1.cs rfl)) (sc (oC ent43 rfl) (c_checkR _ e _ (R.to0 E) ho (hT.mod E (by simp))) rfl fun v_ w2 h_ => ?_)))))))
 obtain ⟨rfl, E_⟩ := h_
 replace Bg1 := Bg1.mod0 E_
 replace E := E.then E_
 refine Za rfl (Ln (e_K (hK2 _ _ _ _ (Cq fun K3 hK3 => Cq fun K4 hK4 => Cr (Zm rfl (Sv (o_neq rfl rfl) (Ln (e_K (hK4 _ _ _ _ ?_)))))))))
 refine c_if rfl (fun h8 => ?_) (fun h8 => ?_)
 ·exact Cq fun K5 hK5 => Cr (Zm rfl (Za rfl (Za rfl (Ln (e_K (hK5 _ _ _ _ (cR (eT (by simp) (ret2 rfl rfl rfl ⟨by rw [EV.txt, EV.ern, if_pos h8, if_pos h8], E⟩)))))))))
 ·refine cK (e_K (hK3 _ _ _ _ (Cq fun K6 hK6 => Cr (Sv (o_lda (vs := [_, _, _, _, _, _, _, _, _, _, _, _, _, _, _, _, _]) ag29 rfl rfl (Bg1.cs rfl)) (sc (oC ent45 rfl) (c_evalueR [] _ (by simp) e _ (R.to0 E) hf.1 hf.2.1 hf.2.2) rfl fun v_ w3 h_ => ?_)))))
  obtain ⟨us9, rfl, Rv, E_⟩ := h_
  replace Bg1 := Bg1.mod0 E_
  replace E := E.then E_
  obtain ⟨al9, cl9, am9, cm9, rfl, Rl9, Rm9⟩ := JV.cells_ Rv
  replace Rv := JV.reps_ Rl9 Rm9
  have Ev := Mod.refl [] w3
  refine sc (oC ent44 rfl) (c_canonR _ e.val _ (Rv.to0 Ev) (hT.mod E (by simp))) rfl fun v_ w4 h_ => ?_
  obtain ⟨rfl, E_⟩ := h_
  replace Bg1 := Bg1.mod0 E_
  replace E := E.then E_
  replace Ev := Ev.then E_
  exact Sv (o_ext rfl rfl) (Sv (o_ext rfl rfl) (Za rfl (Za rfl (Ln (e_K (hK6 _ _ _ _ (cR (ret2 rfl rfl rfl ⟨by rw [EV.txt, EV.ern, if_neg h8, if_neg h8]; try rfl, E⟩))))))))

theorem c_same11y (w : World) (e : EV) (y : JV) (us vs : List Value) (R : Reps [] w e.D us) (R2 : Reps [] w (e.wc y).D vs) (ho : e.ok) : Calls Tryz.prog 8 [.agg us.toArray, .agg vs.toArray].toArray w (Ret fun u w' => u = .bool (JV.eqJ e.con y) ∧ Mod [] w w') := by
 refine enter Tryz.func8 rfl rfl rfl (l := [(0, _), (1, _)]) ⟨rfl, rfl, trivial⟩ ?_
 have E := Mod.refl [] w
 obtain ⟨al, cl, am, cm, ap, cp, aa, ca, aS, cS, rfl, Rc, Rp, Ra, Rs⟩ := EV.cells17 R
 obtain ⟨al2, cl2, am2, cm2, ap2, cp2, aa2, ca2, aS2, cS2, rfl, Rc2, Rp2, Ra2, Rs2⟩ := EV.cells17 R2
 obtain ⟨ho1, ho2, ho3, ho4, ho5, ho6, ho7, ho8, ho9, ho10, ho11, ho12⟩ := ho
 have hL : ¬ ((e.sigs.length : Int) ≠ e.sigs.length) := fun h => h rfl
 obtain ⟨_, c9a, hfla, hcc1a, hcc2a⟩ := flat_len Rs
 injection hfla with _ _ hfca
 subst hfca
 obtain ⟨_, c9b, hflb, hcc1b, hcc2b⟩ := flat_len Rs2
 injection hflb with _ _ hfcb
 subst hfcb
 refine Cq fun K1 hK1 => Cr (s_box rfl rfl rfl fun g1 w1 N1 => ?_)
 have Lg1_E := N1.le E
 replace E := E.then N1.mod
 have Bg1 := N1.blk
 refine s_box rfl rfl rfl fun g2 w2 N2 => ?_
 have Lg2_E := N2.le E
 have Dg1_g2 := N2.ne Bg1
 replace Bg1 := Bg1.mod0 N2.mod
 replace E := E.then N2.mod
 have Bg2 := N2.blk
 refine Za rfl (Ln (e_K (hK1 _ _ _ _ (Cq fun K2 hK2 => Cq fun K3 hK3 => Cr (Sv (oA0 fd29_0 rfl) (Sv (oL sc9 rfl (Bg1.cell rfl)) (Sv (oA0 fd29_0 rfl) (Sv (oL sc9 rfl (Bg2.cell rfl)) (Sv (o_sne rfl rfl) (Zm rfl (Sg rfl (dF (show ¬ (e.room ≠ e.room) from fun h => h rfl)) (oA0 fd29_1 rfl) (Sg rfl (dF (show ¬ (e.room ≠ e.room) from fun h => h rfl)) (oL sc9 rfl (Bg1.cell rfl)) ?_))))))))))))
 refine Sg rfl (dF (show ¬ (e.room ≠ e.room) from fun h => h rfl)) (oA0 fd29_1 rfl) (Sg rfl (dF (show ¬ (e.room ≠ e.room) from fun h => h rfl)) (oL sc9 rfl (Bg2.cell rfl)) (Sg rfl (dF (show ¬ (e.room ≠ e.room) from fun h => h rfl)) (o_sne rfl rfl) (Sv (oF (dF (show ¬ (e.room ≠ e.room) from fun h => h rfl)) rfl rfl) (Zm rfl (Sg rfl (dF (show ¬ (e.snd ≠ e.snd) from fun h => h rfl)) (oA0 fd29_2 rfl) (Sg rfl (dF (show ¬ (e.snd ≠ e.snd) from fun h => h rfl)) (oL sc9 rfl (Bg1.cell rfl)) (Sg rfl (dF (show ¬ (e.snd ≠ e.snd) from fun h => h rfl)) (oA0 fd29_2 rfl) (Sg rfl (dF (show ¬ (e.snd ≠ e.snd) from fun h => h rfl)) (oL sc9 rfl (Bg2.cell rfl)) (Sg rfl (dF (show ¬ (e.snd ≠ e.snd) from fun h => h rfl)) (o_sne rfl rfl) (Sv (oF (dF (show ¬ (e.snd ≠ e.snd) from fun h => h rfl)) rfl rfl) (Zm rfl (Sg rfl (dF (show ¬ (e.ty ≠ e.ty) from fun h => h rfl)) (oA0 fd29_3 rfl) (Sg rfl (dF (show ¬ (e.ty ≠ e.ty) from fun h => h rfl)) (oL sc4 rfl (Bg1.cell rfl)) ?_)))))))))))))
 refine Sg rfl (dF (show ¬ (e.ty ≠ e.ty) from fun h => h rfl)) (oA0 fd29_3 rfl) (Sg rfl (dF (show ¬ (e.ty ≠ e.ty) from fun h => h rfl)) (oL sc4 rfl (Bg2.cell rfl)) (Sg rfl (dF (show ¬ (e.ty ≠ e.ty) from fun h => h rfl)) (o_bsne Tryz.underlying4 rfl rfl) (Sv (oF (dF (show ¬ (e.ty ≠ e.ty) from fun h => h rfl)) rfl rfl) (Zm rfl (Sg rfl ((show (e.st != e.st) = false by simp)) (oA0 fd29_4 rfl) (Sg rfl ((show (e.st != e.st) = false by simp)) (oL sc9 rfl (Bg1.cell rfl)) (Sg rfl ((show (e.st != e.st) = false by simp)) (oA0 fd29_4 rfl) (Sg rfl ((show (e.st != e.st) = false by simp)) (oL sc9 rfl (Bg2.cell rfl)) (Sg rfl ((show (e.st != e.st) = false by simp)) (o_sne rfl rfl) (Sv (oF ((show (e.st != e.st) = false by simp)) rfl rfl) (Zm rfl (Sg rfl (dF (show ¬ (e.key ≠ e.key) from fun h => h rfl)) (oA0 fd29_8 rfl) (Sg rfl (dF (show ¬ (e.key ≠ e.key) from fun h => h rfl)) (oL sc3 rfl (Bg1.cell rfl)) ?_)))))))))))))
 refine Sg rfl (dF (show ¬ (e.key ≠ e.key) from fun h => h rfl)) (oA0 fd29_8 rfl) (Sg rfl (dF (show ¬ (e.key ≠ e.key) from fun h => h rfl)) (oL sc3 rfl (Bg2.cell rfl)) (Sg rfl (dF (show ¬ (e.key ≠ e.key) from fun h => h rfl)) (o_neq rfl rfl) (Sv (oF (dF (show ¬ (e.key ≠ e.key) from fun h => h rfl)) rfl rfl) (Zm rfl (Sg rfl (dF (show ¬ ((e.dep : Int) ≠ (e.dep : Int)) from fun h => h rfl)) (oA0 fd29_9 rfl) (Sg rfl (dF (show ¬ ((e.dep : Int) ≠ (e.dep : Int)) from fun h => h rfl)) (oL sc3 rfl (Bg1.cell rfl)) (Sg rfl (dF (show ¬ ((e.dep : Int) ≠ (e.dep : Int)) from fun h => h rfl)) (oA0 fd29_9 rfl) (Sg rfl (dF (show ¬ ((e.dep : Int) ≠ (e.dep : Int)) from fun h => h rfl)) (oL sc3 rfl (Bg2.cell rfl)) (Sg rfl (dF (show ¬ ((e.dep : Int) ≠ (e.dep : Int)) from fun h => h rfl)) (o_neq rfl rfl) (Sv (oF (dF (show ¬ ((e.dep : Int) ≠ (e.dep : Int)) from fun h => h rfl)) rfl rfl) (Zm rfl (Sg rfl (dF (show ¬ ((e.time : Int) ≠ (e.time : Int)) from fun h => h rfl)) (oA0 fd29_10 rfl) (Sg rfl (dF (show ¬ ((e.time : Int) ≠ (e.time : Int)) from fun h => h rfl)) (oL sc9 rfl (Bg1.cell rfl)) ?_)))))))))))))
 refine Sg rfl (dF (show ¬ ((e.time : Int) ≠ (e.time : Int)) from fun h => h rfl)) (oA0 fd29_10 rfl) (Sg rfl (dF (show ¬ ((e.time : Int) ≠ (e.time : Int)) from fun h => h rfl)) (oL sc9 rfl (Bg2.cell rfl)) (Sg rfl (dF (show ¬ ((e.time : Int) ≠ (e.time : Int)) from fun h => h rfl)) (o_sne rfl rfl) (Sv (oF (dF (show ¬ ((e.time : Int) ≠ (e.time : Int)) from fun h => h rfl)) rfl rfl) (Zm rfl (Sg rfl (dF (show ¬ (e.hash ≠ e.hash) from fun h => h rfl)) (oA0 fd29_11 rfl) (Sg rfl (dF (show ¬ (e.hash ≠ e.hash) from fun h => h rfl)) (oL sc27 rfl (Bg1.cell rfl)) (Sg rfl (dF (show ¬ (e.hash ≠ e.hash) from fun h => h rfl)) (o_len Tryz.underlying27 rfl) (Sg rfl (dF (show ¬ (e.hash ≠ e.hash) from fun h => h rfl)) (oA0 fd29_11 rfl) (Sg rfl (dF (show ¬ (e.hash ≠ e.hash) from fun h => h rfl)) (oL sc27 rfl (Bg2.cell rfl)) (Sg rfl (dF (show ¬ (e.hash ≠ e.hash) from fun h => h rfl)) (o_len Tryz.underlying27 rfl) (Sg rfl (dF (show ¬ (e.hash ≠ e.hash) from fun h => h rfl)) (o_neq rfl rfl) (Sv (oF (dF (show ¬ (e.hash ≠ e.hash) from fun h => h rfl)) rfl rfl) (Ln ?_)))))))))))))
 refine e_K (hK3 _ _ _ _ (c_if rfl (fun h68 => absurd h68 hL) (fun h68 => cK (e_K (hK2 _ _ _ _ (Cq fun K4 hK4 => Cq fun K5 hK5 => Cr (Sv (oA0 fd29_11 rfl) (Sv (oL sc27 rfl (Bg1.cell rfl)) (Sv (o_len Tryz.underlying27 rfl) (Zm rfl (Ln (e_K (hK5 _ _ _ _ (cB ?_))))))))))))))
 refine c_loop (σ := Nat) (fun k => [(2, .pointer (some ⟨g1, 0, none⟩)), (3, .pointer (some ⟨g2, 0, none⟩)), (71, .int .i64 (e.sigs.length : Int)), (72, .int .i64 (k : Int))]) (fun k w1 => k ≤ e.sigs.length ∧ Blk w1 g1 29 [S e.room, S e.snd, S e.ty, .bool e.st, S e.key, .int .i64 e.con.kind, .bool e.con.is, .int .i64 e.con.num, S e.con.str, .slice al e.con.list.length cl, .slice am e.con.map.length cm, .slice ap e.prev.length cp, .slice aa e.auth.length ca, .int .i64 e.dep, .int .i64 e.time, S e.hash, .slice aS e.sigs.length cS] ∧ Blk w1 g2 29 [S (e.wc y).room, S (e.wc y).snd, S (e.wc y).ty, .bool (e.wc y).st, S (e.wc y).key, .int .i64 (e.wc y).con.kind, .bool (e.wc y).con.is, .int .i64 (e.wc y).con.num, S (e.wc y).con.str, .slice al2 (e.wc y).con.list.length cl2, .slice am2 (e.wc y).con.map.length cm2, .slice ap2 (e.wc y).prev.length cp2, .slice aa2 (e.wc y).auth.length ca2, .int .i64 (e.wc y).dep, .int .i64 (e.wc y).time, S (e.wc y).hash, .slice aS2 (e.wc y).sigs.length cS2] ∧ Mod [] w w1) (fun k => e.sigs.length - k) (0) ⟨rfl, rfl, rfl, rfl, trivial⟩ (⟨by omega, Bg1, Bg2, E⟩) ?_
 rintro k w3 ⟨hk, Bg1, Bg2, E⟩
 refine Cq fun K6 hK6 => Cr (Sv (o_lss rfl rfl) (Ln (e_K (hK6 _ _ _ _ (Cq fun K7 hK7 => ?_)))))
 refine c_if rfl (fun h73 => ?_) (fun h73 => ?_)
 ·obtain ⟨x, hx⟩ : ∃ x, e.sigs[k]? = some x := ⟨_, List.getElem?_eq_getElem (by omega)⟩
  obtain ⟨a_x, ha_x, hcs_x, _⟩ := flat_at (Rs.to0 E) hx
  obtain ⟨a_y, ha_y, hcs_y, _⟩ := flat_at (Rs2.to0 E) hx
  cases ha_x
  cases ha_y
  refine cK (e_K (hK7 _ _ _ _ (Cq fun K8 hK8 => cB (Cq fun K9 hK9 => Cr (Zm rfl (Za rfl (Ln (e_K (hK9 _ _ _ _ (Cq fun K10 hK10 => c_draw wide (by kernel_rfl) (tv (fun w_ E_ => (oA0 fd29_11 rfl)) rfl rfl (tv (fun w_ E_ => (oL sc27 rfl ((Bg1.mod0 E_).cell rfl))) rfl rfl ?_))))))))))))
  refine tv (fun w_ E_ => (oM rfl)) rfl rfl (tv (fun w_ E_ => (o_ix sl27 rfl rfl (by omega))) rfl rfl (tv (fun w_ E_ => (o_lda ag43 rfl rfl (hcs_x.mod0 E_))) rfl rfl (tv (fun w_ E_ => (oA0 fd29_11 rfl)) rfl rfl (tv (fun w_ E_ => (oL sc27 rfl ((Bg2.mod0 E_).cell rfl))) rfl rfl (tv (fun w_ E_ => (oM rfl)) rfl rfl (tv (fun w_ E_ => (o_ix sl27 rfl rfl (by omega))) rfl rfl (tv (fun w_ E_ => (o_lda ag43 rfl rfl (hcs_y.mod0 E_))) rfl rfl (tv (fun w_ E_ => ((o_stne (se43 ..) rfl rfl rfl).to (v' := .bool false) (by simp))) rfl rfl (tw_nil rfl fun w4 E_ => ?_)))))))))
  replace Bg1 := Bg1.mod0 E_
  replace Bg2 := Bg2.mod0 E_
  replace E := E.then E_
  exact e_K (hK10 _ _ _ _ (c_false rfl (cK (eI (by simp) (e_K (hK8 _ _ _ _ (Cr (Sv (o_addN rfl rfl (by omega)) (Zm rfl (Ln (eR (σ := Nat) (s := k) (k + 1) ⟨rfl, rfl, rfl, rfl, trivial⟩ ⟨by omega, Bg1, Bg2, E⟩ (by omega))))))))))))
 ·refine c_exit (eT (by simp) (eT (by simp) (e_hit (e_K (hK4 _ _ _ _ (Cq fun K11 hK11 => ?_))))))
  by_cases hk0 : (JV.eqJ e.con y) = true
  ·refine Cr (Sv (oA0 fd29_5 rfl) (Sv (o_lda (vs := [_, _, _, _, _, _]) ag25 rfl rfl (Bg1.cs rfl)) (Sv (oA0 fd29_5 rfl) (Sv (o_lda (vs := [_, _, _, _, _, _]) ag25 rfl rfl (Bg2.cs rfl)) (sc (oC ent24 rfl) (c_same _ e.con y _ _ (Rc.to0 E) (Rc2.to0 E)) rfl fun v_ w5 h_ => ?_)))))
   obtain ⟨rfl, E_⟩ := h_
   replace Bg1 := Bg1.mod0 E_
   replace Bg2 := Bg2.mod0 E_
   replace E := E.then E_
   refine Zm rfl (Sg rfl hk0 (oA0 fd29_6 rfl) (Sg rfl hk0 (oL sc26 rfl (Bg1.cell rfl)) (Sg rfl hk0 (oA0 fd29_6 rfl) (Sg rfl hk0 (oL sc26 rfl (Bg2.cell rfl)) (sgc rfl hk0 (oC ent25 rfl) (c_list11 _ e.prev ap ap2 cp cp2 (Rp.to0 E) (Rp2.to0 E) ho7) rfl fun v_ w6 h_ => ?_)))))
   obtain ⟨rfl, E_⟩ := h_
   replace Bg1 := Bg1.mod0 E_
   replace Bg2 := Bg2.mod0 E_
   replace E := E.then E_
   refine Sv (oT hk0 rfl rfl) (Zm rfl (Sg rfl rfl (oA0 fd29_7 rfl) (Sg rfl rfl (oL sc26 rfl (Bg1.cell rfl)) (Sg rfl rfl (oA0 fd29_7 rfl) (Sg rfl rfl (oL sc26 rfl (Bg2.cell rfl)) (sgc rfl rfl (oC ent25 rfl) (c_list11 _ e.auth aa aa2 ca ca2 (Ra.to0 E) (Ra2.to0 E) ho9) rfl fun v_ w7 h_ => ?_))))))
   obtain ⟨rfl, E_⟩ := h_
   replace Bg1 := Bg1.mod0 E_
   replace Bg2 := Bg2.mod0 E_
   replace E := E.then E_
   exact Sv (oT rfl rfl rfl) (Za rfl (Ln (e_K (hK11 _ _ _ _ (cR (ret1 rfl rfl ⟨congrArg Value.bool (by simp only [hk0, Bool.true_and, Bool.and_true, Bool.false_and, Bool.and_false, Bool.true_or, Bool.or_true, Bool.false_or, Bool.or_false, Bool.not_true, Bool.not_false]), E⟩))))))
  ·refine Cr (Sv (oA0 fd29_5 rfl) (Sv (o_lda (vs := [_, _, _, _, _, _]) ag25 rfl rfl (Bg1.cs rfl)) (Sv (oA0 fd29_5 rfl) (Sv (o_lda (vs := [_, _, _, _, _, _]) ag25 rfl rfl (Bg2.cs rfl)) (sc (oC ent24 rfl) (c_same _ e.con y _ _ (Rc.to0 E) (Rc2.to0 E)) rfl fun v_ w8 h_ => ?_)))))
   obtain ⟨rfl, E_⟩ := h_
   replace Bg1 := Bg1.mod0 E_
   replace Bg2 := Bg2.mod0 E_
   replace E := E.then E_
   refine Zm rfl (Sx rfl (bF hk0) (Sx rfl (bF hk0) (Sx rfl (bF hk0) (Sx rfl (bF hk0) (Sx rfl (bF hk0) (Sv (oF (bF hk0) rfl rfl) (Zm rfl (Sx rfl rfl (Sx rfl rfl (Sx rfl rfl (Sx rfl rfl (Sx rfl rfl (Sv (oF rfl rfl rfl) ?_)))))))))))))
   exact Za rfl (Ln (e_K (hK11 _ _ _ _ (cR (ret1 rfl rfl ⟨congrArg Value.bool (by simp only [bF hk0, Bool.true_and, Bool.and_true, Bool.false_and, Bool.and_false, Bool.true_or, Bool.or_true, Bool.false_or, Bool.or_false, Bool.not_true, Bool.not_false]), E⟩)))))

theorem c_esame (w : World) (e d : EV) (us vs : List Value) (R : Reps [] w e.D us) (R2 : Reps [] w d.D vs) (ho : e.ok) (hsm : e.lens) (hf : e.few) (ho2 : d.ok) (hsm2 : d.lens) (hf2 : d.few) (hT : Tab w) (hM : MaxL w) : Calls Tryz.prog 27 [.agg us.toArray, .agg vs.toArray].toArray w (Ret fun u w' => u = .bool (decide (e.ern = 0) && (decide (d.ern = 0) && decide (e.txt = d.txt))) ∧ Mod [] w w') := by
 refine enter Tryz.func27 rfl rfl rfl (l := [(0, _), (1, _)]) ⟨rfl, rfl, trivial⟩ ?_
 have E := Mod.refl [] w
 obtain ⟨al, cl, am, cm, ap, cp, aa, ca, aS, cS, rfl, Rc, Rp, Ra, Rs⟩ := EV.cells17 R
 obtain ⟨al2, cl2, am2, cm2, ap2, cp2, aa2, ca2, aS2, cS2, rfl, Rc2, Rp2, Ra2, Rs2⟩ := EV.cells17 R2
 have R := EV.reps_ (e := e) Rc Rp Ra Rs
 have R2 := EV.reps_ (e := d) Rc2 Rp2 Ra2 Rs2
 refine Cq fun K1 hK1 => Cr (s_box rfl rfl rfl fun g1 w1 N1 => ?_)
 have Lg1_E := N1.le E
 replace E := E.then N1.mod
 have Bg1 := N1.blk
 refine s_box rfl rfl rfl fun g2 w2 N2 => ?_
 have Lg2_E := N2.le E
 have Dg1_g2 := N2.ne Bg1
 replace Bg1 := Bg1.mod0 N2.mod
 replace E := E.then N2.mod
 have Bg2 := N2.blk
 refine Za rfl (Ln (e_K (hK1 _ _ _ _ (Cq fun K2 hK2 => Cr (Sv (o_lda (vs := [_, _, _, _, _, _, _, _, _, _, _, _, _, _, _, _, _]) ag29 rfl rfl (Bg1.cs rfl)) (sc (oC ent36 rfl) (c_encode _ e _ (R.to0 E) ho hsm hf (hT.mod E (by simp)) (hM.mod0 E)) rfl fun v_ w3 h_ => ?_))))))
 obtain ⟨rfl, E_⟩ := h_
 replace Bg1 := Bg1.mod0 E_
 replace Bg2 := Bg2.mod0 E_
 replace E := E.then E_
 refine Zm rfl (Sv (o_ext rfl rfl) (Sv (o_ext rfl rfl) (Za rfl (Za rfl (Ln (e_K (hK2 _ _ _ _ (Cq fun K3 hK3 => Cr (Sv (o_lda (vs := [_, _, _, _, _, _, _, _, _, _, _, _, _, _, _, _, _]) ag29 rfl rfl (Bg2.cs rfl)) (sc (oC ent36 rfl) (c_encode _ d _ (R2.to0 E) ho2 hsm2 hf2 (hT.mod E (by simp)) (hM.mod0 E)) rfl fun v_ w4 h_ => ?_))))))))))
 obtain ⟨rfl, E_⟩ := h_
 replace Bg1 := Bg1.mod0 E_
 replace Bg2 := Bg2.mod0 E_
 replace E := E.then E_
 refine Zm rfl (Sv (o_ext rfl rfl) (Sv (o_ext rfl rfl) (Za rfl (Za rfl (Ln (e_K (hK3 _ _ _ _ (Cq fun K4 hK4 => ?_))))))))
 by_cases hk0 : e.ern = 0
 ·by_cases hk1 : d.ern = 0
  ·by_cases hk2 : e.txt = d.txt
   ·refine Cr (Zm rfl (Sv (oE rfl rfl) (Zm rfl (Sg rfl (dT hk0) (oM rfl) (Sg rfl (dT hk0) (oE rfl rfl) (Sv (oT (dT hk0) rfl rfl) (Zm rfl (Sg rfl (dT hk1) (oM rfl) (Sg rfl (dT hk1) (oM rfl) (Sg rfl (dT hk1) (o_seq rfl rfl) (Sv (oT (dT hk1) rfl rfl) (Za rfl (Ln ?_)))))))))))))
    exact e_K (hK4 _ _ _ _ (cR (ret1 rfl rfl ⟨congrArg Value.bool (by simp_all), E⟩)))
   ·refine Cr (Zm rfl (Sv (oE rfl rfl) (Zm rfl (Sg rfl (dT hk0) (oM rfl) (Sg rfl (dT hk0) (oE rfl rfl) (Sv (oT (dT hk0) rfl rfl) (Zm rfl (Sg rfl (dT hk1) (oM rfl) (Sg rfl (dT hk1) (oM rfl) (Sg rfl (dT hk1) (o_seq rfl rfl) (Sv (oT (dT hk1) rfl rfl) (Za rfl (Ln ?_)))))))))))))
    exact e_K (hK4 _ _ _ _ (cR (ret1 rfl rfl ⟨congrArg Value.bool (by simp_all), E⟩)))
  ·refine Cr (Zm rfl (Sv (oE rfl rfl) (Zm rfl (Sg rfl (dT hk0) (oM rfl) (Sg rfl (dT hk0) (oE rfl rfl) (Sv (oT (dT hk0) rfl rfl) (Zm rfl (Sx rfl (dF hk1) (Sx rfl (dF hk1) (Sx rfl (dF hk1) (Sv (oF (dF hk1) rfl rfl) (Za rfl (Ln ?_)))))))))))))
   exact e_K (hK4 _ _ _ _ (cR (ret1 rfl rfl ⟨congrArg Value.bool (by simp_all), E⟩)))
 ·refine Cr (Zm rfl (Sv (oE rfl rfl) (Zm rfl (Sx rfl (dF hk0) (Sx rfl (dF hk0) (Sv (oF (dF hk0) rfl rfl) (Zm rfl (Sx rfl rfl (Sx rfl rfl (Sx rfl rfl (Sv (oF rfl rfl rfl) (Za rfl (Ln ?_)))))))))))))
  exact e_K (hK4 _ _ _ _ (cR (ret1 rfl rfl ⟨congrArg Value.bool (by simp_all), E⟩)))
end Go.Proofs.YtkhbnhdlelmbnaaGreatDoor.V

set_option linter.unusedVariables false
set_option linter.unusedSimpArgs false
set_option maxRecDepth 10000
namespace Go.Proofs.YtkhbnhdlelmbnaaGreatDoor.V
open Go Go.Proofs
theorem ent27 : Ent Tryz.prog 27 := Ent.of Tryz.func27 (by kernel_rfl) (by kernel_rfl)
theorem ent26 : Ent Tryz.prog 26 := Ent.of Tryz.func26 (by kernel_rfl) (by kernel_rfl)
theorem ent10 : Ent Tryz.prog 10 := Ent.of Tryz.func10 (by kernel_rfl) (by kernel_rfl)
theorem ent28 : Ent Tryz.prog 28 := Ent.of Tryz.func28 (by kernel_rfl) (by kernel_rfl)
theorem ent5 : Ent Tryz.prog 5 := Ent.of Tryz.func5 (by kernel_rfl) (by kernel_rfl)
theorem ent6 : Ent Tryz.prog 6 := Ent.of Tryz.func6 (by kernel_rfl) (by kernel_rfl)
theorem ent11 : Ent Tryz.prog 11 := Ent.of Tryz.func11 (by kernel_rfl) (by kernel_rfl)
theorem ent12 : Ent Tryz.prog 12 := Ent.of Tryz.func12 (by kernel_rfl) (by kernel_rfl)
theorem c_is (w : World) (e : EV) (us : List Value) (R : Reps [] w e.D us) (ho : e.ok) (hsm : e.lens) (hf : e.few) (hr : e.con.Rise) (hT : Tab w) (hM : MaxL w) : Calls Tryz.prog 11 [.agg us.toArray].toArray w (Ret fun u w' => u = .bool e.isS ∧ Mod [] w w') := by
 refine enter Tryz.func11 rfl rfl rfl (l := [(0, _)]) ⟨rfl, trivial⟩ ?_
 have E := Mod.refl [] w
 obtain ⟨al, cl, am, cm, ap, cp, aa, ca, aS, cS, rfl, Rc, Rp, Ra, Rs⟩ := EV.cells17 R
 have R := EV.reps_ (e := e) Rc Rp Ra Rs
 have hva : ascM e.con.map := ((JV.Rise_eq _).1 hr).1
 have hta : ascM e.con.third.map := JV.third_asc hr
 have hvn : e.con.map.length ≤ 1353245080310 := JV.ok_map ho.2.2.2.2.1
 have htn := JV.third_len ho.2.2.2.2.1
 have hos := EV.strip_ok hva ho
 refine Cq fun K1 hK1 => Cr (s_box rfl rfl rfl fun g1 w1 N1 => ?_)
 have Lg1_E := N1.le E
 replace E := E.then N1.mod
 have Bg1 := N1.blk
 refine Za rfl (Ln (e_K (hK1 _ _ _ _ (Cq fun K2 hK2 => c_draw wide (by kernel_rfl) (tv (fun w_ E_ => (o_lda (vs := [_, _, _, _, _, _, _, _, _, _, _, _, _, _, _, _, _]) ag29 rfl rfl ((Bg1.mod0 E_).cs rfl))) rfl rfl (tv (fun w_ E_ => (o_lda (vs := [_, _, _, _, _, _, _, _, _, _, _, _, _, _, _, _, _]) ag29 rfl rfl ((Bg1.mod0 E_).cs rfl))) rfl rfl (tcr (fun u w_ => ∃ us, u = .agg us.toArray ∧ Reps [] w_ e.strip.D us) (fun v_ w1_ w2_ k_ h_ => by obtain ⟨us_, e_, r_⟩ := h_; exact ⟨us_, e_, r_.to0 k_⟩) (fun w_ E_ => oC ent9 rfl) (fun w_ E_ => Calls.imp (c_strip _ e _ (R.to0 (E.then E_)) hva hvn hta htn) fun r_ w2_ hr_ => by obtain ⟨us_, e_, r2_, k_⟩ := hr_; exact ⟨⟨us_, e_, r2_⟩, k_⟩) rfl rfl rfl ?_)))))))
 refine tc1 (args := fun u_ => [_, u_].toArray) (v := .bool e.isS) 5 rfl rfl ⟨_, List.Mem.tail _ (List.Mem.tail _ (List.Mem.head _)), rfl⟩ (fun w_ u_ E_ h_ => oC ent27 rfl) (fun w_ u_ E_ h_ => by
  obtain ⟨us_, rfl, r_⟩ := h_
  exact Calls.imp (c_esame _ e e.strip _ _ (R.to0 (E.then E_)) r_ ho hsm hf hos hsm hf (hT.mod (E.then E_) (by simp)) (hM.mod0 (E.then E_))) fun r_ w2_ hr_ => ⟨hr_.1.trans (by rw [EV.is_eq hva]), hr_.2⟩) rfl rfl ?_
 refine tv (fun w_ E_ => (o_as rfl)) rfl rfl (tw_nil rfl fun w2 E_ => ?_)
 replace Bg1 := Bg1.mod0 E_
 replace E := E.then E_
 exact e_K (hK2 _ _ _ _ (cR (ret1 rfl rfl ⟨rfl, E⟩)))

theorem c_stripR (w : World) (e : EV) (us : List Value) (R : Reps [] w e.D us) (hva : ascM e.con.map) (hvn : e.con.map.length ≤ 1353245080310) : Calls Tryz.prog 10 [.agg us.toArray].toArray w (Ret fun u w' => ∃ us', u = .agg us'.toArray ∧ Reps [] w' e.strip.D us' ∧ Mod [] w w') := by
 refine enter Tryz.func10 rfl rfl rfl (l := [(0, _)]) ⟨rfl, trivial⟩ ?_
 have E := Mod.refl [] w
 obtain ⟨al, cl, am, cm, ap, cp, aa, ca, aS, cS, rfl, Rc, Rp, Ra, Rs⟩ := EV.cells17 R
 refine Cq fun K1 hK1 => Cr (s_box rfl rfl rfl fun g1 w1 N1 => ?_)
 have Lg1_E := N1.le E
 replace E := E.then N1.mod
 have Bg1 := N1.blk
 refine s_alloc zv29 rfl fun g2 w2 N2 => ?_
 have Lg2_E := N2.le E
 have Dg1_g2 := N2.ne Bg1
 replace Bg1 := Bg1.mod0 N2.mod
 replace E := E.then N2.mod
 have Bg2 := N2.blk
 refine Ln (e_K (hK1 _ _ _ _ (Cq fun K2 hK2 => Cr (Sv (oA0 fd29_2 rfl) (Sv (oL sc9 rfl (Bg1.cell rfl)) (Sv (oA0 fd29_5 rfl) (Sv (o_lda (vs := [_, _, _, _, _, _]) ag25 rfl rfl (Bg1.cs rfl)) (sc (oC ent26 rfl) (c_contentRA [g1, g2] _ (fun a ha => by rcases List.mem_cons.1 ha with rfl | ha; exact Bg1.lt; rcases List.mem_cons.1 ha with rfl | ha; exact Bg2.lt; cases ha) e.ty e.con _ ((Rc.more (A' := [g1, g2]) (fun a ha => by rcases List.mem_cons.1 ha with rfl | ha; exact .inr Lg1_E; rcases List.mem_cons.1 ha with rfl | ha; exact .inr Lg2_E; cases ha)).to0 E) hvn) rfl fun v_ w3 h_ => ?_))))))))
 obtain ⟨us7, rfl, Rx, E_⟩ := h_
 replace Bg1 := Bg1.mod0 E_
 replace Bg2 := Bg2.mod0 E_
 replace E := E.then E_
 rw [← JV.content_eq hva] at Rx
 obtain ⟨al7, cl7, am7, cm7, rfl, Rl7, Rm7⟩ := JV.cells_ Rx
 clear Rx
 refine Sv (oA0 fd29_5 rfl) (s_sta (vs := [_, _, _, _, _, _]) ag25 Bg1 rfl rfl rfl (by simp [Value.oneCell']) (by simp) fun w4 P4 => ?_)
 replace Bg2 := Bg2.ne P4.mod (Ne.symm Dg1_g2)
 replace E := E.own P4.mod Lg1_E
 replace Bg1 : Blk w4 g1 _ [_, _, _, _, _, _, _, _, _, _, _, _, _, _, _, _, _] := P4.blk
 replace Rl7 := Rl7.toM P4.mod (fun a ha => by simp [List.mem_singleton.1 ha])
 replace Rm7 := Rm7.toM P4.mod (fun a ha => by simp [List.mem_singleton.1 ha])
 refine Ln (e_K (hK2 _ _ _ _ (Cq fun K3 hK3 => Cr (Sv (o_lda (vs := [_, _, _, _, _, _, _, _, _, _, _, _, _, _, _, _, _]) ag29 rfl rfl (Bg1.cs rfl)) (s_sta (vs := [_, _, _, _, _, _, _, _, _, _, _, _, _, _, _, _, _]) ag29 Bg2 rfl rfl rfl (by simp [Value.oneCell']) (by simp) fun w5 P5 => ?_)))))
 replace Bg1 := Bg1.ne P5.mod (Ne.symm (Ne.symm Dg1_g2))
 replace E := E.own P5.mod Lg2_E
 replace Bg2 : Blk w5 g2 _ [_, _, _, _, _, _, _, _, _, _, _, _, _, _, _, _, _] := P5.blk
 replace Rl7 := Rl7.toM P5.mod (fun a ha => by simp [List.mem_singleton.1 ha])
 replace Rm7 := Rm7.toM P5.mod (fun a ha => by simp [List.mem_singleton.1 ha])
 exact Ln (e_K (hK3 _ _ _ _ (cR (retc (vs := [_, _, _, _, _, _, _, _, _, _, _, _, _, _, _, _, _]) rfl ag29 rfl rfl (Bg2.cs rfl) ⟨_, rfl, EV.reps_ (e := e.strip) (JV.reps_ (v := JV.content e.ty e.con) (Rl7.anti (A' := []) (by simp)) (Rm7.anti (A' := []) (by simp))) (Rp.to0 E) (Ra.to0 E) (Rs.to0 E), E⟩))))

theorem c_isR (w : World) (e : EV) (us : List Value) (R : Reps [] w e.D us) (ho : e.ok) (hsm : e.lens) (hf : e.few) (hr : e.con.Rise) (hT : Tab w) (hM : MaxL w) : Calls Tryz.prog 12 [.agg us.toArray].toArray w (Ret fun u w' => u = .bool e.isS ∧ Mod [] w w') := by
 refine enter Tryz.func12 rfl rfl rfl (l := [(0, _)]) ⟨rfl, trivial⟩ ?_
 have E := Mod.refl [] w
 obtain ⟨al, cl, am, cm, ap, cp, aa, ca, aS, cS, rfl, Rc, Rp, Ra, Rs⟩ := EV.cells17 R
 have R := EV.reps_ (e := e) Rc Rp Ra Rs
 have hva : ascM e.con.map := ((JV.Rise_eq _).1 hr).1
 have hta : ascM e.con.third.map := JV.third_asc hr
 have hvn : e.con.map.length ≤ 1353245080310 := JV.ok_map ho.2.2.2.2.1
 have htn := JV.third_len ho.2.2.2.2.1
 have hos := EV.strip_ok hva ho
 refine Cq fun K1 hK1 => Cr (s_box rfl rfl rfl fun g1 w1 N1 => ?_)
 have Lg1_E := N1.le E
 replace E := E.then N1.mod
 have Bg1 := N1.blk
 refine Za rfl (Ln (e_K (hK1 _ _ _ _ (Cq fun K2 hK2 => Cr (Sv (o_lda (vs := [_, _, _, _, _, _, _, _, _, _, _, _, _, _, _, _, _]) ag29 rfl rfl (Bg1.cs rfl)) (sc (oC ent28 rfl) (c_encodeR _ e _ (R.to0 E) ho hsm hf (hT.mod E (by simp)) (hM.mod0 E)) rfl fun v_ w2 h_ => ?_))))))
 obtain ⟨rfl, E_⟩ := h_
 replace Bg1 := Bg1.mod0 E_
 replace E := E.then E_
 refine Zm rfl (Sv (o_ext rfl rfl) (Sv (o_ext rfl rfl) (Za rfl (Za rfl (Ln (e_K (hK2 _ _ _ _ (Cq fun K3 hK3 => ?_))))))))
 by_cases hs2_0 : e.ern = 0
 ·refine c_draw wide (by kernel_rfl) (tv (fun w_ E_ => (oM rfl)) rfl rfl (tv (fun w_ E_ => (oE rfl rfl)) rfl rfl (tv (fun w_ E_ => (oM rfl)) rfl rfl (tvg rfl (dT hs2_0) (fun w_ E_ => (o_lda (vs := [_, _, _, _, _, _, _, _, _, _, _, _, _, _, _, _, _]) ag29 rfl rfl ((Bg1.mod0 E_).cs rfl))) rfl rfl (tvg rfl (dT hs2_0) (fun w_ E_ => (o_lda (vs := [_, _, _, _, _, _, _, _, _, _, _, _, _, _, _, _, _]) ag29 rfl rfl ((Bg1.mod0 E_).cs rfl))) rfl rfl (tcrg (fun u w_ => ∃ us, u = .agg us.toArray ∧ Reps [] w_ e.strip.D us) (fun v_ w1_ w2_ k_ h_ => by obtain ⟨us_, e_, r_⟩ := h_; exact ⟨us_, e_, r_.to0 k_⟩) rfl (dT hs2_0) (fun w_ E_ => oC ent10 rfl) (fun w_ E_ => Calls.imp (c_stripR _ e _ (R.to0 (E.then E_)) hva hvn) fun r_ w2_ hr_ => by obtain ⟨us_, e_, r2_, k_⟩ := hr_; exact ⟨⟨us_, e_, r2_⟩, k_⟩) rfl rfl rfl ?_))))))
  refine tc1g (args := fun u_ => [_, u_].toArray) (v := .bool (JV.eqJ e.con e.strip.con)) 15 rfl (dT hs2_0) rfl rfl ⟨_, List.Mem.tail _ (List.Mem.tail _ (List.Mem.head _)), rfl⟩ (fun w_ u_ E_ h_ => oC ent8 rfl) (fun w_ u_ E_ h_ => by
   obtain ⟨us_, rfl, r_⟩ := h_
   exact c_same11y _ e e.strip.con _ _ (R.to0 (E.then E_)) r_ ho) rfl rfl ?_
  refine tv (fun w_ E_ => (oT (dT hs2_0) rfl rfl)) rfl rfl (tv (fun w_ E_ => (o_as rfl)) rfl rfl (tw_nil rfl fun w3 E_ => ?_))
  replace Bg1 := Bg1.mod0 E_
  replace E := E.then E_
  exact e_K (hK3 _ _ _ _ (cR (ret1 rfl rfl ⟨congrArg Value.bool (by simp [EV.isS, hs2_0]), E⟩)))
 ·refine c_draw wide (by kernel_rfl) (tv (fun w_ E_ => (oM rfl)) rfl rfl (tv (fun w_ E_ => (oE rfl rfl)) rfl rfl (tv (fun w_ E_ => (oM rfl)) rfl rfl (Tx rfl (dF hs2_0) (Tx rfl (dF hs2_0) (Tx rfl (dF hs2_0) (Tx rfl (dF hs2_0) (tv (fun w_ E_ => (oF (dF hs2_0) rfl rfl)) rfl rfl (tv (fun w_ E_ => (o_as rfl)) rfl rfl (tw_nil rfl fun w4 E_ => ?_))))))))))
  replace Bg1 := Bg1.mod0 E_
  replace E := E.then E_
  exact e_K (hK3 _ _ _ _ (cR (ret1 rfl rfl ⟨congrArg Value.bool (by simp [EV.isS, hs2_0]), E⟩)))

theorem c_RedactStrips (w : World) (e : EV) (us : List Value) (R : Reps [] w e.D us) (ho : e.ok) (hT : Tab w) (hM : MaxL w) : Calls Tryz.prog 3 [.agg us.toArray].toArray w (Ret fun u w' => u = .bool true ∧ Mod [] w w') := by
 refine enter Tryz.func3 rfl rfl rfl (l := [(0, _)]) ⟨rfl, trivial⟩ ?_
 have E := Mod.refl [] w
 obtain ⟨al, cl, am, cm, ap, cp, aa, ca, aS, cS, rfl, Rc, Rp, Ra, Rs⟩ := EV.cells17 R
 have R := EV.reps_ (e := e) Rc Rp Ra Rs
 refine Cq fun K1 hK1 => Cr (s_box rfl rfl rfl fun g1 w1 N1 => ?_)
 have Lg1_E := N1.le E
 replace E := E.then N1.mod
 have Bg1 := N1.blk
 refine Za rfl (Ln (e_K (hK1 _ _ _ _ (Cq fun K2 hK2 => Cq fun K3 hK3 => Cr (sc (oC ent5 rfl) (c_alive12 _) rfl fun v_ w2 h_ => ?_)))))
 obtain ⟨rfl, E_⟩ := h_
 replace Bg1 := Bg1.mod0 E_
 replace E := E.then E_
 refine Sv (o_not rfl) (Ln (e_K (hK3 _ _ _ _ (c_false rfl (cK (e_K (hK2 _ _ _ _ (Cq fun K4 hK4 => Cq fun K5 hK5 => ?_))))))))
 by_cases hk0 : (e.great 8192) = true
 ·refine Cr (Sv (o_lda (vs := [_, _, _, _, _, _, _, _, _, _, _, _, _, _, _, _, _]) ag29 rfl rfl (Bg1.cs rfl)) (sc (oC ent6 rfl) (c_great11 _ e _ 8192 (R.to0 E) ho (by omega)) rfl fun v_ w3 h_ => ?_))
  obtain ⟨rfl, E_⟩ := h_
  replace Bg1 := Bg1.mod0 E_
  replace E := E.then E_
  refine Zm rfl (Sx rfl hk0 (Sx rfl hk0 (Sx rfl hk0 (Sx rfl hk0 (Sv (oT hk0 rfl rfl) (Ln (e_K (hK5 _ _ _ _ (c_true rfl (Cq fun K6 hK6 => Cr (Za rfl (Ln (e_K (hK6 _ _ _ _ ?_))))))))))))))
  exact cR (eT (by simp) (ret1 rfl rfl ⟨by first | rfl | exact congrArg Value.bool (dT rfl), E⟩))
 ·by_cases hk1 : (!e.con.rises) = true
  ·refine Cr (Sv (o_lda (vs := [_, _, _, _, _, _, _, _, _, _, _, _, _, _, _, _, _]) ag29 rfl rfl (Bg1.cs rfl)) (sc (oC ent6 rfl) (c_great11 _ e _ 8192 (R.to0 E) ho (by omega)) rfl fun v_ w4 h_ => ?_))
   obtain ⟨rfl, E_⟩ := h_
   replace Bg1 := Bg1.mod0 E_
   replace E := E.then E_
   refine Zm rfl (Sg rfl (bF hk0) (oA0 fd29_5 rfl) (Sg rfl (bF hk0) (o_lda (vs := [_, _, _, _, _, _]) ag25 rfl rfl (Bg1.cs rfl)) (sgc rfl (bF hk0) (oC ent7 rfl) (c_rises _ e.con _ (Rc.to0 E)) rfl fun v_ w5 h_ => ?_)))
   obtain ⟨rfl, E_⟩ := h_
   replace Bg1 := Bg1.mod0 E_
   replace E := E.then E_
   refine Sg rfl (bF hk0) (o_not rfl) (Sv (oF (bF hk0) rfl rfl) (Ln (e_K (hK5 _ _ _ _ ?_))))
   refine c_cond rfl (fun h12 => ?_) (fun h12 => absurd (hk1.symm.trans h12) (by decide))
   exact Cq fun K7 hK7 => Cr (Za rfl (Ln (e_K (hK7 _ _ _ _ (cR (eT (by simp) (ret1 rfl rfl ⟨by first | rfl | exact congrArg Value.bool (dT rfl), E⟩)))))))
  ·refine Cr (Sv (o_lda (vs := [_, _, _, _, _, _, _, _, _, _, _, _, _, _, _, _, _]) ag29 rfl rfl (Bg1.cs rfl)) (sc (oC ent6 rfl) (c_great11 _ e _ 8192 (R.to0 E) ho (by omega)) rfl fun v_ w6 h_ => ?_))
   obtain ⟨rfl, E_⟩ := h_
   replace Bg1 := Bg1.mod0 E_
   replace E := E.then E_
   refine Zm rfl (Sg rfl (bF hk0) (oA0 fd29_5 rfl) (Sg rfl (bF hk0) (o_lda (vs := [_, _, _, _, _, _]) ag25 rfl rfl (Bg1.cs rfl)) (sgc rfl (bF hk0) (oC ent7 rfl) (c_rises _ e.con _ (Rc.to0 E)) rfl fun v_ w7 h_ => ?_)))
   obtain ⟨rfl, E_⟩ := h_
   replace Bg1 := Bg1.mod0 E_
   replace E := E.then E_
   refine Sg rfl (bF hk0) (o_not rfl) (Sv (oF (bF hk0) rfl rfl) (Ln (e_K (hK5 _ _ _ _ (c_cond rfl (fun h12 => absurd ((bF hk1).symm.trans h12) (by decide)) (fun h12 => ?_))))))
   have hlens := EV.lens_of (bF hk0)
   have hfew : e.few := EV.few_of (bF hk0) (by omega)
   have hrr : e.con.rises = true := by simpa using hk1
   have hr : e.con.Rise := JV.rises_iff.1 hrr
   have hva : ascM e.con.map := ((JV.Rise_eq _).1 hr).1
   have hta : ascM e.con.third.map := JV.third_asc hr
   have hvn : e.con.map.length ≤ 1353245080310 := JV.ok_map ho.2.2.2.2.1
   have htn := JV.third_len ho.2.2.2.2.1
   have hos := EV.strip_ok hva ho
   refine cK (e_K (hK4 _ _ _ _ (Cq fun K8 hK8 => c_draw wide (by kernel_rfl) (tv (fun w_ E_ => (o_lda (vs := [_, _, _, _, _, _, _, _, _, _, _, _, _, _, _, _, _]) ag29 rfl rfl ((Bg1.mod0 E_).cs rfl))) rfl rfl (tcr (fun u w_ => ∃ us, u = .agg us.toArray ∧ Reps [] w_ e.strip.D us) (fun v_ w1_ w2_ k_ h_ => by obtain ⟨us_, e_, r_⟩ := h_; exact ⟨us_, e_, r_.to0 k_⟩) (fun w_ E_ => oC ent9 rfl) (fun w_ E_ => Calls.imp (c_strip _ e _ (R.to0 (E.then E_)) hva hvn hta htn) fun r_ w2_ hr_ => by obtain ⟨us_, e_, r2_, k_⟩ := hr_; exact ⟨⟨us_, e_, r2_⟩, k_⟩) rfl rfl rfl (tv (fun w_ E_ => (o_lda (vs := [_, _, _, _, _, _, _, _, _, _, _, _, _, _, _, _, _]) ag29 rfl rfl ((Bg1.mod0 E_).cs rfl))) rfl rfl (tcr (fun u w_ => ∃ us, u = .agg us.toArray ∧ Reps [] w_ e.strip.D us) (fun v_ w1_ w2_ k_ h_ => by obtain ⟨us_, e_, r_⟩ := h_; exact ⟨us_, e_, r_.to0 k_⟩) (fun w_ E_ => oC ent10 rfl) (fun w_ E_ => Calls.imp (c_stripR _ e _ (R.to0 (E.then E_)) hva hvn) fun r_ w2_ hr_ => by obtain ⟨us_, e_, r2_, k_⟩ := hr_; exact ⟨⟨us_, e_, r2_⟩, k_⟩) rfl rfl rfl ?_)))))))
   refine tc2 (args := fun u_ v_ => [u_, v_].toArray) (v := .bool true) 14 16 rfl rfl ⟨_, List.Mem.tail _ (List.Mem.head _), rfl⟩ rfl rfl ⟨_, List.Mem.tail _ (List.Mem.tail _ (List.Mem.head _)), rfl⟩ (fun w_ u_ v_ E_ h_ h2_ => oC ent8 rfl) (fun w_ u_ v_ E_ h_ h2_ => by
    obtain ⟨us_, rfl, r_⟩ := h_
    obtain ⟨vs_, rfl, r2_⟩ := h2_
    exact c_same11 _ e.strip _ _ r_ r2_ hos) rfl rfl ?_
   refine tv (fun w_ E_ => (oM rfl)) rfl rfl (tvg rfl rfl (fun w_ E_ => (o_lda (vs := [_, _, _, _, _, _, _, _, _, _, _, _, _, _, _, _, _]) ag29 rfl rfl ((Bg1.mod0 E_).cs rfl))) rfl rfl (tcg rfl rfl (fun w_ E_ => oC ent11 rfl) (fun w_ E_ => c_is _ e _ (R.to0 (E.then E_)) ho hlens hfew hr (hT.mod (E.then E_) (by simp)) (hM.mod0 (E.then E_))) rfl rfl (tvg rfl rfl (fun w_ E_ => (o_lda (vs := [_, _, _, _, _, _, _, _, _, _, _, _, _, _, _, _, _]) ag29 rfl rfl ((Bg1.mod0 E_).cs rfl))) rfl rfl (tcg rfl rfl (fun w_ E_ => oC ent12 rfl) (fun w_ E_ => c_isR _ e _ (R.to0 (E.then E_)) ho hlens hfew hr (hT.mod (E.then E_) (by simp)) (hM.mod0 (E.then E_))) rfl rfl (tvg rfl rfl (fun w_ E_ => ((o_bseq rfl rfl rfl).to (v' := .bool true) (by simp))) rfl rfl (tv (fun w_ E_ => (oT rfl rfl rfl)) rfl rfl (tv (fun w_ E_ => (o_as rfl)) rfl rfl (tw_nil rfl fun w8 E_ => ?_))))))))
   replace Bg1 := Bg1.mod0 E_
   replace E := E.then E_
   exact e_K (hK8 _ _ _ _ (cR (ret1 rfl rfl ⟨by first | rfl | exact congrArg Value.bool (dT rfl), E⟩)))
end Go.Proofs.YtkhbnhdlelmbnaaGreatDoor.V
