/-
  A part of the proof: an event is as its stripped one just if their texts are the same. No condition of its own.
-/
import Derived.Test.YtknndpjacklkeaaGreatDoorM20
import Derived.Test.YtknndpjacklkeaaGreatDoorM21
import Derived.Test.YtknndpjacklkeaaGreatDoorM4
import Derived.Test.YtknndpjacklkeaaGreatDoorM11
import Derived.Test.YtknndpjacklkeaaGreatDoorProg
import Derived.Test.YtknndpjacklkeaaGreatDoorM19
import Derived.Test.YtknndpjacklkeaaGreatDoorM10
import Derived.Test.YtknndpjacklkeaaGreatDoorM16
import Derived.Test.YtknndpjacklkeaaGreatDoorM18
set_option linter.unusedVariables false
set_option linter.unusedSimpArgs false
set_option maxRecDepth 10000
namespace Go.Proofs.YtknndpjacklkeaaGreatDoor.V
open Go Go.Proofs
theorem ent78 : Ent Tryz.prog 78 := Ent.of Tryz.func78 (by kernel_rfl) (by kernel_rfl)
theorem ent80 : Ent Tryz.prog 80 := Ent.of Tryz.func80 (by kernel_rfl) (by kernel_rfl)
theorem c_evalueR (A : List Nat) (w : World) (hA : ∀ a ∈ A, a < w.heap.size) (e : EV) (us : List Value) (R : Reps A w e.D us) (hs : e.sigs.length ≤ 1000000) (hp : e.prev.length ≤ 1000000) (ha : e.auth.length ≤ 1000000) : Calls Tryz.prog 33 [.agg us.toArray].toArray w (Ret fun u w' => ∃ us', u = .agg us'.toArray ∧ Reps A w' e.val.D us' ∧ Mod [] w w') := by
 refine enter Tryz.func33 rfl rfl rfl (l := [(0, _)]) ⟨rfl, trivial⟩ ?_
 have E := Mod.refl [] w
 obtain ⟨ale, cle, ame, cme, ape, cpe, aae, cae, aSe, cSe, rfl, Rce, Rpe, Rae, Rse⟩ := EV.cells17 R
 have Rp0 := Rpe.anti (A' := []) (by simp)
 have Ra0 := Rae.anti (A' := []) (by simp)
 have Rs0 := Rse.anti (A' := []) (by simp)
 obtain ⟨_, c9a, hfla, hcc1a, hcc2a⟩ := flat_len Rs0
 injection hfla with _ _ hfca
 subst hfca
 refine Cq fun K1 hK1 => Cr (s_box rfl rfl rfl fun g1 w1 N1 => ?_)
 have Lg1_E := N1.le E
 replace E := E.then N1.mod
 have Bg1 := N1.blk
 refine s_alloc zv25 rfl fun g2 w2 N2 => ?_
 have Lg2_E := N2.le E
 have Dg1_g2 := N2.ne Bg1
 replace Bg1 := Bg1.mod0 N2.mod
 replace E := E.then N2.mod
 have Bg2 := N2.blk
 refine Ln (e_K (hK1 _ _ _ _ (Cq fun K2 hK2 => Cr (Sv (o_build (cs := [_, _, _, _, _, _]) pl25 zv25 rfl rfl) (s_alloc zv25 rfl fun g3 w3 N3 => ?_)))))
 have Lg3_E := N3.le E
 have Dg1_g3 := N3.ne Bg1
 have Dg2_g3 := N3.ne Bg2
 replace Bg1 := Bg1.mod0 N3.mod
 replace Bg2 := Bg2.mod0 N3.mod
 replace E := E.then N3.mod
 have Bg3 := N3.blk
 refine s_sta (vs := [_, _, _, _, _, _]) ag25 Bg3 rfl rfl rfl (by simp [Value.oneCell']) (by simp) fun w4 P4 => ?_
 replace Bg1 := Bg1.ne P4.mod (Ne.symm (Ne.symm Dg1_g3))
 replace Bg2 := Bg2.ne P4.mod (Ne.symm (Ne.symm Dg2_g3))
 replace E := E.own P4.mod Lg3_E
 replace Bg3 : Blk w4 g3 _ [_, _, _, _, _, _] := P4.blk
 refine Ln (e_K (hK2 _ _ _ _ (Cq fun K3 hK3 => Cq fun K4 hK4 => Cr (Sv (oA0 fd48_11 rfl) (Sv (oL sc46 rfl (Bg1.cell rfl)) (Sv (o_len Tryz.underlying46 rfl) (Zm rfl (Ln (e_K (hK4 _ _ _ _ (cB (c_loop (σ := Nat × Option Addr × Nat) (fun ⟨k, am, cm⟩ => [(1, .pointer (some ⟨g1, 0, none⟩)), (2, .pointer (some ⟨g2, 0, none⟩)), (3, .pointer (some ⟨g3, 0, none⟩)), (12, .slice aSe e.sigs.length cSe), (13, .int .i64 e.sigs.length), (14, .int .i64 (k : Int))]) (fun ⟨k, am, cm⟩ w1 => k ≤ e.sigs.length ∧ Rep (g2 :: g3 :: A) w1 (.sl 7 ((EV.sg e.sigs k).map JV.Dp)) (.slice am (EV.sg e.sigs k).length cm) ∧ Blk w1 g3 25 [.int .i64 5, .bool false, .int .i64 0, S [], .slice none 0 0, .slice am (EV.sg e.sigs k).length cm] ∧ Blk w1 g2 25 [.int .i64 0, .bool false, .int .i64 0, S [], .slice none 0 0, .slice none 0 0] ∧ Blk w1 g1 48 [S e.room, S e.snd, S e.ty, .bool e.st, S e.key, .int .i64 e.con.kind, .bool e.con.is, .int .i64 e.con.num, S e.con.str, .slice ale e.con.list.length cle, .slice ame e.con.map.length cme, .slice ape e.prev.length cpe, .slice aae e.auth.length cae, .int .i64 e.dep, .int .i64 e.time, S e.hash, .slice aSe e.sigs.length cSe] ∧ Mod [] w w1) (fun ⟨k, am, cm⟩ => e.sigs.length - k) (⟨0, none, 0⟩) ⟨rfl, rfl, rfl, rfl, rfl, rfl, trivial⟩ (⟨by omega, by rw [EV.sg_zero]; exact Rep.sl_nil, by rw [EV.sg_zero]; exact Bg3, Bg2, Bg1, E⟩) ?_))))))))))))
 rintro ⟨k, am, cm⟩ w5 ⟨hk, Rk, Bg3, Bg2, Bg1, E⟩
 have Ek := Mod.refl [] w5
 refine Cq fun K5 hK5 => Cr (Sv (o_lss rfl rfl) (Ln (e_K (hK5 _ _ _ _ (Cq fun K6 hK6 => ?_)))))
 refine c_if rfl (fun h15 => ?_) (fun h15 => ?_)
 ·obtain ⟨x, hx_x⟩ : ∃ x, e.sigs[k]? = some x := ⟨_, List.getElem?_eq_getElem (by omega)⟩
  obtain ⟨a_x, ha_x, hcs_x, _⟩ := flat_at (Rs0.to0 E) hx_x
  cases ha_x
  have hI := EV.sg_inv e.sigs k
  obtain ⟨hI1, hI2, hI3⟩ := hI.one_ x.srv
  have hIl := hI.len
  refine cK (e_K (hK6 _ _ _ _ (Cq fun K7 hK7 => cB (Cq fun K8 hK8 => Cr (Sv (o_ix sl46 rfl rfl (by omega)) (Sv (o_lda ag85 rfl rfl hcs_x) (s_alloc zv85 rfl fun g4 w6 N4 => ?_)))))))
  have Lg4_E := N4.le E
  have Lg4_Ek := N4.le Ek
  have Dg1_g4 := N4.ne Bg1
  have Dg2_g4 := N4.ne Bg2
  have Dg3_g4 := N4.ne Bg3
  replace Bg1 := Bg1.mod0 N4.mod
  replace Bg2 := Bg2.mod0 N4.mod
  replace Bg3 := Bg3.mod0 N4.mod
  replace E := E.then N4.mod
  replace Ek := Ek.then N4.mod
  have Bg4 := N4.blk
  refine s_sta (vs := [_, _, _]) ag85 Bg4 rfl rfl rfl (by simp [Value.oneCell']) (by simp) fun w7 P7 => ?_
  replace Bg1 := Bg1.ne P7.mod (Ne.symm (Ne.symm Dg1_g4))
  replace Bg2 := Bg2.ne P7.mod (Ne.symm (Ne.symm Dg2_g4))
  replace Bg3 := Bg3.ne P7.mod (Ne.symm (Ne.symm Dg3_g4))
  replace E := E.own P7.mod Lg4_E
  replace Ek := Ek.own P7.mod Lg4_Ek
  replace Bg4 : Blk w7 g4 _ [_, _, _] := P7.blk
  refine Ln (e_K (hK8 _ _ _ _ (Cq fun K9 hK9 => Cr (Sv (oA0 fd25_5 rfl) (Sv (oL sc23 rfl (Bg3.cell rfl)) (Sv (oA0 fd85_0 rfl) (Sv (oL sc9 rfl (Bg4.cell rfl)) (sc (oC ent77 rfl) (c_jfindR (g2 :: g3 :: A) _ _ Ek (EV.sg e.sigs k) _ Rk x.srv) rfl fun v_ w8 h_ => ?_))))))))
  obtain ⟨us3, rfl, Rg0, E_⟩ := h_
  replace Bg1 := Bg1.mod0 E_
  replace Bg2 := Bg2.mod0 E_
  replace Bg3 := Bg3.mod0 E_
  replace Bg4 := Bg4.mod0 E_
  replace E := E.then E_
  replace Ek := Ek.then E_
  replace Rg0 : Reps (g2 :: g3 :: A) _ (EV.one (EV.sg e.sigs k) x.srv).D us3 := Rg0
  obtain ⟨al3, cl3, am3, cm3, rfl, Rl3, Rm3⟩ := JV.cells_ Rg0
  replace Rg0 := JV.reps_ Rl3 Rm3
  have Rg := Rm3.to0 Ek
  have Ekg := Mod.refl [] w8
  refine tW 3 rfl (s_alloc zv25 rfl fun g5 w9 N5 => ?_)
  have Lg5_E := N5.le E
  have Lg5_Ek := N5.le Ek
  have Lg5_Ekg := N5.le Ekg
  have Dg1_g5 := N5.ne Bg1
  have Dg2_g5 := N5.ne Bg2
  have Dg3_g5 := N5.ne Bg3
  have Dg4_g5 := N5.ne Bg4
  replace Bg1 := Bg1.mod0 N5.mod
  replace Bg2 := Bg2.mod0 N5.mod
  replace Bg3 := Bg3.mod0 N5.mod
  replace Bg4 := Bg4.mod0 N5.mod
  replace E := E.then N5.mod
  replace Ek := Ek.then N5.mod
  replace Ekg := Ekg.then N5.mod
  have Bg5 := N5.blk
  refine s_sta (vs := [_, _, _, _, _, _]) ag25 Bg5 rfl rfl rfl (by simp [Value.oneCell']) (by simp) fun w10 P10 => ?_
  replace Bg1 := Bg1.ne P10.mod (Ne.symm (Ne.symm Dg1_g5))
  replace Bg2 := Bg2.ne P10.mod (Ne.symm (Ne.symm Dg2_g5))
  replace Bg3 := Bg3.ne P10.mod (Ne.symm (Ne.symm Dg3_g5))
  replace Bg4 := Bg4.ne P10.mod (Ne.symm (Ne.symm Dg4_g5))
  replace E := E.own P10.mod Lg5_E
  replace Ek := Ek.own P10.mod Lg5_Ek
  replace Ekg := Ekg.own P10.mod Lg5_Ekg
  replace Bg5 : Blk w10 g5 _ [_, _, _, _, _, _] := P10.blk
  refine Za rfl (Ln (e_K (hK9 _ _ _ _ (Cq fun K10 hK10 => c_drawp [] [0, 1, 2, 3, 4, 5, 6, 7, 8, 9] 10 [] wide (by kernel_rfl) (fun _ _ _ h => h.2) (pw_nil (tv (fun w_ E_ => (oA0 fd25_5 rfl)) rfl rfl (tv (fun w_ E_ => (oL sc23 rfl ((Bg5.mod0 E_).cell rfl))) rfl rfl (tv (fun w_ E_ => (oA0 fd85_1 rfl)) rfl rfl (tv (fun w_ E_ => (oL sc9 rfl ((Bg4.mod0 E_).cell rfl))) rfl rfl (tv (fun w_ E_ => (oA0 fd85_2 rfl)) rfl rfl (tv (fun w_ E_ => (oL sc9 rfl ((Bg4.mod0 E_).cell rfl))) rfl rfl (tc (fun w_ E_ => oC ent79 rfl) (fun w_ E_ => c_text11 _ x.sig) rfl rfl (tv (fun w_ E_ => (o_build (cs := [_, _, _, _, _, _, _]) pl44 zv44 rfl rfl)) rfl rfl ?_)))))))))))))
  have Rg5 := Rg.more (A' := (g2 :: g3 :: g5 :: A)) (fun a ha => by rcases List.mem_cons.1 ha with rfl | ha; exact .inl (by simp); rcases List.mem_cons.1 ha with rfl | ha; exact .inl (by simp); rcases List.mem_cons.1 ha with rfl | ha; exact .inr Lg5_Ekg; exact .inl (by simp [ha]))
  refine tcr (fun u w_ => Rep (g2 :: g3 :: g5 :: A) w_ (.sl 7 ((putM (EV.one (EV.sg e.sigs k) x.srv).map x.key (JV.txtV x.sig)).map JV.Dp)) u) (fun v_ w1_ w2_ k_ h_ => h_.to0 k_) (fun w_ E_ => oC ent78 rfl) (fun w_ E_ => c_jwith (g2 :: g3 :: g5 :: A) _ (fun a ha => by rcases List.mem_cons.1 ha with rfl | ha; exact (Bg2.mod0 E_).lt; rcases List.mem_cons.1 ha with rfl | ha; exact (Bg3.mod0 E_).lt; rcases List.mem_cons.1 ha with rfl | ha; exact (Bg5.mod0 E_).lt; exact Nat.lt_of_lt_of_le (hA a ha) (E.then E_).size) (EV.one (EV.sg e.sigs k) x.srv).map _ ((Rg5.to0 Ekg).to0 E_) x.key (JV.txtV x.sig) _ JV.txt_repsN (by omega)) rfl rfl rfl ?_
  refine tr1 (fun u w_ => ∃ ad c, u = .agg #[.int .i64 5, .bool false, .int .i64 0, S [], .slice none 0 0, .slice ad (putM (EV.one (EV.sg e.sigs k) x.srv).map x.key (JV.txtV x.sig)).length c] ∧ Rep (g2 :: g3 :: g5 :: A) w_ (.sl 7 ((putM (EV.one (EV.sg e.sigs k) x.srv).map x.key (JV.txtV x.sig)).map JV.Dp)) (.slice ad (putM (EV.one (EV.sg e.sigs k) x.srv).map x.key (JV.txtV x.sig)).length c)) (fun v_ w1_ w2_ k_ h_ => by obtain ⟨a_, c_, e_, r_⟩ := h_; exact ⟨a_, c_, e_, r_.to0 k_⟩) 34 rfl rfl ⟨_, by simp [Op.operands], rfl⟩ (fun w_ u_ E_ h_ => by
   obtain ⟨ad_, c_, hv_, hc1_, hc2_⟩ := h_.sl_
   rw [List.length_map] at hv_
   subst hv_
   exact ⟨_, _, o_build (cs := [_, _, _, _, _, _]) pl25 zv25 rfl rfl, Mod.refl [] _, ad_, c_, rfl, h_⟩) rfl rfl rfl ?_
  refine tw_tail1 (t := 35) rfl rfl rfl rfl fun w11 v_ E_ h_ => ?_
  obtain ⟨adp, cp, rfl, Rp⟩ := h_
  replace Bg1 := Bg1.mod0 E_
  replace Bg2 := Bg2.mod0 E_
  replace Bg3 := Bg3.mod0 E_
  replace Bg4 := Bg4.mod0 E_
  replace Bg5 := Bg5.mod0 E_
  replace E := E.then E_
  replace Ek := Ek.then E_
  replace Ekg := Ekg.then E_
  refine s_sta (vs := [_, _, _, _, _, _]) ag25 Bg5 rfl rfl rfl (by simp [Value.oneCell']) (by simp) fun w12 P12 => ?_
  replace Bg1 := Bg1.ne P12.mod (Ne.symm (Ne.symm Dg1_g5))
  replace Bg2 := Bg2.ne P12.mod (Ne.symm (Ne.symm Dg2_g5))
  replace Bg3 := Bg3.ne P12.mod (Ne.symm (Ne.symm Dg3_g5))
  replace Bg4 := Bg4.ne P12.mod (Ne.symm (Ne.symm Dg4_g5))
  replace E := E.own P12.mod Lg5_E
  replace Ek := Ek.own P12.mod Lg5_Ek
  replace Ekg := Ekg.own P12.mod Lg5_Ekg
  replace Bg5 : Blk w12 g5 _ [_, _, _, _, _, _] := P12.blk
  have Rp2 := (Rp.toM P12.mod (fun a ha => by simp [List.mem_singleton.1 ha])).anti (A' := (g2 :: g3 :: A)) (fun a ha => by rcases List.mem_cons.1 ha with rfl | ha; simp; rcases List.mem_cons.1 ha with rfl | ha; simp; simp [ha])
  refine Ln (e_K (hK10 _ _ _ _ (Cr (Sv (oA0 fd25_5 rfl) (Sv (oL sc23 rfl (Bg3.cell rfl)) (Sv (oA0 fd85_0 rfl) (Sv (oL sc9 rfl (Bg4.cell rfl)) (Sv (o_lda (vs := [_, _, _, _, _, _]) ag25 rfl rfl (Bg5.cs rfl)) (Sv (o_build (cs := [_, _, _, _, _, _, _]) pl44 zv44 rfl rfl) (sc (oC ent78 rfl) (c_jwith (g2 :: g3 :: A) _ (fun a ha => by rcases List.mem_cons.1 ha with rfl | ha; exact Bg2.lt; rcases List.mem_cons.1 ha with rfl | ha; exact Bg3.lt; exact Nat.lt_of_lt_of_le (hA a ha) E.size) (EV.sg e.sigs k) _ (Rk.to0 Ek) x.srv (JV.obj (putM (EV.one (EV.sg e.sigs k) x.srv).map x.key (JV.txtV x.sig))) _ (JV.obj_reps Rp2) (by omega)) rfl fun v_ w13 h_ => ?_))))))))))
  obtain ⟨Rw, E_⟩ := h_
  replace Bg1 := Bg1.mod0 E_
  replace Bg2 := Bg2.mod0 E_
  replace Bg3 := Bg3.mod0 E_
  replace Bg4 := Bg4.mod0 E_
  replace Bg5 := Bg5.mod0 E_
  replace E := E.then E_
  replace Ek := Ek.then E_
  replace Ekg := Ekg.then E_
  have hsg : EV.sg e.sigs (k + 1) = putM (EV.sg e.sigs k) x.srv (JV.obj (putM (EV.one (EV.sg e.sigs k) x.srv).map x.key (JV.txtV x.sig))) := EV.sg_succ hx_x
  rw [← hsg] at Rw
  obtain ⟨ad8, c8, hv8_, hw1, hw2⟩ := Rw.sl_
  rw [List.length_map] at hv8_
  subst hv8_
  have Ekw := Mod.refl [] w13
  refine Sv (oA0 fd25_5 rfl) (s_st sc23 Bg3 rfl rfl rfl (by simp) fun w14 P14 => ?_)
  replace Bg1 := Bg1.ne P14.mod (Ne.symm (Ne.symm Dg1_g3))
  replace Bg2 := Bg2.ne P14.mod (Ne.symm (Ne.symm Dg2_g3))
  replace Bg4 := Bg4.ne P14.mod (Ne.symm Dg3_g4)
  replace Bg5 := Bg5.ne P14.mod (Ne.symm Dg3_g5)
  replace E := E.own P14.mod Lg3_E
  replace Bg3 : Blk w14 g3 _ [_, _, _, _, _, _] := P14.blk
  have Rw2 := (Rw.to0 Ekw).toM P14.mod (fun a ha => by simp [List.mem_singleton.1 ha])
  exact Ln (eI (by simp) (e_K (hK7 _ _ _ _ (Cr (Sv (o_addN rfl rfl (by omega)) (Zm rfl (Ln (eR (σ := Nat × Option Addr × Nat) (s := ⟨k, am, cm⟩) (⟨k + 1, ad8, c8⟩) ⟨rfl, rfl, rfl, rfl, rfl, rfl, trivial⟩ ⟨by omega, Rw2, Bg3, Bg2, Bg1, E⟩ (by dsimp only; omega)))))))))
 ·have hkl : k = e.sigs.length := by omega
  subst hkl
  refine c_exit (eT (by simp) (eT (by simp) (e_hit (e_K (hK3 _ _ _ _ (Cq fun K11 hK11 => Cr (Sv (oA0 fd48_10 rfl) (Sv (oL sc9 rfl (Bg1.cell rfl)) (sc (oC ent79 rfl) (c_text11 _ e.hash) rfl fun v_ w15 h_ => ?_)))))))))
  obtain ⟨rfl, E_⟩ := h_
  replace Bg1 := Bg1.mod0 E_
  replace Bg2 := Bg2.mod0 E_
  replace Bg3 := Bg3.mod0 E_
  replace E := E.then E_
  replace Ek := Ek.then E_
  refine Sv (o_build (cs := [_, _, _, _, _, _, _]) pl44 zv44 rfl rfl) (s_bslice (cs := [_, _, _, _, _, _, _]) sl23 zv44 rfl rfl rfl (by decide) rfl fun g6 w16 N6 => ?_)
  have Lg6_E := N6.le E
  have Lg6_Ek := N6.le Ek
  have Dg1_g6 := N6.ne Bg1
  have Dg2_g6 := N6.ne Bg2
  have Dg3_g6 := N6.ne Bg3
  replace Bg1 := Bg1.mod0 N6.mod
  replace Bg2 := Bg2.mod0 N6.mod
  replace Bg3 := Bg3.mod0 N6.mod
  replace E := E.then N6.mod
  replace Ek := Ek.then N6.mod
  have Bg6 := N6.blk
  refine Sv (o_build (cs := [_, _, _, _, _, _]) pl25 zv25 rfl rfl) (s_alloc zv25 rfl fun g7 w17 N7 => ?_)
  have Lg7_E := N7.le E
  have Lg7_Ek := N7.le Ek
  have Dg1_g7 := N7.ne Bg1
  have Dg2_g7 := N7.ne Bg2
  have Dg3_g7 := N7.ne Bg3
  have Dg6_g7 := N7.ne Bg6
  replace Bg1 := Bg1.mod0 N7.mod
  replace Bg2 := Bg2.mod0 N7.mod
  replace Bg3 := Bg3.mod0 N7.mod
  replace Bg6 := Bg6.mod0 N7.mod
  replace E := E.then N7.mod
  replace Ek := Ek.then N7.mod
  have Bg7 := N7.blk
  refine s_sta (vs := [_, _, _, _, _, _]) ag25 Bg7 rfl rfl rfl (by simp [Value.oneCell']) (by simp) fun w18 P18 => ?_
  replace Bg1 := Bg1.ne P18.mod (Ne.symm (Ne.symm Dg1_g7))
  replace Bg2 := Bg2.ne P18.mod (Ne.symm (Ne.symm Dg2_g7))
  replace Bg3 := Bg3.ne P18.mod (Ne.symm (Ne.symm Dg3_g7))
  replace Bg6 := Bg6.ne P18.mod (Ne.symm (Ne.symm Dg6_g7))
  replace E := E.own P18.mod Lg7_E
  replace Ek := Ek.own P18.mod Lg7_Ek
  replace Bg7 : Blk w18 g7 _ [_, _, _, _, _, _] := P18.blk
  refine Ln (e_K (hK11 _ _ _ _ (Cq fun K12 hK12 => ?_)))
  have Rh := JV.obj_repsN (A := (g2 :: A)) (n := 1) rfl (Own.mem_ (m := [(kSha, JV.txtV e.hash)]) (Own.all (cs := [_, _, _, _, _, _, _]) Bg6 rfl (by omega)) (by simpa using JV.Dp_reps (p := (kSha, JV.txtV e.hash)) JV.txt_repsN) rfl (fun y hy h => by
   simp only [ob, List.mem_singleton] at hy
   subst hy
   rcases List.mem_cons.1 h with h | h
   ·exact Dg2_g6 h.symm
   ·have := hA _ h; have := Lg6_E; omega))
  refine c_drawp [] [0, 1, 2, 3, 4, 5, 6, 7, 8, 9, 10, 11, 12, 13, 14, 15, 16, 17, 18, 19, 20, 21, 22, 23, 24, 25, 26, 27, 28, 29, 30, 31, 32, 33, 34, 35, 36, 37] 38 [] wide (by kernel_rfl) (fun _ _ _ h => h.2) (pw_nil (tv (fun w_ E_ => (oA0 fd48_7 rfl)) rfl rfl (tv (fun w_ E_ => (oL sc45 rfl ((Bg1.mod0 E_).cell rfl))) rfl rfl (tcr (fun u w_ => ∃ us, u = .agg us.toArray ∧ Reps (g2 :: A) w_ (JV.lst (e.auth.map JV.txtV)).D us) (fun v_ w1_ w2_ k_ h_ => by obtain ⟨us_, e_, r_⟩ := h_; exact ⟨us_, e_, r_.to0 k_⟩) (fun w_ E_ => oC ent80 rfl) (fun w_ E_ => Calls.imp (c_texts11 (g2 :: A) _ (fun a ha => by rcases List.mem_cons.1 ha with rfl | ha; exact (Bg2.mod0 E_).lt; exact Nat.lt_of_lt_of_le (hA a ha) (E.then E_).size) e.auth aae cae (Ra0.to0 (E.then E_)) ha) fun r_ w2_ hr => by obtain ⟨us_, e_, r2_, k_⟩ := hr; exact ⟨⟨us_, e_, r2_⟩, k_⟩) rfl rfl rfl ?_))))
  refine tr1 (fun u w_ => ∃ us, u = .agg (S kAuth :: us).toArray ∧ Reps (g2 :: A) w_ (JV.lst (e.auth.map JV.txtV)).D us) (fun v_ w1_ w2_ k_ h_ => by obtain ⟨us_, e_, r_⟩ := h_; exact ⟨us_, e_, r_.to0 k_⟩) 53 rfl rfl ⟨_, by simp [Op.operands], rfl⟩ (fun w_ u_ E_ h_ => by
   obtain ⟨us_, rfl, r_⟩ := h_
   obtain ⟨ala, cla, ama, cma, rfl, rl_, rm_⟩ := JV.cells_ r_
   exact ⟨_, _, o_build (cs := [_, _, _, _, _, _, _]) pl44 zv44 rfl rfl, Mod.refl [] _, ⟨_, rfl, JV.reps_ rl_ rm_⟩⟩) rfl rfl rfl ?_
  refine tv (fun w_ E_ => (oA0 fd48_5 rfl)) rfl rfl (tv (fun w_ E_ => (o_lda (vs := [_, _, _, _, _, _]) ag25 rfl rfl ((Bg1.mod0 E_).cs rfl))) rfl rfl (tv (fun w_ E_ => (o_build (cs := [_, _, _, _, _, _, _]) pl44 zv44 rfl rfl)) rfl rfl (tv (fun w_ E_ => (oA0 fd48_8 rfl)) rfl rfl (tv (fun w_ E_ => (oL sc3 rfl ((Bg1.mod0 E_).cell rfl))) rfl rfl (tv (fun w_ E_ => (o_build (cs := [_, _, _, _, _, _]) pl25 zv25 rfl rfl)) rfl rfl (tv (fun w_ E_ => (o_build (cs := [_, _, _, _, _, _, _]) pl44 zv44 rfl rfl)) rfl rfl (tv (fun w_ E_ => (o_lda (vs := [_, _, _, _, _, _]) ag25 rfl rfl ((Bg7.mod0 E_).cs rfl))) rfl rfl (tv (fun w_ E_ => (o_build (cs := [_, _, _, _, _, _, _]) pl44 zv44 rfl rfl)) rfl rfl (tv (fun w_ E_ => (oA0 fd48_9 rfl)) rfl rfl (tv (fun w_ E_ => (oL sc3 rfl ((Bg1.mod0 E_).cell rfl))) rfl rfl (tv (fun w_ E_ => (o_build (cs := [_, _, _, _, _, _]) pl25 zv25 rfl rfl)) rfl rfl (tv (fun w_ E_ => (o_build (cs := [_, _, _, _, _, _, _]) pl44 zv44 rfl rfl)) rfl rfl (tv (fun w_ E_ => (oA0 fd48_6 rfl)) rfl rfl ?_)))))))))))))
  refine tv (fun w_ E_ => (oL sc45 rfl ((Bg1.mod0 E_).cell rfl))) rfl rfl (tcr (fun u w_ => ∃ us, u = .agg us.toArray ∧ Reps (g2 :: A) w_ (JV.lst (e.prev.map JV.txtV)).D us) (fun v_ w1_ w2_ k_ h_ => by obtain ⟨us_, e_, r_⟩ := h_; exact ⟨us_, e_, r_.to0 k_⟩) (fun w_ E_ => oC ent80 rfl) (fun w_ E_ => Calls.imp (c_texts11 (g2 :: A) _ (fun a ha => by rcases List.mem_cons.1 ha with rfl | ha; exact (Bg2.mod0 E_).lt; exact Nat.lt_of_lt_of_le (hA a ha) (E.then E_).size) e.prev ape cpe (Rp0.to0 (E.then E_)) hp) fun r_ w2_ hr => by obtain ⟨us_, e_, r2_, k_⟩ := hr; exact ⟨⟨us_, e_, r2_⟩, k_⟩) rfl rfl rfl ?_)
  refine tr1 (fun u w_ => ∃ us, u = .agg (S kPrev :: us).toArray ∧ Reps (g2 :: A) w_ (JV.lst (e.prev.map JV.txtV)).D us) (fun v_ w1_ w2_ k_ h_ => by obtain ⟨us_, e_, r_⟩ := h_; exact ⟨us_, e_, r_.to0 k_⟩) 70 rfl rfl ⟨_, by simp [Op.operands], rfl⟩ (fun w_ u_ E_ h_ => by
   obtain ⟨us_, rfl, r_⟩ := h_
   obtain ⟨ala, cla, ama, cma, rfl, rl_, rm_⟩ := JV.cells_ r_
   exact ⟨_, _, o_build (cs := [_, _, _, _, _, _, _]) pl44 zv44 rfl rfl, Mod.refl [] _, ⟨_, rfl, JV.reps_ rl_ rm_⟩⟩) rfl rfl rfl ?_
  refine tv (fun w_ E_ => (oA0 fd48_0 rfl)) rfl rfl (tv (fun w_ E_ => (oL sc9 rfl ((Bg1.mod0 E_).cell rfl))) rfl rfl (tc (fun w_ E_ => oC ent79 rfl) (fun w_ E_ => c_text11 _ e.room) rfl rfl (tv (fun w_ E_ => (o_build (cs := [_, _, _, _, _, _, _]) pl44 zv44 rfl rfl)) rfl rfl (tv (fun w_ E_ => (oA0 fd48_1 rfl)) rfl rfl (tv (fun w_ E_ => (oL sc9 rfl ((Bg1.mod0 E_).cell rfl))) rfl rfl (tc (fun w_ E_ => oC ent79 rfl) (fun w_ E_ => c_text11 _ e.snd) rfl rfl (tv (fun w_ E_ => (o_build (cs := [_, _, _, _, _, _, _]) pl44 zv44 rfl rfl)) rfl rfl (tv (fun w_ E_ => (o_lda (vs := [_, _, _, _, _, _]) ag25 rfl rfl ((Bg3.mod0 E_).cs rfl))) rfl rfl (tv (fun w_ E_ => (o_build (cs := [_, _, _, _, _, _, _]) pl44 zv44 rfl rfl)) rfl rfl (tv (fun w_ E_ => (oA0 fd48_2 rfl)) rfl rfl (tv (fun w_ E_ => (oL sc9 rfl ((Bg1.mod0 E_).cell rfl))) rfl rfl (tc (fun w_ E_ => oC ent79 rfl) (fun w_ E_ => c_text11 _ e.ty) rfl rfl (tv (fun w_ E_ => (o_build (cs := [_, _, _, _, _, _, _]) pl44 zv44 rfl rfl)) rfl rfl ?_)))))))))))))
  refine tr2 (fun u w_ => ∃ ala cla ama cma alp clp amp cmp gm, u = .slice (some ⟨gm, 0, none⟩) 10 10 ∧ w18.heap.size ≤ gm ∧ Blk w_ gm 44 [S kAuth, .int .i64 (JV.lst (e.auth.map JV.txtV)).kind, .bool (JV.lst (e.auth.map JV.txtV)).is, .int .i64 (JV.lst (e.auth.map JV.txtV)).num, S (JV.lst (e.auth.map JV.txtV)).str, .slice ala (JV.lst (e.auth.map JV.txtV)).list.length cla, .slice ama (JV.lst (e.auth.map JV.txtV)).map.length cma, S kCont, .int .i64 e.con.kind, .bool e.con.is, .int .i64 e.con.num, S e.con.str, .slice ale e.con.list.length cle, .slice ame e.con.map.length cme, S kDepth, .int .i64 2, .bool false, .int .i64 e.dep, S [], .slice none 0 0, .slice none 0 0, S kHashes, .int .i64 5, .bool false, .int .i64 0, S [], .slice none 0 0, .slice (some ⟨g6, 0, none⟩) 1 1, S kOts, .int .i64 2, .bool false, .int .i64 e.time, S [], .slice none 0 0, .slice none 0 0, S kPrev, .int .i64 (JV.lst (e.prev.map JV.txtV)).kind, .bool (JV.lst (e.prev.map JV.txtV)).is, .int .i64 (JV.lst (e.prev.map JV.txtV)).num, S (JV.lst (e.prev.map JV.txtV)).str, .slice alp (JV.lst (e.prev.map JV.txtV)).list.length clp, .slice amp (JV.lst (e.prev.map JV.txtV)).map.length cmp, S kRoom, .int .i64 3, .bool false, .int .i64 0, S e.room, .slice none 0 0, .slice none 0 0, S kSender, .int .i64 3, .bool false, .int .i64 0, S e.snd, .slice none 0 0, .slice none 0 0, S kSigs, .int .i64 5, .bool false, .int .i64 0, S [], .slice none 0 0, .slice am (EV.sg e.sigs e.sigs.length).length cm, S kType, .int .i64 3, .bool false, .int .i64 0, S e.ty, .slice none 0 0, .slice none 0 0] ∧ Reps (g2 :: A) w_ (JV.lst (e.auth.map JV.txtV)).D [.int .i64 (JV.lst (e.auth.map JV.txtV)).kind, .bool (JV.lst (e.auth.map JV.txtV)).is, .int .i64 (JV.lst (e.auth.map JV.txtV)).num, S (JV.lst (e.auth.map JV.txtV)).str, .slice ala (JV.lst (e.auth.map JV.txtV)).list.length cla, .slice ama (JV.lst (e.auth.map JV.txtV)).map.length cma] ∧ Reps (g2 :: A) w_ (JV.lst (e.prev.map JV.txtV)).D [.int .i64 (JV.lst (e.prev.map JV.txtV)).kind, .bool (JV.lst (e.prev.map JV.txtV)).is, .int .i64 (JV.lst (e.prev.map JV.txtV)).num, S (JV.lst (e.prev.map JV.txtV)).str, .slice alp (JV.lst (e.prev.map JV.txtV)).list.length clp, .slice amp (JV.lst (e.prev.map JV.txtV)).map.length cmp]) (fun v_ w1_ w2_ k_ h_ => by obtain ⟨a1, a2, a3, a4, a5, a6, a7, a8, a9, h1, h2, h3, h4, h5⟩ := h_; exact ⟨a1, a2, a3, a4, a5, a6, a7, a8, a9, h1, h2, h3.mod0 k_, h4.to0 k_, h5.to0 k_⟩) 54 71 rfl rfl ⟨_, by simp [Op.operands], rfl⟩ rfl rfl ⟨_, by simp [Op.operands], rfl⟩ (fun w_ ua ub E_ ha_ hb_ => by
   obtain ⟨usa_, rfl, ra_⟩ := ha_
   obtain ⟨ala, cla, ama, cma, rfl, rl_, rm_⟩ := JV.cells_ ra_
   replace ra_ := JV.reps_ rl_ rm_
   obtain ⟨usb_, rfl, rb_⟩ := hb_
   obtain ⟨alp, clp, amp, cmp, rfl, rl2_, rm2_⟩ := JV.cells_ rb_
   replace rb_ := JV.reps_ rl2_ rm2_
   exact bslice_ex (P := Tryz.prog) sl23 zv44 rfl (by kernel_rfl) rfl (by decide) (fun w2_ r2_ r3_ => ⟨ala, cla, ama, cma, alp, clp, amp, cmp, _, rfl, E_.size, r3_, ra_.to0 r2_, rb_.to0 r2_⟩)) rfl rfl rfl ?_
  refine tr1 (fun u w_ => ∃ ala cla ama cma alp clp amp cmp gm, u = .agg #[.int .i64 5, .bool false, .int .i64 0, S [], .slice none 0 0, .slice (some ⟨gm, 0, none⟩) 10 10] ∧ w18.heap.size ≤ gm ∧ Blk w_ gm 44 [S kAuth, .int .i64 (JV.lst (e.auth.map JV.txtV)).kind, .bool (JV.lst (e.auth.map JV.txtV)).is, .int .i64 (JV.lst (e.auth.map JV.txtV)).num, S (JV.lst (e.auth.map JV.txtV)).str, .slice ala (JV.lst (e.auth.map JV.txtV)).list.length cla, .slice ama (JV.lst (e.auth.map JV.txtV)).map.length cma, S kCont, .int .i64 e.con.kind, .bool e.con.is, .int .i64 e.con.num, S e.con.str, .slice ale e.con.list.length cle, .slice ame e.con.map.length cme, S kDepth, .int .i64 2, .bool false, .int .i64 e.dep, S [], .slice none 0 0, .slice none 0 0, S kHashes, .int .i64 5, .bool false, .int .i64 0, S [], .slice none 0 0, .slice (some ⟨g6, 0, none⟩) 1 1, S kOts, .int .i64 2, .bool false, .int .i64 e.time, S [], .slice none 0 0, .slice none 0 0, S kPrev, .int .i64 (JV.lst (e.prev.map JV.txtV)).kind, .bool (JV.lst (e.prev.map JV.txtV)).is, .int .i64 (JV.lst (e.prev.map JV.txtV)).num, S (JV.lst (e.prev.map JV.txtV)).str, .slice alp (JV.lst (e.prev.map JV.txtV)).list.length clp, .slice amp (JV.lst (e.prev.map JV.txtV)).map.length cmp, S kRoom, .int .i64 3, .bool false, .int .i64 0, S e.room, .slice none 0 0, .slice none 0 0, S kSender, .int .i64 3, .bool false, .int .i64 0, S e.snd, .slice none 0 0, .slice none 0 0, S kSigs, .int .i64 5, .bool false, .int .i64 0, S [], .slice none 0 0, .slice am (EV.sg e.sigs e.sigs.length).length cm, S kType, .int .i64 3, .bool false, .int .i64 0, S e.ty, .slice none 0 0, .slice none 0 0] ∧ Reps (g2 :: A) w_ (JV.lst (e.auth.map JV.txtV)).D [.int .i64 (JV.lst (e.auth.map JV.txtV)).kind, .bool (JV.lst (e.auth.map JV.txtV)).is, .int .i64 (JV.lst (e.auth.map JV.txtV)).num, S (JV.lst (e.auth.map JV.txtV)).str, .slice ala (JV.lst (e.auth.map JV.txtV)).list.length cla, .slice ama (JV.lst (e.auth.map JV.txtV)).map.length cma] ∧ Reps (g2 :: A) w_ (JV.lst (e.prev.map JV.txtV)).D [.int .i64 (JV.lst (e.prev.map JV.txtV)).kind, .bool (JV.lst (e.prev.map JV.txtV)).is, .int .i64 (JV.lst (e.prev.map JV.txtV)).num, S (JV.lst (e.prev.map JV.txtV)).str, .slice alp (JV.lst (e.prev.map JV.txtV)).list.length clp, .slice amp (JV.lst (e.prev.map JV.txtV)).map.length cmp]) (fun v_ w1_ w2_ k_ h_ => by obtain ⟨a1, a2, a3, a4, a5, a6, a7, a8, a9, h1, h2, h3, h4, h5⟩ := h_; exact ⟨a1, a2, a3, a4, a5, a6, a7, a8, a9, h1, h2, h3.mod0 k_, h4.to0 k_, h5.to0 k_⟩) 86 rfl rfl ⟨_, by simp [Op.operands], rfl⟩ (fun w_ u_ E_ h_ => by
   obtain ⟨a1, a2, a3, a4, a5, a6, a7, a8, a9, rfl, h2, h3, h4, h5⟩ := h_
   exact ⟨_, _, o_build (cs := [_, _, _, _, _, _]) pl25 zv25 rfl rfl, Mod.refl [] _, a1, a2, a3, a4, a5, a6, a7, a8, a9, rfl, h2, h3, h4, h5⟩) rfl rfl rfl ?_
  refine t_alloc zv25 rfl rfl (tw_tail2 (t := 87) (r := 9) rfl rfl rfl rfl rfl rfl rfl fun w19 v87 v9 E_ h87_ h9_ => ?_)
  obtain ⟨g9, rfl, hg9, Bg9_⟩ := h9_
  obtain ⟨ala, cla, ama, cma, alp, clp, amp, cmp, gm, rfl, hgm, Bgm, ra_, rp_⟩ := h87_
  have Dg9_1 : g9 ≠ g1 := fun h => by have := Bg1.lt; omega
  have Dg9_2 : g9 ≠ g2 := fun h => by have := Bg2.lt; omega
  have Lg9_E : w.heap.size ≤ g9 := Nat.le_trans E.size hg9
  have hgm9 := Bgm.neT Bg9_ (by decide)
  have hA9 : ∀ a ∈ (g9 :: g2 :: A), a ∈ (g2 :: A) ∨ w18.heap.size ≤ a := fun a ha => by
   rcases List.mem_cons.1 ha with rfl | ha
   ·exact .inr hg9
   ·exact .inl ha
  have ra9 := JV.ltx_off ra_ Bg9_
  have rp9 := JV.ltx_off rp_ Bg9_
  have rc_ := Rce.more (A' := (g9 :: g2 :: A)) (fun a ha => by rcases List.mem_cons.1 ha with rfl | ha; exact .inr Lg9_E; rcases List.mem_cons.1 ha with rfl | ha; exact .inr Lg2_E; exact .inl ha)
  have rh_ := Rh.more hA9
  have rk_ := ((JV.obj_reps (Rk.to0 Ek)).anti (A' := (g2 :: A)) (fun a ha => by rcases List.mem_cons.1 ha with rfl | ha <;> simp [*])).more hA9
  have RM_ := (JV.rows_cons (JV.Dp_reps (p := (kAuth, JV.lst (e.auth.map JV.txtV))) ra9) (JV.rows_cons (JV.Dp_reps (p := (kCont, e.con)) ((rc_.to0 E).to0 E_)) (JV.rows_cons (JV.Dp_reps (p := (kDepth, JV.numV e.dep)) JV.num_reps) (JV.rows_cons (JV.Dp_reps (p := (kHashes, JV.obj [(kSha, JV.txtV e.hash)])) (rh_.to0 E_)) (JV.rows_cons (JV.Dp_reps (p := (kOts, JV.numV e.time)) JV.num_reps) (JV.rows_cons (JV.Dp_reps (p := (kPrev, JV.lst (e.prev.map JV.txtV))) rp9) (JV.rows_cons (JV.Dp_reps (p := (kRoom, JV.txtV e.room)) JV.txt_repsN) (JV.rows_cons (JV.Dp_reps (p := (kSender, JV.txtV e.snd)) JV.txt_repsN) (JV.rows_cons (JV.Dp_reps (p := (kSigs, JV.obj (EV.sg e.sigs e.sigs.length))) (rk_.to0 E_)) (JV.rows_cons (JV.Dp_reps (p := (kType, JV.txtV e.ty)) JV.txt_repsN) JV.rows_nil))))))))))
  simp only [List.cons_append, List.nil_append, List.append_nil] at RM_
  have RR := Own.mem_ (A := (g9 :: g2 :: A)) (m := e.mem10) (Own.all (c := 10) (sz := 7) Bgm rfl (by omega)) RM_ rfl (fun y hy h => by
   simp only [ob, List.mem_singleton] at hy
   subst hy
   rcases List.mem_cons.1 h with h | h
   ·exact hgm9 h
   rcases List.mem_cons.1 h with h | h
   ·have := Bg2.lt; omega
   ·have := hA _ h; have := E.size; omega)
  clear RM_ rk_ rh_ rc_ ra9 rp9 ra_ rp_
  replace Bg1 := Bg1.mod0 E_
  replace Bg2 := Bg2.mod0 E_
  replace E := E.then E_
  have Bg9 := Bg9_
  refine s_sta (vs := [_, _, _, _, _, _]) ag25 Bg9 rfl rfl rfl (by simp [Value.oneCell']) (by simp) fun w20 P20 => ?_
  replace Bg1 := Bg1.ne P20.mod (Ne.symm Dg9_1)
  replace Bg2 := Bg2.ne P20.mod (Ne.symm Dg9_2)
  replace E := E.own P20.mod Lg9_E
  replace Bg9 : Blk w20 g9 _ [_, _, _, _, _, _] := P20.blk
  have RR9 := RR.toM P20.mod (fun a ha => by simp [List.mem_singleton.1 ha])
  refine Ln ?_
  have E9 := Mod.refl [] w20
  refine e_K (hK12 _ _ _ _ (Cq fun K13 hK13 => Cq fun K14 hK14 => Cr (Sv (oA0 fd48_3 rfl) (Sv (oL sc4 rfl (Bg1.cell rfl)) (Ln (e_K (hK14 _ _ _ _ ?_)))))))
  refine c_cond rfl (fun h89 => ?_) (fun h89 => ?_)
  ·have hval : e.val = JV.obj (putM e.mem10 kState (JV.txtV e.key)) := by simp [EV.val, EV.memV, h89]
   refine c_drawp [] [0, 1, 2, 3, 4, 5, 6] 7 [8] wide (by kernel_rfl) (fun _ _ _ h => h.2) (pw_nil (tv (fun w_ E_ => (oA0 fd25_5 rfl)) rfl rfl (tv (fun w_ E_ => (oL sc23 rfl ((Bg9.mod0 E_).cell rfl))) rfl rfl (tv (fun w_ E_ => (oA0 fd48_4 rfl)) rfl rfl (tv (fun w_ E_ => (oL sc9 rfl ((Bg1.mod0 E_).cell rfl))) rfl rfl (tc (fun w_ E_ => oC ent79 rfl) (fun w_ E_ => c_text11 _ e.key) rfl rfl (tv (fun w_ E_ => (o_build (cs := [_, _, _, _, _, _, _]) pl44 zv44 rfl rfl)) rfl rfl (tcr (fun u w_ => Rep (g9 :: g2 :: A) w_ (.sl 7 ((putM e.mem10 kState (JV.txtV e.key)).map JV.Dp)) u) (fun v_ w1_ w2_ k_ h_ => h_.to0 k_) (fun w_ E_ => oC ent78 rfl) (fun w_ E_ => c_jwith (g9 :: g2 :: A) _ (fun a ha => by rcases List.mem_cons.1 ha with rfl | ha; exact (Bg9.mod0 E_).lt; rcases List.mem_cons.1 ha with rfl | ha; exact (Bg2.mod0 E_).lt; exact Nat.lt_of_lt_of_le (hA a ha) (E.then E_).size) e.mem10 _ ((RR9.to0 E9).to0 E_) kState (JV.txtV e.key) _ JV.txt_repsN (by simp [EV.mem10])) rfl rfl rfl (tw_tail1 (t := 96) rfl rfl rfl rfl fun w21 v96 E_ RW_ => ?_)))))))))
   obtain ⟨ad6, c6, hv6_, hw61, hw62⟩ := RW_.sl_
   rw [List.length_map] at hv6_
   subst hv6_
   replace Bg1 := Bg1.mod0 E_
   replace Bg2 := Bg2.mod0 E_
   replace Bg9 := Bg9.mod0 E_
   replace E := E.then E_
   refine Sv (oA0 fd25_5 rfl) (s_st sc23 Bg9 rfl rfl rfl (by simp) fun w22 P22 => ?_)
   replace Bg1 := Bg1.ne P22.mod (Ne.symm Dg9_1)
   replace Bg2 := Bg2.ne P22.mod (Ne.symm Dg9_2)
   replace E := E.own P22.mod Lg9_E
   replace Bg9 : Blk w22 g9 _ [_, _, _, _, _, _] := P22.blk
   have RW := RW_.toM P22.mod (fun a ha => by simp [List.mem_singleton.1 ha])
   refine Ln (e_K (hK13 _ _ _ _ (Cq fun K15 hK15 => Cr (Sv (o_lda (vs := [_, _, _, _, _, _]) ag25 rfl rfl (Bg9.cs rfl)) ?_))))
   have RF := JV.obj_repsN (A := (g9 :: g2 :: A)) rfl RW
   refine s_sta (vs := [_, _, _, _, _, _]) ag25 Bg2 rfl rfl rfl (by simp [Value.oneCell']) (by simp) fun w23 P23 => ?_
   replace Bg1 := Bg1.ne P23.mod (Ne.symm (Ne.symm Dg1_g2))
   replace Bg9 := Bg9.ne P23.mod Dg9_2
   replace E := E.own P23.mod Lg2_E
   replace Bg2 : Blk w23 g2 _ [_, _, _, _, _, _] := P23.blk
   replace RF := RF.toM P23.mod (fun a ha => by simp [List.mem_singleton.1 ha])
   exact Ln (e_K (hK15 _ _ _ _ (cR (retc (vs := [_, _, _, _, _, _]) rfl ag25 rfl rfl (Bg2.cs rfl) ⟨_, rfl, by rw [hval]; exact RF.anti (A' := A) (fun a ha => by simp [ha]), E⟩))))
  ·have hval : e.val = JV.obj e.mem10 := by simp [EV.val, EV.memV, h89]
   refine cK (e_K (hK13 _ _ _ _ (Cq fun K16 hK16 => Cr (Sv (o_lda (vs := [_, _, _, _, _, _]) ag25 rfl rfl (Bg9.cs rfl)) ?_))))
   have RF := JV.obj_repsN (A := (g9 :: g2 :: A)) (m := e.mem10) rfl (RR9.to0 E9)
   refine s_sta (vs := [_, _, _, _, _, _]) ag25 Bg2 rfl rfl rfl (by simp [Value.oneCell']) (by simp) fun w24 P24 => ?_
   replace Bg1 := Bg1.ne P24.mod (Ne.symm (Ne.symm Dg1_g2))
   replace Bg9 := Bg9.ne P24.mod Dg9_2
   replace E := E.own P24.mod Lg2_E
   replace Bg2 : Blk w24 g2 _ [_, _, _, _, _, _] := P24.blk
   replace RF := RF.toM P24.mod (fun a ha => by simp [List.mem_singleton.1 ha])
   exact Ln (e_K (hK16 _ _ _ _ (cR (retc (vs := [_, _, _, _, _, _]) rfl ag25 rfl rfl (Bg2.cs rfl) ⟨_, rfl, by rw [hval]; exact RF.anti (A' := A) (fun a ha => by simp [ha]), E⟩))))
end Go.Proofs.YtknndpjacklkeaaGreatDoor.V

set_option linter.unusedVariables false
set_option linter.unusedSimpArgs false
namespace Go.Proofs.YtknndpjacklkeaaGreatDoor.V
open Go
namespace JV
theorem fitM {deep : Nat} : ∀ (m : List (Str × JV)) (prev : Option Str) (b b' : Str), wrm m deep prev b = .ok b' → ∃ t, b' = b ++ t ∧ FitM m deep prev t
 | [], prev, b, b', h => by
  rw [wrm] at h
  injection h with h
  subst h
  exact ⟨[], by simp, fun b _ => by rw [wrm]; simp⟩
 | p :: r, prev, b, b', h => by
  obtain ⟨hq, b2, h2, h3, ht, _⟩ := mem_ok h
  obtain ⟨t1, rfl, _, hf1⟩ := fit h2
  obtain ⟨t2, rfl, hf2⟩ := fitM r (some p.1) _ _ h3
  exact ⟨_, by simp, mem_fit hq ht hf1 hf2⟩
theorem filtS {f : Str × JV → Option (Str × JV)} {deep : Nat} (hf : ∀ p q, f p = some q → q.1 = p.1) (hv : ∀ p q b b', f p = some q → wr p.2 (deep + 1) b = .ok b' → ∃ t', b.length + t'.length ≤ b'.length ∧ Fit q.2 (deep + 1) t' ∧ (b.length + t'.length = b'.length → q.2 = p.2)) :
  ∀ (m : List (Str × JV)) (prev prev' : Option Str) (b b' : Str), wrm m deep prev b = .ok b' → (prev = none → prev' = none) → (∀ q', prev' = some q' → ∀ p ∈ m, bl q' p.1 = true) → ascM m → ∃ t', b.length + t'.length ≤ b'.length ∧ FitM (m.filterMap f) deep prev' t' ∧ (b.length + t'.length = b'.length → m.filterMap f = m)
 | [], prev, prev', b, b', h, _, _, _ => by
  rw [wrm] at h
  injection h with h
  subst h
  exact ⟨[], by simp, fun b _ => by rw [List.filterMap_nil, wrm]; simp, fun _ => rfl⟩
 | p :: r, prev, prev', b, b', h, hp, hq', ha => by
  obtain ⟨hq, b2, h2, h3, ht, hl⟩ := mem_ok h
  have har : ascM r := List.Pairwise.of_cons ha
  have hrel : ∀ y ∈ r, bl p.1 y.1 = true := fun y hy => List.rel_of_pairwise_cons ha hy
  obtain ⟨t1, rfl, hl2, hf1⟩ := fit h2
  cases hfp : f p with
  | none =>
   obtain ⟨t', h5, h6, _⟩ := filtS hf hv r (some p.1) prev' _ _ h3 (fun e => by cases e) (fun q' e y hy => hq' q' e y (by simp [hy])) har
   simp only [List.length_append, List.length_singleton] at h5
   exact ⟨t', by omega, by rw [List.filterMap_cons_none hfp]; exact h6, fun e => by omega⟩
  | some q =>
   obtain ⟨t1', h7, h8, h9⟩ := hv p q _ _ hfp h2
   have hk := hf p q hfp
   obtain ⟨t', h5, h6, h10⟩ := filtS hf hv r (some p.1) (some q.1) _ _ h3 (fun e => by cases e) (fun q' e y hy => by injection e with e; rw [← e, hk]; exact hrel y hy) har
   have hc : (comma prev').length ≤ (comma prev).length := by
    cases prev with
    | none => rw [hp rfl]; exact Nat.le_refl _
    | some x => cases prev' <;> simp [comma]
   refine ⟨comma prev' ++ putQ q.1 ++ [58] ++ t1' ++ t', ?_, by
    rw [List.filterMap_cons_some hfp]
    exact mem_fit (fun q' e => by rw [hk]; exact hq' q' e p (by simp)) (by rw [hk]; exact ht) h8 h6, fun e => ?_⟩
   ·simp only [List.length_append] at h5 h7 ⊢
    rw [hk]
    omega
   ·rw [List.filterMap_cons_some hfp]
    simp only [List.length_append] at h5 h7 h9 h10 e
    rw [hk] at e
    rw [h10 (by omega)]
    have e2 := h9 (by omega)
    have : q = p := Prod.ext hk e2
    rw [this]
theorem bare_obj {v : JV} {deep : Nat} {b b' : Str} (k5 : v.kind = 5) (h : wr v deep b = .ok b') : v = obj v.map := by
 rw [wr_eq] at h
 split at h
 ·cases h
 rename_i hb
 have hb' : bare v = true := by simpa using hb
 unfold bare at hb'
 simp only [k5, Bool.and_eq_true, Bool.or_eq_true, decide_eq_true_eq] at hb'
 obtain ⟨⟨⟨⟨⟨⟨_, h1⟩, h2⟩, h3⟩, h4⟩, _⟩, _⟩ := hb'
 have h1' : v.is = false := by rcases h1 with h1 | h1 <;> first | (simp at h1; done) | simpa using h1
 have h2' : v.num = 0 := by rcases h2 with h2 | h2 <;> first | (simp at h2; done) | exact h2
 have h3' : v.str = [] := by rcases h3 with h3 | h3 <;> first | (simp at h3; done) | exact h3
 have h4' : v.list = [] := by rcases h4 with h4 | h4 <;> first | (simp at h4; done) | exact List.eq_nil_of_length_eq_zero h4
 exact ext_ k5 h1' h2' h3' h4' rfl
theorem stayS (kind : Str) (p q : Str × JV) (deep : Nat) (b b' : Str) (h : stay kind p = some q) (hw : wr p.2 deep b = .ok b') : ∃ t', b.length + t'.length ≤ b'.length ∧ Fit q.2 deep t' ∧ (b.length + t'.length = b'.length → q.2 = p.2) := by
 have same : p = q → ∃ t', b.length + t'.length ≤ b'.length ∧ Fit q.2 deep t' ∧ (b.length + t'.length = b'.length → q.2 = p.2) := fun e => by
  subst e
  obtain ⟨t, rfl, _, hf⟩ := fit hw
  exact ⟨t, by simp, hf, fun _ => rfl⟩
 have s0 : stay0 kind p = some q → p = q := fun e => by
  unfold stay0 at e
  split at e
  ·injection e
  ·cases e
 unfold stay at h
 split at h
 ·rename_i hc
  split at h
  ·rename_i y hy
   injection h with h
   subst h
   obtain ⟨hd, b2, h2, hb', hl⟩ := map_ok hc.2.2 hw
   obtain ⟨ha, _⟩ := wrm_asc _ _ _ _ _ h2
   obtain ⟨t', h5, h6, h7⟩ := filtS (f := fun p => if p.1 = kSigned then some p else none) (fun p q e => by
    split at e
    ·injection e with e; rw [e]
    ·cases e) (fun p q b b' e hw => by
    split at e
    ·injection e with e
     subst e
     obtain ⟨t, rfl, _, hf⟩ := fit hw
     exact ⟨t, by simp, hf, fun _ => rfl⟩
    ·cases e) p.2.map none none _ _ h2 (fun _ => rfl) (fun q' e => by cases e) ha
   rw [one_of ha hy] at h6 h7
   subst hb'
   refine ⟨[123] ++ t' ++ [125], ?_, fit_obj h6 hd, fun e => ?_⟩
   ·simp only [List.length_append, List.length_singleton] at h5 ⊢
    omega
   ·simp only [List.length_append, List.length_singleton] at h5 h7 e
    have := h7 (by omega)
    show obj [(kSigned, y)] = p.2
    rw [this]
    exact (bare_obj hc.2.2 hw).symm
  ·exact same (s0 h)
 ·exact same (s0 h)
theorem contentS {kind : Str} {v : JV} {deep : Nat} {b b' : Str} (k5 : v.kind = 5) (h : wr v deep b = .ok b') : ∃ t', b.length + t'.length ≤ b'.length ∧ Fit (contentR kind v) deep t' ∧ (b.length + t'.length = b'.length → contentR kind v = v) := by
 unfold contentR
 split
 ·obtain ⟨t, rfl, _, hf⟩ := fit h
  exact ⟨t, by simp, hf, fun _ => rfl⟩
 rw [if_neg (by simp [k5])]
 obtain ⟨hd, b2, h2, hb', hl⟩ := map_ok k5 h
 obtain ⟨ha, _⟩ := wrm_asc _ _ _ _ _ h2
 obtain ⟨t', h5, h6, h7⟩ := filtS (f := stay kind) (stay_key kind) (fun p q b b' e hw => stayS kind p q _ b b' e hw) v.map none none _ _ h2 (fun _ => rfl) (fun q' e => by cases e) ha
 subst hb'
 refine ⟨[123] ++ t' ++ [125], ?_, fit_obj h6 hd, fun e => ?_⟩
 ·simp only [List.length_append, List.length_singleton] at h5 ⊢
  omega
 ·simp only [List.length_append, List.length_singleton] at h5 h7 e
  rw [h7 (by omega)]
  exact (bare_obj k5 h).symm
end JV
namespace EV
open JV
def rest (e : EV) : List (Str × JV) := if e.st then putM (e.mem10.drop 2) kState (txtV e.key) else e.mem10.drop 2
theorem memV_eq (e : EV) : e.memV = (kAuth, lst (e.auth.map txtV)) :: (kCont, e.con) :: e.rest := by
 unfold memV rest
 cases e.st with
 | false => rfl
 | true =>
  rw [if_pos rfl, if_pos rfl]
  kernel_rfl
theorem ern_zero {e : EV} (h : e.ern = 0) : e.chk = 0 ∧ Go.Proofs.YtknndpjacklkeaaGreatDoor.V.ern (e.val.wr 0 []) = 0 ∧ e.txt = bts (e.val.wr 0 []) := by
 unfold EV.ern at h
 split at h
 ·rename_i hc; exact absurd h hc
 ·rename_i hc
  have hc' : e.chk = 0 := Classical.not_not.1 hc
  exact ⟨hc', h, by unfold EV.txt; rw [if_neg hc]⟩
theorem val_wr {e : EV} (h : Go.Proofs.YtknndpjacklkeaaGreatDoor.V.ern (e.val.wr 0 []) = 0) : ∃ b3 b4 b2, wr (lst (e.auth.map txtV)) 1 ([123] ++ putQ kAuth ++ [58]) = .ok b3 ∧ wr e.con 1 (b3 ++ [44] ++ putQ kCont ++ [58]) = .ok b4 ∧ wrm e.rest 0 (some kCont) b4 = .ok b2 ∧ e.val.wr 0 [] = .ok (b2 ++ [125]) ∧ (b2 ++ [125]).length ≤ 65536 := by
 obtain ⟨T, hT⟩ := ern_ok h
 obtain ⟨_, b2, h2, hT2, hl⟩ := map_ok rfl hT
 rw [show e.val.map = e.memV from rfl, memV_eq] at h2
 obtain ⟨_, b3, h3, h4, _, _⟩ := mem_ok h2
 obtain ⟨_, b4, h5, h6, _, _⟩ := mem_ok h4
 subst hT2
 exact ⟨b3, b4, b2, by simpa [comma] using h3, by simpa [comma] using h5, h6, hT, hl⟩
def few (e : EV) : Prop := e.sigs.length ≤ 1000000 ∧ e.prev.length ≤ 1000000 ∧ e.auth.length ≤ 1000000
theorem few_of {e : EV} {n : Nat} (h : e.great n = false) (hn : n ≤ 1000000) : e.few := by
 unfold great at h
 simp only [Bool.or_eq_false_iff, decide_eq_false_iff_not] at h
 have h3 : e.n3 n ≤ n := by omega
 have h2 : e.n2 n ≤ e.n3 n := addW_ge _ _ _
 have h1 : e.n1 n ≤ e.n2 n := addW_ge _ _ _
 have h0 : e.n0 ≤ e.n1 n := addW_ge _ _ _
 have hr : e.sigs.length + e.prev.length + e.auth.length ≤ e.n0 := by unfold n0; omega
 exact ⟨by omega, by omega, by omega⟩
end EV
end Go.Proofs.YtknndpjacklkeaaGreatDoor.V

set_option linter.unusedVariables false
set_option linter.unusedSimpArgs false
set_option maxRecDepth 10000
namespace Go.Proofs.YtknndpjacklkeaaGreatDoor.V
open Go Go.Proofs
theorem ent64 : Ent Tryz.prog 64 := Ent.of Tryz.func64 (by kernel_rfl) (by kernel_rfl)
theorem ent32 : Ent Tryz.prog 32 := Ent.of Tryz.func32 (by kernel_rfl) (by kernel_rfl)
theorem ent31 : Ent Tryz.prog 31 := Ent.of Tryz.func31 (by kernel_rfl) (by kernel_rfl)
theorem ent33 : Ent Tryz.prog 33 := Ent.of Tryz.func33 (by kernel_rfl) (by kernel_rfl)
theorem ent29 : Ent Tryz.prog 29 := Ent.of Tryz.func29 (by kernel_rfl) (by kernel_rfl)
theorem c_encode (w : World) (e : EV) (us : List Value) (R : Reps [] w e.D us) (ho : e.ok) (hsm : e.lens) (hf : e.few) (hT : Tab w) (hM : MaxL w) : Calls Tryz.prog 29 [.agg us.toArray].toArray w (Ret fun u w' => u = .tuple #[S e.txt, .int .i64 e.ern] ∧ Mod [] w w') := by
 refine enter Tryz.func29 rfl rfl rfl (l := [(0, _)]) ⟨rfl, trivial⟩ ?_
 have E := Mod.refl [] w
 obtain ⟨al, cl, am, cm, ap, cp, aa, ca, aS, cS, rfl, Rc, Rp, Ra, Rs⟩ := EV.cells17 R
 have R := EV.reps_ (e := e) Rc Rp Ra Rs
 refine Cq fun K1 hK1 => Cr (s_box rfl rfl rfl fun g1 w1 N1 => ?_)
 have Lg1_E := N1.le E
 replace E := E.then N1.mod
 have Bg1 := N1.blk
 refine tW 2 rfl (Ln (e_K (hK1 _ _ _ _ (Cq fun K2 hK2 => Cq fun K3 hK3 => Cr (Sv (o_lda (vs := [_, _, _, _, _, _, _, _, _, _, _, _, _, _, _, _, _]) ag48 rfl rfl (Bg1.cs rfl)) (sc (oC ent64 rfl) (c_check _ e _ (R.to0 E) ho hsm (hT.mod E (by simp)) (hM.mod0 E)) rfl fun v_ w2 h_ => ?_))))))
 obtain ⟨rfl, E_⟩ := h_
 replace Bg1 := Bg1.mod0 E_
 replace E := E.then E_
 refine Za rfl (Ln (e_K (hK3 _ _ _ _ (Cq fun K4 hK4 => Cr (tW 2 rfl (Ln (e_K (hK4 _ _ _ _ ?_))))))))
 refine c_if rfl (fun h8 => ?_) (fun h8 => ?_)
 ·exact Cq fun K5 hK5 => Cr (tW 3 rfl (Ln (e_K (hK5 _ _ _ _ (cR (eT (by simp) (ret2 rfl rfl rfl ⟨by rw [EV.txt, EV.ern, if_pos h8, if_pos h8], E⟩)))))))
 ·refine cK (e_K (hK2 _ _ _ _ (Cq fun K6 hK6 => Cr (Sv (o_lda (vs := [_, _, _, _, _, _, _, _, _, _, _, _, _, _, _, _, _]) ag48 rfl rfl (Bg1.cs rfl)) (sc (oC ent32 rfl) (c_evalue [] _ (by simp) e _ (R.to0 E) hf.1 hf.2.1 hf.2.2) rfl fun v_ w3 h_ => ?_)))))
  obtain ⟨us9, rfl, Rv, E_⟩ := h_
  replace Bg1 := Bg1.mod0 E_
  replace E := E.then E_
  obtain ⟨al9, cl9, am9, cm9, rfl, Rl9, Rm9⟩ := JV.cells_ Rv
  replace Rv := JV.reps_ Rl9 Rm9
  have Ev := Mod.refl [] w3
  refine sc (oC ent19 rfl) (c_canon _ e.val _ (Rv.to0 Ev) (hT.mod E (by simp))) rfl fun v_ w4 h_ => ?_
  obtain ⟨rfl, E_⟩ := h_
  replace Bg1 := Bg1.mod0 E_
  replace E := E.then E_
  replace Ev := Ev.then E_
  exact tW 4 rfl (Ln (e_K (hK6 _ _ _ _ (cR (ret2 rfl rfl rfl ⟨by rw [EV.txt, EV.ern, if_neg h8, if_neg h8]; try rfl, E⟩)))))

theorem c_encodeR (w : World) (e : EV) (us : List Value) (R : Reps [] w e.D us) (ho : e.ok) (hsm : e.lens) (hf : e.few) (hT : Tab w) (hM : MaxL w) : Calls Tryz.prog 30 [.agg us.toArray].toArray w (Ret fun u w' => u = .tuple #[S e.txt, .int .i64 e.ern] ∧ Mod [] w w') := by
 refine enter Tryz.func30 rfl rfl rfl (l := [(0, _)]) ⟨rfl, trivial⟩ ?_
 have E := Mod.refl [] w
 obtain ⟨al, cl, am, cm, ap, cp, aa, ca, aS, cS, rfl, Rc, Rp, Ra, Rs⟩ := EV.cells17 R
 have R := EV.reps_ (e := e) Rc Rp Ra Rs
 refine Cq fun K1 hK1 => Cr (s_box rfl rfl rfl fun g1 w1 N1 => ?_)
 have Lg1_E := N1.le E
 replace E := E.then N1.mod
 have Bg1 := N1.blk
 refine tW 2 rfl (Ln (e_K (hK1 _ _ _ _ (Cq fun K2 hK2 => Cr (Sv (o_lda (vs := [_, _, _, _, _, _, _, _, _, _, _, _, _, _, _, _, _]) ag48 rfl rfl (Bg1.cs rfl)) (sc (oC ent31 rfl) (c_checkR _ e _ (R.to0 E) ho (hT.mod E (by simp))) rfl fun v_ w2 h_ => ?_))))))
 obtain ⟨rfl, E_⟩ := h_
 replace Bg1 := Bg1.mod0 E_
 replace E := E.then E_
 refine Za rfl (Ln (e_K (hK2 _ _ _ _ (Cq fun K3 hK3 => Cq fun K4 hK4 => Cr (tW 2 rfl (Ln (e_K (hK4 _ _ _ _ ?_))))))))
 refine c_if rfl (fun h8 => ?_) (fun h8 => ?_)
 ·exact Cq fun K5 hK5 => Cr (tW 3 rfl (Ln (e_K (hK5 _ _ _ _ (cR (eT (by simp) (ret2 rfl rfl rfl ⟨by rw [EV.txt, EV.ern, if_pos h8, if_pos h8], E⟩)))))))
 ·refine cK (e_K (hK3 _ _ _ _ (Cq fun K6 hK6 => Cr (Sv (o_lda (vs := [_, _, _, _, _, _, _, _, _, _, _, _, _, _, _, _, _]) ag48 rfl rfl (Bg1.cs rfl)) (sc (oC ent33 rfl) (c_evalueR [] _ (by simp) e _ (R.to0 E) hf.1 hf.2.1 hf.2.2) rfl fun v_ w3 h_ => ?_)))))
  obtain ⟨us9, rfl, Rv, E_⟩ := h_
  replace Bg1 := Bg1.mod0 E_
  replace E := E.then E_
  obtain ⟨al9, cl9, am9, cm9, rfl, Rl9, Rm9⟩ := JV.cells_ Rv
  replace Rv := JV.reps_ Rl9 Rm9
  have Ev := Mod.refl [] w3
  refine sc (oC ent65 rfl) (c_canonR _ e.val _ (Rv.to0 Ev) (hT.mod E (by simp))) rfl fun v_ w4 h_ => ?_
  obtain ⟨rfl, E_⟩ := h_
  replace Bg1 := Bg1.mod0 E_
  replace E := E.then E_
  replace Ev := Ev.then E_
  exact tW 4 rfl (Ln (e_K (hK6 _ _ _ _ (cR (ret2 rfl rfl rfl ⟨by rw [EV.txt, EV.ern, if_neg h8, if_neg h8]; try rfl, E⟩)))))

end Go.Proofs.YtknndpjacklkeaaGreatDoor.V

set_option linter.unusedVariables false
set_option linter.unusedSimpArgs false
set_option maxRecDepth 10000
namespace Go.Proofs.YtknndpjacklkeaaGreatDoor.V
open Go Go.Proofs
theorem ent173 : Ent Tryz.prog 173 := Ent.of Tryz.func173 (by kernel_rfl) (by kernel_rfl)
theorem sl148 : slB Tryz.prog 148 147 1 4 = true := by kernel_rfl
theorem zv147 : zvB Tryz.prog 147 ([.int .u32 0]) := by unfold zvB; kernel_rfl
abbrev gD : Nat := 0

theorem c_rot (w : World) (x : UInt32) (k : Nat) (hk : 0 < k ∧ k < 32) : Calls Tryz.prog 200 [W4 x, .int .i64 (-(k : Int))].toArray w (Ret fun v w' => v = W4 (rr x k) ∧ Mod [] w w') := by
 refine enter Tryz.func200 rfl rfl rfl (l := [(0, _), (1, _)]) ⟨rfl, rfl, trivial⟩ ?_
 have E := Mod.refl [] w
 refine Cq fun K1 hK1 => Cr (Za rfl (Ln (e_K (hK1 _ _ _ _ (Cq fun K2 hK2 => Cr (Zm rfl (Sv (o_convE (r := 18446744073709551616 - (k : Int)) Tryz.underlying3 Tryz.underlying144 rfl (rot_conv k hk)) (Sv (o_andE (r := ((32 - k : Nat) : Int)) rfl rfl ((and31 ⟨k, hk.2⟩ (by simpa using Nat.pos_iff_ne_zero.1 hk.1)).trans (by dsimp only; omega))) (Za rfl (Ln (e_K (hK2 _ _ _ _ (Cq fun K3 hK3 => ?_)))))))))))))
 exact Cr (tW 2 rfl (Sv (o_shl4 (m := 32 - k) rfl rfl (by omega)) (tW 2 rfl (Sv (o_subE (r := (k : Int)) rfl rfl (by rw [wrapu64_in _ (by omega)]; omega)) (Sv (o_shr4 (m := k) rfl rfl (by omega)) (Sv (o_or4 rfl rfl) (Za rfl (Ln (e_K (hK3 _ _ _ _ (cR (ret1 rfl rfl ⟨by rw [UInt32.or_comm]; rfl, E⟩))))))))))))

theorem c_turn (w : World) (x : UInt32) (k : Nat) (hk : 0 < k ∧ k < 32) : Calls Tryz.prog 173 [W4 x, .int .u64 (k : Int)].toArray w (Ret fun v w' => v = W4 (rr x k) ∧ Mod [] w w') := by
 refine enter Tryz.func173 rfl rfl rfl (l := [(0, _), (1, _)]) ⟨rfl, rfl, trivial⟩ ?_
 have E := Mod.refl [] w
 refine Cq fun K1 hK1 => Cr (Za rfl (Ln (e_K (hK1 _ _ _ _ (Cq fun K2 hK2 => Cr (tW 2 rfl (Sv (o_shr4 (m := k) rfl rfl (by omega)) (tW 2 rfl (Sv (o_subE (r := ((32 - k : Nat) : Int)) rfl rfl (by rw [wrapu64_in _ (by omega)]; omega)) (Sv (o_shl4 (m := 32 - k) rfl rfl (by omega)) (Sv (o_or4 rfl rfl) (Za rfl ?_))))))))))))
 exact Ln (e_K (hK2 _ _ _ _ (cR (ret1 rfl rfl ⟨rfl, E⟩))))

theorem c_three (w : World) (x : UInt32) (i j k : Nat) (hi : 0 < i ∧ i < 32) (hj : 0 < j ∧ j < 32) (hk : 0 < k ∧ k < 32) : Calls Tryz.prog 174 [W4 x, .int .u64 (i : Int), .int .u64 (j : Int), .int .u64 (k : Int)].toArray w (Ret fun v w' => v = W4 (rr x i ^^^ rr x j ^^^ rr x k) ∧ Mod [] w w') := by
 refine enter Tryz.func174 rfl rfl rfl (l := [(0, _), (1, _), (2, _), (3, _)]) ⟨rfl, rfl, rfl, rfl, trivial⟩ ?_
 have E := Mod.refl [] w
 refine Cq fun K1 hK1 => Cr (Za rfl (Ln (e_K (hK1 _ _ _ _ (Cq fun K2 hK2 => Cr (tW 2 rfl (sc (oC ent173 rfl) (c_turn _ _ i hi) rfl fun v_ w1 h_ => ?_)))))))
 obtain ⟨rfl, E_⟩ := h_
 replace E := E.then E_
 refine tW 2 rfl (sc (oC ent173 rfl) (c_turn _ _ j hj) rfl fun v_ w2 h_ => ?_)
 obtain ⟨rfl, E_⟩ := h_
 replace E := E.then E_
 refine Sv (o_xor4 rfl rfl) (tW 2 rfl (sc (oC ent173 rfl) (c_turn _ _ k hk) rfl fun v_ w3 h_ => ?_))
 obtain ⟨rfl, E_⟩ := h_
 replace E := E.then E_
 exact Sv (o_xor4 rfl rfl) (Za rfl (Ln (e_K (hK2 _ _ _ _ (cR (ret1 rfl rfl ⟨rfl, E⟩))))))

theorem c_word (A : List Nat) (w : World) (b : List UInt8) (v : Value) (R : Rep A w (byD b) v) (hb : 4 ≤ b.length) : Calls Tryz.prog 199 [v].toArray w (Ret fun u w' => u = W4 (wordOf (b.take 4)) ∧ Mod [] w w') := by
 refine enter Tryz.func199 rfl rfl rfl (l := [(0, _)]) ⟨rfl, trivial⟩ ?_
 have E := Mod.refl [] w
 obtain ⟨ad, c, rfl, hc1, hc2⟩ := flat_len R
 refine Cq fun K1 hK1 => Cr (Za rfl (Ln (e_K (hK1 _ _ _ _ (Cq fun K2 hK2 => Cr (Za rfl (Ln (e_K (hK2 _ _ _ _ (Cq fun K3 hK3 => Cq fun K4 hK4 => Cr (Zm rfl ?_)))))))))))
 refine Sv (o_slto (hi := 4) sl74 rfl rfl (by omega) (by omega)) (Sv (o_len Tryz.underlying74 rfl) (Zm rfl (Ln (e_K (hK4 _ _ _ _ (cB (c_loop (σ := Nat) (fun k => [(3, W4 (wordOf (b.take k))), (7, .slice ad 4 c), (8, .int .i64 4), (9, .int .i64 (k : Int))]) (fun k w1 => k ≤ 4 ∧ Mod [] w w1) (fun k => 4 - k) (0) ⟨rfl, rfl, rfl, rfl, trivial⟩ (⟨by omega, E⟩) ?_)))))))
 rintro k w1 ⟨hk, E⟩
 refine Cq fun K5 hK5 => Cr (Sv (o_lss rfl rfl) (Ln (e_K (hK5 _ _ _ _ (Cq fun K6 hK6 => ?_)))))
 refine c_if rfl (fun h10 => ?_) (fun h10 => ?_)
 ·have hlt : k < b.length := by omega
  obtain ⟨x, hx_x⟩ : ∃ x, b[k]? = some x := ⟨_, List.getElem?_eq_getElem (by omega)⟩
  obtain ⟨a_x, ha_x, hcs_x, _⟩ := flat_at (R.to0 E) hx_x
  subst ha_x
  refine cK (e_K (hK6 _ _ _ _ (Cq fun K7 hK7 => cB (Cq fun K8 hK8 => Cr (Sv (o_ix sl74 rfl rfl (by omega)) (Sv (oL sc5 rfl hcs_x.first) (Za rfl (Ln (e_K (hK8 _ _ _ _ (Cr (Zm rfl (Sv (o_shl4 (m := 8) rfl rfl (by decide)) ?_)))))))))))))
  refine Zm rfl (Sv (o_conv84 Tryz.underlying5 Tryz.underlying147 rfl) (Sv (o_or4 rfl rfl) (Za rfl (Ln (eI (by simp) (e_K (hK7 _ _ _ _ (Cr (Sv (o_addN rfl rfl (by omega)) (Zm rfl (Ln ?_)))))))))))
  rw [← wordOf_succ hx_x]
  exact eR (σ := Nat) (s := k) (k + 1) ⟨rfl, rfl, rfl, rfl, trivial⟩ ⟨by omega, E⟩ (by omega)
 ·have hk4 : k = 4 := by omega
  subst hk4
  exact c_exit (eT (by simp) (eT (by simp) (e_hit (e_K (hK3 _ _ _ _ (Cq fun K9 hK9 => Cr (tW 2 rfl (Ln (e_K (hK9 _ _ _ _ (cR (ret1 rfl rfl ⟨rfl, E⟩))))))))))))

theorem c_nums (w : World) : Calls Tryz.prog 137 [].toArray w (Ret fun u w' => Own w' 147 1 u 64 ((numsK.map wcells).flatten) ∧ (∀ x ∈ ob u, w.heap.size ≤ x) ∧ Mod [] w w') := by
 refine enter Tryz.func137 rfl rfl rfl (l := []) trivial ?_
 have E := Mod.refl [] w
 refine Cq fun K1 hK1 => Cr (Za rfl (Ln (e_K (hK1 _ _ _ _ (Cq fun K2 hK2 => Cr (s_bslice (cs := _) sl148 zv147 rfl rfl rfl (by decide) rfl fun g1 w1 N1 => ?_))))))
 have Lg1_E := N1.le E
 replace E := E.then N1.mod
 have Bg1 := N1.blk
 exact Za rfl (Ln (e_K (hK2 _ _ _ _ (cR (ret1 rfl rfl ⟨Own.all (cs := (numsK.map wcells).flatten) Bg1 rfl (by omega), fun x hx => by simp [ob] at hx; subst hx; exact Lg1_E, E⟩)))))
end Go.Proofs.YtknndpjacklkeaaGreatDoor.V
