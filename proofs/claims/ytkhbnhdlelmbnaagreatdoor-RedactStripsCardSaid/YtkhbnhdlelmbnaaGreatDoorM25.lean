/-
  A part of the proof: walks of functions. No condition of its own.
-/
import Derived.Test.YtkhbnhdlelmbnaaGreatDoorM24
set_option linter.unusedVariables false
set_option linter.unusedSimpArgs false
set_option maxRecDepth 10000
namespace Go.Proofs.YtkhbnhdlelmbnaaGreatDoor.V
open Go Go.Proofs
theorem ent75 : Ent Tryz.prog 75 := Ent.of Tryz.func75 (by kernel_rfl) (by kernel_rfl)
theorem ent76 : Ent Tryz.prog 76 := Ent.of Tryz.func76 (by kernel_rfl) (by kernel_rfl)
theorem c_evalue (A : List Nat) (w : World) (hA : ∀ a ∈ A, a < w.heap.size) (e : EV) (us : List Value) (R : Reps A w e.D us) (hs : e.sigs.length ≤ 1000000) (hp : e.prev.length ≤ 1000000) (ha : e.auth.length ≤ 1000000) : Calls Tryz.prog 46 [.agg us.toArray].toArray w (Ret fun u w' => ∃ us', u = .agg us'.toArray ∧ Reps A w' e.val.D us' ∧ Mod [] w w') := by
 refine enter Tryz.func46 rfl rfl rfl (l := [(0, _)]) ⟨rfl, trivial⟩ ?_
 have E := Mod.refl [] w
 obtain ⟨ale, cle, ame, cme, ape, cpe, aae, cae, aSe, cSe, rfl, Rce, Rpe, Rae, Rse⟩ := EV.cells17 R
 have Rp0 := Rpe.anti (A' := []) (by simp)
 have Ra0 := Rae.anti (A' := []) (by simp)
 have Rs0 := Rse.anti (A' := []) (by simp)
 obtain ⟨_, c9a, hfla, hcc1a, hcc2a⟩ := flat_len Rs0
 injection hfla with _ _ hfca
 subst hfca
 refine Cq fun K1 hK1 => Cr (s_box rfl rfl rfl fun g1 w1 N1 => ?_)
 have Lg1_E := N1.le E
 replace E := E.then N1.mod
 have Bg1 := N1.blk
 refine s_alloc zv25 rfl fun g2 w2 N2 => ?_
 have Lg2_E := N2.le E
 have Dg1_g2 := N2.ne Bg1
 replace Bg1 := Bg1.mod0 N2.mod
 replace E := E.then N2.mod
 have Bg2 := N2.blk
 refine Ln (e_K (hK1 _ _ _ _ (Cq fun K2 hK2 => Cr (sc (oC ent38 rfl) (c_jmap (g2 :: A) _ (fun a ha => by rcases List.mem_cons.1 ha with rfl | ha; exact Bg2.lt; exact Nat.lt_of_lt_of_le (hA a ha) E.size) [] _ Rep.sl_nil (by simp)) rfl fun v_ w3 h_ => ?_))))
 obtain ⟨us2, rfl, Ro, E_⟩ := h_
 replace Bg1 := Bg1.mod0 E_
 replace Bg2 := Bg2.mod0 E_
 replace E := E.then E_
 have Ek2 := Mod.refl [] w3
 rw [show putAll ([] : List (Str × JV)) ([] : List (Str × JV)).length = EV.sg e.sigs 0 from rfl] at Ro
 obtain ⟨al0, cl0, am0, cm0, rfl, Rl0, Rm0⟩ := JV.cells_ Ro
 replace Ro := JV.reps_ Rl0 Rm0
 refine s_alloc zv25 rfl fun g3 w4 N3 => ?_
 have Lg3_E := N3.le E
 have Lg3_Ek2 := N3.le Ek2
 have Dg1_g3 := N3.ne Bg1
 have Dg2_g3 := N3.ne Bg2
 replace Bg1 := Bg1.mod0 N3.mod
 replace Bg2 := Bg2.mod0 N3.mod
 replace E := E.then N3.mod
 replace Ek2 := Ek2.then N3.mod
 have Bg3 := N3.blk
 refine s_sta (vs := [_, _, _, _, _, _]) ag25 Bg3 rfl rfl rfl (by simp [Value.oneCell']) (by simp) fun w5 P5 => ?_
 replace Bg1 := Bg1.ne P5.mod (Ne.symm (Ne.symm Dg1_g3))
 replace Bg2 := Bg2.ne P5.mod (Ne.symm (Ne.symm Dg2_g3))
 replace E := E.own P5.mod Lg3_E
 replace Ek2 := Ek2.own P5.mod Lg3_Ek2
 replace Bg3 : Blk w5 g3 _ [_, _, _, _, _, _] := P5.blk
 refine Ln (e_K (hK2 _ _ _ _ (Cq fun K3 hK3 => Cq fun K4 hK4 => ?_)))
 have Ro2 := (Ro.more (A' := (g2 :: g3 :: A)) (fun a ha => by rcases List.mem_cons.1 ha with rfl | ha; exact .inl (by simp); rcases List.mem_cons.1 ha with rfl | ha; exact .inr Lg3_Ek2; exact .inl (by simp [ha]))).to0 Ek2
 refine Cr (Sv (oA0 fd29_11 rfl) (Sv (oL sc27 rfl (Bg1.cell rfl)) (Sv (o_len Tryz.underlying27 rfl) (Zm rfl (Ln (e_K (hK4 _ _ _ _ (cB (c_loop (σ := Nat × Option Addr × Nat × Option Addr × Nat) (fun ⟨k, al, cl, am, cm⟩ => [(1, .pointer (some ⟨g1, 0, none⟩)), (2, .pointer (some ⟨g2, 0, none⟩)), (3, .pointer (some ⟨g3, 0, none⟩)), (11, .slice aSe e.sigs.length cSe), (12, .int .i64 e.sigs.length), (13, .int .i64 (k : Int))]) (fun ⟨k, al, cl, am, cm⟩ w1 => k ≤ e.sigs.length ∧ Reps (g2 :: g3 :: A) w1 (JV.obj (EV.sg e.sigs k)).D [.int .i64 5, .bool false, .int .i64 0, S [], .slice al 0 cl, .slice am ((EV.sg e.sigs k)).length cm] ∧ Blk w1 g3 25 [.int .i64 5, .bool false, .int .i64 0, S [], .slice al 0 cl, .slice am ((EV.sg e.sigs k)).length cm] ∧ Blk w1 g2 25 [.int .i64 0, .bool false, .int .i64 0, S [], .slice none 0 0, .slice none 0 0] ∧ Blk w1 g1 29 [S e.room, S e.snd, S e.ty, .bool e.st, S e.key, .int .i64 e.con.kind, .bool e.con.is, .int .i64 e.con.num, S e.con.str, .slice ale e.con.list.length cle, .slice ame e.con.map.length cme, .slice ape e.prev.length cpe, .slice aae e.auth.length cae, .int .i64 e.dep, .int .i64 e.time, S e.hash, .slice aSe e.sigs.length cSe] ∧ Mod [] w w1) (fun ⟨k, al, cl, am, cm⟩ => e.sigs.length - k) (⟨0, al0, cl0, am0, cm0⟩) ⟨rfl, rfl, rfl, rfl, rfl, rfl, trivial⟩ (⟨by omega, Ro2, Bg3, Bg2, Bg1, E⟩) ?_)))))))))
 rintro ⟨k, al, cl, am, cm⟩ w6 ⟨hk, Rk, Bg3, Bg2, Bg1, E⟩
 have Ek := Mod.refl [] w6
 refine Cq fun K5 hK5 => Cr (Sv (o_lss rfl rfl) (Ln (e_K (hK5 _ _ _ _ (Cq fun K6 hK6 => ?_)))))
 refine c_if rfl (fun h14 => ?_) (fun h14 => ?_)
 ·obtain ⟨x, hx_x⟩ : ∃ x, e.sigs[k]? = some x := ⟨_, List.getElem?_eq_getElem (by omega)⟩
  obtain ⟨a_x, ha_x, hcs_x, _⟩ := flat_at (Rs0.to0 E) hx_x
  cases ha_x
  have hI := EV.sg_inv e.sigs k
  obtain ⟨hI1, hI2, hI3⟩ := hI.one_ x.srv
  have hIl := hI.len
  refine cK (e_K (hK6 _ _ _ _ (Cq fun K7 hK7 => cB (Cq fun K8 hK8 => Cr (Sv (o_ix sl27 rfl rfl (by omega)) (Sv (o_lda ag43 rfl rfl hcs_x) (s_alloc zv43 rfl fun g4 w7 N4 => ?_)))))))
  have Lg4_E := N4.le E
  have Lg4_Ek := N4.le Ek
  have Dg1_g4 := N4.ne Bg1
  have Dg2_g4 := N4.ne Bg2
  have Dg3_g4 := N4.ne Bg3
  replace Bg1 := Bg1.mod0 N4.mod
  replace Bg2 := Bg2.mod0 N4.mod
  replace Bg3 := Bg3.mod0 N4.mod
  replace E := E.then N4.mod
  replace Ek := Ek.then N4.mod
  have Bg4 := N4.blk
  refine s_sta (vs := [_, _, _]) ag43 Bg4 rfl rfl rfl (by simp [Value.oneCell']) (by simp) fun w8 P8 => ?_
  replace Bg1 := Bg1.ne P8.mod (Ne.symm (Ne.symm Dg1_g4))
  replace Bg2 := Bg2.ne P8.mod (Ne.symm (Ne.symm Dg2_g4))
  replace Bg3 := Bg3.ne P8.mod (Ne.symm (Ne.symm Dg3_g4))
  replace E := E.own P8.mod Lg4_E
  replace Ek := Ek.own P8.mod Lg4_Ek
  replace Bg4 : Blk w8 g4 _ [_, _, _] := P8.blk
  refine Ln (e_K (hK8 _ _ _ _ (Cq fun K9 hK9 => Cr (Sv (o_lda (vs := [_, _, _, _, _, _]) ag25 rfl rfl (Bg3.cs rfl)) (Sv (oA0 fd43_0 rfl) (Sv (oL sc9 rfl (Bg4.cell rfl)) (sc (oC ent39 rfl) (c_jget (g2 :: g3 :: A) _ _ Ek (JV.obj (EV.sg e.sigs k)) _ Rk x.srv hI.asc (by show (EV.sg e.sigs k).length ≤ _; omega)) rfl fun v_ w9 h_ => ?_)))))))
  obtain ⟨us3, rfl, Rg0, E_⟩ := h_
  replace Bg1 := Bg1.mod0 E_
  replace Bg2 := Bg2.mod0 E_
  replace Bg3 := Bg3.mod0 E_
  replace Bg4 := Bg4.mod0 E_
  replace E := E.then E_
  replace Ek := Ek.then E_
  rw [EV.get_one] at Rg0
  obtain ⟨al3, cl3, am3, cm3, rfl, Rl3, Rm3⟩ := JV.cells_ Rg0
  replace Rg0 := JV.reps_ Rl3 Rm3
  have Rg := (Rg0.to0 Ek)
  have Ekg := Mod.refl [] w9
  refine Zm rfl (Sv (o_ext rfl rfl) (Sv (o_ext rfl rfl) (s_alloc zv25 rfl fun g5 w10 N5 => ?_)))
  have Lg5_E := N5.le E
  have Lg5_Ek := N5.le Ek
  have Lg5_Ekg := N5.le Ekg
  have Dg1_g5 := N5.ne Bg1
  have Dg2_g5 := N5.ne Bg2
  have Dg3_g5 := N5.ne Bg3
  have Dg4_g5 := N5.ne Bg4
  replace Bg1 := Bg1.mod0 N5.mod
  replace Bg2 := Bg2.mod0 N5.mod
  replace Bg3 := Bg3.mod0 N5.mod
  replace Bg4 := Bg4.mod0 N5.mod
  replace E := E.then N5.mod
  replace Ek := Ek.then N5.mod
  replace Ekg := Ekg.then N5.mod
  have Bg5 := N5.blk
  refine s_sta (vs := [_, _, _, _, _, _]) ag25 Bg5 rfl rfl rfl (by simp [Value.oneCell']) (by simp) fun w11 P11 => ?_
  replace Bg1 := Bg1.ne P11.mod (Ne.symm (Ne.symm Dg1_g5))
  replace Bg2 := Bg2.ne P11.mod (Ne.symm (Ne.symm Dg2_g5))
  replace Bg3 := Bg3.ne P11.mod (Ne.symm (Ne.symm Dg3_g5))
  replace Bg4 := Bg4.ne P11.mod (Ne.symm (Ne.symm Dg4_g5))
  replace E := E.own P11.mod Lg5_E
  replace Ek := Ek.own P11.mod Lg5_Ek
  replace Ekg := Ekg.own P11.mod Lg5_Ekg
  replace Bg5 : Blk w11 g5 _ [_, _, _, _, _, _] := P11.blk
  refine Za rfl (Ln (e_K (hK9 _ _ _ _ (c_drawp [] [0, 1, 2, 3, 4, 5, 6, 7, 8, 9, 10] 11 [] wide (by kernel_rfl) (fun _ _ _ h => h.2) (pw_nil (tv (fun w_ E_ => (o_lda (vs := [_, _, _, _, _, _]) ag25 rfl rfl ((Bg3.mod0 E_).cs rfl))) rfl rfl (tv (fun w_ E_ => (oA0 fd43_0 rfl)) rfl rfl (tv (fun w_ E_ => (oL sc9 rfl ((Bg4.mod0 E_).cell rfl))) rfl rfl (tv (fun w_ E_ => (o_lda (vs := [_, _, _, _, _, _]) ag25 rfl rfl ((Bg5.mod0 E_).cs rfl))) rfl rfl (tv (fun w_ E_ => (oA0 fd43_1 rfl)) rfl rfl (tv (fun w_ E_ => (oL sc9 rfl ((Bg4.mod0 E_).cell rfl))) rfl rfl (tv (fun w_ E_ => (oA0 fd43_2 rfl)) rfl rfl (tv (fun w_ E_ => (oL sc9 rfl ((Bg4.mod0 E_).cell rfl))) rfl rfl (tc (fun w_ E_ => oC ent74 rfl) (fun w_ E_ => c_jtext _ x.sig) rfl rfl ?_))))))))))))))
  refine tcr (fun u w_ => ∃ us, u = .agg us.toArray ∧ Reps (g2 :: g3 :: A) w_ ((JV.obj (putM (EV.one (EV.sg e.sigs k) x.srv).map x.key (JV.txtV x.sig)))).D us) (fun v_ w1_ w2_ k_ h_ => by obtain ⟨us_, e_, r_⟩ := h_; exact ⟨us_, e_, r_.to0 k_⟩) (fun w_ E_ => oC ent40 rfl) (fun w_ E_ => Calls.imp (c_jput (g2 :: g3 :: A) _ (fun a ha => by rcases List.mem_cons.1 ha with rfl | ha; exact (Bg2.mod0 E_).lt; rcases List.mem_cons.1 ha with rfl | ha; exact (Bg3.mod0 E_).lt; exact Nat.lt_of_lt_of_le (hA a ha) (E.then E_).size) (EV.one (EV.sg e.sigs k) x.srv) (JV.txtV x.sig) _ _ ((Rg.to0 Ekg).to0 E_) JV.txt_repsN x.key (by rw [hI1]; exact hI2) (by rw [hI1]; omega)) fun r_ w2_ hr => by obtain ⟨us_, e_, r2_, k_⟩ := hr; rw [hI1] at r2_; exact ⟨⟨us_, e_, r2_⟩, k_⟩) rfl rfl rfl ?_
  refine tcr1 (args := fun u_ => [_, _, u_].toArray) (fun u w_ => ∃ us, u = .agg us.toArray ∧ Reps (g2 :: g3 :: A) w_ (JV.obj (EV.sg e.sigs (k + 1))).D us) (fun v_ w1_ w2_ k_ h_ => by obtain ⟨us_, e_, r_⟩ := h_; exact ⟨us_, e_, r_.to0 k_⟩) 33 rfl rfl ⟨_, List.Mem.tail _ (List.Mem.tail _ (List.Mem.tail _ (List.Mem.head _))), rfl⟩ (fun w_ u_ E_ h_ => oC ent40 rfl) (fun w_ u_ E_ h_ => by
   obtain ⟨us_, rfl, r0_⟩ := h_
   exact Calls.imp (c_jput (g2 :: g3 :: A) _ (fun a ha => by rcases List.mem_cons.1 ha with rfl | ha; exact (Bg2.mod0 E_).lt; rcases List.mem_cons.1 ha with rfl | ha; exact (Bg3.mod0 E_).lt; exact Nat.lt_of_lt_of_le (hA a ha) (E.then E_).size) (JV.obj (EV.sg e.sigs k)) (JV.obj (putM (EV.one (EV.sg e.sigs k) x.srv).map x.key (JV.txtV x.sig))) _ _ ((Rk.to0 Ek).to0 E_) r0_ x.srv (by rw [JV.tbl_obj]; exact hI.asc) (by rw [JV.tbl_obj]; omega)) fun r_ w2_ hr => by
    obtain ⟨us_, e_, r2_, k_⟩ := hr
    rw [JV.tbl_obj] at r2_
    have hsg : EV.sg e.sigs (k + 1) = putM (EV.sg e.sigs k) x.srv (JV.obj (putM (EV.one (EV.sg e.sigs k) x.srv).map x.key (JV.txtV x.sig))) := EV.sg_succ hx_x
    rw [← hsg] at r2_
    exact ⟨⟨us_, e_, r2_⟩, k_⟩) rfl rfl rfl ?_
  refine tw_tail1 (t := 34) rfl rfl rfl rfl fun w12 v_ E_ h_ => ?_
  obtain ⟨us8, rfl, Rp⟩ := h_
  obtain ⟨al8, cl8, am8, cm8, rfl, Rl8, Rm8⟩ := JV.cells_ Rp
  replace Rp := JV.reps_ Rl8 Rm8
  replace Bg1 := Bg1.mod0 E_
  replace Bg2 := Bg2.mod0 E_
  replace Bg3 := Bg3.mod0 E_
  replace Bg4 := Bg4.mod0 E_
  replace Bg5 := Bg5.mod0 E_
  replace E := E.then E_
  replace Ek := Ek.then E_
  replace Ekg := Ekg.then E_
  refine s_sta (vs := [_, _, _, _, _, _]) ag25 Bg3 rfl rfl rfl (by simp [Value.oneCell']) (by simp) fun w13 P13 => ?_
  replace Bg1 := Bg1.ne P13.mod (Ne.symm (Ne.symm Dg1_g3))
  replace Bg2 := Bg2.ne P13.mod (Ne.symm (Ne.symm Dg2_g3))
  replace Bg4 := Bg4.ne P13.mod (Ne.symm Dg3_g4)
  replace Bg5 := Bg5.ne P13.mod (Ne.symm Dg3_g5)
  replace E := E.own P13.mod Lg3_E
  replace Bg3 : Blk w13 g3 _ [_, _, _, _, _, _] := P13.blk
  have Rp2 := Rp.toM P13.mod (fun a ha => by simp [List.mem_singleton.1 ha])
  exact Ln (eI (by simp) (e_K (hK7 _ _ _ _ (Cr (Sv (o_addN rfl rfl (by omega)) (Zm rfl (Ln (eR (σ := Nat × Option Addr × Nat × Option Addr × Nat) (s := ⟨k, al, cl, am, cm⟩) (⟨k + 1, al8, cl8, am8, cm8⟩) ⟨rfl, rfl, rfl, rfl, rfl, rfl, trivial⟩ ⟨by omega, Rp2, Bg3, Bg2, Bg1, E⟩ (by dsimp only; omega)))))))))
 ·have hkl : k = e.sigs.length := by omega
  subst hkl
  refine c_exit (eT (by simp) (eT (by simp) (e_hit (e_K (hK3 _ _ _ _ (Cq fun K10 hK10 => ?_))))))
  have Es := E
  refine c_draw wide (by kernel_rfl) (tv (fun w_ E_ => (oA0 fd29_7 rfl)) rfl rfl (tv (fun w_ E_ => (oL sc26 rfl ((Bg1.mod0 E_).cell rfl))) rfl rfl (tcr (fun u w_ => ∃ us, u = .agg us.toArray ∧ Reps (g2 :: A) w_ (JV.lst (e.auth.map JV.txtV)).D us) (fun v_ w1_ w2_ k_ h_ => by obtain ⟨us_, e_, r_⟩ := h_; exact ⟨us_, e_, r_.to0 k_⟩) (fun w_ E_ => oC ent75 rfl) (fun w_ E_ => Calls.imp (c_etexts (g2 :: A) _ (fun a ha => by rcases List.mem_cons.1 ha with rfl | ha; exact (Bg2.mod0 E_).lt; exact Nat.lt_of_lt_of_le (hA a ha) (E.then E_).size) e.auth aae cae (Ra0.to0 (E.then E_)) ha) fun r_ w2_ hr => by obtain ⟨us_, e_, r2_, k_⟩ := hr; exact ⟨⟨us_, e_, r2_⟩, k_⟩) rfl rfl rfl ?_)))
  refine tr1 (fun u w_ => ∃ us, u = .agg (S kAuth :: us).toArray ∧ Reps (g2 :: A) w_ (JV.lst (e.auth.map JV.txtV)).D us) (fun v_ w1_ w2_ k_ h_ => by obtain ⟨us_, e_, r_⟩ := h_; exact ⟨us_, e_, r_.to0 k_⟩) 38 rfl rfl ⟨_, by simp [Op.operands], rfl⟩ (fun w_ u_ E_ h_ => by
   obtain ⟨us_, rfl, r_⟩ := h_
   obtain ⟨ala, cla, ama, cma, rfl, rl_, rm_⟩ := JV.cells_ r_
   exact ⟨_, _, o_build (cs := [_, _, _, _, _, _, _]) pl41 zv41 rfl rfl, Mod.refl [] _, ⟨_, rfl, JV.reps_ rl_ rm_⟩⟩) rfl rfl rfl ?_
  refine tv (fun w_ E_ => (oA0 fd29_5 rfl)) rfl rfl (tv (fun w_ E_ => (o_lda (vs := [_, _, _, _, _, _]) ag25 rfl rfl ((Bg1.mod0 E_).cs rfl))) rfl rfl (tv (fun w_ E_ => (o_build (cs := [_, _, _, _, _, _, _]) pl41 zv41 rfl rfl)) rfl rfl (tv (fun w_ E_ => (oA0 fd29_8 rfl)) rfl rfl (tv (fun w_ E_ => (oL sc3 rfl ((Bg1.mod0 E_).cell rfl))) rfl rfl (tc (fun w_ E_ => oC ent76 rfl) (fun w_ E_ => c_jnum _ e.dep) rfl rfl (tv (fun w_ E_ => (o_build (cs := [_, _, _, _, _, _, _]) pl41 zv41 rfl rfl)) rfl rfl (tv (fun w_ E_ => (oA0 fd29_10 rfl)) rfl rfl (tv (fun w_ E_ => (oL sc9 rfl ((Bg1.mod0 E_).cell rfl))) rfl rfl (tc (fun w_ E_ => oC ent74 rfl) (fun w_ E_ => c_jtext _ e.hash) rfl rfl (tv (fun w_ E_ => (o_build (cs := [_, _, _, _, _, _, _]) pl41 zv41 rfl rfl)) rfl rfl ?_))))))))))
  refine t_bslice (cs := [_, _, _, _, _, _, _]) (fun u w_ => Rep (g2 :: A) w_ (.sl 7 ([(kSha, JV.txtV e.hash)].map JV.Dp)) u) (fun v_ w1_ w2_ k_ h_ => h_.to0 k_) sl23 zv41 rfl rfl rfl (by decide) (fun w_ g w2_ E_ N_ => ?_) rfl rfl ?_
  ·exact Own.mem_ (A := (g2 :: A)) (m := [(kSha, JV.txtV e.hash)]) (Own.all (cs := [_, _, _, _, _, _, _]) N_.blk rfl (by omega)) (by simpa using JV.Dp_reps (p := (kSha, JV.txtV e.hash)) JV.txt_repsN) rfl (fun x hx h => by
    simp only [ob, List.mem_singleton] at hx
    subst hx
    have h1 := N_.ne (Bg2.mod0 E_)
    rcases List.mem_cons.1 h with h | h
    ·exact h1 h.symm
    ·have h3 := hA _ h
     have h4 := N_.at_
     have h5 := (E.then E_).size
     omega)
  refine tcr1 (fun u w_ => ∃ us, u = .agg us.toArray ∧ Reps (g2 :: A) w_ (JV.obj [(kSha, JV.txtV e.hash)]).D us) (fun v_ w1_ w2_ k_ h_ => by obtain ⟨us_, e_, r_⟩ := h_; exact ⟨us_, e_, r_.to0 k_⟩) 51 rfl rfl ⟨_, List.Mem.tail _ (List.Mem.head _), rfl⟩ (fun w_ u_ E_ h_ => oC ent38 rfl) (fun w_ u_ E_ h_ => Calls.imp (c_jmap (g2 :: A) _ (fun a ha => by rcases List.mem_cons.1 ha with rfl | ha; exact (Bg2.mod0 E_).lt; exact Nat.lt_of_lt_of_le (hA a ha) (E.then E_).size) [(kSha, JV.txtV e.hash)] _ h_ (by simp)) fun r_ w2_ hr => by obtain ⟨us_, e_, r2_, k_⟩ := hr; exact ⟨⟨us_, e_, r2_⟩, k_⟩) rfl rfl rfl ?_
  refine tr1 (fun u w_ => ∃ us, u = .agg (S kHashes :: us).toArray ∧ Reps (g2 :: A) w_ (JV.obj [(kSha, JV.txtV e.hash)]).D us) (fun v_ w1_ w2_ k_ h_ => by obtain ⟨us_, e_, r_⟩ := h_; exact ⟨us_, e_, r_.to0 k_⟩) 52 rfl rfl ⟨_, by simp [Op.operands], rfl⟩ (fun w_ u_ E_ h_ => by
   obtain ⟨us_, rfl, r_⟩ := h_
   obtain ⟨ala, cla, ama, cma, rfl, rl_, rm_⟩ := JV.cells_ r_
   exact ⟨_, _, o_build (cs := [_, _, _, _, _, _, _]) pl41 zv41 rfl rfl, Mod.refl [] _, ⟨_, rfl, JV.reps_ rl_ rm_⟩⟩) rfl rfl rfl ?_
  refine tv (fun w_ E_ => (oA0 fd29_9 rfl)) rfl rfl (tv (fun w_ E_ => (oL sc3 rfl ((Bg1.mod0 E_).cell rfl))) rfl rfl (tc (fun w_ E_ => oC ent76 rfl) (fun w_ E_ => c_jnum _ e.time) rfl rfl (tv (fun w_ E_ => (o_build (cs := [_, _, _, _, _, _, _]) pl41 zv41 rfl rfl)) rfl rfl (tv (fun w_ E_ => (oA0 fd29_6 rfl)) rfl rfl (tv (fun w_ E_ => (oL sc26 rfl ((Bg1.mod0 E_).cell rfl))) rfl rfl (tcr (fun u w_ => ∃ us, u = .agg us.toArray ∧ Reps (g2 :: A) w_ (JV.lst (e.prev.map JV.txtV)).D us) (fun v_ w1_ w2_ k_ h_ => by obtain ⟨us_, e_, r_⟩ := h_; exact ⟨us_, e_, r_.to0 k_⟩) (fun w_ E_ => oC ent75 rfl) (fun w_ E_ => Calls.imp (c_etexts (g2 :: A) _ (fun a ha => by rcases List.mem_cons.1 ha with rfl | ha; exact (Bg2.mod0 E_).lt; exact Nat.lt_of_lt_of_le (hA a ha) (E.then E_).size) e.prev ape cpe (Rp0.to0 (E.then E_)) hp) fun r_ w2_ hr => by obtain ⟨us_, e_, r2_, k_⟩ := hr; exact ⟨⟨us_, e_, r2_⟩, k_⟩) rfl rfl rfl ?_))))))
  refine tr1 (fun u w_ => ∃ us, u = .agg (S kPrev :: us).toArray ∧ Reps (g2 :: A) w_ (JV.lst (e.prev.map JV.txtV)).D us) (fun v_ w1_ w2_ k_ h_ => by obtain ⟨us_, e_, r_⟩ := h_; exact ⟨us_, e_, r_.to0 k_⟩) 60 rfl rfl ⟨_, by simp [Op.operands], rfl⟩ (fun w_ u_ E_ h_ => by
   obtain ⟨us_, rfl, r_⟩ := h_
   obtain ⟨ala, cla, ama, cma, rfl, rl_, rm_⟩ := JV.cells_ r_
   exact ⟨_, _, o_build (cs := [_, _, _, _, _, _, _]) pl41 zv41 rfl rfl, Mod.refl [] _, ⟨_, rfl, JV.reps_ rl_ rm_⟩⟩) rfl rfl rfl ?_
  refine tv (fun w_ E_ => (oA0 fd29_0 rfl)) rfl rfl (tv (fun w_ E_ => (oL sc9 rfl ((Bg1.mod0 E_).cell rfl))) rfl rfl (tc (fun w_ E_ => oC ent74 rfl) (fun w_ E_ => c_jtext _ e.room) rfl rfl (tv (fun w_ E_ => (o_build (cs := [_, _, _, _, _, _, _]) pl41 zv41 rfl rfl)) rfl rfl (tv (fun w_ E_ => (oA0 fd29_1 rfl)) rfl rfl (tv (fun w_ E_ => (oL sc9 rfl ((Bg1.mod0 E_).cell rfl))) rfl rfl (tc (fun w_ E_ => oC ent74 rfl) (fun w_ E_ => c_jtext _ e.snd) rfl rfl (tv (fun w_ E_ => (o_build (cs := [_, _, _, _, _, _, _]) pl41 zv41 rfl rfl)) rfl rfl (tv (fun w_ E_ => (o_lda (vs := [_, _, _, _, _, _]) ag25 rfl rfl ((Bg3.mod0 E_).cs rfl))) rfl rfl (tv (fun w_ E_ => (o_build (cs := [_, _, _, _, _, _, _]) pl41 zv41 rfl rfl)) rfl rfl (tv (fun w_ E_ => (oA0 fd29_2 rfl)) rfl rfl (tv (fun w_ E_ => (oL sc9 rfl ((Bg1.mod0 E_).cell rfl))) rfl rfl (tc (fun w_ E_ => oC ent74 rfl) (fun w_ E_ => c_jtext _ e.ty) rfl rfl (tv (fun w_ E_ => (o_build (cs := [_, _, _, _, _, _, _]) pl41 zv41 rfl rfl)) rfl rfl ?_)))))))))))))
  have rc_ := Rce.more (A' := (g2 :: A)) (fun a ha => by rcases List.mem_cons.1 ha with rfl | ha; exact .inr Lg2_E; exact .inl ha)
  have rk_ := Rk.anti (A' := (g2 :: A)) (fun a ha => by rcases List.mem_cons.1 ha with rfl | ha <;> simp [*])
  refine tr3 (fun u w_ => ∃ vs, GL (g2 :: A) w6 w_ 41 7 u 10 (e.mem10.map JV.Dp) vs) (fun v_ w1_ w2_ k_ h_ => by obtain ⟨vs_, h_⟩ := h_; exact ⟨vs_, h_.mod0 k_⟩) 39 53 61 rfl rfl ⟨_, by simp [Op.operands], rfl⟩ rfl rfl ⟨_, by simp [Op.operands], rfl⟩ rfl rfl ⟨_, by simp [Op.operands], rfl⟩ (fun w_ ua ub uc E_ ha_ hb_ hc_ => by
   obtain ⟨usa_, rfl, ra_⟩ := ha_
   obtain ⟨ala_, cla_, ama_, cma_, rfl, rla_, rma_⟩ := JV.cells_ ra_
   replace ra_ := JV.reps_ rla_ rma_
   obtain ⟨usb_, rfl, rh_⟩ := hb_
   obtain ⟨alb_, clb_, amb_, cmb_, rfl, rlb_, rmb_⟩ := JV.cells_ rh_
   replace rh_ := JV.reps_ rlb_ rmb_
   obtain ⟨usc_, rfl, rp_⟩ := hc_
   obtain ⟨alc_, clc_, amc_, cmc_, rfl, rlc_, rmc_⟩ := JV.cells_ rp_
   replace rp_ := JV.reps_ rlc_ rmc_
   have R_ := (JV.rows_cons (JV.Dp_reps (p := (kAuth, JV.lst (e.auth.map JV.txtV))) ra_) (JV.rows_cons (JV.Dp_reps (p := (kCont, e.con)) (rc_.to0 (E.then E_))) (JV.rows_cons (JV.Dp_reps (p := (kDepth, JV.numV e.dep)) JV.num_reps) (JV.rows_cons (JV.Dp_reps (p := (kHashes, JV.obj [(kSha, JV.txtV e.hash)])) rh_) (JV.rows_cons (JV.Dp_reps (p := (kOts, JV.numV e.time)) JV.num_reps) (JV.rows_cons (JV.Dp_reps (p := (kPrev, JV.lst (e.prev.map JV.txtV))) rp_) (JV.rows_cons (JV.Dp_reps (p := (kRoom, JV.txtV e.room)) JV.txt_repsN) (JV.rows_cons (JV.Dp_reps (p := (kSender, JV.txtV e.snd)) JV.txt_repsN) (JV.rows_cons (JV.Dp_reps (p := (kSigs, JV.obj (EV.sg e.sigs e.sigs.length))) ((rk_.to0 Ek).to0 E_)) (JV.rows_cons (JV.Dp_reps (p := (kType, JV.txtV e.ty)) JV.txt_repsN) JV.rows_nil))))))))))
   simp only [List.cons_append, List.nil_append, List.append_nil] at R_
   exact GL.bs (rows := e.mem10.map JV.Dp) sl23 zv41 rfl (by kernel_rfl) rfl (by decide) R_ (fun a ha => by rcases List.mem_cons.1 ha with rfl | ha; exact (Bg2.mod0 E_).lt; exact Nat.lt_of_lt_of_le (hA a ha) (E.then E_).size) E_.size rfl (by omega)) rfl rfl rfl ?_
  refine tr1 (fun u w_ => ∃ vs, GL (g2 :: A) w6 w_ 41 7 u 10 (e.mem10.map JV.Dp) vs) (fun v_ w1_ w2_ k_ h_ => by obtain ⟨vs_, h_⟩ := h_; exact ⟨vs_, h_.mod0 k_⟩) 76 rfl rfl ⟨_, by simp [Op.operands], rfl⟩ (fun w_ u E_ h => ⟨u, w_, o_as rfl, Mod.refl [] w_, h⟩) rfl rfl rfl (tw_nil1 (t := 8) rfl rfl rfl rfl fun w14 v8 E_ h_ => ?_)
  obtain ⟨vs8, G8⟩ := h_
  have Eg := Mod.refl [] w14
  have E8 := E_
  replace Bg1 := Bg1.mod0 E_
  replace Bg2 := Bg2.mod0 E_
  replace Bg3 := Bg3.mod0 E_
  replace E := E.then E_
  replace Ek := Ek.then E_
  skip
  refine e_K (hK10 _ _ _ _ (Cq fun K11 hK11 => Cq fun K12 hK12 => Cr (Sv (oA0 fd29_3 rfl) (Sv (oL sc4 rfl (Bg1.cell rfl)) (Ln (e_K (hK12 _ _ _ _ ?_)))))))
  refine c_cond rfl (fun h78 => ?_) (fun h78 => ?_)
  ·have hR : e.memR = e.mem10 ++ [(kState, JV.txtV e.key)] := by simp [EV.memR, h78]
   refine Cr (Zm rfl (Sv (oA0 fd29_4 rfl) (Sv (oL sc9 rfl (Bg1.cell rfl)) (sc (oC ent74 rfl) (c_jtext _ e.key) rfl fun v_ w15 h_ => ?_))))
   obtain ⟨rfl, E_⟩ := h_
   replace Bg1 := Bg1.mod0 E_
   replace Bg2 := Bg2.mod0 E_
   replace Bg3 := Bg3.mod0 E_
   replace E := E.then E_
   replace Ek := Ek.then E_
   replace Eg := Eg.then E_
   refine Sv (o_build (cs := [_, _, _, _, _, _, _]) pl41 zv41 rfl rfl) (s_bslice (cs := [_, _, _, _, _, _, _]) sl23 zv41 rfl rfl rfl (by decide) rfl fun g6 w16 N6 => ?_)
   have Lg6_E := N6.le E
   have Lg6_Ek := N6.le Ek
   have Lg6_Eg := N6.le Eg
   have Dg1_g6 := N6.ne Bg1
   have Dg2_g6 := N6.ne Bg2
   have Dg3_g6 := N6.ne Bg3
   replace Bg1 := Bg1.mod0 N6.mod
   replace Bg2 := Bg2.mod0 N6.mod
   replace Bg3 := Bg3.mod0 N6.mod
   replace E := E.then N6.mod
   replace Ek := Ek.then N6.mod
   replace Eg := Eg.then N6.mod
   have Bg6 := N6.blk
   have GN := (G8.mod0 Eg)
   refine s_append sl23 rfl rfl GN.own (Src.own Tryz.underlying23 (Own.all (cs := [_, _, _, _, _, _, _]) Bg6 rfl (by omega)) (by simp [Value.oneCell', B8])) (by decide) (by omega) (by omega) rfl fun v9 w17 AA => ?_
   replace Bg2 := Bg2.mod AA.mod (fun hx => GN.dj _ hx (by simp))
   have G9 := GN.app (E8.then Eg) AA rfl (JV.Dp_reps (p := (kState, JV.txtV e.key)) JV.txt_repsN)
   rw [show e.mem10.map JV.Dp ++ [JV.Dp (kState, JV.txtV e.key)] = e.memR.map JV.Dp by rw [hR]; simp] at G9
   replace E := E.trans' AA.mod (fun y hy => .inr (Nat.le_trans Es.size (GN.fr y hy)))
   have Eg9 := Mod.refl [] w17
   refine Za rfl (Ln (e_K (hK11 _ _ _ _ (Cq fun K13 hK13 => Cr (Zm rfl (sc (oC ent38 rfl) (c_jmap (g2 :: A) _ (G9.mod0 Eg9).al e.memR _ ((G9.mod0 Eg9).rep JV.row_len (by rw [List.length_map, hR]; rfl)) (by rw [hR]; simp [EV.mem10])) rfl fun v_ w18 h_ => ?_))))))
   obtain ⟨us9, rfl, Rv, E_⟩ := h_
   replace Bg2 := Bg2.mod0 E_
   replace E := E.then E_
   replace Eg9 := Eg9.then E_
   rw [EV.putR] at Rv
   replace Rv : Reps (g2 :: A) _ e.val.D us9 := Rv
   obtain ⟨al9, cl9, am9, cm9, rfl, Rl9, Rm9⟩ := JV.cells_ Rv
   replace Rv := JV.reps_ Rl9 Rm9
   refine s_sta (vs := [_, _, _, _, _, _]) ag25 Bg2 rfl rfl rfl (by simp [Value.oneCell']) (by simp) fun w19 P19 => ?_
   replace E := E.own P19.mod Lg2_E
   replace Bg2 : Blk w19 g2 _ [_, _, _, _, _, _] := P19.blk
   replace Rv := Rv.toM P19.mod (fun a ha => by simp [List.mem_singleton.1 ha])
   exact Ln (e_K (hK13 _ _ _ _ (cR (retc (vs := [_, _, _, _, _, _]) rfl ag25 rfl rfl (Bg2.cs rfl) ⟨_, rfl, Rv.anti (A' := A) (fun a ha => by simp [ha]), E⟩))))
  ·have hR : e.memR = e.mem10 := by simp [EV.memR, h78]
   have G8m := G8
   rw [← hR] at G8m
   refine cK (e_K (hK11 _ _ _ _ (Cq fun K14 hK14 => Cr (Zm rfl (sc (oC ent38 rfl) (c_jmap (g2 :: A) _ (G8m.mod0 Eg).al e.memR _ ((G8m.mod0 Eg).rep JV.row_len (by rw [List.length_map, hR]; rfl)) (by rw [hR]; simp [EV.mem10])) rfl fun v_ w20 h_ => ?_)))))
   obtain ⟨us9, rfl, Rv, E_⟩ := h_
   replace Bg1 := Bg1.mod0 E_
   replace Bg2 := Bg2.mod0 E_
   replace Bg3 := Bg3.mod0 E_
   replace E := E.then E_
   replace Ek := Ek.then E_
   replace Eg := Eg.then E_
   rw [EV.putR] at Rv
   replace Rv : Reps (g2 :: A) _ e.val.D us9 := Rv
   obtain ⟨al9, cl9, am9, cm9, rfl, Rl9, Rm9⟩ := JV.cells_ Rv
   replace Rv := JV.reps_ Rl9 Rm9
   refine s_sta (vs := [_, _, _, _, _, _]) ag25 Bg2 rfl rfl rfl (by simp [Value.oneCell']) (by simp) fun w21 P21 => ?_
   replace Bg1 := Bg1.ne P21.mod (Ne.symm (Ne.symm Dg1_g2))
   replace Bg3 := Bg3.ne P21.mod (Ne.symm Dg2_g3)
   replace E := E.own P21.mod Lg2_E
   replace Bg2 : Blk w21 g2 _ [_, _, _, _, _, _] := P21.blk
   replace Rv := Rv.toM P21.mod (fun a ha => by simp [List.mem_singleton.1 ha])
   exact Ln (e_K (hK14 _ _ _ _ (cR (retc (vs := [_, _, _, _, _, _]) rfl ag25 rfl rfl (Bg2.cs rfl) ⟨_, rfl, Rv.anti (A' := A) (fun a ha => by simp [ha]), E⟩))))
end Go.Proofs.YtkhbnhdlelmbnaaGreatDoor.V

set_option linter.unusedVariables false
set_option linter.unusedSimpArgs false
set_option maxRecDepth 10000
namespace Go.Proofs.YtkhbnhdlelmbnaaGreatDoor.V
open Go Go.Proofs
theorem ent72 : Ent Tryz.prog 72 := Ent.of Tryz.func72 (by kernel_rfl) (by kernel_rfl)
theorem c_texts11 (A : List Nat) (w : World) (hA : ∀ a ∈ A, a < w.heap.size) (xs : List Str) (ax : Option Addr) (cx : Nat) (R : Rep [] w (strD xs) (.slice ax xs.length cx)) (hn : xs.length ≤ 1000000) : Calls Tryz.prog 73 [.slice ax xs.length cx].toArray w (Ret fun u w' => ∃ us', u = .agg us'.toArray ∧ Reps A w' (JV.lst (xs.map JV.txtV)).D us' ∧ Mod [] w w') := by
 refine enter Tryz.func73 rfl rfl rfl (l := [(0, _)]) ⟨rfl, trivial⟩ ?_
 have E := Mod.refl [] w
 obtain ⟨_, c9, hfl, hcc1, hcc2⟩ := flat_len R
 injection hfl with _ _ hfc
 subst hfc
 refine Cq fun K1 hK1 => Cr (s_alloc zv25 rfl fun g1 w1 N1 => ?_)
 have Lg1_E := N1.le E
 replace E := E.then N1.mod
 have Bg1 := N1.blk
 refine Ln (e_K (hK1 _ _ _ _ (Cq fun K2 hK2 => Cr (Sv (o_build (cs := [_, _, _, _, _, _]) pl25 zv25 rfl rfl) (s_alloc zv25 rfl fun g2 w2 N2 => ?_)))))
 have Lg2_E := N2.le E
 have Dg1_g2 := N2.ne Bg1
 replace Bg1 := Bg1.mod0 N2.mod
 replace E := E.then N2.mod
 have Bg2 := N2.blk
 refine s_sta (vs := [_, _, _, _, _, _]) ag25 Bg2 rfl rfl rfl (by simp [Value.oneCell']) (by simp) fun w3 P3 => ?_
 replace Bg1 := Bg1.ne P3.mod (Ne.symm (Ne.symm Dg1_g2))
 replace E := E.own P3.mod Lg2_E
 replace Bg2 : Blk w3 g2 _ [_, _, _, _, _, _] := P3.blk
 refine Ln (e_K (hK2 _ _ _ _ (Cq fun K3 hK3 => Cq fun K4 hK4 => Cr (Zm rfl (Sv (o_len Tryz.underlying26 rfl) (Zm rfl (Ln (e_K (hK4 _ _ _ _ (cB (c_loop (σ := Nat × Value × List Value) (fun ⟨k, wv, vs⟩ => [(2, .pointer (some ⟨g1, 0, none⟩)), (3, .pointer (some ⟨g2, 0, none⟩)), (7, .slice ax xs.length cx), (8, .int .i64 xs.length), (9, .int .i64 (k : Int))]) (fun ⟨k, wv, vs⟩ w1 => k ≤ xs.length ∧ GL (g1 :: g2 :: A) w w1 25 6 wv k ((xs.take k).map fun s => (JV.txtV s).D) vs ∧ Blk w1 g2 25 [.int .i64 4, .bool false, .int .i64 0, S [], wv, .slice none 0 0] ∧ Blk w1 g1 25 [.int .i64 0, .bool false, .int .i64 0, S [], .slice none 0 0, .slice none 0 0] ∧ Mod [] w w1) (fun ⟨k, wv, vs⟩ => xs.length - k) (⟨0, .slice none 0 0, []⟩) ⟨rfl, rfl, rfl, rfl, rfl, trivial⟩ (⟨by omega, GL.nil (fun a ha => by rcases List.mem_cons.1 ha with rfl | ha; exact Bg1.lt; rcases List.mem_cons.1 ha with rfl | ha; exact Bg2.lt; exact Nat.lt_of_lt_of_le (hA a ha) E.size), Bg2, Bg1, E⟩) ?_)))))))))))
 rintro ⟨k, wv, vs⟩ w4 ⟨hk, GG, Bg2, Bg1, E⟩
 obtain ⟨adw, cw, rfl, hcw1, hcw2⟩ := GG.own.form
 have Ek := Mod.refl [] w4
 refine Cq fun K5 hK5 => Cr (Sv (o_lss rfl rfl) (Ln (e_K (hK5 _ _ _ _ (Cq fun K6 hK6 => ?_)))))
 refine c_if rfl (fun h10 => ?_) (fun h10 => ?_)
 ·obtain ⟨x, hx_x⟩ : ∃ x, xs[k]? = some x := ⟨_, List.getElem?_eq_getElem (by omega)⟩
  obtain ⟨a_x, ha_x, hcs_x, _⟩ := flat_at (R.to0 E) hx_x
  cases ha_x
  refine cK (e_K (hK6 _ _ _ _ (Cq fun K7 hK7 => cB (Cq fun K8 hK8 => Cr (Sv (o_ix sl26 rfl rfl (by omega)) (Sv (oL sc9 rfl hcs_x.first) (Za rfl (Ln (e_K (hK8 _ _ _ _ (c_drawp [] [0, 1, 2, 3, 4] 5 [6, 7] wide (by kernel_rfl) (fun _ _ _ h => h.2) (pw_nil (tv (fun w_ E_ => (oA0 fd25_4 rfl)) rfl rfl ?_)))))))))))))
  refine tv (fun w_ E_ => (oL sc22 rfl ((Bg2.mod0 E_).cell rfl))) rfl rfl (tv (fun w_ E_ => (oM rfl)) rfl rfl (tc (fun w_ E_ => oC ent72 rfl) (fun w_ E_ => c_text11 _ x) rfl rfl (t_bslice (cs := [_, _, _, _, _, _]) (fun u w_ => Own w_ 25 6 u 1 [.int .i64 3, .bool false, .int .i64 0, S x, .slice none 0 0, .slice none 0 0]) (fun v_ w1_ w2_ k_ h_ => h_.mod0 k_) sl22 zv25 rfl rfl rfl (by decide) (fun w_ g w2_ E_ N_ => Own.all (c := 1) N_.blk rfl (by omega)) rfl rfl (tw_tail1 (t := 17) rfl rfl rfl rfl fun w5 v_ E_ O4 => ?_))))
  replace Bg1 := Bg1.mod0 E_
  replace Bg2 := Bg2.mod0 E_
  replace E := E.then E_
  replace Ek := Ek.then E_
  have GN := GG.mod0 Ek
  refine s_append sl22 rfl rfl GN.own (Src.own Tryz.underlying22 O4 (by simp [Value.oneCell', B8])) (by decide) (by omega) (by omega) rfl fun wv2 w6 AA => ?_
  replace Bg1 := Bg1.mod AA.mod (fun hx => GN.dj _ hx (by simp))
  replace Bg2 := Bg2.mod AA.mod (fun hx => GN.dj _ hx (by simp))
  have GG2 := GN.app E AA rfl JV.txt_repsN
  rw [← take_map_succ (fun s => (JV.txtV s).D) hx_x] at GG2
  replace E := E.trans' AA.mod (fun y hy => .inr (GN.fr y hy))
  obtain ⟨adq, cq, rfl, hcq1, hcq2⟩ := GG2.own.form
  refine Sv (oA0 fd25_4 rfl) (s_st sc22 Bg2 rfl rfl rfl (by simp) fun w7 P7 => ?_)
  replace Bg1 := Bg1.ne P7.mod (Ne.symm (Ne.symm Dg1_g2))
  replace E := E.own P7.mod Lg2_E
  replace Bg2 : Blk w7 g2 _ [_, _, _, _, _, _] := P7.blk
  have GG3 := GG2.toM P7.mod (fun a ha => by simp [List.mem_singleton.1 ha])
  exact Ln (eI (by simp) (e_K (hK7 _ _ _ _ (Cr (Sv (o_addN rfl rfl (by omega)) (Zm rfl (Ln (eR (σ := Nat × Value × List Value) (s := ⟨k, .slice adw k cw, vs⟩) (⟨k + 1, .slice adq (k + 1) cq, vs ++ _⟩) ⟨rfl, rfl, rfl, rfl, rfl, trivial⟩ ⟨by omega, GG3, Bg2, Bg1, E⟩ (by dsimp only; omega)))))))))
 ·have hkl : k = xs.length := by omega
  subst hkl
  have RL0 := GG.rep (fun r hr => by obtain ⟨x_, _, rfl⟩ := List.mem_map.1 hr; exact JV.D_len _) (by simp)
  rw [List.take_length, show (xs.map fun s => (JV.txtV s).D) = (xs.map JV.txtV).map JV.D by simp] at RL0
  refine c_exit (eT (by simp) (eT (by simp) (e_hit (e_K (hK3 _ _ _ _ (Cq fun K9 hK9 => Cr (Sv (o_lda (vs := [_, _, _, _, _, _]) ag25 rfl rfl (Bg2.cs rfl)) ?_)))))))
  have RF := JV.lst_repsN (by simp) (RL0.to0 Ek)
  refine s_sta (vs := [_, _, _, _, _, _]) ag25 Bg1 rfl rfl rfl (by simp [Value.oneCell']) (by simp) fun w8 P8 => ?_
  replace Bg2 := Bg2.ne P8.mod (Ne.symm Dg1_g2)
  replace E := E.own P8.mod Lg1_E
  replace Bg1 : Blk w8 g1 _ [_, _, _, _, _, _] := P8.blk
  replace RF := RF.toM P8.mod (fun a ha => by simp [List.mem_singleton.1 ha])
  exact Ln (e_K (hK9 _ _ _ _ (cR (retc (vs := [_, _, _, _, _, _]) rfl ag25 rfl rfl (Bg1.cs rfl) ⟨_, rfl, RF.anti (A' := A) (fun a ha => by simp [ha]), E⟩))))
end Go.Proofs.YtkhbnhdlelmbnaaGreatDoor.V
