/-
  A part of the proof: walks of functions. No condition of its own.
-/
import Derived.Test.YtkhbnhdlelmbnaaDoorM21
import Derived.Test.YtkhbnhdlelmbnaaDoorM19
set_option linter.unusedVariables false
set_option linter.unusedSimpArgs false
set_option maxRecDepth 10000
namespace Go.Proofs.YtkhbnhdlelmbnaaDoor.V
open Go Go.Proofs
theorem ent16 : Ent Tryd.prog 16 := Ent.of Tryd.func16 (by kernel_rfl) (by kernel_rfl)
theorem ent17 : Ent Tryd.prog 17 := Ent.of Tryd.func17 (by kernel_rfl) (by kernel_rfl)
theorem ent13 : Ent Tryd.prog 13 := Ent.of Tryd.func13 (by kernel_rfl) (by kernel_rfl)
theorem c_chkz (w : World) (e : EV) (us : List Value) (R : Reps [] w e.D us) (ho : e.ok) (hsm : e.lens) (hT : Tab w) (hM : MaxL w) (h0 : e.chk = 0) : Calls Tryd.prog 9 [.agg us.toArray].toArray w (Ret fun u w' => u = .int .i64 0 ∧ Mod [] w w') := by
  have := c_check w e us R ho hsm hT hM
  rw [h0] at this
  exact this

theorem c_RedactTwice (w : World) (e : EV) (us : List Value) (R : Reps [] w e.D us) (ho : e.ok) (hT : Tab w) (hM : MaxL w) : Calls Tryd.prog 5 [.agg us.toArray].toArray w (Ret fun u w' => u = .bool true ∧ Mod [] w w') := by
  refine enter Tryd.func5 rfl rfl rfl (l := [(0, _)]) ⟨rfl, trivial⟩ ?_
  have E := Mod.refl [] w
  have R0 := R
  obtain ⟨al, cl, am, cm, ap, cp, aa, ca, aS, cS, rfl, Rc, Rp, Ra, Rs⟩ := EV.cells17 R
  refine c_seq fun K1 hK1 => ?_
  refine c_region ?_
  refine s_box rfl rfl rfl fun g1 w1 N1 => ?_
  have Lg1_E := N1.le E
  replace E := E.then N1.mod
  have Bg1 := N1.blk
  refine sv (o_as rfl) rfl ?_
  refine l_nil ?_
  refine e_K (hK1 _ _ _ _ ?_)
  refine c_seq fun K2 hK2 => ?_
  refine c_seq fun K3 hK3 => ?_
  refine c_region ?_
  refine sc (o_call ent13 rfl) (c_alive12 _) rfl fun v_ w2 h_ => ?_
  obtain ⟨rfl, E_⟩ := h_
  replace Bg1 := Bg1.mod0 E_
  replace E := E.then E_
  refine sv (o_not rfl) rfl ?_
  refine l_nil ?_
  refine e_K (hK3 _ _ _ _ ?_)
  refine c_false rfl ?_
  refine c_skip ?_
  refine e_K (hK2 _ _ _ _ ?_)
  refine c_seq fun K4 hK4 => ?_
  refine c_seq fun K5 hK5 => ?_
  by_cases hk0 : (e.great 8192) = true
  · skip
    refine c_region ?_
    refine sv (o_lda (vs := [_, _, _, _, _, _, _, _, _, _, _, _, _, _, _, _, _]) ag33 rfl rfl (Bg1.cs rfl)) rfl ?_
    refine sc (o_call ent11 rfl) (c_great11 _ e _ 8192 (R.to0 E) ho (by omega)) rfl fun v_ w3 h_ => ?_
    obtain ⟨rfl, E_⟩ := h_
    replace Bg1 := Bg1.mod0 E_
    replace E := E.then E_
    refine sv (o_mv rfl) rfl ?_
    refine sn rfl (fun e_ => absurd ((hk0).symm.trans e_) (by decide)) rfl ?_
    refine sn rfl (fun e_ => absurd ((hk0).symm.trans e_) (by decide)) rfl ?_
    refine sn rfl (fun e_ => absurd ((hk0).symm.trans e_) (by decide)) rfl ?_
    refine sn rfl (fun e_ => absurd ((hk0).symm.trans e_) (by decide)) rfl ?_
    refine sv (o_pickT (hk0) rfl rfl) rfl ?_
    refine l_nil ?_
    refine e_K (hK5 _ _ _ _ ?_)
    refine c_true rfl ?_
    refine c_seq fun K6 hK6 => ?_
    refine c_region ?_
    refine sv (o_as rfl) rfl ?_
    refine l_nil ?_
    refine e_K (hK6 _ _ _ _ ?_)
    refine c_ret ?_
    refine e_then (by simp) ?_
    exact ret1 rfl rfl ⟨by first | rfl | exact congrArg Value.bool (decide_eq_true rfl) | exact congrArg Value.bool (decide_eq_true hs10_0), E⟩
  · skip
    by_cases hk1 : (!e.con.rises) = true
    · skip
      refine c_region ?_
      refine sv (o_lda (vs := [_, _, _, _, _, _, _, _, _, _, _, _, _, _, _, _, _]) ag33 rfl rfl (Bg1.cs rfl)) rfl ?_
      refine sc (o_call ent11 rfl) (c_great11 _ e _ 8192 (R.to0 E) ho (by omega)) rfl fun v_ w4 h_ => ?_
      obtain ⟨rfl, E_⟩ := h_
      replace Bg1 := Bg1.mod0 E_
      replace E := E.then E_
      refine sv (o_mv rfl) rfl ?_
      refine sg rfl (Bool.eq_false_iff.2 hk0) (o_fa0 fd33_5 rfl) rfl ?_
      refine sg rfl (Bool.eq_false_iff.2 hk0) (o_lda (vs := [_, _, _, _, _, _]) ag25 rfl rfl (Bg1.cs rfl)) rfl ?_
      refine sgc rfl (Bool.eq_false_iff.2 hk0) (o_call ent14 rfl) (c_rises _ e.con _ (Rc.to0 E)) rfl fun v_ w5 h_ => ?_
      obtain ⟨rfl, E_⟩ := h_
      replace Bg1 := Bg1.mod0 E_
      replace E := E.then E_
      refine sg rfl (Bool.eq_false_iff.2 hk0) (o_not rfl) rfl ?_
      refine sv (o_pickF (Bool.eq_false_iff.2 hk0) rfl rfl) rfl ?_
      refine l_nil ?_
      refine e_K (hK5 _ _ _ _ ?_)
      refine c_cond rfl (fun h14 => ?_) (fun h14 => absurd ((hk1).symm.trans h14) (by decide))
      refine c_seq fun K7 hK7 => ?_
      refine c_region ?_
      refine sv (o_as rfl) rfl ?_
      refine l_nil ?_
      refine e_K (hK7 _ _ _ _ ?_)
      refine c_ret ?_
      refine e_then (by simp) ?_
      exact ret1 rfl rfl ⟨by first | rfl | exact congrArg Value.bool (decide_eq_true rfl) | exact congrArg Value.bool (decide_eq_true hs10_0), E⟩
    · skip
      refine c_region ?_
      refine sv (o_lda (vs := [_, _, _, _, _, _, _, _, _, _, _, _, _, _, _, _, _]) ag33 rfl rfl (Bg1.cs rfl)) rfl ?_
      refine sc (o_call ent11 rfl) (c_great11 _ e _ 8192 (R.to0 E) ho (by omega)) rfl fun v_ w6 h_ => ?_
      obtain ⟨rfl, E_⟩ := h_
      replace Bg1 := Bg1.mod0 E_
      replace E := E.then E_
      refine sv (o_mv rfl) rfl ?_
      refine sg rfl (Bool.eq_false_iff.2 hk0) (o_fa0 fd33_5 rfl) rfl ?_
      refine sg rfl (Bool.eq_false_iff.2 hk0) (o_lda (vs := [_, _, _, _, _, _]) ag25 rfl rfl (Bg1.cs rfl)) rfl ?_
      refine sgc rfl (Bool.eq_false_iff.2 hk0) (o_call ent14 rfl) (c_rises _ e.con _ (Rc.to0 E)) rfl fun v_ w7 h_ => ?_
      obtain ⟨rfl, E_⟩ := h_
      replace Bg1 := Bg1.mod0 E_
      replace E := E.then E_
      refine sg rfl (Bool.eq_false_iff.2 hk0) (o_not rfl) rfl ?_
      refine sv (o_pickF (Bool.eq_false_iff.2 hk0) rfl rfl) rfl ?_
      refine l_nil ?_
      refine e_K (hK5 _ _ _ _ ?_)
      refine c_cond rfl (fun h14 => absurd ((Bool.eq_false_iff.2 hk1).symm.trans h14) (by decide)) (fun h14 => ?_)
      have hlens := EV.lens_of (Bool.eq_false_iff.2 hk0)
      have hrr : e.con.rises = true := by simpa using hk1
      have hr : e.con.Rise := JV.rises_iff.1 hrr
      have hva : ascM e.con.map := ((JV.Rise_eq _).1 hr).1
      have hta : ascM e.con.third.map := JV.third_asc hr
      have hvn : e.con.map.length ≤ 1353245080310 := JV.ok_map ho.2.2.2.2.1
      have htn := JV.third_len ho.2.2.2.2.1
      obtain ⟨hva2, hvn2, hta2, htn2⟩ := EV.strip_asc hva hvn hr ho.2.2.2.2.1
      have hos := EV.strip_ok hva ho
      refine c_skip ?_
      refine e_K (hK4 _ _ _ _ ?_)
      refine c_seq fun K8 hK8 => ?_
      refine c_region ?_
      refine sv (o_lda (vs := [_, _, _, _, _, _, _, _, _, _, _, _, _, _, _, _, _]) ag33 rfl rfl (Bg1.cs rfl)) rfl ?_
      refine s_alloc zv33 rfl fun g2 w8 N2 => ?_
      have Lg2_E := N2.le E
      have Dg1_g2 := N2.ne Bg1
      replace Bg1 := Bg1.mod0 N2.mod
      replace E := E.then N2.mod
      have Bg2 := N2.blk
      refine s_sta (vs := [_, _, _, _, _, _, _, _, _, _, _, _, _, _, _, _, _]) ag33 Bg2 rfl rfl rfl (by simp [Value.oneCell']) (by simp) fun w9 P9 => ?_
      replace Bg1 := Bg1.ne P9.mod (Ne.symm (Ne.symm Dg1_g2))
      replace E := E.own P9.mod Lg2_E
      replace Bg2 : Blk w9 g2 _ [_, _, _, _, _, _, _, _, _, _, _, _, _, _, _, _, _] := P9.blk
      refine l_nil ?_
      refine e_K (hK8 _ _ _ _ ?_)
      refine c_seq fun K9 hK9 => ?_
      refine c_region ?_
      refine sv (o_fa0 fd33_5 rfl) rfl ?_
      refine sv (o_lda (vs := [_, _, _, _, _, _]) ag25 rfl rfl (Bg1.cs rfl)) rfl ?_
      refine sc (o_call ent15 rfl) (c_jcopy [g1, g2] _ e.con _ ho.2.2.2.2.1 (fun a ha => by rcases List.mem_cons.1 ha with rfl | ha; exact Bg1.lt; rcases List.mem_cons.1 ha with rfl | ha; exact Bg2.lt; cases ha) (Rc.to0 E)) rfl fun v_ w10 h_ => ?_
      obtain ⟨us7, rfl, Rx7, E_⟩ := h_
      replace Bg1 := Bg1.mod0 E_
      replace Bg2 := Bg2.mod0 E_
      replace E := E.then E_
      obtain ⟨al7, cl7, am7, cm7, rfl, Rl7, Rm7⟩ := JV.cells_ Rx7
      clear Rx7
      refine sv (o_fa0 fd33_5 rfl) rfl ?_
      refine s_sta (vs := [_, _, _, _, _, _]) ag25 Bg2 rfl rfl rfl (by simp [Value.oneCell']) (by simp) fun w11 P11 => ?_
      replace Bg1 := Bg1.ne P11.mod (Ne.symm (Ne.symm Dg1_g2))
      replace E := E.own P11.mod Lg2_E
      replace Bg2 : Blk w11 g2 _ [_, _, _, _, _, _, _, _, _, _, _, _, _, _, _, _, _] := P11.blk
      replace Rl7 := Rl7.toM P11.mod (fun a ha => by simp [List.mem_singleton.1 ha])
      replace Rm7 := Rm7.toM P11.mod (fun a ha => by simp [List.mem_singleton.1 ha])
      refine l_nil ?_
      refine e_K (hK9 _ _ _ _ ?_)
      refine c_seq fun K10 hK10 => ?_
      refine c_region ?_
      refine sv (o_lda (vs := [_, _, _, _, _, _, _, _, _, _, _, _, _, _, _, _, _]) ag33 rfl rfl (Bg2.cs rfl)) rfl ?_
      have Rmine := EV.reps_ (e := e) (JV.reps_ (v := e.con) (Rl7.anti (A' := []) (by simp)) (Rm7.anti (A' := []) (by simp))) (Rp.to0 E) (Ra.to0 E) (Rs.to0 E)
      have Ek7 := Mod.refl [] w11
      refine sc (o_call ent16 rfl) (c_strip _ e _ (EV.reps_ (e := e) (JV.reps_ (v := e.con) (Rl7.anti (A' := []) (by simp)) (Rm7.anti (A' := []) (by simp))) (Rp.to0 E) (Ra.to0 E) (Rs.to0 E)) hva hvn hta htn) rfl fun v_ w12 h_ => ?_
      obtain ⟨us8, rfl, R8, E_⟩ := h_
      replace Bg1 := Bg1.mod0 E_
      replace Bg2 := Bg2.mod0 E_
      replace E := E.then E_
      replace Ek7 := Ek7.then E_
      obtain ⟨al8, cl8, am8, cm8, ap8, cp8, aa8, ca8, aS8, cS8, rfl, Rc8, Rp8, Ra8, Rs8⟩ := EV.cells17 R8
      have R8 := EV.reps_ (e := e.strip) Rc8 Rp8 Ra8 Rs8
      have Ek8 := Mod.refl [] w12
      refine s_alloc zv33 rfl fun g3 w13 N3 => ?_
      have Lg3_E := N3.le E
      have Lg3_Ek7 := N3.le Ek7
      have Lg3_Ek8 := N3.le Ek8
      have Dg1_g3 := N3.ne Bg1
      have Dg2_g3 := N3.ne Bg2
      replace Bg1 := Bg1.mod0 N3.mod
      replace Bg2 := Bg2.mod0 N3.mod
      replace E := E.then N3.mod
      replace Ek7 := Ek7.then N3.mod
      replace Ek8 := Ek8.then N3.mod
      have Bg3 := N3.blk
      refine s_sta (vs := [_, _, _, _, _, _, _, _, _, _, _, _, _, _, _, _, _]) ag33 Bg3 rfl rfl rfl (by simp [Value.oneCell']) (by simp) fun w14 P14 => ?_
      replace Bg1 := Bg1.ne P14.mod (Ne.symm (Ne.symm Dg1_g3))
      replace Bg2 := Bg2.ne P14.mod (Ne.symm (Ne.symm Dg2_g3))
      replace E := E.own P14.mod Lg3_E
      replace Ek7 := Ek7.own P14.mod Lg3_Ek7
      replace Ek8 := Ek8.own P14.mod Lg3_Ek8
      replace Bg3 : Blk w14 g3 _ [_, _, _, _, _, _, _, _, _, _, _, _, _, _, _, _, _] := P14.blk
      refine l_nil ?_
      refine e_K (hK10 _ _ _ _ ?_)
      refine c_seq fun K11 hK11 => ?_
      refine c_seq fun K12 hK12 => ?_
      refine c_draw wide (by kernel_rfl) ?_
      refine tv (fun w_ E_ => (o_lda (vs := [_, _, _, _, _, _, _, _, _, _, _, _, _, _, _, _, _]) ag33 rfl rfl ((Bg2.mod0 E_).cs rfl))) rfl rfl ?_
      refine tv (fun w_ E_ => (o_lda (vs := [_, _, _, _, _, _, _, _, _, _, _, _, _, _, _, _, _]) ag33 rfl rfl ((Bg1.mod0 E_).cs rfl))) rfl rfl ?_
      refine tc (fun w_ E_ => o_call ent17 rfl) (fun w_ E_ => c_same11 _ e _ _ (Rmine.to0 (Ek7.then E_)) (R0.to0 (E.then E_)) ho) rfl rfl ?_
      refine tv (fun w_ E_ => (o_not rfl)) rfl rfl ?_
      refine tv (fun w_ E_ => (o_mv rfl)) rfl rfl ?_
      refine tvg rfl (rfl) (fun w_ E_ => (o_lda (vs := [_, _, _, _, _, _, _, _, _, _, _, _, _, _, _, _, _]) ag33 rfl rfl ((Bg3.mod0 E_).cs rfl))) rfl rfl ?_
      refine tcrg (fun u w_ => ∃ us, u = .agg us.toArray ∧ Reps [] w_ e.strip.D us) (fun v_ w1_ w2_ k_ h_ => by obtain ⟨us_, e_, r_⟩ := h_; exact ⟨us_, e_, r_.to0 k_⟩) rfl rfl (fun w_ E_ => o_call ent16 rfl) (fun w_ E_ => Calls.imp (c_strip _ e.strip _ (R8.to0 (Ek8.then E_)) hva2 hvn2 hta2 htn2) fun r_ w2_ hr => by obtain ⟨us_, e_, r2_, k_⟩ := hr; rw [EV.strip_twice hva] at r2_; exact ⟨⟨us_, e_, r2_⟩, k_⟩) rfl rfl rfl ?_
      refine tvg rfl (rfl) (fun w_ E_ => (o_lda (vs := [_, _, _, _, _, _, _, _, _, _, _, _, _, _, _, _, _]) ag33 rfl rfl ((Bg3.mod0 E_).cs rfl))) rfl rfl ?_
      refine tc1g (args := fun u_ => [u_, _].toArray) (v := .bool true) 28 rfl rfl rfl rfl ⟨_, List.Mem.tail _ (List.Mem.head _), rfl⟩ (fun w_ u_ E_ h_ => o_call ent17 rfl) (fun w_ u_ E_ h_ => by
        obtain ⟨us_, rfl, r_⟩ := h_
        exact c_same11 _ e.strip _ _ r_ (R8.to0 (Ek8.then E_)) hos) rfl rfl ?_
      refine tvg rfl (rfl) (fun w_ E_ => (o_not rfl)) rfl rfl ?_
      refine tv (fun w_ E_ => (o_pickF (rfl) rfl rfl)) rfl rfl ?_
      refine tw_nil rfl fun w15 E_ => ?_
      replace Bg1 := Bg1.mod0 E_
      replace Bg2 := Bg2.mod0 E_
      replace Bg3 := Bg3.mod0 E_
      replace E := E.then E_
      replace Ek7 := Ek7.then E_
      replace Ek8 := Ek8.then E_
      refine e_K (hK12 _ _ _ _ ?_)
      refine c_false rfl ?_
      refine c_skip ?_
      refine e_K (hK11 _ _ _ _ ?_)
      refine c_seq fun K13 hK13 => ?_
      by_cases hs10_0 : e.chk ≠ 0
      · skip
        refine c_region ?_
        refine sv (o_lda (vs := [_, _, _, _, _, _, _, _, _, _, _, _, _, _, _, _, _]) ag33 rfl rfl (Bg1.cs rfl)) rfl ?_
        refine sc (o_call ent9 rfl) (c_check _ e _ (R0.to0 E) ho hlens (hT.mod E (by simp)) (hM.mod0 E)) rfl fun v_ w16 h_ => ?_
        obtain ⟨rfl, E_⟩ := h_
        replace Bg1 := Bg1.mod0 E_
        replace Bg2 := Bg2.mod0 E_
        replace Bg3 := Bg3.mod0 E_
        replace E := E.then E_
        replace Ek7 := Ek7.then E_
        replace Ek8 := Ek8.then E_
        refine sv (o_neq rfl rfl) rfl ?_
        refine sv (o_mv rfl) rfl ?_
        refine sn rfl (fun e_ => absurd ((decide_eq_true hs10_0).symm.trans e_) (by decide)) rfl ?_
        refine sn rfl (fun e_ => absurd ((decide_eq_true hs10_0).symm.trans e_) (by decide)) rfl ?_
        refine sn rfl (fun e_ => absurd ((decide_eq_true hs10_0).symm.trans e_) (by decide)) rfl ?_
        refine sn rfl (fun e_ => absurd ((decide_eq_true hs10_0).symm.trans e_) (by decide)) rfl ?_
        refine snu rfl rfl rfl ?_
        refine snu rfl rfl rfl ?_
        refine snu rfl rfl rfl ?_
        refine snu rfl rfl rfl ?_
        refine snu rfl rfl rfl ?_
        refine sn rfl (fun e_ => absurd ((decide_eq_true hs10_0).symm.trans e_) (by decide)) rfl ?_
        refine sn rfl (fun e_ => absurd ((decide_eq_true hs10_0).symm.trans e_) (by decide)) rfl ?_
        refine snu rfl rfl rfl ?_
        refine snu rfl rfl rfl ?_
        refine snu rfl rfl rfl ?_
        refine snu rfl rfl rfl ?_
        refine snu rfl rfl rfl ?_
        refine snu rfl rfl rfl ?_
        refine snu rfl rfl rfl ?_
        refine sn rfl (fun e_ => absurd ((decide_eq_true hs10_0).symm.trans e_) (by decide)) rfl ?_
        refine sv (o_pickT (decide_eq_true hs10_0) rfl rfl) rfl ?_
        refine sv (o_as rfl) rfl ?_
        refine l_nil ?_
        refine e_K (hK13 _ _ _ _ ?_)
        refine c_ret ?_
        exact ret1 rfl rfl ⟨by first | rfl | exact congrArg Value.bool (decide_eq_true rfl) | exact congrArg Value.bool (decide_eq_true hs10_0), E⟩
      · skip
        have hc0 := EV.strip_chk hva (Classical.not_not.1 hs10_0)
        refine c_region ?_
        refine sv (o_lda (vs := [_, _, _, _, _, _, _, _, _, _, _, _, _, _, _, _, _]) ag33 rfl rfl (Bg1.cs rfl)) rfl ?_
        refine sc (o_call ent9 rfl) (c_check _ e _ (R0.to0 E) ho hlens (hT.mod E (by simp)) (hM.mod0 E)) rfl fun v_ w17 h_ => ?_
        obtain ⟨rfl, E_⟩ := h_
        replace Bg1 := Bg1.mod0 E_
        replace Bg2 := Bg2.mod0 E_
        replace Bg3 := Bg3.mod0 E_
        replace E := E.then E_
        replace Ek7 := Ek7.then E_
        replace Ek8 := Ek8.then E_
        refine sv (o_neq rfl rfl) rfl ?_
        refine sv (o_mv rfl) rfl ?_
        refine sg rfl (decide_eq_false hs10_0) (o_lda (vs := [_, _, _, _, _, _, _, _, _, _, _, _, _, _, _, _, _]) ag33 rfl rfl (Bg3.cs rfl)) rfl ?_
        refine sgc rfl (decide_eq_false hs10_0) (o_call ent9 rfl) (c_chkz _ e.strip _ (R8.to0 Ek8) hos (EV.strip_lens hlens) (hT.mod E (by simp)) (hM.mod0 E) hc0) rfl fun v_ w18 h_ => ?_
        obtain ⟨rfl, E_⟩ := h_
        replace Bg1 := Bg1.mod0 E_
        replace Bg2 := Bg2.mod0 E_
        replace Bg3 := Bg3.mod0 E_
        replace E := E.then E_
        replace Ek7 := Ek7.then E_
        replace Ek8 := Ek8.then E_
        refine sg rfl (decide_eq_false hs10_0) ((o_eql rfl rfl).to (v' := .bool true) (by simp)) rfl ?_
        refine sg rfl (decide_eq_false hs10_0) (o_mv rfl) rfl ?_
        refine sg rfl (rfl) (o_fa0 fd33_2 rfl) rfl ?_
        refine sg rfl (rfl) (o_ld sc9 rfl (Bg3.cell rfl)) rfl ?_
        refine sg rfl (rfl) (o_fa0 fd33_2 rfl) rfl ?_
        refine sg rfl (rfl) (o_ld sc9 rfl (Bg1.cell rfl)) rfl ?_
        refine sg rfl (rfl) ((o_seq rfl rfl).to (v' := .bool true) (congrArg Value.bool (decide_eq_true rfl))) rfl ?_
        refine sg rfl (decide_eq_false hs10_0) (o_pickT (rfl) rfl rfl) rfl ?_
        refine sg rfl (decide_eq_false hs10_0) (o_mv rfl) rfl ?_
        refine sg rfl (rfl) (o_fa0 fd33_11 rfl) rfl ?_
        refine sg rfl (rfl) (o_ld sc31 rfl (Bg3.cell rfl)) rfl ?_
        refine sg rfl (rfl) (o_len Tryd.underlying31 rfl) rfl ?_
        refine sg rfl (rfl) (o_fa0 fd33_11 rfl) rfl ?_
        refine sg rfl (rfl) (o_ld sc31 rfl (Bg1.cell rfl)) rfl ?_
        refine sg rfl (rfl) (o_len Tryd.underlying31 rfl) rfl ?_
        refine sg rfl (rfl) ((o_eql rfl rfl).to (v' := .bool true) (congrArg Value.bool (decide_eq_true rfl))) rfl ?_
        refine sg rfl (decide_eq_false hs10_0) (o_pickT (rfl) rfl rfl) rfl ?_
        refine sv (o_pickF (decide_eq_false hs10_0) rfl rfl) rfl ?_
        refine sv (o_as rfl) rfl ?_
        refine l_nil ?_
        refine e_K (hK13 _ _ _ _ ?_)
        refine c_ret ?_
        exact ret1 rfl rfl ⟨by first | rfl | exact congrArg Value.bool (decide_eq_true rfl) | exact congrArg Value.bool (decide_eq_true hs10_0), E⟩
end Go.Proofs.YtkhbnhdlelmbnaaDoor.V
