/-
  A part of the proof: walks of functions. No condition of its own.
-/
import Derived.Test.YtknndpjacklkeaaGreatDoorM18
import Derived.Test.YtknndpjacklkeaaGreatDoorM5
set_option linter.unusedVariables false
set_option linter.unusedSimpArgs false
set_option maxRecDepth 10000
namespace Go.Proofs.YtknndpjacklkeaaGreatDoor.V
open Go Go.Proofs

theorem eqJ_self (v : JV) : JV.eqJ v v = true := JV.eqJ_iff.2 rfl
theorem par_ok {s : Str} (h : parE s = 0) : parse s = .ok (parV s) := by
 unfold parE at h
 unfold parV
 cases hp : parse s with
 | ok v => rfl
 | error e =>
  rw [hp] at h
  exact absurd h (parse_ne hp)
theorem back1 {v : JV} (h : ern (v.wr 0 []) = 0) : parV (bts (v.wr 0 [])) = v ∧ parE (bts (v.wr 0 [])) = 0 := by
 obtain ⟨b, hb⟩ := ern_ok h
 have hp := parse_wr hb
 rw [hb]
 exact ⟨by unfold parV; rw [show bts (.ok b) = b from rfl, hp], by unfold parE; rw [show bts (.ok b) = b from rfl, hp]⟩
theorem back2 {s : Str} (h : parE s = 0) (h3 : ¬ ern ((parV s).wr 0 []) = 3) : ern ((parV s).wr 0 []) = 0 := by
 rcases parse_wl (par_ok h) with ⟨t, ht⟩ | ht
 ·rw [ht]; rfl
 ·exact absurd (by rw [ht]; rfl) h3

theorem c_JsonBack (w : World) (v : JV) (s : Str) (us : List Value) (R : Reps [] w v.D us) (hE : Env w) : Calls Tryz.prog 4 [.agg us.toArray, S s].toArray w (Ret fun u w' => u = .bool true ∧ Mod [] w w') := by
 refine enter Tryz.func4 rfl rfl rfl (l := [(0, _), (1, _)]) ⟨rfl, rfl, trivial⟩ ?_
 have E := Mod.refl [] w
 have hT := hE.tab
 obtain ⟨al, cl, am, cm, rfl, Rl, Rm⟩ := JV.cells_ R
 have R := JV.reps_ Rl Rm
 refine Cq fun K1 hK1 => ?_
 refine Cr ?_
 refine s_box rfl rfl rfl fun g1 w1 N1 => ?_
 have Lg1_E := N1.le E
 replace E := E.then N1.mod
 have Bg1 := N1.blk
 refine sv (o_as rfl) rfl ?_
 refine Ln ?_
 refine e_K (hK1 _ _ _ _ ?_)
 refine Cq fun K2 hK2 => ?_
 refine Cq fun K3 hK3 => ?_
 refine Cr ?_
 refine sc (oC ent17 rfl) (c_alive _ (hE.mod0 E)) rfl fun v_ w2 h_ => ?_
 obtain ⟨rfl, E_⟩ := h_
 replace Bg1 := Bg1.mod0 E_
 replace E := E.then E_
 refine sv (o_not rfl) rfl ?_
 refine Ln ?_
 refine e_K (hK3 _ _ _ _ ?_)
 refine c_cond rfl (fun h13 => ?_) (fun h13 => ?_)
 ·skip
  refine Cq fun K4 hK4 => ?_
  refine Cr ?_
  refine sv (o_as rfl) rfl ?_
  refine Ln ?_
  refine e_K (hK4 _ _ _ _ ?_)
  refine cR ?_
  refine eT (by simp) ?_
  exact ret1 rfl rfl ⟨absurd h13 (by simp), E⟩
 ·skip
  refine cK ?_
  refine e_K (hK2 _ _ _ _ ?_)
  refine Cq fun K5 hK5 => ?_
  refine Cq fun K6 hK6 => ?_
  refine Cr ?_
  refine sv (o_lda (vs := [_, _, _, _, _, _]) ag25 rfl rfl (Bg1.cs rfl)) rfl ?_
  refine sc (oC ent18 rfl) (c_great09 _ v _ (R.to0 E)) rfl fun v_ w3 h_ => ?_
  obtain ⟨rfl, E_⟩ := h_
  replace Bg1 := Bg1.mod0 E_
  replace E := E.then E_
  refine bC (fun hg1 : (decide (v.weigh 8192 60 < 0)) = true => ?_) (fun hg1 => ?_)
  ·skip
   refine tW 5 rfl ?_
   refine Ln ?_
   refine e_K (hK6 _ _ _ _ ?_)
   refine c_true rfl ?_
   refine Cq fun K7 hK7 => ?_
   refine Cr ?_
   refine sv (o_as rfl) rfl ?_
   refine Ln ?_
   refine e_K (hK7 _ _ _ _ ?_)
   refine cR ?_
   refine eT (by simp) ?_
   exact ret1 rfl rfl ⟨rfl, E⟩
  ·skip
   refine tW 2 rfl ?_
   refine sg rfl (rfl) (o_slen Tryz.underlying9 rfl) rfl ?_
   refine sg rfl (rfl) (o_gtr rfl rfl) rfl ?_
   refine bD (fun hl : (s.length : Int) > 8192 => ?_) (fun hl => ?_)
   ·skip
    refine sv (oF (rfl) rfl rfl) rfl ?_
    refine Ln ?_
    refine e_K (hK6 _ _ _ _ ?_)
    refine c_true rfl ?_
    refine Cq fun K8 hK8 => ?_
    refine Cr ?_
    refine sv (o_as rfl) rfl ?_
    refine Ln ?_
    refine e_K (hK8 _ _ _ _ ?_)
    refine cR ?_
    refine eT (by simp) ?_
    exact ret1 rfl rfl ⟨rfl, E⟩
   ·skip
    refine sv (oF (rfl) rfl rfl) rfl ?_
    refine Ln ?_
    refine e_K (hK6 _ _ _ _ ?_)
    refine c_false rfl ?_
    refine cK ?_
    refine e_K (hK5 _ _ _ _ ?_)
    refine Cq fun K9 hK9 => ?_
    refine Cr ?_
    refine sv (o_lda (vs := [_, _, _, _, _, _]) ag25 rfl rfl (Bg1.cs rfl)) rfl ?_
    refine sc (oC ent19 rfl) (c_canon _ v _ (R.to0 E) (hT.mod E (by simp))) rfl fun v_ w4 h_ => ?_
    obtain ⟨rfl, E_⟩ := h_
    replace Bg1 := Bg1.mod0 E_
    replace E := E.then E_
    refine tW 5 rfl ?_
    refine Ln ?_
    refine e_K (hK9 _ _ _ _ ?_)
    refine Cq fun K10 hK10 => ?_
    refine Cq fun K11 hK11 => ?_
    refine Cr ?_
    refine tW 2 rfl ?_
    refine Ln ?_
    refine e_K (hK11 _ _ _ _ ?_)
    refine c_if rfl (fun h27 => ?_) (fun h27 => ?_)
    ·skip
     refine Cq fun K12 hK12 => ?_
     refine Cr ?_
     refine sv (oM rfl) rfl ?_
     refine sc (oC ent14 rfl) (c_parse2 _ (bts (v.wr 0 [])) (hE.mod0 E) (back1 h27).1 (back1 h27).2) rfl fun v_ w5 h_ => ?_
     obtain ⟨us1, rfl, R1, E_⟩ := h_
     replace Bg1 := Bg1.mod0 E_
     replace E := E.then E_
     have Ep1 := Mod.refl [] w5
     obtain ⟨al1, cl1, am1, cm1, rfl, Rl1, Rm1⟩ := JV.cells_ R1
     replace R1 := JV.reps_ Rl1 Rm1
     refine tW 3 rfl ?_
     refine s_alloc zv25 rfl fun g2 w6 N2 => ?_
     have Lg2_E := N2.le E
     have Lg2_Ep1 := N2.le Ep1
     have Dg1_g2 := N2.ne Bg1
     replace Bg1 := Bg1.mod0 N2.mod
     replace E := E.then N2.mod
     replace Ep1 := Ep1.then N2.mod
     have Bg2 := N2.blk
     refine s_sta (vs := [_, _, _, _, _, _]) ag25 Bg2 rfl rfl rfl (by simp [Value.oneCell']) (by simp) fun w7 P7 => ?_
     replace Bg1 := Bg1.ne P7.mod (Ne.symm (Ne.symm Dg1_g2))
     replace E := E.own P7.mod Lg2_E
     replace Ep1 := Ep1.own P7.mod Lg2_Ep1
     replace Bg2 : Blk w7 g2 _ [_, _, _, _, _, _] := P7.blk
     refine sv (o_as rfl) rfl ?_
     refine Ln ?_
     refine e_K (hK12 _ _ _ _ ?_)
     refine Cq fun K13 hK13 => ?_
     refine Cr ?_
     refine tW 2 rfl ?_
     refine bE (decide_eq_false (by decide)) ?_
     refine sv (oM rfl) rfl ?_
     refine sg rfl (rfl) (o_lda (vs := [_, _, _, _, _, _]) ag25 rfl rfl (Bg1.cs rfl)) rfl ?_
     refine sg rfl (rfl) (o_lda (vs := [_, _, _, _, _, _]) ag25 rfl rfl (Bg2.cs rfl)) rfl ?_
     refine sgc rfl (rfl) (oC ent16 rfl) (c_same _ v v _ _ (R.to0 E) (R1.to0 Ep1)) rfl fun v_ w8 h_ => ?_
     obtain ⟨rfl, E_⟩ := h_
     replace Bg1 := Bg1.mod0 E_
     replace Bg2 := Bg2.mod0 E_
     replace E := E.then E_
     replace Ep1 := Ep1.then E_
     refine bE (eqJ_self v) ?_
     refine tW 2 rfl ?_
     refine Ln ?_
     refine e_K (hK13 _ _ _ _ ?_)
     refine c_cond rfl (fun h40 => ?_) (fun h40 => ?_)
     ·skip
      refine Cq fun K14 hK14 => ?_
      refine Cr ?_
      refine sv (o_as rfl) rfl ?_
      refine Ln ?_
      refine e_K (hK14 _ _ _ _ ?_)
      refine cR ?_
      refine eT (by simp) ?_
      exact ret1 rfl rfl ⟨absurd h40 (by simp), E⟩
     ·skip
      refine cK ?_
      refine e_K (hK10 _ _ _ _ ?_)
      refine Cq fun K15 hK15 => ?_
      refine Cr ?_
      refine sv (oM rfl) rfl ?_
      refine sc (oC ent14 rfl) (c_parse2 _ s (hE.mod0 E) rfl rfl) rfl fun v_ w9 h_ => ?_
      obtain ⟨us2, rfl, R2, E_⟩ := h_
      replace Bg1 := Bg1.mod0 E_
      replace Bg2 := Bg2.mod0 E_
      replace E := E.then E_
      replace Ep1 := Ep1.then E_
      have Ep2 := Mod.refl [] w9
      obtain ⟨al2, cl2, am2, cm2, rfl, Rl2, Rm2⟩ := JV.cells_ R2
      replace R2 := JV.reps_ Rl2 Rm2
      refine tW 3 rfl ?_
      refine s_alloc zv25 rfl fun g3 w10 N3 => ?_
      have Lg3_E := N3.le E
      have Lg3_Ep1 := N3.le Ep1
      have Lg3_Ep2 := N3.le Ep2
      have Dg1_g3 := N3.ne Bg1
      have Dg2_g3 := N3.ne Bg2
      replace Bg1 := Bg1.mod0 N3.mod
      replace Bg2 := Bg2.mod0 N3.mod
      replace E := E.then N3.mod
      replace Ep1 := Ep1.then N3.mod
      replace Ep2 := Ep2.then N3.mod
      have Bg3 := N3.blk
      refine s_sta (vs := [_, _, _, _, _, _]) ag25 Bg3 rfl rfl rfl (by simp [Value.oneCell']) (by simp) fun w11 P11 => ?_
      replace Bg1 := Bg1.ne P11.mod (Ne.symm (Ne.symm Dg1_g3))
      replace Bg2 := Bg2.ne P11.mod (Ne.symm (Ne.symm Dg2_g3))
      replace E := E.own P11.mod Lg3_E
      replace Ep1 := Ep1.own P11.mod Lg3_Ep1
      replace Ep2 := Ep2.own P11.mod Lg3_Ep2
      replace Bg3 : Blk w11 g3 _ [_, _, _, _, _, _] := P11.blk
      refine sv (o_as rfl) rfl ?_
      refine Ln ?_
      refine e_K (hK15 _ _ _ _ ?_)
      refine Cq fun K16 hK16 => ?_
      refine Cq fun K17 hK17 => ?_
      refine Cr ?_
      refine tW 2 rfl ?_
      refine Ln ?_
      refine e_K (hK17 _ _ _ _ ?_)
      refine c_if rfl (fun h47 => ?_) (fun h47 => ?_)
      ·skip
       refine Cq fun K18 hK18 => ?_
       refine Cr ?_
       refine sv (o_as rfl) rfl ?_
       refine Ln ?_
       refine e_K (hK18 _ _ _ _ ?_)
       refine cR ?_
       refine eT (by simp) ?_
       exact ret1 rfl rfl ⟨rfl, E⟩
      ·skip
       have hp0 : parE s = 0 := Classical.not_not.1 h47
       refine cK ?_
       refine e_K (hK16 _ _ _ _ ?_)
       refine Cq fun K19 hK19 => ?_
       refine Cr ?_
       refine sv (o_lda (vs := [_, _, _, _, _, _]) ag25 rfl rfl (Bg3.cs rfl)) rfl ?_
       refine sc (oC ent19 rfl) (c_canon _ (parV s) _ (R2.to0 Ep2) (hT.mod E (by simp))) rfl fun v_ w12 h_ => ?_
       obtain ⟨rfl, E_⟩ := h_
       replace Bg1 := Bg1.mod0 E_
       replace Bg2 := Bg2.mod0 E_
       replace Bg3 := Bg3.mod0 E_
       replace E := E.then E_
       replace Ep1 := Ep1.then E_
       replace Ep2 := Ep2.then E_
       refine tW 5 rfl ?_
       refine Ln ?_
       refine e_K (hK19 _ _ _ _ ?_)
       refine Cq fun K20 hK20 => ?_
       refine Cr ?_
       refine sv (oM rfl) rfl ?_
       refine sc (oC ent14 rfl) (c_parse2 _ (bts ((parV s).wr 0 [])) (hE.mod0 E) rfl rfl) rfl fun v_ w13 h_ => ?_
       obtain ⟨us3, rfl, R3, E_⟩ := h_
       replace Bg1 := Bg1.mod0 E_
       replace Bg2 := Bg2.mod0 E_
       replace Bg3 := Bg3.mod0 E_
       replace E := E.then E_
       replace Ep1 := Ep1.then E_
       replace Ep2 := Ep2.then E_
       have Ep3 := Mod.refl [] w13
       obtain ⟨al3, cl3, am3, cm3, rfl, Rl3, Rm3⟩ := JV.cells_ R3
       replace R3 := JV.reps_ Rl3 Rm3
       refine tW 3 rfl ?_
       refine s_alloc zv25 rfl fun g4 w14 N4 => ?_
       have Lg4_E := N4.le E
       have Lg4_Ep1 := N4.le Ep1
       have Lg4_Ep2 := N4.le Ep2
       have Lg4_Ep3 := N4.le Ep3
       have Dg1_g4 := N4.ne Bg1
       have Dg2_g4 := N4.ne Bg2
       have Dg3_g4 := N4.ne Bg3
       replace Bg1 := Bg1.mod0 N4.mod
       replace Bg2 := Bg2.mod0 N4.mod
       replace Bg3 := Bg3.mod0 N4.mod
       replace E := E.then N4.mod
       replace Ep1 := Ep1.then N4.mod
       replace Ep2 := Ep2.then N4.mod
       replace Ep3 := Ep3.then N4.mod
       have Bg4 := N4.blk
       refine s_sta (vs := [_, _, _, _, _, _]) ag25 Bg4 rfl rfl rfl (by simp [Value.oneCell']) (by simp) fun w15 P15 => ?_
       replace Bg1 := Bg1.ne P15.mod (Ne.symm (Ne.symm Dg1_g4))
       replace Bg2 := Bg2.ne P15.mod (Ne.symm (Ne.symm Dg2_g4))
       replace Bg3 := Bg3.ne P15.mod (Ne.symm (Ne.symm Dg3_g4))
       replace E := E.own P15.mod Lg4_E
       replace Ep1 := Ep1.own P15.mod Lg4_Ep1
       replace Ep2 := Ep2.own P15.mod Lg4_Ep2
       replace Ep3 := Ep3.own P15.mod Lg4_Ep3
       replace Bg4 : Blk w15 g4 _ [_, _, _, _, _, _] := P15.blk
       refine sv (o_as rfl) rfl ?_
       refine Ln ?_
       refine e_K (hK20 _ _ _ _ ?_)
       refine Cq fun K21 hK21 => ?_
       refine Cr ?_
       refine tW 2 rfl ?_
       refine bD (fun h3 : ern ((parV s).wr 0 []) = 3 => ?_) (fun h3 => ?_)
       ·skip
        refine tW 14 rfl ?_
        refine Ln ?_
        refine e_K (hK21 _ _ _ _ ?_)
        refine cR ?_
        exact ret1 rfl rfl ⟨rfl, E⟩
       ·skip
        refine tW 3 rfl ?_
        refine bE (decide_eq_true (back2 hp0 h3)) ?_
        refine tW 3 rfl ?_
        refine bE (decide_eq_true (back1 (back2 hp0 h3)).2) ?_
        refine tW 2 rfl ?_
        refine sg rfl (rfl) (o_lda (vs := [_, _, _, _, _, _]) ag25 rfl rfl (Bg4.cs rfl)) rfl ?_
        refine sg rfl (rfl) (o_lda (vs := [_, _, _, _, _, _]) ag25 rfl rfl (Bg3.cs rfl)) rfl ?_
        refine sgc rfl (rfl) (oC ent16 rfl) (c_same _ _ _ _ _ (R3.to0 Ep3) (R2.to0 Ep2)) rfl fun v_ w16 h_ => ?_
        obtain ⟨rfl, E_⟩ := h_
        replace Bg1 := Bg1.mod0 E_
        replace Bg2 := Bg2.mod0 E_
        replace Bg3 := Bg3.mod0 E_
        replace Bg4 := Bg4.mod0 E_
        replace E := E.then E_
        replace Ep1 := Ep1.then E_
        replace Ep2 := Ep2.then E_
        replace Ep3 := Ep3.then E_
        refine bE (JV.eqJ_iff.2 (back1 (back2 hp0 h3)).1) ?_
        refine tW 3 rfl ?_
        refine Ln ?_
        refine e_K (hK21 _ _ _ _ ?_)
        refine cR ?_
        exact ret1 rfl rfl ⟨rfl, E⟩
    ·skip
     refine cK ?_
     refine e_K (hK10 _ _ _ _ ?_)
     refine Cq fun K22 hK22 => ?_
     refine Cr ?_
     refine sv (oM rfl) rfl ?_
     refine sc (oC ent14 rfl) (c_parse2 _ s (hE.mod0 E) rfl rfl) rfl fun v_ w17 h_ => ?_
     obtain ⟨us2, rfl, R2, E_⟩ := h_
     replace Bg1 := Bg1.mod0 E_
     replace E := E.then E_
     have Ep2 := Mod.refl [] w17
     obtain ⟨al2, cl2, am2, cm2, rfl, Rl2, Rm2⟩ := JV.cells_ R2
     replace R2 := JV.reps_ Rl2 Rm2
     refine tW 3 rfl ?_
     refine s_alloc zv25 rfl fun g5 w18 N5 => ?_
     have Lg5_E := N5.le E
     have Lg5_Ep2 := N5.le Ep2
     have Dg1_g5 := N5.ne Bg1
     replace Bg1 := Bg1.mod0 N5.mod
     replace E := E.then N5.mod
     replace Ep2 := Ep2.then N5.mod
     have Bg5 := N5.blk
     refine s_sta (vs := [_, _, _, _, _, _]) ag25 Bg5 rfl rfl rfl (by simp [Value.oneCell']) (by simp) fun w19 P19 => ?_
     replace Bg1 := Bg1.ne P19.mod (Ne.symm (Ne.symm Dg1_g5))
     replace E := E.own P19.mod Lg5_E
     replace Ep2 := Ep2.own P19.mod Lg5_Ep2
     replace Bg5 : Blk w19 g5 _ [_, _, _, _, _, _] := P19.blk
     refine sv (o_as rfl) rfl ?_
     refine Ln ?_
     refine e_K (hK22 _ _ _ _ ?_)
     refine Cq fun K23 hK23 => ?_
     refine Cq fun K24 hK24 => ?_
     refine Cr ?_
     refine tW 2 rfl ?_
     refine Ln ?_
     refine e_K (hK24 _ _ _ _ ?_)
     refine c_if rfl (fun h47 => ?_) (fun h47 => ?_)
     ·skip
      refine Cq fun K25 hK25 => ?_
      refine Cr ?_
      refine sv (o_as rfl) rfl ?_
      refine Ln ?_
      refine e_K (hK25 _ _ _ _ ?_)
      refine cR ?_
      refine eT (by simp) ?_
      exact ret1 rfl rfl ⟨rfl, E⟩
     ·skip
      have hp0 : parE s = 0 := Classical.not_not.1 h47
      refine cK ?_
      refine e_K (hK23 _ _ _ _ ?_)
      refine Cq fun K26 hK26 => ?_
      refine Cr ?_
      refine sv (o_lda (vs := [_, _, _, _, _, _]) ag25 rfl rfl (Bg5.cs rfl)) rfl ?_
      refine sc (oC ent19 rfl) (c_canon _ (parV s) _ (R2.to0 Ep2) (hT.mod E (by simp))) rfl fun v_ w20 h_ => ?_
      obtain ⟨rfl, E_⟩ := h_
      replace Bg1 := Bg1.mod0 E_
      replace Bg5 := Bg5.mod0 E_
      replace E := E.then E_
      replace Ep2 := Ep2.then E_
      refine tW 5 rfl ?_
      refine Ln ?_
      refine e_K (hK26 _ _ _ _ ?_)
      refine Cq fun K27 hK27 => ?_
      refine Cr ?_
      refine sv (oM rfl) rfl ?_
      refine sc (oC ent14 rfl) (c_parse2 _ (bts ((parV s).wr 0 [])) (hE.mod0 E) rfl rfl) rfl fun v_ w21 h_ => ?_
      obtain ⟨us3, rfl, R3, E_⟩ := h_
      replace Bg1 := Bg1.mod0 E_
      replace Bg5 := Bg5.mod0 E_
      replace E := E.then E_
      replace Ep2 := Ep2.then E_
      have Ep3 := Mod.refl [] w21
      obtain ⟨al3, cl3, am3, cm3, rfl, Rl3, Rm3⟩ := JV.cells_ R3
      replace R3 := JV.reps_ Rl3 Rm3
      refine tW 3 rfl ?_
      refine s_alloc zv25 rfl fun g6 w22 N6 => ?_
      have Lg6_E := N6.le E
      have Lg6_Ep2 := N6.le Ep2
      have Lg6_Ep3 := N6.le Ep3
      have Dg1_g6 := N6.ne Bg1
      have Dg5_g6 := N6.ne Bg5
      replace Bg1 := Bg1.mod0 N6.mod
      replace Bg5 := Bg5.mod0 N6.mod
      replace E := E.then N6.mod
      replace Ep2 := Ep2.then N6.mod
      replace Ep3 := Ep3.then N6.mod
      have Bg6 := N6.blk
      refine s_sta (vs := [_, _, _, _, _, _]) ag25 Bg6 rfl rfl rfl (by simp [Value.oneCell']) (by simp) fun w23 P23 => ?_
      replace Bg1 := Bg1.ne P23.mod (Ne.symm (Ne.symm Dg1_g6))
      replace Bg5 := Bg5.ne P23.mod (Ne.symm (Ne.symm Dg5_g6))
      replace E := E.own P23.mod Lg6_E
      replace Ep2 := Ep2.own P23.mod Lg6_Ep2
      replace Ep3 := Ep3.own P23.mod Lg6_Ep3
      replace Bg6 : Blk w23 g6 _ [_, _, _, _, _, _] := P23.blk
      refine sv (o_as rfl) rfl ?_
      refine Ln ?_
      refine e_K (hK27 _ _ _ _ ?_)
      refine Cq fun K28 hK28 => ?_
      refine Cr ?_
      refine tW 2 rfl ?_
      refine bD (fun h3 : ern ((parV s).wr 0 []) = 3 => ?_) (fun h3 => ?_)
      ·skip
       refine tW 14 rfl ?_
       refine Ln ?_
       refine e_K (hK28 _ _ _ _ ?_)
       refine cR ?_
       exact ret1 rfl rfl ⟨rfl, E⟩
      ·skip
       refine tW 3 rfl ?_
       refine bE (decide_eq_true (back2 hp0 h3)) ?_
       refine tW 3 rfl ?_
       refine bE (decide_eq_true (back1 (back2 hp0 h3)).2) ?_
       refine tW 2 rfl ?_
       refine sg rfl (rfl) (o_lda (vs := [_, _, _, _, _, _]) ag25 rfl rfl (Bg6.cs rfl)) rfl ?_
       refine sg rfl (rfl) (o_lda (vs := [_, _, _, _, _, _]) ag25 rfl rfl (Bg5.cs rfl)) rfl ?_
       refine sgc rfl (rfl) (oC ent16 rfl) (c_same _ _ _ _ _ (R3.to0 Ep3) (R2.to0 Ep2)) rfl fun v_ w24 h_ => ?_
       obtain ⟨rfl, E_⟩ := h_
       replace Bg1 := Bg1.mod0 E_
       replace Bg5 := Bg5.mod0 E_
       replace Bg6 := Bg6.mod0 E_
       replace E := E.then E_
       replace Ep2 := Ep2.then E_
       replace Ep3 := Ep3.then E_
       refine bE (JV.eqJ_iff.2 (back1 (back2 hp0 h3)).1) ?_
       refine tW 3 rfl ?_
       refine Ln ?_
       refine e_K (hK28 _ _ _ _ ?_)
       refine cR ?_
       exact ret1 rfl rfl ⟨rfl, E⟩
end Go.Proofs.YtknndpjacklkeaaGreatDoor.V
