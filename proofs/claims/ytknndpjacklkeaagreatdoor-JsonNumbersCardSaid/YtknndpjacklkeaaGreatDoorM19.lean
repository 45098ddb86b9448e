/-
  A part of the proof: walks of functions. No condition of its own.
-/
import Derived.Test.YtknndpjacklkeaaGreatDoorM18
import Derived.Test.YtknndpjacklkeaaGreatDoorM14
import Derived.Test.YtknndpjacklkeaaGreatDoorM11
import Derived.Test.YtknndpjacklkeaaGreatDoorM7
import Derived.Test.YtknndpjacklkeaaGreatDoorM5
set_option linter.unusedVariables false
set_option linter.unusedSimpArgs false
set_option maxRecDepth 10000
namespace Go.Proofs.YtknndpjacklkeaaGreatDoor.V
open Go Go.Proofs

theorem parV_ok {s : Str} {v : JV} (h : parse s = .ok v) : parV s = v := by unfold parV; rw [h]
theorem parE_ok {s : Str} {v : JV} (h : parse s = .ok v) : parE s = 0 := by unfold parE; rw [h]
theorem parE_no {s : Str} {e : Int} (h : parse s = .error e) : parE s = e := by unfold parE; rw [h]
theorem parse_m7 : parse [45, 55] = .ok (JV.numV (-7)) := by
 have h := wr_num0 (n := -7) (by decide) (by decide)
 have h1 : Lib.itoa (-7) = [45, 55] := by
  rw [Lib.itoa, if_pos (by decide)]
  show 45 :: Lib.decDigits 7 = _
  unfold Lib.decDigits
  rfl
 rw [h1] at h
 exact parse_wr h

theorem c_JsonNumbers (w : World) (n : Int) (hn1 : -9223372036854775808 ≤ n) (hn2 : n ≤ 9223372036854775807) (hE : Env w) : Calls Tryz.prog 6 [.int .i64 n].toArray w (Ret fun u w' => u = .bool true ∧ Mod [] w w') := by
 refine enter Tryz.func6 rfl rfl rfl (l := [(0, _)]) ⟨rfl, trivial⟩ ?_
 have E := Mod.refl [] w
 have hT := hE.tab
 refine Cq fun K1 hK1 => ?_
 refine Cr ?_
 refine sv (o_as rfl) rfl ?_
 refine Ln ?_
 refine e_K (hK1 _ _ _ _ ?_)
 refine Cq fun K2 hK2 => ?_
 refine Cr ?_
 refine sc (oC ent14 rfl) (c_parse2 _ [45, 55] (hE.mod0 E) (parV_ok parse_m7) (parE_ok parse_m7)) rfl fun v_ w1 h_ => ?_
 obtain ⟨us1, rfl, R1, E_⟩ := h_
 replace E := E.then E_
 have Ep1 := Mod.refl [] w1
 obtain ⟨al1, cl1, am1, cm1, rfl, Rl1, Rm1⟩ := JV.cells_ R1
 replace R1 := JV.reps_ Rl1 Rm1
 refine tW 3 rfl ?_
 refine s_alloc zv25 rfl fun g1 w2 N1 => ?_
 have Lg1_E := N1.le E
 have Lg1_Ep1 := N1.le Ep1
 replace E := E.then N1.mod
 replace Ep1 := Ep1.then N1.mod
 have Bg1 := N1.blk
 refine s_sta (vs := [_, _, _, _, _, _]) ag25 Bg1 rfl rfl rfl (by simp [Value.oneCell']) (by simp) fun w3 P3 => ?_
 replace E := E.own P3.mod Lg1_E
 replace Ep1 := Ep1.own P3.mod Lg1_Ep1
 replace Bg1 : Blk w3 g1 _ [_, _, _, _, _, _] := P3.blk
 refine sv (o_as rfl) rfl ?_
 refine Ln ?_
 refine e_K (hK2 _ _ _ _ ?_)
 refine Cq fun K3 hK3 => ?_
 refine Cq fun K4 hK4 => ?_
 refine Cr ?_
 refine sv (oA0 fd25_2 rfl) rfl ?_
 refine sv (oL sc3 rfl (Bg1.cell rfl)) rfl ?_
 refine sv (o_neq rfl rfl) rfl ?_
 refine bE (decide_eq_false (by decide)) ?_
 refine tW 3 rfl ?_
 refine bE (decide_eq_false (by decide)) ?_
 refine sv (oF (rfl) rfl rfl) rfl ?_
 refine Ln ?_
 refine e_K (hK4 _ _ _ _ ?_)
 refine c_false rfl ?_
 refine cK ?_
 refine e_K (hK3 _ _ _ _ ?_)
 refine Cq fun K5 hK5 => ?_
 refine Cr ?_
 refine sv (oM rfl) rfl ?_
 refine sc (oC ent20 rfl) (c_jnum _ n) rfl fun v_ w4 h_ => ?_
 obtain ⟨rfl, E_⟩ := h_
 replace Bg1 := Bg1.mod0 E_
 replace E := E.then E_
 replace Ep1 := Ep1.then E_
 refine sc (oC ent19 rfl) (c_canon _ (JV.numV n) _ JV.num_reps (hT.mod E (by simp))) rfl fun v_ w5 h_ => ?_
 obtain ⟨rfl, E_⟩ := h_
 replace Bg1 := Bg1.mod0 E_
 replace E := E.then E_
 replace Ep1 := Ep1.then E_
 refine tW 5 rfl ?_
 refine Ln ?_
 refine e_K (hK5 _ _ _ _ ?_)
 refine Cq fun K6 hK6 => ?_
 refine Cq fun K7 hK7 => ?_
 refine Cr ?_
 refine tW 2 rfl ?_
 refine bD (fun hb1 : n > 9007199254740991 => ?_) (fun hb1 => ?_)
 ·skip
  refine tW 4 rfl ?_
  refine Ln ?_
  refine e_K (hK7 _ _ _ _ ?_)
  refine c_true rfl ?_
  refine Cq fun K8 hK8 => ?_
  refine Cr ?_
  refine sv (oM rfl) rfl ?_
  refine sv (o_seq rfl rfl) rfl ?_
  refine bE (decide_eq_true (by rw [wr_numB (by omega)]; rfl)) ?_
  refine tW 3 rfl ?_
  refine bE (decide_eq_true (by rw [wr_numB (by omega)]; rfl)) ?_
  refine tW 2 rfl ?_
  refine Ln ?_
  refine e_K (hK8 _ _ _ _ ?_)
  refine cR ?_
  refine eT (by simp) ?_
  exact ret1 rfl rfl ⟨rfl, E⟩
 ·skip
  refine tW 4 rfl ?_
  refine Ln ?_
  refine e_K (hK7 _ _ _ _ ?_)
  refine c_if rfl (fun h37 => ?_) (fun h37 => ?_)
  ·skip
   refine Cq fun K9 hK9 => ?_
   refine Cr ?_
   refine sv (oM rfl) rfl ?_
   refine sv (o_seq rfl rfl) rfl ?_
   refine bE (decide_eq_true (by rw [wr_numB (by omega)]; rfl)) ?_
   refine tW 3 rfl ?_
   refine bE (decide_eq_true (by rw [wr_numB (by omega)]; rfl)) ?_
   refine tW 2 rfl ?_
   refine Ln ?_
   refine e_K (hK9 _ _ _ _ ?_)
   refine cR ?_
   refine eT (by simp) ?_
   exact ret1 rfl rfl ⟨rfl, E⟩
  ·skip
   have h0 : -9007199254740991 ≤ n := by omega
   have h1 : n ≤ 9007199254740991 := by omega
   have hil := itoa_le h0 h1
   rw [wr_num0 h0 h1, show ∀ b : Str, bts (Except.ok b) = b from fun _ => rfl, show ∀ b : Str, ern (Except.ok b) = 0 from fun _ => rfl]
   refine cK ?_
   refine e_K (hK6 _ _ _ _ ?_)
   refine Cq fun K10 hK10 => ?_
   refine Cr ?_
   refine tW 2 rfl ?_
   refine bD (fun hp : n > 0 => ?_) (fun hp => ?_)
   ·skip
    refine sc (oC ent22 rfl) (c_jbool _ true) rfl fun v_ w6 h_ => ?_
    obtain ⟨rfl, E_⟩ := h_
    replace Bg1 := Bg1.mod0 E_
    replace E := E.then E_
    replace Ep1 := Ep1.then E_
    refine sv (oM rfl) rfl ?_
    refine sc (oC ent20 rfl) (c_jnum _ n) rfl fun v_ w7 h_ => ?_
    obtain ⟨rfl, E_⟩ := h_
    replace Bg1 := Bg1.mod0 E_
    replace E := E.then E_
    replace Ep1 := Ep1.then E_
    refine s_bslice (cs := [_, _, _, _, _, _, _, _, _, _, _, _]) sl22 zv25 rfl rfl rfl (by decide) rfl fun g2 w8 N2 => ?_
    have Lg2_E := N2.le E
    have Lg2_Ep1 := N2.le Ep1
    have Dg1_g2 := N2.ne Bg1
    replace Bg1 := Bg1.mod0 N2.mod
    replace E := E.then N2.mod
    replace Ep1 := Ep1.then N2.mod
    have Bg2 := N2.blk
    refine sc (oC ent21 rfl) (c_jlist [] _ (by simp) [JV.mk 1 true 0 [] [] [], JV.numV n] _ (Own.rep (rows := [JV.mk 1 true 0 [] [] [], JV.numV n].map JV.D) (Own.all (cs := [_, _, _, _, _, _, _, _, _, _, _, _]) Bg2 rfl (by omega)) (by simpa using (JV.bool_reps (b := true)).append (JV.num_reps (n := n))) (fun r hr => by obtain ⟨x_, _, rfl⟩ := List.mem_map.1 hr; exact JV.D_len _) (by simp) (by simp)) (by simp)) rfl fun v_ w9 h_ => ?_
    obtain ⟨usl, rfl, Rl9, E_⟩ := h_
    replace Bg1 := Bg1.mod0 E_
    replace Bg2 := Bg2.mod0 E_
    replace E := E.then E_
    replace Ep1 := Ep1.then E_
    have El := Mod.refl [] w9
    refine sc (oC ent19 rfl) (c_canon _ (JV.lst [JV.mk 1 true 0 [] [] [], JV.numV n]) _ (Rl9.to0 El) (hT.mod E (by simp))) rfl fun v_ w10 h_ => ?_
    obtain ⟨rfl, E_⟩ := h_
    replace Bg1 := Bg1.mod0 E_
    replace Bg2 := Bg2.mod0 E_
    replace E := E.then E_
    replace Ep1 := Ep1.then E_
    replace El := El.then E_
    rw [wr_list2 h0 h1, show ∀ b : Str, bts (Except.ok b) = b from fun _ => rfl, show ∀ b : Str, ern (Except.ok b) = 0 from fun _ => rfl]
    refine tW 5 rfl ?_
    refine Ln ?_
    refine e_K (hK10 _ _ _ _ ?_)
    refine Cq fun K11 hK11 => ?_
    refine Cq fun K12 hK12 => ?_
    refine Cr ?_
    refine tW 2 rfl ?_
    refine bE (decide_eq_false (by decide)) ?_
    refine tW 3 rfl ?_
    refine sg rfl (rfl) (o_sadd rfl rfl (by simp only [List.length_cons, List.length_nil, List.length_append]; omega)) rfl ?_
    refine sg rfl (rfl) (o_sadd rfl rfl (by simp only [List.length_cons, List.length_nil, List.length_append]; omega)) rfl ?_
    refine sg rfl (rfl) (o_sne rfl rfl) rfl ?_
    refine bE (decide_eq_false (fun h => h rfl)) ?_
    refine tW 8 rfl ?_
    refine sg rfl (rfl) (o_sadd rfl rfl (by simp only [List.length_cons, List.length_nil, List.length_append]; omega)) rfl ?_
    refine sg rfl (rfl) (o_sadd rfl rfl (by simp only [List.length_cons, List.length_nil, List.length_append]; omega)) rfl ?_
    refine sg rfl (rfl) (o_sne rfl rfl) rfl ?_
    refine bE (decide_eq_true (fun h => absurd (show ((116 : UInt8) = 102) from congrArg (fun l : Str => l.getD 1 0) h) (by decide))) ?_
    refine tW 3 rfl ?_
    refine bE (decide_eq_false (by omega)) ?_
    refine tW 2 rfl ?_
    refine Ln ?_
    refine e_K (hK12 _ _ _ _ ?_)
    refine c_false rfl ?_
    refine cK ?_
    refine e_K (hK11 _ _ _ _ ?_)
    refine Cq fun K13 hK13 => ?_
    refine Cr ?_
    refine sv (oM rfl) rfl ?_
    refine sv (o_sadd rfl rfl (by simp only [List.length_cons, List.length_nil, List.length_append]; omega)) rfl ?_
    refine sv (o_sadd rfl rfl (by simp only [List.length_cons, List.length_nil, List.length_append]; omega)) rfl ?_
    refine sc (oC ent14 rfl) (c_parse2 _ ([32] ++ Lib.itoa n ++ [32]) (hE.mod0 E) (parV_ok (parse_sp h0 h1)) (parE_ok (parse_sp h0 h1))) rfl fun v_ w11 h_ => ?_
    obtain ⟨us2, rfl, R2, E_⟩ := h_
    replace Bg1 := Bg1.mod0 E_
    replace Bg2 := Bg2.mod0 E_
    replace E := E.then E_
    replace Ep1 := Ep1.then E_
    replace El := El.then E_
    have Ep2 := Mod.refl [] w11
    obtain ⟨al2, cl2, am2, cm2, rfl, Rl2, Rm2⟩ := JV.cells_ R2
    replace R2 := JV.reps_ Rl2 Rm2
    refine tW 3 rfl ?_
    refine s_alloc zv25 rfl fun g3 w12 N3 => ?_
    have Lg3_E := N3.le E
    have Lg3_Ep1 := N3.le Ep1
    have Lg3_El := N3.le El
    have Lg3_Ep2 := N3.le Ep2
    have Dg1_g3 := N3.ne Bg1
    have Dg2_g3 := N3.ne Bg2
    replace Bg1 := Bg1.mod0 N3.mod
    replace Bg2 := Bg2.mod0 N3.mod
    replace E := E.then N3.mod
    replace Ep1 := Ep1.then N3.mod
    replace El := El.then N3.mod
    replace Ep2 := Ep2.then N3.mod
    have Bg3 := N3.blk
    refine s_sta (vs := [_, _, _, _, _, _]) ag25 Bg3 rfl rfl rfl (by simp [Value.oneCell']) (by simp) fun w13 P13 => ?_
    replace Bg1 := Bg1.ne P13.mod (Ne.symm (Ne.symm Dg1_g3))
    replace Bg2 := Bg2.ne P13.mod (Ne.symm (Ne.symm Dg2_g3))
    replace E := E.own P13.mod Lg3_E
    replace Ep1 := Ep1.own P13.mod Lg3_Ep1
    replace El := El.own P13.mod Lg3_El
    replace Ep2 := Ep2.own P13.mod Lg3_Ep2
    replace Bg3 : Blk w13 g3 _ [_, _, _, _, _, _] := P13.blk
    refine sv (o_as rfl) rfl ?_
    refine Ln ?_
    refine e_K (hK13 _ _ _ _ ?_)
    refine Cq fun K14 hK14 => ?_
    refine Cr ?_
    refine sv (oM rfl) rfl ?_
    refine sv (o_sadd rfl rfl (by simp only [List.length_cons, List.length_nil, List.length_append]; omega)) rfl ?_
    refine sc (oC ent14 rfl) (c_parse2 _ (Lib.itoa n ++ [46, 48]) (hE.mod0 E) rfl (parE_no (parse_pt h0 h1))) rfl fun v_ w14 h_ => ?_
    obtain ⟨us3, rfl, R3, E_⟩ := h_
    replace Bg1 := Bg1.mod0 E_
    replace Bg2 := Bg2.mod0 E_
    replace Bg3 := Bg3.mod0 E_
    replace E := E.then E_
    replace Ep1 := Ep1.then E_
    replace El := El.then E_
    replace Ep2 := Ep2.then E_
    have Ep3 := Mod.refl [] w14
    obtain ⟨al3, cl3, am3, cm3, rfl, Rl3, Rm3⟩ := JV.cells_ R3
    replace R3 := JV.reps_ Rl3 Rm3
    refine tW 3 rfl ?_
    refine s_alloc zv25 rfl fun g4 w15 N4 => ?_
    have Lg4_E := N4.le E
    have Lg4_Ep1 := N4.le Ep1
    have Lg4_El := N4.le El
    have Lg4_Ep2 := N4.le Ep2
    have Lg4_Ep3 := N4.le Ep3
    have Dg1_g4 := N4.ne Bg1
    have Dg2_g4 := N4.ne Bg2
    have Dg3_g4 := N4.ne Bg3
    replace Bg1 := Bg1.mod0 N4.mod
    replace Bg2 := Bg2.mod0 N4.mod
    replace Bg3 := Bg3.mod0 N4.mod
    replace E := E.then N4.mod
    replace Ep1 := Ep1.then N4.mod
    replace El := El.then N4.mod
    replace Ep2 := Ep2.then N4.mod
    replace Ep3 := Ep3.then N4.mod
    have Bg4 := N4.blk
    refine s_sta (vs := [_, _, _, _, _, _]) ag25 Bg4 rfl rfl rfl (by simp [Value.oneCell']) (by simp) fun w16 P16 => ?_
    replace Bg1 := Bg1.ne P16.mod (Ne.symm (Ne.symm Dg1_g4))
    replace Bg2 := Bg2.ne P16.mod (Ne.symm (Ne.symm Dg2_g4))
    replace Bg3 := Bg3.ne P16.mod (Ne.symm (Ne.symm Dg3_g4))
    replace E := E.own P16.mod Lg4_E
    replace Ep1 := Ep1.own P16.mod Lg4_Ep1
    replace El := El.own P16.mod Lg4_El
    replace Ep2 := Ep2.own P16.mod Lg4_Ep2
    replace Ep3 := Ep3.own P16.mod Lg4_Ep3
    replace Bg4 : Blk w16 g4 _ [_, _, _, _, _, _] := P16.blk
    refine sv (o_as rfl) rfl ?_
    refine Ln ?_
    refine e_K (hK14 _ _ _ _ ?_)
    refine Cq fun K15 hK15 => ?_
    refine Cr ?_
    refine sv (oM rfl) rfl ?_
    refine sv (o_sadd rfl rfl (by simp only [List.length_cons, List.length_nil, List.length_append]; omega)) rfl ?_
    refine sc (oC ent14 rfl) (c_parse2 _ ([48] ++ Lib.itoa n) (hE.mod0 E) rfl (parE_no (parse_nought h0 h1))) rfl fun v_ w17 h_ => ?_
    obtain ⟨us4, rfl, R4, E_⟩ := h_
    replace Bg1 := Bg1.mod0 E_
    replace Bg2 := Bg2.mod0 E_
    replace Bg3 := Bg3.mod0 E_
    replace Bg4 := Bg4.mod0 E_
    replace E := E.then E_
    replace Ep1 := Ep1.then E_
    replace El := El.then E_
    replace Ep2 := Ep2.then E_
    replace Ep3 := Ep3.then E_
    have Ep4 := Mod.refl [] w17
    obtain ⟨al4, cl4, am4, cm4, rfl, Rl4, Rm4⟩ := JV.cells_ R4
    replace R4 := JV.reps_ Rl4 Rm4
    refine tW 3 rfl ?_
    refine s_alloc zv25 rfl fun g5 w18 N5 => ?_
    have Lg5_E := N5.le E
    have Lg5_Ep1 := N5.le Ep1
    have Lg5_El := N5.le El
    have Lg5_Ep2 := N5.le Ep2
    have Lg5_Ep3 := N5.le Ep3
    have Lg5_Ep4 := N5.le Ep4
    have Dg1_g5 := N5.ne Bg1
    have Dg2_g5 := N5.ne Bg2
    have Dg3_g5 := N5.ne Bg3
    have Dg4_g5 := N5.ne Bg4
    replace Bg1 := Bg1.mod0 N5.mod
    replace Bg2 := Bg2.mod0 N5.mod
    replace Bg3 := Bg3.mod0 N5.mod
    replace Bg4 := Bg4.mod0 N5.mod
    replace E := E.then N5.mod
    replace Ep1 := Ep1.then N5.mod
    replace El := El.then N5.mod
    replace Ep2 := Ep2.then N5.mod
    replace Ep3 := Ep3.then N5.mod
    replace Ep4 := Ep4.then N5.mod
    have Bg5 := N5.blk
    refine s_sta (vs := [_, _, _, _, _, _]) ag25 Bg5 rfl rfl rfl (by simp [Value.oneCell']) (by simp) fun w19 P19 => ?_
    replace Bg1 := Bg1.ne P19.mod (Ne.symm (Ne.symm Dg1_g5))
    replace Bg2 := Bg2.ne P19.mod (Ne.symm (Ne.symm Dg2_g5))
    replace Bg3 := Bg3.ne P19.mod (Ne.symm (Ne.symm Dg3_g5))
    replace Bg4 := Bg4.ne P19.mod (Ne.symm (Ne.symm Dg4_g5))
    replace E := E.own P19.mod Lg5_E
    replace Ep1 := Ep1.own P19.mod Lg5_Ep1
    replace El := El.own P19.mod Lg5_El
    replace Ep2 := Ep2.own P19.mod Lg5_Ep2
    replace Ep3 := Ep3.own P19.mod Lg5_Ep3
    replace Ep4 := Ep4.own P19.mod Lg5_Ep4
    replace Bg5 : Blk w19 g5 _ [_, _, _, _, _, _] := P19.blk
    refine sv (o_as rfl) rfl ?_
    refine Ln ?_
    refine e_K (hK15 _ _ _ _ ?_)
    refine Cq fun K16 hK16 => ?_
    refine Cr ?_
    refine tW 2 rfl ?_
    refine bE (decide_eq_true (rfl)) ?_
    refine tW 3 rfl ?_
    refine bE (decide_eq_true (rfl)) ?_
    refine tW 2 rfl ?_
    refine sg rfl (rfl) (oA0 fd25_0 rfl) rfl ?_
    refine sg rfl (rfl) (oL sc3 rfl (Bg3.cell rfl)) rfl ?_
    refine sg rfl (rfl) (oE rfl rfl) rfl ?_
    refine bE (decide_eq_true (rfl)) ?_
    refine tW 2 rfl ?_
    refine sg rfl (rfl) (oA0 fd25_2 rfl) rfl ?_
    refine sg rfl (rfl) (oL sc3 rfl (Bg3.cell rfl)) rfl ?_
    refine tW 2 rfl ?_
    refine bE (decide_eq_true (rfl)) ?_
    refine tW 4 rfl ?_
    refine bE (decide_eq_true (rfl)) ?_
    refine tW 4 rfl ?_
    refine bE (decide_eq_true (rfl)) ?_
    refine tW 2 rfl ?_
    refine Ln ?_
    refine e_K (hK16 _ _ _ _ ?_)
    refine cR ?_
    exact ret1 rfl rfl ⟨rfl, E⟩
   ·skip
    refine sc (oC ent22 rfl) (c_jbool _ false) rfl fun v_ w20 h_ => ?_
    obtain ⟨rfl, E_⟩ := h_
    replace Bg1 := Bg1.mod0 E_
    replace E := E.then E_
    replace Ep1 := Ep1.then E_
    refine sv (oM rfl) rfl ?_
    refine sc (oC ent20 rfl) (c_jnum _ n) rfl fun v_ w21 h_ => ?_
    obtain ⟨rfl, E_⟩ := h_
    replace Bg1 := Bg1.mod0 E_
    replace E := E.then E_
    replace Ep1 := Ep1.then E_
    refine s_bslice (cs := [_, _, _, _, _, _, _, _, _, _, _, _]) sl22 zv25 rfl rfl rfl (by decide) rfl fun g6 w22 N6 => ?_
    have Lg6_E := N6.le E
    have Lg6_Ep1 := N6.le Ep1
    have Dg1_g6 := N6.ne Bg1
    replace Bg1 := Bg1.mod0 N6.mod
    replace E := E.then N6.mod
    replace Ep1 := Ep1.then N6.mod
    have Bg6 := N6.blk
    refine sc (oC ent21 rfl) (c_jlist [] _ (by simp) [JV.mk 1 false 0 [] [] [], JV.numV n] _ (Own.rep (rows := [JV.mk 1 false 0 [] [] [], JV.numV n].map JV.D) (Own.all (cs := [_, _, _, _, _, _, _, _, _, _, _, _]) Bg6 rfl (by omega)) (by simpa using (JV.bool_reps (b := false)).append (JV.num_reps (n := n))) (fun r hr => by obtain ⟨x_, _, rfl⟩ := List.mem_map.1 hr; exact JV.D_len _) (by simp) (by simp)) (by simp)) rfl fun v_ w23 h_ => ?_
    obtain ⟨usl, rfl, Rl9, E_⟩ := h_
    replace Bg1 := Bg1.mod0 E_
    replace Bg6 := Bg6.mod0 E_
    replace E := E.then E_
    replace Ep1 := Ep1.then E_
    have El := Mod.refl [] w23
    refine sc (oC ent19 rfl) (c_canon _ (JV.lst [JV.mk 1 false 0 [] [] [], JV.numV n]) _ (Rl9.to0 El) (hT.mod E (by simp))) rfl fun v_ w24 h_ => ?_
    obtain ⟨rfl, E_⟩ := h_
    replace Bg1 := Bg1.mod0 E_
    replace Bg6 := Bg6.mod0 E_
    replace E := E.then E_
    replace Ep1 := Ep1.then E_
    replace El := El.then E_
    rw [wr_list2 h0 h1, show ∀ b : Str, bts (Except.ok b) = b from fun _ => rfl, show ∀ b : Str, ern (Except.ok b) = 0 from fun _ => rfl]
    refine tW 5 rfl ?_
    refine Ln ?_
    refine e_K (hK10 _ _ _ _ ?_)
    refine Cq fun K17 hK17 => ?_
    refine Cq fun K18 hK18 => ?_
    refine Cr ?_
    refine tW 2 rfl ?_
    refine bE (decide_eq_false (by decide)) ?_
    refine tW 3 rfl ?_
    refine sg rfl (rfl) (o_sadd rfl rfl (by simp only [List.length_cons, List.length_nil, List.length_append]; omega)) rfl ?_
    refine sg rfl (rfl) (o_sadd rfl rfl (by simp only [List.length_cons, List.length_nil, List.length_append]; omega)) rfl ?_
    refine sg rfl (rfl) (o_sne rfl rfl) rfl ?_
    refine bE (decide_eq_true (fun h => absurd (show ((102 : UInt8) = 116) from congrArg (fun l : Str => l.getD 1 0) h) (by decide))) ?_
    refine tW 3 rfl ?_
    refine bE (decide_eq_false hp) ?_
    refine tW 5 rfl ?_
    refine sg rfl (rfl) (o_sadd rfl rfl (by simp only [List.length_cons, List.length_nil, List.length_append]; omega)) rfl ?_
    refine sg rfl (rfl) (o_sadd rfl rfl (by simp only [List.length_cons, List.length_nil, List.length_append]; omega)) rfl ?_
    refine sg rfl (rfl) (o_sne rfl rfl) rfl ?_
    refine bE (decide_eq_false (fun h => h rfl)) ?_
    refine tW 5 rfl ?_
    refine Ln ?_
    refine e_K (hK18 _ _ _ _ ?_)
    refine c_false rfl ?_
    refine cK ?_
    refine e_K (hK17 _ _ _ _ ?_)
    refine Cq fun K19 hK19 => ?_
    refine Cr ?_
    refine sv (oM rfl) rfl ?_
    refine sv (o_sadd rfl rfl (by simp only [List.length_cons, List.length_nil, List.length_append]; omega)) rfl ?_
    refine sv (o_sadd rfl rfl (by simp only [List.length_cons, List.length_nil, List.length_append]; omega)) rfl ?_
    refine sc (oC ent14 rfl) (c_parse2 _ ([32] ++ Lib.itoa n ++ [32]) (hE.mod0 E) (parV_ok (parse_sp h0 h1)) (parE_ok (parse_sp h0 h1))) rfl fun v_ w25 h_ => ?_
    obtain ⟨us2, rfl, R2, E_⟩ := h_
    replace Bg1 := Bg1.mod0 E_
    replace Bg6 := Bg6.mod0 E_
    replace E := E.then E_
    replace Ep1 := Ep1.then E_
    replace El := El.then E_
    have Ep2 := Mod.refl [] w25
    obtain ⟨al2, cl2, am2, cm2, rfl, Rl2, Rm2⟩ := JV.cells_ R2
    replace R2 := JV.reps_ Rl2 Rm2
    refine tW 3 rfl ?_
    refine s_alloc zv25 rfl fun g7 w26 N7 => ?_
    have Lg7_E := N7.le E
    have Lg7_Ep1 := N7.le Ep1
    have Lg7_El := N7.le El
    have Lg7_Ep2 := N7.le Ep2
    have Dg1_g7 := N7.ne Bg1
    have Dg6_g7 := N7.ne Bg6
    replace Bg1 := Bg1.mod0 N7.mod
    replace Bg6 := Bg6.mod0 N7.mod
    replace E := E.then N7.mod
    replace Ep1 := Ep1.then N7.mod
    replace El := El.then N7.mod
    replace Ep2 := Ep2.then N7.mod
    have Bg7 := N7.blk
    refine s_sta (vs := [_, _, _, _, _, _]) ag25 Bg7 rfl rfl rfl (by simp [Value.oneCell']) (by simp) fun w27 P27 => ?_
    replace Bg1 := Bg1.ne P27.mod (Ne.symm (Ne.symm Dg1_g7))
    replace Bg6 := Bg6.ne P27.mod (Ne.symm (Ne.symm Dg6_g7))
    replace E := E.own P27.mod Lg7_E
    replace Ep1 := Ep1.own P27.mod Lg7_Ep1
    replace El := El.own P27.mod Lg7_El
    replace Ep2 := Ep2.own P27.mod Lg7_Ep2
    replace Bg7 : Blk w27 g7 _ [_, _, _, _, _, _] := P27.blk
    refine sv (o_as rfl) rfl ?_
    refine Ln ?_
    refine e_K (hK19 _ _ _ _ ?_)
    refine Cq fun K20 hK20 => ?_
    refine Cr ?_
    refine sv (oM rfl) rfl ?_
    refine sv (o_sadd rfl rfl (by simp only [List.length_cons, List.length_nil, List.length_append]; omega)) rfl ?_
    refine sc (oC ent14 rfl) (c_parse2 _ (Lib.itoa n ++ [46, 48]) (hE.mod0 E) rfl (parE_no (parse_pt h0 h1))) rfl fun v_ w28 h_ => ?_
    obtain ⟨us3, rfl, R3, E_⟩ := h_
    replace Bg1 := Bg1.mod0 E_
    replace Bg6 := Bg6.mod0 E_
    replace Bg7 := Bg7.mod0 E_
    replace E := E.then E_
    replace Ep1 := Ep1.then E_
    replace El := El.then E_
    replace Ep2 := Ep2.then E_
    have Ep3 := Mod.refl [] w28
    obtain ⟨al3, cl3, am3, cm3, rfl, Rl3, Rm3⟩ := JV.cells_ R3
    replace R3 := JV.reps_ Rl3 Rm3
    refine tW 3 rfl ?_
    refine s_alloc zv25 rfl fun g8 w29 N8 => ?_
    have Lg8_E := N8.le E
    have Lg8_Ep1 := N8.le Ep1
    have Lg8_El := N8.le El
    have Lg8_Ep2 := N8.le Ep2
    have Lg8_Ep3 := N8.le Ep3
    have Dg1_g8 := N8.ne Bg1
    have Dg6_g8 := N8.ne Bg6
    have Dg7_g8 := N8.ne Bg7
    replace Bg1 := Bg1.mod0 N8.mod
    replace Bg6 := Bg6.mod0 N8.mod
    replace Bg7 := Bg7.mod0 N8.mod
    replace E := E.then N8.mod
    replace Ep1 := Ep1.then N8.mod
    replace El := El.then N8.mod
    replace Ep2 := Ep2.then N8.mod
    replace Ep3 := Ep3.then N8.mod
    have Bg8 := N8.blk
    refine s_sta (vs := [_, _, _, _, _, _]) ag25 Bg8 rfl rfl rfl (by simp [Value.oneCell']) (by simp) fun w30 P30 => ?_
    replace Bg1 := Bg1.ne P30.mod (Ne.symm (Ne.symm Dg1_g8))
    replace Bg6 := Bg6.ne P30.mod (Ne.symm (Ne.symm Dg6_g8))
    replace Bg7 := Bg7.ne P30.mod (Ne.symm (Ne.symm Dg7_g8))
    replace E := E.own P30.mod Lg8_E
    replace Ep1 := Ep1.own P30.mod Lg8_Ep1
    replace El := El.own P30.mod Lg8_El
    replace Ep2 := Ep2.own P30.mod Lg8_Ep2
    replace Ep3 := Ep3.own P30.mod Lg8_Ep3
    replace Bg8 : Blk w30 g8 _ [_, _, _, _, _, _] := P30.blk
    refine sv (o_as rfl) rfl ?_
    refine Ln ?_
    refine e_K (hK20 _ _ _ _ ?_)
    refine Cq fun K21 hK21 => ?_
    refine Cr ?_
    refine sv (oM rfl) rfl ?_
    refine sv (o_sadd rfl rfl (by simp only [List.length_cons, List.length_nil, List.length_append]; omega)) rfl ?_
    refine sc (oC ent14 rfl) (c_parse2 _ ([48] ++ Lib.itoa n) (hE.mod0 E) rfl (parE_no (parse_nought h0 h1))) rfl fun v_ w31 h_ => ?_
    obtain ⟨us4, rfl, R4, E_⟩ := h_
    replace Bg1 := Bg1.mod0 E_
    replace Bg6 := Bg6.mod0 E_
    replace Bg7 := Bg7.mod0 E_
    replace Bg8 := Bg8.mod0 E_
    replace E := E.then E_
    replace Ep1 := Ep1.then E_
    replace El := El.then E_
    replace Ep2 := Ep2.then E_
    replace Ep3 := Ep3.then E_
    have Ep4 := Mod.refl [] w31
    obtain ⟨al4, cl4, am4, cm4, rfl, Rl4, Rm4⟩ := JV.cells_ R4
    replace R4 := JV.reps_ Rl4 Rm4
    refine tW 3 rfl ?_
    refine s_alloc zv25 rfl fun g9 w32 N9 => ?_
    have Lg9_E := N9.le E
    have Lg9_Ep1 := N9.le Ep1
    have Lg9_El := N9.le El
    have Lg9_Ep2 := N9.le Ep2
    have Lg9_Ep3 := N9.le Ep3
    have Lg9_Ep4 := N9.le Ep4
    have Dg1_g9 := N9.ne Bg1
    have Dg6_g9 := N9.ne Bg6
    have Dg7_g9 := N9.ne Bg7
    have Dg8_g9 := N9.ne Bg8
    replace Bg1 := Bg1.mod0 N9.mod
    replace Bg6 := Bg6.mod0 N9.mod
    replace Bg7 := Bg7.mod0 N9.mod
    replace Bg8 := Bg8.mod0 N9.mod
    replace E := E.then N9.mod
    replace Ep1 := Ep1.then N9.mod
    replace El := El.then N9.mod
    replace Ep2 := Ep2.then N9.mod
    replace Ep3 := Ep3.then N9.mod
    replace Ep4 := Ep4.then N9.mod
    have Bg9 := N9.blk
    refine s_sta (vs := [_, _, _, _, _, _]) ag25 Bg9 rfl rfl rfl (by simp [Value.oneCell']) (by simp) fun w33 P33 => ?_
    replace Bg1 := Bg1.ne P33.mod (Ne.symm (Ne.symm Dg1_g9))
    replace Bg6 := Bg6.ne P33.mod (Ne.symm (Ne.symm Dg6_g9))
    replace Bg7 := Bg7.ne P33.mod (Ne.symm (Ne.symm Dg7_g9))
    replace Bg8 := Bg8.ne P33.mod (Ne.symm (Ne.symm Dg8_g9))
    replace E := E.own P33.mod Lg9_E
    replace Ep1 := Ep1.own P33.mod Lg9_Ep1
    replace El := El.own P33.mod Lg9_El
    replace Ep2 := Ep2.own P33.mod Lg9_Ep2
    replace Ep3 := Ep3.own P33.mod Lg9_Ep3
    replace Ep4 := Ep4.own P33.mod Lg9_Ep4
    replace Bg9 : Blk w33 g9 _ [_, _, _, _, _, _] := P33.blk
    refine sv (o_as rfl) rfl ?_
    refine Ln ?_
    refine e_K (hK21 _ _ _ _ ?_)
    refine Cq fun K22 hK22 => ?_
    refine Cr ?_
    refine tW 2 rfl ?_
    refine bE (decide_eq_true (rfl)) ?_
    refine tW 3 rfl ?_
    refine bE (decide_eq_true (rfl)) ?_
    refine tW 2 rfl ?_
    refine sg rfl (rfl) (oA0 fd25_0 rfl) rfl ?_
    refine sg rfl (rfl) (oL sc3 rfl (Bg7.cell rfl)) rfl ?_
    refine sg rfl (rfl) (oE rfl rfl) rfl ?_
    refine bE (decide_eq_true (rfl)) ?_
    refine tW 2 rfl ?_
    refine sg rfl (rfl) (oA0 fd25_2 rfl) rfl ?_
    refine sg rfl (rfl) (oL sc3 rfl (Bg7.cell rfl)) rfl ?_
    refine tW 2 rfl ?_
    refine bE (decide_eq_true (rfl)) ?_
    refine tW 4 rfl ?_
    refine bE (decide_eq_true (rfl)) ?_
    refine tW 4 rfl ?_
    refine bE (decide_eq_true (rfl)) ?_
    refine tW 2 rfl ?_
    refine Ln ?_
    refine e_K (hK22 _ _ _ _ ?_)
    refine cR ?_
    exact ret1 rfl rfl ⟨rfl, E⟩
end Go.Proofs.YtknndpjacklkeaaGreatDoor.V
