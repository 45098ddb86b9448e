/-
  A part of the proof: walks of functions. No condition of its own.
-/
import Derived.Test.YtknndpjacklkeaaGreatDoorM22
import Derived.Test.YtknndpjacklkeaaGreatDoorM4
import Derived.Test.YtknndpjacklkeaaGreatDoorM25
import Derived.Test.YtknndpjacklkeaaGreatDoorM24
import Derived.Test.YtknndpjacklkeaaGreatDoorM13
set_option linter.unusedVariables false
set_option linter.unusedSimpArgs false
set_option maxRecDepth 10000
namespace Go.Proofs.YtknndpjacklkeaaGreatDoor.V
open Go Go.Proofs
theorem ent140 : Ent Tryz.prog 140 := Ent.of Tryz.func140 (by kernel_rfl) (by kernel_rfl)
theorem ent94 : Ent Tryz.prog 94 := Ent.of Tryz.func94 (by kernel_rfl) (by kernel_rfl)
theorem c_stripR (w : World) (e : EV) (us : List Value) (R : Reps [] w e.D us) (hva : ascM e.con.map) (hvn : e.con.map.length ≤ 1353245080310) : Calls Tryz.prog 94 [.agg us.toArray].toArray w (Ret fun u w' => ∃ us', u = .agg us'.toArray ∧ Reps [] w' e.strip.D us' ∧ Mod [] w w') := by
 refine enter Tryz.func94 rfl rfl rfl (l := [(0, _)]) ⟨rfl, trivial⟩ ?_
 have E := Mod.refl [] w
 obtain ⟨al, cl, am, cm, ap, cp, aa, ca, aS, cS, rfl, Rc, Rp, Ra, Rs⟩ := EV.cells17 R
 refine Cq fun K1 hK1 => Cr (s_box rfl rfl rfl fun g1 w1 N1 => ?_)
 have Lg1_E := N1.le E
 replace E := E.then N1.mod
 have Bg1 := N1.blk
 refine s_alloc zv48 rfl fun g2 w2 N2 => ?_
 have Lg2_E := N2.le E
 have Dg1_g2 := N2.ne Bg1
 replace Bg1 := Bg1.mod0 N2.mod
 replace E := E.then N2.mod
 have Bg2 := N2.blk
 refine Ln (e_K (hK1 _ _ _ _ (Cq fun K2 hK2 => Cr (Sv (oA0 fd48_2 rfl) (Sv (oL sc9 rfl (Bg1.cell rfl)) (Sv (oA0 fd48_5 rfl) (Sv (o_lda (vs := [_, _, _, _, _, _]) ag25 rfl rfl (Bg1.cs rfl)) (sc (oC ent140 rfl) (c_contentRA [g1, g2] _ (fun a ha => by rcases List.mem_cons.1 ha with rfl | ha; exact Bg1.lt; rcases List.mem_cons.1 ha with rfl | ha; exact Bg2.lt; cases ha) e.ty e.con _ ((Rc.more (A' := [g1, g2]) (fun a ha => by rcases List.mem_cons.1 ha with rfl | ha; exact .inr Lg1_E; rcases List.mem_cons.1 ha with rfl | ha; exact .inr Lg2_E; cases ha)).to0 E) hvn) rfl fun v_ w3 h_ => ?_))))))))
 obtain ⟨us7, rfl, Rx, E_⟩ := h_
 replace Bg1 := Bg1.mod0 E_
 replace Bg2 := Bg2.mod0 E_
 replace E := E.then E_
 rw [← JV.content_eq hva] at Rx
 obtain ⟨al7, cl7, am7, cm7, rfl, Rl7, Rm7⟩ := JV.cells_ Rx
 clear Rx
 refine Sv (oA0 fd48_5 rfl) (s_sta (vs := [_, _, _, _, _, _]) ag25 Bg1 rfl rfl rfl (by simp [Value.oneCell']) (by simp) fun w4 P4 => ?_)
 replace Bg2 := Bg2.ne P4.mod (Ne.symm Dg1_g2)
 replace E := E.own P4.mod Lg1_E
 replace Bg1 : Blk w4 g1 _ [_, _, _, _, _, _, _, _, _, _, _, _, _, _, _, _, _] := P4.blk
 replace Rl7 := Rl7.toM P4.mod (fun a ha => by simp [List.mem_singleton.1 ha])
 replace Rm7 := Rm7.toM P4.mod (fun a ha => by simp [List.mem_singleton.1 ha])
 refine Ln (e_K (hK2 _ _ _ _ (Cq fun K3 hK3 => Cr (Sv (o_lda (vs := [_, _, _, _, _, _, _, _, _, _, _, _, _, _, _, _, _]) ag48 rfl rfl (Bg1.cs rfl)) (s_sta (vs := [_, _, _, _, _, _, _, _, _, _, _, _, _, _, _, _, _]) ag48 Bg2 rfl rfl rfl (by simp [Value.oneCell']) (by simp) fun w5 P5 => ?_)))))
 replace Bg1 := Bg1.ne P5.mod (Ne.symm (Ne.symm Dg1_g2))
 replace E := E.own P5.mod Lg2_E
 replace Bg2 : Blk w5 g2 _ [_, _, _, _, _, _, _, _, _, _, _, _, _, _, _, _, _] := P5.blk
 replace Rl7 := Rl7.toM P5.mod (fun a ha => by simp [List.mem_singleton.1 ha])
 replace Rm7 := Rm7.toM P5.mod (fun a ha => by simp [List.mem_singleton.1 ha])
 exact Ln (e_K (hK3 _ _ _ _ (cR (retc (vs := [_, _, _, _, _, _, _, _, _, _, _, _, _, _, _, _, _]) rfl ag48 rfl rfl (Bg2.cs rfl) ⟨_, rfl, EV.reps_ (e := e.strip) (JV.reps_ (v := JV.content e.ty e.con) (Rl7.anti (A' := []) (by simp)) (Rm7.anti (A' := []) (by simp))) (Rp.to0 E) (Ra.to0 E) (Rs.to0 E), E⟩))))
end Go.Proofs.YtknndpjacklkeaaGreatDoor.V

set_option linter.unusedVariables false
set_option linter.unusedSimpArgs false
set_option maxRecDepth 10000
namespace Go.Proofs.YtknndpjacklkeaaGreatDoor.V
open Go Go.Proofs
theorem ent86 : Ent Tryz.prog 86 := Ent.of Tryz.func86 (by kernel_rfl) (by kernel_rfl)
theorem ent87 : Ent Tryz.prog 87 := Ent.of Tryz.func87 (by kernel_rfl) (by kernel_rfl)
theorem ent88 : Ent Tryz.prog 88 := Ent.of Tryz.func88 (by kernel_rfl) (by kernel_rfl)
theorem ent46 : Ent Tryz.prog 46 := Ent.of Tryz.func46 (by kernel_rfl) (by kernel_rfl)
theorem ent30 : Ent Tryz.prog 30 := Ent.of Tryz.func30 (by kernel_rfl) (by kernel_rfl)
/-- the digest's table as the program has it -/
def DgT (w : World) : Prop := Cs w ⟨gD, 0, none⟩ (numsK.map W4) ∧ gD < w.heap.size
theorem DgT.mod0 {w w' : World} (h : DgT w) (k : Mod [] w w') : DgT w' := ⟨h.1.mod0 k, Nat.lt_of_lt_of_le h.2 k.size⟩
theorem byD_blk {A : List Nat} {w : World} {g T : Nat} {b : List UInt8} (B : Blk w g T (b.map B8)) (hl : b.length ≤ 1000) (hA : g ∉ A) : Rep A w (byD b) (.slice (some ⟨g, 0, none⟩) b.length b.length) := Rep.sl_mk (by simp) (by omega) (by simp [maxLen]; omega) hA B.lt (fun i r hi => by
 rw [List.getElem?_map] at hi
 obtain ⟨x, hx, rfl⟩ := Option.map_eq_some_iff.1 hi
 refine ⟨rfl, bcells x, reps_v_mk (by simp [B8, Value.oneCell']), fun j v hv => ?_⟩
 have hj := (List.getElem?_eq_some_iff.1 hv).1
 simp at hj
 subst hj
 simp at hv
 subst hv
 have := B.cell (i := i) (v := B8 x) (by rw [List.getElem?_map, hx]; rfl)
 rw [Addr.add_lit, Addr.add_lit]
 simpa using this)

theorem c_sHash (w : World) (e : EV) (us : List Value) (R : Reps [] w e.D us) (ho : e.ok) (hsm : e.lens) (hf : e.few) (hT : Tab w) (hM : MaxL w) (hD : DgT w) : Calls Tryz.prog 41 [.agg us.toArray].toArray w (Ret fun u w' => u = S e.hashT ∧ Mod [] w w') := by
 refine enter Tryz.func41 rfl rfl rfl (l := [(0, _)]) ⟨rfl, trivial⟩ ?_
 have E := Mod.refl [] w
 obtain ⟨al, cl, am, cm, ap, cp, aa, ca, aS, cS, rfl, Rc, Rp, Ra, Rs⟩ := EV.cells17 R
 have R := EV.reps_ (e := e) Rc Rp Ra Rs
 refine Cq fun K1 hK1 => Cr (s_box rfl rfl rfl fun g1 w1 N1 => ?_)
 have Lg1_E := N1.le E
 replace E := E.then N1.mod
 have Bg1 := N1.blk
 refine Za rfl (Ln (e_K (hK1 _ _ _ _ (Cq fun K2 hK2 => Cr (Sv (o_lda (vs := [_, _, _, _, _, _, _, _, _, _, _, _, _, _, _, _, _]) ag48 rfl rfl (Bg1.cs rfl)) (s_bslice (cs := [_, _]) sl45 zv9 rfl rfl rfl (by decide) rfl fun g2 w2 N2 => ?_))))))
 have Lg2_E := N2.le E
 have Dg1_g2 := N2.ne Bg1
 replace Bg1 := Bg1.mod0 N2.mod
 replace E := E.then N2.mod
 have Bg2 := N2.blk
 refine sc (oC ent86 rfl) (c_without _ e _ (R.to0 E) ho hsm hf (hT.mod E (by simp)) (hM.mod0 E) [kHashes, kSigs] _ (strs_blk (xs := [kHashes, kSigs]) Bg2 (by decide) (by simp)) (EV.memV_asc e) (EV.memV_len e)) rfl fun v_ w3 h_ => ?_
 obtain ⟨rfl, E_⟩ := h_
 replace Bg1 := Bg1.mod0 E_
 replace Bg2 := Bg2.mod0 E_
 replace E := E.then E_
 refine Za rfl (Ln (e_K (hK2 _ _ _ _ (Cq fun K3 hK3 => Cq fun K4 hK4 => Cr (Zm rfl (Sv (o_seq rfl rfl) (Ln (e_K (hK4 _ _ _ _ ?_)))))))))
 refine c_if rfl (fun h9 => ?_) (fun h9 => ?_)
 ·have hern : ¬ e.ern = 0 := fun h => EV.lessT_ne h true ((EV.wo_two h).symm.trans h9)
  exact Cq fun K5 hK5 => Cr (Za rfl (Ln (e_K (hK5 _ _ _ _ (cR (eT (by simp) (ret1 rfl rfl ⟨by rw [EV.hashT, if_pos hern], E⟩)))))))
 ·have hern : e.ern = 0 := Classical.byContradiction fun h => h9 (by rw [EV.wo, if_pos h])
  rw [EV.wo_two hern]
  refine cK (e_K (hK3 _ _ _ _ (Cq fun K6 hK6 => Cr (Zm rfl ?_))))
  have hln := EV.lessT_len e true
  refine s_s2b Tryz.underlying9 Tryz.underlying5 Tryz.underlying74 rfl (by have := EV.lessT_len e true; omega) rfl fun v11 w4 E_ Rb11 => ?_
  replace Bg1 := Bg1.mod0 E_
  replace Bg2 := Bg2.mod0 E_
  replace E := E.then E_
  refine sc (oC ent87 rfl) (c_dOf [] _ (e.lessT true) _ (Rb11 [] (by simp)) (hD.mod0 E).1 (hD.mod0 E).2 (by omega)) rfl fun v_ w5 h_ => ?_
  obtain ⟨rfl, E_⟩ := h_
  replace Bg1 := Bg1.mod0 E_
  replace Bg2 := Bg2.mod0 E_
  replace E := E.then E_
  refine s_alloc zv103 rfl fun g3 w6 N3 => ?_
  have Lg3_E := N3.le E
  have Dg1_g3 := N3.ne Bg1
  have Dg2_g3 := N3.ne Bg2
  replace Bg1 := Bg1.mod0 N3.mod
  replace Bg2 := Bg2.mod0 N3.mod
  replace E := E.then N3.mod
  have Bg3 := N3.blk
  have hsl : (sha (e.lessT true)).length = 32 := outB_len _ _
  refine s_sta (vs := (sha (e.lessT true)).map B8) ag103 Bg3 rfl rfl (by rw [List.length_map, hsl]) (by intro v hv; obtain ⟨x, _, rfl⟩ := List.mem_map.1 hv; rfl) (by simp [hsl]) fun w7 P1 => ?_
  replace E := E.own P1.mod Lg3_E
  have BS := P1.blk
  rw [splice, List.take_zero, List.nil_append, List.drop_eq_nil_of_le (by simp [hsl]), List.append_nil] at BS
  have RS : Rep [] w7 (byD (sha (e.lessT true))) (.slice (some ⟨g3, 0, none⟩) 32 32) := by have := byD_blk (A := []) BS (by omega) (by simp); rwa [hsl] at this
  refine Ln (e_K (hK6 _ _ _ _ (Cq fun K7 hK7 => Cr (Sv (o_slar ar103 rfl) (sc (oC ent88 rfl) (c_encL [] _ (sha (e.lessT true)) _ RS (by omega) false) rfl fun v_ w8 h_ => ?_)))))
  obtain ⟨rfl, E_⟩ := h_
  replace E := E.then E_
  exact Za rfl (Ln (e_K (hK7 _ _ _ _ (cR (ret1 rfl rfl ⟨by rw [EV.hashT, if_neg (by simp [hern])], E⟩)))))

theorem c_sBytes (w : World) (e : EV) (us : List Value) (R : Reps [] w e.D us) (ho : e.ok) (hsm : e.lens) (hf : e.few) (hT : Tab w) (hM : MaxL w) : Calls Tryz.prog 46 [.agg us.toArray].toArray w (Ret fun u w' => u = S e.bytesT ∧ Mod [] w w') := by
 refine enter Tryz.func46 rfl rfl rfl (l := [(0, _)]) ⟨rfl, trivial⟩ ?_
 have E := Mod.refl [] w
 obtain ⟨al, cl, am, cm, ap, cp, aa, ca, aS, cS, rfl, Rc, Rp, Ra, Rs⟩ := EV.cells17 R
 have R := EV.reps_ (e := e) Rc Rp Ra Rs
 refine Cq fun K1 hK1 => Cr (s_box rfl rfl rfl fun g1 w1 N1 => ?_)
 have Lg1_E := N1.le E
 replace E := E.then N1.mod
 have Bg1 := N1.blk
 refine Za rfl (Ln (e_K (hK1 _ _ _ _ (Cq fun K2 hK2 => Cq fun K3 hK3 => Cr (Sv (o_lda (vs := [_, _, _, _, _, _, _, _, _, _, _, _, _, _, _, _, _]) ag48 rfl rfl (Bg1.cs rfl)) (sc (oC ent29 rfl) (c_encode _ e _ (R.to0 E) ho hsm hf (hT.mod E (by simp)) (hM.mod0 E)) rfl fun v_ w2 h_ => ?_))))))
 obtain ⟨rfl, E_⟩ := h_
 replace Bg1 := Bg1.mod0 E_
 replace E := E.then E_
 refine tW 5 rfl (Ln (e_K (hK3 _ _ _ _ (Cq fun K4 hK4 => Cr (tW 2 rfl (Ln (e_K (hK4 _ _ _ _ ?_))))))))
 refine c_if rfl (fun h11 => ?_) (fun h11 => ?_)
 ·exact Cq fun K5 hK5 => Cr (Za rfl (Ln (e_K (hK5 _ _ _ _ (cR (eT (by simp) (ret1 rfl rfl ⟨by rw [EV.bytesT, if_pos h11], E⟩)))))))
 ·have hern : e.ern = 0 := Classical.not_not.1 h11
  have hr := EV.rise_of hern
  have hva : ascM e.con.map := ((JV.Rise_eq _).1 hr).1
  have hta : ascM e.con.third.map := JV.third_asc hr
  have hvn : e.con.map.length ≤ 1353245080310 := JV.ok_map ho.2.2.2.2.1
  have htn := JV.third_len ho.2.2.2.2.1
  have hos := EV.strip_ok hva ho
  have hse := EV.strip_ern hva hern
  refine cK (e_K (hK2 _ _ _ _ (Cq fun K6 hK6 => Cr (Sv (o_lda (vs := [_, _, _, _, _, _, _, _, _, _, _, _, _, _, _, _, _]) ag48 rfl rfl (Bg1.cs rfl)) (sc (oC ent93 rfl) (c_strip _ e _ (R.to0 E) hva hvn hta htn) rfl fun v_ w3 h_ => ?_)))))
  obtain ⟨us9, rfl, R9, E_⟩ := h_
  replace Bg1 := Bg1.mod0 E_
  replace E := E.then E_
  have Es := Mod.refl [] w3
  refine s_bslice (cs := [_]) sl45 zv9 rfl rfl rfl (by decide) rfl fun g2 w4 N2 => ?_
  have Lg2_E := N2.le E
  have Lg2_Es := N2.le Es
  have Dg1_g2 := N2.ne Bg1
  replace Bg1 := Bg1.mod0 N2.mod
  replace E := E.then N2.mod
  replace Es := Es.then N2.mod
  have Bg2 := N2.blk
  refine sc (oC ent86 rfl) (c_without _ e.strip _ (R9.to0 Es) hos hsm hf (hT.mod E (by simp)) (hM.mod0 E) [kSigs] _ (strs_blk (xs := [kSigs]) Bg2 (by decide) (by simp)) (EV.memV_asc e.strip) (EV.memV_len e.strip)) rfl fun v_ w5 h_ => ?_
  obtain ⟨rfl, E_⟩ := h_
  replace Bg1 := Bg1.mod0 E_
  replace Bg2 := Bg2.mod0 E_
  replace E := E.then E_
  replace Es := Es.then E_
  exact Za rfl (Ln (e_K (hK6 _ _ _ _ (cR (ret1 rfl rfl ⟨by rw [EV.bytesT, if_neg (by simp [hern]), EV.wo_one hse], E⟩)))))

theorem c_sName (w : World) (e : EV) (us : List Value) (R : Reps [] w e.D us) (ho : e.ok) (hsm : e.lens) (hf : e.few) (hT : Tab w) (hM : MaxL w) (hD : DgT w) : Calls Tryz.prog 43 [.agg us.toArray].toArray w (Ret fun u w' => u = S e.nameT ∧ Mod [] w w') := by
 refine enter Tryz.func43 rfl rfl rfl (l := [(0, _)]) ⟨rfl, trivial⟩ ?_
 have E := Mod.refl [] w
 obtain ⟨al, cl, am, cm, ap, cp, aa, ca, aS, cS, rfl, Rc, Rp, Ra, Rs⟩ := EV.cells17 R
 have R := EV.reps_ (e := e) Rc Rp Ra Rs
 refine Cq fun K1 hK1 => Cr (s_box rfl rfl rfl fun g1 w1 N1 => ?_)
 have Lg1_E := N1.le E
 replace E := E.then N1.mod
 have Bg1 := N1.blk
 refine Za rfl (Ln (e_K (hK1 _ _ _ _ (Cq fun K2 hK2 => Cr (Sv (o_lda (vs := [_, _, _, _, _, _, _, _, _, _, _, _, _, _, _, _, _]) ag48 rfl rfl (Bg1.cs rfl)) (sc (oC ent46 rfl) (c_sBytes _ e _ (R.to0 E) ho hsm hf (hT.mod E (by simp)) (hM.mod0 E)) rfl fun v_ w2 h_ => ?_))))))
 obtain ⟨rfl, E_⟩ := h_
 replace Bg1 := Bg1.mod0 E_
 replace E := E.then E_
 refine Za rfl (Ln (e_K (hK2 _ _ _ _ (Cq fun K3 hK3 => Cq fun K4 hK4 => Cr (Zm rfl (Sv (o_seq rfl rfl) (Ln (e_K (hK4 _ _ _ _ ?_)))))))))
 refine c_if rfl (fun h8 => ?_) (fun h8 => ?_)
 ·have hern : ¬ e.ern = 0 := fun h => EV.lessT_ne (EV.strip_ern ((JV.Rise_eq _).1 (EV.rise_of h)).1 h) false (by rw [EV.bytesT, if_neg (by simp [h])] at h8; exact h8)
  exact Cq fun K5 hK5 => Cr (Za rfl (Ln (e_K (hK5 _ _ _ _ (cR (eT (by simp) (ret1 rfl rfl ⟨by rw [EV.nameT, if_pos hern], E⟩)))))))
 ·have hern : e.ern = 0 := Classical.byContradiction fun h => h8 (by rw [EV.bytesT, if_pos h])
  have hbt : e.bytesT = e.strip.lessT false := by rw [EV.bytesT, if_neg (by simp [hern])]
  rw [hbt]
  have hln := EV.lessT_len e.strip false
  refine cK (e_K (hK3 _ _ _ _ (Cq fun K6 hK6 => Cr (Zm rfl (s_s2b Tryz.underlying9 Tryz.underlying5 Tryz.underlying74 rfl (by have := hln; omega) rfl fun v10 w3 E_ Rb10 => ?_)))))
  replace Bg1 := Bg1.mod0 E_
  replace E := E.then E_
  refine sc (oC ent87 rfl) (c_dOf [] _ (e.strip.lessT false) _ (Rb10 [] (by simp)) (hD.mod0 E).1 (hD.mod0 E).2 (by omega)) rfl fun v_ w4 h_ => ?_
  obtain ⟨rfl, E_⟩ := h_
  replace Bg1 := Bg1.mod0 E_
  replace E := E.then E_
  refine s_alloc zv103 rfl fun g2 w5 N2 => ?_
  have Lg2_E := N2.le E
  have Dg1_g2 := N2.ne Bg1
  replace Bg1 := Bg1.mod0 N2.mod
  replace E := E.then N2.mod
  have Bg2 := N2.blk
  have hsl : (sha (e.strip.lessT false)).length = 32 := outB_len _ _
  refine s_sta (vs := (sha (e.strip.lessT false)).map B8) ag103 Bg2 rfl rfl (by rw [List.length_map, hsl]) (by intro v hv; obtain ⟨x, _, rfl⟩ := List.mem_map.1 hv; rfl) (by simp [hsl]) fun w6 P1 => ?_
  replace E := E.own P1.mod Lg2_E
  have BS := P1.blk
  rw [splice, List.take_zero, List.nil_append, List.drop_eq_nil_of_le (by simp [hsl]), List.append_nil] at BS
  have RS : Rep [] w6 (byD (sha (e.strip.lessT false))) (.slice (some ⟨g2, 0, none⟩) 32 32) := by have := byD_blk (A := []) BS (by omega) (by simp); rwa [hsl] at this
  refine Ln (e_K (hK6 _ _ _ _ (Cq fun K7 hK7 => Cr (Sv (o_slar ar103 rfl) (sc (oC ent88 rfl) (c_encL [] _ (sha (e.strip.lessT false)) _ RS (by omega) true) rfl fun v_ w7 h_ => ?_)))))
  obtain ⟨rfl, E_⟩ := h_
  replace E := E.then E_
  exact Sv (o_sadd (u := [36]) rfl rfl (by rw [ltrL_len, hsl]; decide)) (Za rfl (Ln (e_K (hK7 _ _ _ _ (cR (ret1 rfl rfl ⟨by rw [EV.nameT, if_neg (by simp [hern])]; rfl, E⟩))))))

theorem c_textS (w : World) (e : EV) (us : List Value) (R : Reps [] w e.D us) (ho : e.ok) (hsm : e.lens) (hf : e.few) (hT : Tab w) (hM : MaxL w) : Calls Tryz.prog 89 [.agg us.toArray].toArray w (Ret fun u w' => u = .int .i64 e.ern ∧ Mod [] w w') := by
 refine enter Tryz.func89 rfl rfl rfl (l := [(0, _)]) ⟨rfl, trivial⟩ ?_
 have E := Mod.refl [] w
 obtain ⟨al, cl, am, cm, ap, cp, aa, ca, aS, cS, rfl, Rc, Rp, Ra, Rs⟩ := EV.cells17 R
 have R := EV.reps_ (e := e) Rc Rp Ra Rs
 refine Cq fun K1 hK1 => Cr (s_box rfl rfl rfl fun g1 w1 N1 => ?_)
 have Lg1_E := N1.le E
 replace E := E.then N1.mod
 have Bg1 := N1.blk
 refine Za rfl (Ln (e_K (hK1 _ _ _ _ (Cq fun K2 hK2 => Cr (Sv (o_lda (vs := [_, _, _, _, _, _, _, _, _, _, _, _, _, _, _, _, _]) ag48 rfl rfl (Bg1.cs rfl)) (sc (oC ent30 rfl) (c_encodeR _ e _ (R.to0 E) ho hsm hf (hT.mod E (by simp)) (hM.mod0 E)) rfl fun v_ w2 h_ => ?_))))))
 obtain ⟨rfl, E_⟩ := h_
 replace Bg1 := Bg1.mod0 E_
 replace E := E.then E_
 exact tW 5 rfl (Ln (e_K (hK2 _ _ _ _ (Cq fun K3 hK3 => Cr (tW 2 rfl (Ln (e_K (hK3 _ _ _ _ (cR (ret1 rfl rfl ⟨rfl, E⟩))))))))))
end Go.Proofs.YtknndpjacklkeaaGreatDoor.V

set_option linter.unusedVariables false
set_option linter.unusedSimpArgs false
set_option maxRecDepth 10000
namespace Go.Proofs.YtknndpjacklkeaaGreatDoor.V
open Go Go.Proofs
theorem ent89 : Ent Tryz.prog 89 := Ent.of Tryz.func89 (by kernel_rfl) (by kernel_rfl)
theorem ent92 : Ent Tryz.prog 92 := Ent.of Tryz.func92 (by kernel_rfl) (by kernel_rfl)
theorem ent91 : Ent Tryz.prog 91 := Ent.of Tryz.func91 (by kernel_rfl) (by kernel_rfl)
theorem ent90 : Ent Tryz.prog 90 := Ent.of Tryz.func90 (by kernel_rfl) (by kernel_rfl)
/-- does a member stay? -/
abbrev lessP (b : Bool) (m : Str × JV) : Bool := decide (m.1 ≠ kSigs) && (decide (m.1 ≠ kHashes) || !b)

theorem c_less (w : World) (e : EV) (us : List Value) (R : Reps [] w e.D us) (hf : e.few) (hT : Tab w) (b : Bool) : Calls Tryz.prog 92 [.agg us.toArray, .bool b].toArray w (Ret fun u w' => u = S (e.lessT b) ∧ Mod [] w w') := by
 refine enter Tryz.func92 rfl rfl rfl (l := [(0, _), (1, _)]) ⟨rfl, rfl, trivial⟩ ?_
 have E := Mod.refl [] w
 obtain ⟨al, cl, am, cm, ap, cp, aa, ca, aS, cS, rfl, Rc, Rp, Ra, Rs⟩ := EV.cells17 R
 have R := EV.reps_ (e := e) Rc Rp Ra Rs
 refine Cq fun K1 hK1 => Cr (s_box rfl rfl rfl fun g1 w1 N1 => ?_)
 have Lg1_E := N1.le E
 replace E := E.then N1.mod
 have Bg1 := N1.blk
 refine Za rfl (Ln (e_K (hK1 _ _ _ _ (Cq fun K2 hK2 => Cr (Sv (o_lda (vs := [_, _, _, _, _, _, _, _, _, _, _, _, _, _, _, _, _]) ag48 rfl rfl (Bg1.cs rfl)) (sc (oC ent33 rfl) (c_evalueR [] _ (by simp) e _ (R.to0 E) hf.1 hf.2.1 hf.2.2) rfl fun v_ w2 h_ => ?_))))))
 obtain ⟨us9, rfl, Rv, E_⟩ := h_
 replace Bg1 := Bg1.mod0 E_
 replace E := E.then E_
 obtain ⟨al9, cl9, am9, cm9, rfl, Rl9, Rm9⟩ := JV.cells_ Rv
 replace Rv := JV.reps_ Rl9 Rm9
 have Rm9 : Rep [] w2 (.sl 7 (e.memV.map JV.Dp)) (.slice am9 e.memV.length cm9) := Rm9
 have Ev := Mod.refl [] w2
 have E0 := E
 have hml := EV.memV_len e
 obtain ⟨hcp1, hcp2⟩ : e.memV.length ≤ cm9 ∧ cm9 ≤ 9223372036854775807 := by
  have := JV.cap_m Rm9
  exact this.2
 refine s_alloc zv25 rfl fun g2 w3 N2 => ?_
 have Lg2_E := N2.le E
 have Lg2_Ev := N2.le Ev
 have Dg1_g2 := N2.ne Bg1
 replace Bg1 := Bg1.mod0 N2.mod
 replace E := E.then N2.mod
 replace Ev := Ev.then N2.mod
 have Bg2 := N2.blk
 refine s_sta (vs := [_, _, _, _, _, _]) ag25 Bg2 rfl rfl rfl (by simp [Value.oneCell']) (by simp) fun w4 P4 => ?_
 replace Bg1 := Bg1.ne P4.mod (Ne.symm (Ne.symm Dg1_g2))
 replace E := E.own P4.mod Lg2_E
 replace Ev := Ev.own P4.mod Lg2_Ev
 replace Bg2 : Blk w4 g2 _ [_, _, _, _, _, _] := P4.blk
 refine Ln (e_K (hK2 _ _ _ _ (Cq fun K3 hK3 => Cr (Za rfl (Ln (e_K (hK3 _ _ _ _ (Cq fun K4 hK4 => Cq fun K5 hK5 => Cr (Sv (oA0 fd25_5 rfl) (Sv (oL sc23 rfl (Bg2.cell rfl)) (Sv (o_len Tryz.underlying23 rfl) (Zm rfl ?_))))))))))))
 refine Ln (e_K (hK5 _ _ _ _ (cB (c_loop (σ := Nat × Value × List Value) (fun ⟨k, v, vs⟩ => [(1, .bool b), (6, v), (14, .slice am9 e.memV.length cm9), (15, .int .i64 e.memV.length), (16, .int .i64 (k : Int))]) (fun ⟨k, v, vs⟩ w1 => k ≤ e.memV.length ∧ Own w1 44 7 v ((e.memV.take k).filter (lessP b)).length vs ∧ Reps [] w2 (((e.memV.take k).filter (lessP b)).map JV.Dp).flatten vs ∧ (∀ x ∈ ob v, w2.heap.size ≤ x) ∧ Mod [] w2 w1) (fun ⟨k, v, vs⟩ => e.memV.length - k) (⟨0, .slice none 0 0, []⟩) ⟨rfl, rfl, rfl, rfl, rfl, trivial⟩ (⟨by omega, by simpa using Own.nil w4 44 7, Reps.nil_, by simp [ob], Ev⟩) ?_))))
 rintro ⟨k, v, vs⟩ w5 ⟨hk, Oa0, hvs, L0, Ev⟩
 refine Cq fun K6 hK6 => Cr (Sv (o_lss rfl rfl) (Ln (e_K (hK6 _ _ _ _ (Cq fun K7 hK7 => ?_)))))
 refine c_if rfl (fun h17 => ?_) (fun h17 => ?_)
 ·obtain ⟨x, hx_x⟩ : ∃ x, e.memV[k]? = some x := ⟨_, List.getElem?_eq_getElem (by omega)⟩
  obtain ⟨a_x, us_x, ha_x, R_x, hcs_x⟩ := JV.at_m Rm9 hx_x
  replace hcs_x := hcs_x.mod0 Ev
  obtain ⟨al_x, cl_x, am_x, cm_x, rfl, Rl_x, Rm_x⟩ := JV.cells_ R_x
  cases ha_x
  refine cK (e_K (hK7 _ _ _ _ (Cq fun K8 hK8 => cB (Cq fun K9 hK9 => Cr (Sv (o_ix sl23 rfl rfl (by omega)) (Sv (o_lda ag44 rfl rfl hcs_x) (s_alloc zv44 rfl fun g3 w6 N3 => ?_)))))))
  have Lg3_Ev := N3.le Ev
  have Da0_g3 := N3.own_ne Oa0
  replace Ev := Ev.then N3.mod
  replace Oa0 := Oa0.mod0 N3.mod
  have Bg3 := N3.blk
  refine s_sta (vs := [_, _, _, _, _, _, _]) ag44 Bg3 rfl rfl rfl (by simp [Value.oneCell']) (by simp) fun w7 P7 => ?_
  replace Ev := Ev.own P7.mod Lg3_Ev
  replace Oa0 := Oa0.put P7.mod Da0_g3
  replace Bg3 : Blk w7 g3 _ [_, _, _, _, _, _, _] := P7.blk
  refine Ln (e_K (hK9 _ _ _ _ (Cq fun K10 hK10 => Cr (Sv (oA0 fd44_0 rfl) (Sv (oL sc9 rfl (Bg3.cell rfl)) (Sv (o_sne rfl rfl) ?_))))))
  refine bD (fun hp : x.1 ≠ kSigs => ?_) (fun hp => ?_)
  ·refine Zm rfl (Sg rfl rfl (oA0 fd44_0 rfl) (Sg rfl rfl (oL sc9 rfl (Bg3.cell rfl)) (Sg rfl rfl (o_sne rfl rfl) ?_)))
   refine bD (fun hq : x.1 ≠ kHashes => ?_) (fun hq => ?_)
   ·refine tW 5 rfl (Ln (e_K (hK10 _ _ _ _ (c_true rfl ?_))))
    have hl : lessP b x = true := by first | (simp [lessP, hp]; done) | (simp [lessP, hp, hq]; done) | (simp [lessP, hp, hb]; done) | (simp at hb; simp [lessP, hp, hb])
    have hf1 := List.length_filter_le (lessP b) (e.memV.take k)
    have hf4 : (e.memV.take k).length ≤ e.memV.length := by rw [List.length_take]; omega
    refine Cr (Zm rfl (Sv (o_lda (vs := [_, _, _, _, _, _, _]) ag44 rfl rfl (Bg3.cs rfl)) (s_bslice (cs := [_, _, _, _, _, _, _]) sl23 zv44 rfl rfl rfl (by decide) rfl fun g4 w8 N4 => ?_)))
    have Lg4_Ev := N4.le Ev
    have Dg3_g4 := N4.ne Bg3
    have Da0_g4 := N4.own_ne Oa0
    replace Bg3 := Bg3.mod0 N4.mod
    replace Ev := Ev.then N4.mod
    replace Oa0 := Oa0.mod0 N4.mod
    have Bg4 := N4.blk
    refine s_append sl23 rfl rfl Oa0 (Src.own Tryz.underlying23 (Own.all (cs := [_, _, _, _, _, _, _]) Bg4 rfl (by omega)) (by simp [Value.oneCell'])) (by decide) (by omega) (by omega) rfl fun v1 w9 A1 => ?_
    have Dv1_g3 := A1.ne Da0_g3 Bg3
    have Dv1_g4 := A1.ne Da0_g4 Bg4
    have Lv1_Ev := A1.ge L0 Ev
    replace Bg3 := Bg3.mod A1.mod (fun hx => Da0_g3 _ hx rfl)
    replace Bg4 := Bg4.mod A1.mod (fun hx => Da0_g4 _ hx rfl)
    replace Ev := Ev.trans' A1.mod (fun x hx => .inr (L0 x hx))
    replace Oa0 := A1.own
    exact Za rfl (Ln (eI (by simp) (e_K (hK8 _ _ _ _ (Cr (Sv (o_addN rfl rfl (by omega)) (Zm rfl (Ln (eR (σ := Nat × Value × List Value) (s := ⟨k, v, vs⟩) (⟨k + 1, v1, vs ++ [S x.1, .int .i64 x.2.kind, .bool x.2.is, .int .i64 x.2.num, S x.2.str, .slice al_x x.2.list.length cl_x, .slice am_x x.2.map.length cm_x]⟩) ⟨rfl, rfl, rfl, rfl, rfl, trivial⟩ ⟨by omega, Oa0.same (by rw [filter_snoc _ hx_x]; simp [hl]) rfl, by rw [filter_snoc _ hx_x, if_pos hl]; exact JV.rows_snoc hvs (JV.Dp_reps R_x), Lv1_Ev, Ev⟩ (by dsimp only; omega))))))))))
   ·refine tW 3 rfl ?_
    refine bC (fun hb : ((!b)) = true => ?_) (fun hb => ?_)
    ·refine tW 2 rfl (Ln (e_K (hK10 _ _ _ _ (c_true rfl ?_))))
     have hl : lessP b x = true := by first | (simp [lessP, hp]; done) | (simp [lessP, hp, hq]; done) | (simp [lessP, hp, hb]; done) | (simp at hb; simp [lessP, hp, hb])
     have hf1 := List.length_filter_le (lessP b) (e.memV.take k)
     have hf4 : (e.memV.take k).length ≤ e.memV.length := by rw [List.length_take]; omega
     refine Cr (Zm rfl (Sv (o_lda (vs := [_, _, _, _, _, _, _]) ag44 rfl rfl (Bg3.cs rfl)) (s_bslice (cs := [_, _, _, _, _, _, _]) sl23 zv44 rfl rfl rfl (by decide) rfl fun g5 w10 N5 => ?_)))
     have Lg5_Ev := N5.le Ev
     have Dg3_g5 := N5.ne Bg3
     have Da0_g5 := N5.own_ne Oa0
     replace Bg3 := Bg3.mod0 N5.mod
     replace Ev := Ev.then N5.mod
     replace Oa0 := Oa0.mod0 N5.mod
     have Bg5 := N5.blk
     refine s_append sl23 rfl rfl Oa0 (Src.own Tryz.underlying23 (Own.all (cs := [_, _, _, _, _, _, _]) Bg5 rfl (by omega)) (by simp [Value.oneCell'])) (by decide) (by omega) (by omega) rfl fun v2 w11 A2 => ?_
     have Dv2_g3 := A2.ne Da0_g3 Bg3
     have Dv2_g5 := A2.ne Da0_g5 Bg5
     have Lv2_Ev := A2.ge L0 Ev
     replace Bg3 := Bg3.mod A2.mod (fun hx => Da0_g3 _ hx rfl)
     replace Bg5 := Bg5.mod A2.mod (fun hx => Da0_g5 _ hx rfl)
     replace Ev := Ev.trans' A2.mod (fun x hx => .inr (L0 x hx))
     replace Oa0 := A2.own
     exact Za rfl (Ln (eI (by simp) (e_K (hK8 _ _ _ _ (Cr (Sv (o_addN rfl rfl (by omega)) (Zm rfl (Ln (eR (σ := Nat × Value × List Value) (s := ⟨k, v, vs⟩) (⟨k + 1, v2, vs ++ [S x.1, .int .i64 x.2.kind, .bool x.2.is, .int .i64 x.2.num, S x.2.str, .slice al_x x.2.list.length cl_x, .slice am_x x.2.map.length cm_x]⟩) ⟨rfl, rfl, rfl, rfl, rfl, trivial⟩ ⟨by omega, Oa0.same (by rw [filter_snoc _ hx_x]; simp [hl]) rfl, by rw [filter_snoc _ hx_x, if_pos hl]; exact JV.rows_snoc hvs (JV.Dp_reps R_x), Lv2_Ev, Ev⟩ (by dsimp only; omega))))))))))
    ·refine tW 2 rfl (Ln (e_K (hK10 _ _ _ _ (c_false rfl ?_))))
     have hl : lessP b x = false := by first | (simp [lessP, hp]; done) | (simp at hb hq; simp [lessP, hp, hq, hb]; done) | (simp at hp; simp [lessP, hp])
     exact cK (eI (by simp) (e_K (hK8 _ _ _ _ (Cr (Sv (o_addN rfl rfl (by omega)) (Zm rfl (Ln (eR (σ := Nat × Value × List Value) (s := ⟨k, v, vs⟩) (⟨k + 1, v, vs⟩) ⟨rfl, rfl, rfl, rfl, rfl, trivial⟩ ⟨by omega, Oa0.same (by rw [filter_snoc _ hx_x]; simp [hl]) rfl, by rw [filter_snoc _ hx_x, if_neg (by rw [hl]; decide), List.append_nil]; exact hvs, L0, Ev⟩ (by dsimp only; omega)))))))))
  ·refine tW 9 rfl (Ln (e_K (hK10 _ _ _ _ (c_false rfl ?_))))
   have hl : lessP b x = false := by first | (simp [lessP, hp]; done) | (simp at hb hq; simp [lessP, hp, hq, hb]; done) | (simp at hp; simp [lessP, hp])
   exact cK (eI (by simp) (e_K (hK8 _ _ _ _ (Cr (Sv (o_addN rfl rfl (by omega)) (Zm rfl (Ln (eR (σ := Nat × Value × List Value) (s := ⟨k, v, vs⟩) (⟨k + 1, v, vs⟩) ⟨rfl, rfl, rfl, rfl, rfl, trivial⟩ ⟨by omega, Oa0.same (by rw [filter_snoc _ hx_x]; simp [hl]) rfl, by rw [filter_snoc _ hx_x, if_neg (by rw [hl]; decide), List.append_nil]; exact hvs, L0, Ev⟩ (by dsimp only; omega)))))))))
 ·have hkk : k = e.memV.length := by omega
  subst hkk
  rw [List.take_length] at Oa0 hvs
  have E := E0.then Ev
  have hT9 := hT.mod E (by simp)
  obtain ⟨adv, cv, rfl, hv1, hv2⟩ := Oa0.form
  have RF := JV.obj_repsN (A := []) rfl (Own.mem_ Oa0 (hvs.to0 Ev) rfl (fun x hx h => by cases h))
  refine c_exit (eT (by simp) (eT (by simp) (e_hit (e_K (hK4 _ _ _ _ (Cq fun K11 hK11 => Cr (Zm rfl (Sv (o_build (cs := [_, _, _, _, _, _]) pl25 zv25 rfl rfl) (sc (oC ent65 rfl) (c_canonR _ (JV.obj (e.memV.filter (lessP b))) _ RF hT9) rfl fun v_ w12 h_ => ?_)))))))))
  obtain ⟨rfl, E_⟩ := h_
  replace Ev := Ev.then E_
  replace E := E.then E_
  replace Oa0 := Oa0.mod0 E_
  exact tW 5 rfl (Ln (e_K (hK11 _ _ _ _ (Cq fun K12 hK12 => Cr (tW 2 rfl (Ln (e_K (hK12 _ _ _ _ (cR (ret1 rfl rfl ⟨rfl, E⟩))))))))))

theorem c_rHash (w : World) (e : EV) (us : List Value) (R : Reps [] w e.D us) (ho : e.ok) (hsm : e.lens) (hf : e.few) (hT : Tab w) (hM : MaxL w) (hD : DgT w) : Calls Tryz.prog 45 [.agg us.toArray].toArray w (Ret fun u w' => u = S e.hashT ∧ Mod [] w w') := by
 refine enter Tryz.func45 rfl rfl rfl (l := [(0, _)]) ⟨rfl, trivial⟩ ?_
 have E := Mod.refl [] w
 obtain ⟨al, cl, am, cm, ap, cp, aa, ca, aS, cS, rfl, Rc, Rp, Ra, Rs⟩ := EV.cells17 R
 have R := EV.reps_ (e := e) Rc Rp Ra Rs
 refine Cq fun K1 hK1 => Cr (s_box rfl rfl rfl fun g1 w1 N1 => ?_)
 have Lg1_E := N1.le E
 replace E := E.then N1.mod
 have Bg1 := N1.blk
 refine Za rfl (Ln (e_K (hK1 _ _ _ _ (Cq fun K2 hK2 => Cq fun K3 hK3 => Cr (Sv (o_lda (vs := [_, _, _, _, _, _, _, _, _, _, _, _, _, _, _, _, _]) ag48 rfl rfl (Bg1.cs rfl)) (sc (oC ent89 rfl) (c_textS _ e _ (R.to0 E) ho hsm hf (hT.mod E (by simp)) (hM.mod0 E)) rfl fun v_ w2 h_ => ?_))))))
 obtain ⟨rfl, E_⟩ := h_
 replace Bg1 := Bg1.mod0 E_
 replace E := E.then E_
 refine Sv (o_neq rfl rfl) (Ln (e_K (hK3 _ _ _ _ ?_)))
 refine c_if rfl (fun h5 => ?_) (fun h5 => ?_)
 ·exact Cq fun K4 hK4 => Cr (Za rfl (Ln (e_K (hK4 _ _ _ _ (cR (eT (by simp) (ret1 rfl rfl ⟨by rw [EV.hashT, if_pos h5], E⟩)))))))
 ·refine cK (e_K (hK2 _ _ _ _ (Cq fun K5 hK5 => Cr (Sv (o_lda (vs := [_, _, _, _, _, _, _, _, _, _, _, _, _, _, _, _, _]) ag48 rfl rfl (Bg1.cs rfl)) (sc (oC ent92 rfl) (c_less _ e _ (R.to0 E) hf (hT.mod E (by simp)) true) rfl fun v_ w3 h_ => ?_)))))
  obtain ⟨rfl, E_⟩ := h_
  replace Bg1 := Bg1.mod0 E_
  replace E := E.then E_
  have hln := EV.lessT_len e true
  refine s_s2b Tryz.underlying9 Tryz.underlying5 Tryz.underlying74 rfl (by have := hln; omega) rfl fun v8 w4 E_ Rb8 => ?_
  replace Bg1 := Bg1.mod0 E_
  replace E := E.then E_
  refine sc (oC ent91 rfl) (c_ofR [] _ (e.lessT true) _ (Rb8 [] (by simp)) (by omega)) rfl fun v_ w5 h_ => ?_
  obtain ⟨rfl, E_⟩ := h_
  replace Bg1 := Bg1.mod0 E_
  replace E := E.then E_
  have hsl := sha_len (e.lessT true)
  refine s_s2b Tryz.underlying9 Tryz.underlying5 Tryz.underlying74 rfl (by have := hsl; omega) rfl fun v10 w6 E_ Rb10 => ?_
  replace Bg1 := Bg1.mod0 E_
  replace E := E.then E_
  refine sc (oC ent90 rfl) (c_encR [] _ (sha (e.lessT true)) _ (Rb10 [] (by simp)) (by omega) false) rfl fun v_ w7 h_ => ?_
  obtain ⟨rfl, E_⟩ := h_
  replace Bg1 := Bg1.mod0 E_
  replace E := E.then E_
  exact Za rfl (Ln (e_K (hK5 _ _ _ _ (cR (ret1 rfl rfl ⟨by rw [EV.hashT, if_neg h5], E⟩)))))

theorem c_rBytes (w : World) (e : EV) (us : List Value) (R : Reps [] w e.D us) (ho : e.ok) (hsm : e.lens) (hf : e.few) (hT : Tab w) (hM : MaxL w) (hD : DgT w) : Calls Tryz.prog 47 [.agg us.toArray].toArray w (Ret fun u w' => u = S e.bytesT ∧ Mod [] w w') := by
 refine enter Tryz.func47 rfl rfl rfl (l := [(0, _)]) ⟨rfl, trivial⟩ ?_
 have E := Mod.refl [] w
 obtain ⟨al, cl, am, cm, ap, cp, aa, ca, aS, cS, rfl, Rc, Rp, Ra, Rs⟩ := EV.cells17 R
 have R := EV.reps_ (e := e) Rc Rp Ra Rs
 refine Cq fun K1 hK1 => Cr (s_box rfl rfl rfl fun g1 w1 N1 => ?_)
 have Lg1_E := N1.le E
 replace E := E.then N1.mod
 have Bg1 := N1.blk
 refine Za rfl (Ln (e_K (hK1 _ _ _ _ (Cq fun K2 hK2 => Cq fun K3 hK3 => Cr (Sv (o_lda (vs := [_, _, _, _, _, _, _, _, _, _, _, _, _, _, _, _, _]) ag48 rfl rfl (Bg1.cs rfl)) (sc (oC ent89 rfl) (c_textS _ e _ (R.to0 E) ho hsm hf (hT.mod E (by simp)) (hM.mod0 E)) rfl fun v_ w2 h_ => ?_))))))
 obtain ⟨rfl, E_⟩ := h_
 replace Bg1 := Bg1.mod0 E_
 replace E := E.then E_
 refine Sv (o_neq rfl rfl) (Ln (e_K (hK3 _ _ _ _ ?_)))
 refine c_if rfl (fun h5 => ?_) (fun h5 => ?_)
 ·exact Cq fun K4 hK4 => Cr (Za rfl (Ln (e_K (hK4 _ _ _ _ (cR (eT (by simp) (ret1 rfl rfl ⟨by rw [EV.bytesT, if_pos h5], E⟩)))))))
 ·have hern : e.ern = 0 := Classical.not_not.1 h5
  have hr := EV.rise_of hern
  have hva : ascM e.con.map := ((JV.Rise_eq _).1 hr).1
  have hta : ascM e.con.third.map := JV.third_asc hr
  have hvn : e.con.map.length ≤ 1353245080310 := JV.ok_map ho.2.2.2.2.1
  have htn := JV.third_len ho.2.2.2.2.1
  have hos := EV.strip_ok hva ho
  have hse := EV.strip_ern hva hern
  have hsf : e.strip.few := hf
  refine cK (e_K (hK2 _ _ _ _ (Cq fun K5 hK5 => Cr (Sv (o_lda (vs := [_, _, _, _, _, _, _, _, _, _, _, _, _, _, _, _, _]) ag48 rfl rfl (Bg1.cs rfl)) (sc (oC ent94 rfl) (c_stripR _ e _ (R.to0 E) hva hvn) rfl fun v_ w3 h_ => ?_)))))
  obtain ⟨us9, rfl, R9, E_⟩ := h_
  replace Bg1 := Bg1.mod0 E_
  replace E := E.then E_
  have Es := Mod.refl [] w3
  refine sc (oC ent92 rfl) (c_less _ e.strip _ (R9.to0 Es) hsf (hT.mod E (by simp)) false) rfl fun v_ w4 h_ => ?_
  obtain ⟨rfl, E_⟩ := h_
  replace Bg1 := Bg1.mod0 E_
  replace E := E.then E_
  replace Es := Es.then E_
  exact Za rfl (Ln (e_K (hK5 _ _ _ _ (cR (ret1 rfl rfl ⟨by rw [EV.bytesT, if_neg h5], E⟩)))))
end Go.Proofs.YtknndpjacklkeaaGreatDoor.V

set_option linter.unusedVariables false
set_option linter.unusedSimpArgs false
set_option maxRecDepth 10000
namespace Go.Proofs.YtknndpjacklkeaaGreatDoor.V
open Go Go.Proofs
theorem ent47 : Ent Tryz.prog 47 := Ent.of Tryz.func47 (by kernel_rfl) (by kernel_rfl)
theorem ent28 : Ent Tryz.prog 28 := Ent.of Tryz.func28 (by kernel_rfl) (by kernel_rfl)
theorem ent42 : Ent Tryz.prog 42 := Ent.of Tryz.func42 (by kernel_rfl) (by kernel_rfl)
theorem ent41 : Ent Tryz.prog 41 := Ent.of Tryz.func41 (by kernel_rfl) (by kernel_rfl)
theorem ent43 : Ent Tryz.prog 43 := Ent.of Tryz.func43 (by kernel_rfl) (by kernel_rfl)
theorem ent44 : Ent Tryz.prog 44 := Ent.of Tryz.func44 (by kernel_rfl) (by kernel_rfl)
theorem ent45 : Ent Tryz.prog 45 := Ent.of Tryz.func45 (by kernel_rfl) (by kernel_rfl)
theorem ent48 : Ent Tryz.prog 48 := Ent.of Tryz.func48 (by kernel_rfl) (by kernel_rfl)
theorem c_rName (w : World) (e : EV) (us : List Value) (R : Reps [] w e.D us) (ho : e.ok) (hsm : e.lens) (hf : e.few) (hT : Tab w) (hM : MaxL w) (hD : DgT w) : Calls Tryz.prog 48 [.agg us.toArray].toArray w (Ret fun u w' => u = S e.nameT ∧ Mod [] w w') := by
 refine enter Tryz.func48 rfl rfl rfl (l := [(0, _)]) ⟨rfl, trivial⟩ ?_
 have E := Mod.refl [] w
 obtain ⟨al, cl, am, cm, ap, cp, aa, ca, aS, cS, rfl, Rc, Rp, Ra, Rs⟩ := EV.cells17 R
 have R := EV.reps_ (e := e) Rc Rp Ra Rs
 refine Cq fun K1 hK1 => Cr (s_box rfl rfl rfl fun g1 w1 N1 => ?_)
 have Lg1_E := N1.le E
 replace E := E.then N1.mod
 have Bg1 := N1.blk
 refine Za rfl (Ln (e_K (hK1 _ _ _ _ (Cq fun K2 hK2 => Cr (Sv (o_lda (vs := [_, _, _, _, _, _, _, _, _, _, _, _, _, _, _, _, _]) ag48 rfl rfl (Bg1.cs rfl)) (sc (oC ent47 rfl) (c_rBytes _ e _ (R.to0 E) ho hsm hf (hT.mod E (by simp)) (hM.mod0 E) (hD.mod0 E)) rfl fun v_ w2 h_ => ?_))))))
 obtain ⟨rfl, E_⟩ := h_
 replace Bg1 := Bg1.mod0 E_
 replace E := E.then E_
 refine Za rfl (Ln (e_K (hK2 _ _ _ _ (Cq fun K3 hK3 => Cq fun K4 hK4 => Cr (Zm rfl (Sv (o_seq rfl rfl) (Ln (e_K (hK4 _ _ _ _ ?_)))))))))
 refine c_if rfl (fun h7 => ?_) (fun h7 => ?_)
 ·have hern : ¬ e.ern = 0 := fun h => EV.lessT_ne (EV.strip_ern ((JV.Rise_eq _).1 (EV.rise_of h)).1 h) false (by rw [EV.bytesT, if_neg (by simp [h])] at h7; exact h7)
  exact Cq fun K5 hK5 => Cr (Za rfl (Ln (e_K (hK5 _ _ _ _ (cR (eT (by simp) (ret1 rfl rfl ⟨by rw [EV.nameT, if_pos hern], E⟩)))))))
 ·have hern : e.ern = 0 := Classical.byContradiction fun h => h7 (by rw [EV.bytesT, if_pos h])
  have hbt : e.bytesT = e.strip.lessT false := by rw [EV.bytesT, if_neg (by simp [hern])]
  rw [hbt]
  have hln := EV.lessT_len e.strip false
  refine cK (e_K (hK3 _ _ _ _ (Cq fun K6 hK6 => Cr (Zm rfl (s_s2b Tryz.underlying9 Tryz.underlying5 Tryz.underlying74 rfl (by have := hln; omega) rfl fun v9 w3 E_ Rb9 => ?_)))))
  replace Bg1 := Bg1.mod0 E_
  replace E := E.then E_
  refine sc (oC ent91 rfl) (c_ofR [] _ (e.strip.lessT false) _ (Rb9 [] (by simp)) (by omega)) rfl fun v_ w4 h_ => ?_
  obtain ⟨rfl, E_⟩ := h_
  replace Bg1 := Bg1.mod0 E_
  replace E := E.then E_
  have hsl := sha_len (e.strip.lessT false)
  refine s_s2b Tryz.underlying9 Tryz.underlying5 Tryz.underlying74 rfl (by have := hsl; omega) rfl fun v11 w5 E_ Rb11 => ?_
  replace Bg1 := Bg1.mod0 E_
  replace E := E.then E_
  refine sc (oC ent90 rfl) (c_encR [] _ (sha (e.strip.lessT false)) _ (Rb11 [] (by simp)) (by omega) true) rfl fun v_ w6 h_ => ?_
  obtain ⟨rfl, E_⟩ := h_
  replace Bg1 := Bg1.mod0 E_
  replace E := E.then E_
  exact Sv (o_sadd (u := [36]) rfl rfl (by rw [ltrL_len, hsl]; decide)) (Za rfl (Ln (e_K (hK6 _ _ _ _ (cR (ret1 rfl rfl ⟨by rw [EV.nameT, if_neg (by simp [hern])]; rfl, E⟩))))))

theorem c_plainS (w : World) : Calls Tryz.prog 42 [].toArray w (Ret fun u w' => (∃ us, u = .agg us.toArray ∧ Reps [] w' EV.plainS.D us) ∧ Mod [] w w') := by
 refine enter Tryz.func42 rfl rfl rfl (l := []) trivial ?_
 have E := Mod.refl [] w
 refine Cq fun K1 hK1 => Cr (s_alloc zv48 rfl fun g1 w1 N1 => ?_)
 have Lg1_E := N1.le E
 replace E := E.then N1.mod
 have Bg1 := N1.blk
 refine Ln (e_K (hK1 _ _ _ _ (Cq fun K2 hK2 => Cr (Za rfl (Ln (e_K (hK2 _ _ _ _ (Cq fun K3 hK3 => Cr (Sv (o_build (cs := [_, _, _, _, _, _]) pl25 zv25 rfl rfl) (Zm rfl (Sv (o_build (cs := [_, _, _, _, _, _, _, _, _, _, _, _, _, _, _, _, _]) pl48 zv48 rfl rfl) (s_sta (vs := [_, _, _, _, _, _, _, _, _, _, _, _, _, _, _, _, _]) ag48 Bg1 rfl rfl rfl (by simp [Value.oneCell']) (by simp) fun w2 P2 => ?_))))))))))))
 replace E := E.own P2.mod Lg1_E
 replace Bg1 : Blk w2 g1 _ [_, _, _, _, _, _, _, _, _, _, _, _, _, _, _, _, _] := P2.blk
 exact Ln (e_K (hK3 _ _ _ _ (cR (retc (vs := [_, _, _, _, _, _, _, _, _, _, _, _, _, _, _, _, _]) rfl ag48 rfl rfl (Bg1.cs rfl) ⟨⟨_, rfl, EV.reps_ (e := EV.plainS) JV.five_reps Rep.sl_nil Rep.sl_nil Rep.sl_nil⟩, E⟩))))

theorem c_great13 (w : World) (e : EV) (us : List Value) (R : Reps [] w e.D us) (ho : e.ok) : Calls Tryz.prog 44 [.agg us.toArray].toArray w (Ret fun u w' => u = .bool e.g13 ∧ Mod [] w w') := by
 refine enter Tryz.func44 rfl rfl rfl (l := [(0, _)]) ⟨rfl, trivial⟩ ?_
 have E := Mod.refl [] w
 obtain ⟨al, cl, am, cm, ap, cp, aa, ca, aS, cS, rfl, Rc, Rp, Ra, Rs⟩ := EV.cells17 R
 have R := EV.reps_ (e := e) Rc Rp Ra Rs
 obtain ⟨a1, c1, a2, c2, e1, Rl, Rm⟩ := JV.cells_ Rc
 simp only [List.cons.injEq, Value.slice.injEq, and_true, true_and] at e1
 obtain ⟨⟨rfl, rfl⟩, rfl, rfl⟩ := e1
 have hcp := JV.cap_m Rm
 have hml := JV.ok_map ho.2.2.2.2.1
 refine Cq fun K1 hK1 => Cr (s_box rfl rfl rfl fun g1 w1 N1 => ?_)
 have Lg1_E := N1.le E
 replace E := E.then N1.mod
 have Bg1 := N1.blk
 refine Za rfl (Ln (e_K (hK1 _ _ _ _ (Cq fun K2 hK2 => Cq fun K3 hK3 => Cr (Sv (oA0 fd48_5 rfl) (Sv (o_fa fd25_5 rfl) (Sv (oL sc23 rfl (Bg1.cell rfl)) (Sv (o_len Tryz.underlying23 rfl) (Zm rfl (Ln (e_K (hK3 _ _ _ _ (cB ?_)))))))))))))
 refine c_loop (σ := Nat) (fun k => [(1, .pointer (some ⟨g1, 0, none⟩)), (7, .slice am e.con.map.length cm), (8, .int .i64 e.con.map.length), (9, .int .i64 (k : Int))]) (fun k w1 => (k ≤ e.con.map.length ∧ ∀ (i : Nat) (a b : Str × JV), i + 1 < k → e.con.map[i]? = some a → e.con.map[i + 1]? = some b → bl a.1 b.1 = true) ∧ Blk w1 g1 48 [S e.room, S e.snd, S e.ty, .bool e.st, S e.key, .int .i64 e.con.kind, .bool e.con.is, .int .i64 e.con.num, S e.con.str, .slice al e.con.list.length cl, .slice am e.con.map.length cm, .slice ap e.prev.length cp, .slice aa e.auth.length ca, .int .i64 e.dep, .int .i64 e.time, S e.hash, .slice aS e.sigs.length cS] ∧ Mod [] w w1) (fun k => e.con.map.length - k) (0) ⟨rfl, rfl, rfl, rfl, trivial⟩ (⟨⟨by omega, fun i a b h => by omega⟩, Bg1, E⟩) ?_
 rintro k w2 ⟨⟨hk, hasc⟩, Bg1, E⟩
 refine Cq fun K4 hK4 => Cr (Sv (o_lss rfl rfl) (Ln (e_K (hK4 _ _ _ _ (Cq fun K5 hK5 => ?_)))))
 refine c_if rfl (fun h10 => ?_) (fun h10 => ?_)
 ·obtain ⟨x, hx_x⟩ : ∃ x, e.con.map[k]? = some x := ⟨_, List.getElem?_eq_getElem (by omega)⟩
  obtain ⟨a_x, us_x, ha_x, R_x, hcs_x⟩ := JV.at_m (Rm.to0 E) hx_x
  obtain ⟨al_x, cl_x, am_x, cm_x, rfl, Rl_x, Rm_x⟩ := JV.cells_ R_x
  cases ha_x
  refine cK (e_K (hK5 _ _ _ _ (Cq fun K6 hK6 => cB (Cq fun K7 hK7 => Cr (Zm rfl (Sv (o_ix sl23 rfl rfl (by omega)) (Sv (o_lda ag44 rfl rfl hcs_x) (s_alloc zv44 rfl fun g2 w3 N2 => ?_))))))))
  have Lg2_E := N2.le E
  have Dg1_g2 := N2.ne Bg1
  replace Bg1 := Bg1.mod0 N2.mod
  replace E := E.then N2.mod
  have Bg2 := N2.blk
  refine Za rfl (s_sta (vs := [_, _, _, _, _, _, _]) ag44 Bg2 rfl rfl rfl (by simp [Value.oneCell']) (by simp) fun w4 P4 => ?_)
  replace Bg1 := Bg1.ne P4.mod (Ne.symm (Ne.symm Dg1_g2))
  replace E := E.own P4.mod Lg2_E
  replace Bg2 : Blk w4 g2 _ [_, _, _, _, _, _, _] := P4.blk
  refine Ln (e_K (hK7 _ _ _ _ (Cq fun K8 hK8 => ?_)))
  by_cases hp : (k : Int) > 0
  ·obtain ⟨q, hx_q⟩ : ∃ q, e.con.map[k - 1]? = some q := ⟨_, List.getElem?_eq_getElem (by omega)⟩
   obtain ⟨a_q, us_q, ha_q, R_q, hcs_q⟩ := JV.at_m (Rm.to0 E) hx_q
   obtain ⟨al_q, cl_q, am_q, cm_q, rfl, Rl_q, Rm_q⟩ := JV.cells_ R_q
   cases ha_q
   by_cases hq : (!bl q.1 x.1) = true
   ·refine c_draw wide (by kernel_rfl) (tU 3 rfl rfl (tvg rfl (dT hp) (fun w_ E_ => (oA0 fd48_5 rfl)) rfl rfl (tvg rfl (dT hp) (fun w_ E_ => (o_fa fd25_5 rfl)) rfl rfl (tvg rfl (dT hp) (fun w_ E_ => (oL sc23 rfl ((Bg1.mod0 E_).cell rfl))) rfl rfl (tvg rfl (dT hp) (fun w_ E_ => (oM rfl)) rfl rfl (tvg rfl (dT hp) (fun w_ E_ => (o_subE (r := ((k - 1 : Nat) : Int)) rfl rfl (by rw [wrap64_in _ (by omega)]; omega))) rfl rfl (tvg rfl (dT hp) (fun w_ E_ => (o_ix sl23 rfl rfl (by omega))) rfl rfl (tvg rfl (dT hp) (fun w_ E_ => (o_fad fd44_0 rfl)) rfl rfl (tvg rfl (dT hp) (fun w_ E_ => (oL sc9 rfl ((hcs_q.mod0 E_) 0 _ rfl))) rfl rfl (tvg rfl (dT hp) (fun w_ E_ => (oA0 fd44_0 rfl)) rfl rfl (tvg rfl (dT hp) (fun w_ E_ => (oL sc9 rfl ((Bg2.mod0 E_).cell rfl))) rfl rfl (tvg rfl (dT hp) (fun w_ E_ => (o_sge rfl rfl)) rfl rfl (tv (fun w_ E_ => (oT (dT hp) rfl rfl)) rfl rfl ?_)))))))))))))
    refine tw_nil rfl fun w5 E_ => ?_
    replace Bg1 := Bg1.mod0 E_
    replace Bg2 := Bg2.mod0 E_
    replace E := E.then E_
    refine e_K (hK8 _ _ _ _ ?_)
    refine c_cond rfl (fun h28 => ?_) (fun h28 => absurd ((hq).symm.trans h28) (by decide))
    have hno : ¬ ascM e.con.map := fun h => by
     have := ascM_lt h hx_q hx_x (by omega)
     rw [this] at hq
     cases hq
    exact Cq fun K9 hK9 => Cr (Za rfl (Ln (e_K (hK9 _ _ _ _ (cR (eI (by simp) (eT (by simp) (eT (by simp) (eI (by simp) (eT (by simp) (ret1 rfl rfl ⟨by rw [EV.g13_no hno], E⟩)))))))))))
   ·refine c_draw wide (by kernel_rfl) (tU 3 rfl rfl (tvg rfl (dT hp) (fun w_ E_ => (oA0 fd48_5 rfl)) rfl rfl (tvg rfl (dT hp) (fun w_ E_ => (o_fa fd25_5 rfl)) rfl rfl (tvg rfl (dT hp) (fun w_ E_ => (oL sc23 rfl ((Bg1.mod0 E_).cell rfl))) rfl rfl (tvg rfl (dT hp) (fun w_ E_ => (oM rfl)) rfl rfl (tvg rfl (dT hp) (fun w_ E_ => (o_subE (r := ((k - 1 : Nat) : Int)) rfl rfl (by rw [wrap64_in _ (by omega)]; omega))) rfl rfl (tvg rfl (dT hp) (fun w_ E_ => (o_ix sl23 rfl rfl (by omega))) rfl rfl (tvg rfl (dT hp) (fun w_ E_ => (o_fad fd44_0 rfl)) rfl rfl (tvg rfl (dT hp) (fun w_ E_ => (oL sc9 rfl ((hcs_q.mod0 E_) 0 _ rfl))) rfl rfl (tvg rfl (dT hp) (fun w_ E_ => (oA0 fd44_0 rfl)) rfl rfl (tvg rfl (dT hp) (fun w_ E_ => (oL sc9 rfl ((Bg2.mod0 E_).cell rfl))) rfl rfl (tvg rfl (dT hp) (fun w_ E_ => (o_sge rfl rfl)) rfl rfl (tv (fun w_ E_ => (oT (dT hp) rfl rfl)) rfl rfl ?_)))))))))))))
    refine tw_nil rfl fun w6 E_ => ?_
    replace Bg1 := Bg1.mod0 E_
    replace Bg2 := Bg2.mod0 E_
    replace E := E.then E_
    refine e_K (hK8 _ _ _ _ (c_cond rfl (fun h28 => absurd ((bF hq).symm.trans h28) (by decide)) (fun h28 => ?_)))
    have hstep : ∀ a, e.con.map[k - 1]? = some a → 0 < k → bl a.1 x.1 = true := fun a ha h0 => by
     first | (exact absurd (show (k : Int) > 0 by omega) hp) | (rw [hx_q] at ha; injection ha with ha; subst ha; simpa using hq)
    replace hstep : ∀ a, 0 < k → e.con.map[k - 1]? = some a → bl a.1 x.1 = true := fun a h0 ha => hstep a ha h0
    have hstep : ∀ {i : Nat}, k = i + 1 → ∀ a, e.con.map[i]? = some a → bl a.1 x.1 = true := fun {i} hi a ha => hstep a (by omega) (by rw [hi]; exact ha)
    refine cK (eI (by simp) (e_K (hK6 _ _ _ _ (Cr (Sv (o_addN rfl rfl (by omega)) (Zm rfl (Ln ?_)))))))
    exact eR (σ := Nat) (s := k) (k + 1) ⟨rfl, rfl, rfl, rfl, trivial⟩ ⟨⟨by omega, fun i a b hi ha hb => by
     by_cases h : i + 1 < k
     ·exact hasc i a b h ha hb
     ·obtain rfl : k = i + 1 := by omega
      rw [hx_x] at hb
      injection hb with hb
      subst hb
      exact hstep (i := i) rfl a ha⟩, Bg1, E⟩ (by omega)
  ·refine c_draw wide (by kernel_rfl) (tU 3 rfl rfl (Tx rfl (dF hp) (Tx rfl (dF hp) (Tx rfl (dF hp) (Tx rfl (dF hp) (Tx rfl (dF hp) (Tx rfl (dF hp) (Tx rfl (dF hp) (Tx rfl (dF hp) (Tx rfl (dF hp) (Tx rfl (dF hp) (Tx rfl (dF hp) (tv (fun w_ E_ => (oF (dF hp) rfl rfl)) rfl rfl ?_)))))))))))))
   refine tw_nil rfl fun w7 E_ => ?_
   replace Bg1 := Bg1.mod0 E_
   replace Bg2 := Bg2.mod0 E_
   replace E := E.then E_
   refine e_K (hK8 _ _ _ _ (c_false rfl ?_))
   have hstep : ∀ a, e.con.map[k - 1]? = some a → 0 < k → bl a.1 x.1 = true := fun a ha h0 => by
    first | (exact absurd (show (k : Int) > 0 by omega) hp) | (rw [hx_q] at ha; injection ha with ha; subst ha; simpa using hq)
   replace hstep : ∀ a, 0 < k → e.con.map[k - 1]? = some a → bl a.1 x.1 = true := fun a h0 ha => hstep a ha h0
   have hstep : ∀ {i : Nat}, k = i + 1 → ∀ a, e.con.map[i]? = some a → bl a.1 x.1 = true := fun {i} hi a ha => hstep a (by omega) (by rw [hi]; exact ha)
   refine cK (eI (by simp) (e_K (hK6 _ _ _ _ (Cr (Sv (o_addN rfl rfl (by omega)) (Zm rfl (Ln ?_)))))))
   exact eR (σ := Nat) (s := k) (k + 1) ⟨rfl, rfl, rfl, rfl, trivial⟩ ⟨⟨by omega, fun i a b hi ha hb => by
    by_cases h : i + 1 < k
    ·exact hasc i a b h ha hb
    ·obtain rfl : k = i + 1 := by omega
     rw [hx_x] at hb
     injection hb with hb
     subst hb
     exact hstep (i := i) rfl a ha⟩, Bg1, E⟩ (by omega)
 ·have hasc2 : ascM e.con.map := ascM_of fun i a b ha hb => hasc i a b (by have := (List.getElem?_eq_some_iff.1 hb).1; omega) ha hb
  refine c_exit (eT (by simp) (eT (by simp) (e_hit (e_K (hK2 _ _ _ _ (Cq fun K10 hK10 => Cr (Sv (o_lda (vs := [_, _, _, _, _, _, _, _, _, _, _, _, _, _, _, _, _]) ag48 rfl rfl (Bg1.cs rfl)) (sc (oC ent28 rfl) (c_great11 _ e _ 4096 (R.to0 E) ho (by omega)) rfl fun v_ w8 h_ => ?_))))))))
  obtain ⟨rfl, E_⟩ := h_
  replace Bg1 := Bg1.mod0 E_
  replace E := E.then E_
  exact Za rfl (Ln (e_K (hK10 _ _ _ _ (cR (ret1 rfl rfl ⟨by rw [EV.g13_yes hasc2], E⟩)))))

theorem c_SealHashes (w : World) (e : EV) (us : List Value) (R : Reps [] w e.D us) (ho : e.ok) (hT : Tab w) (hM : MaxL w) (hD : DgT w) : Calls Tryz.prog 13 [.agg us.toArray].toArray w (Ret fun u w' => u = .bool true ∧ Mod [] w w') := by
 refine enter Tryz.func13 rfl rfl rfl (l := [(0, _)]) ⟨rfl, trivial⟩ ?_
 have E := Mod.refl [] w
 obtain ⟨al, cl, am, cm, ap, cp, aa, ca, aS, cS, rfl, Rc, Rp, Ra, Rs⟩ := EV.cells17 R
 have R := EV.reps_ (e := e) Rc Rp Ra Rs
 have hl1 : ¬ ((EV.plainS.hashT.length : Int) ≠ 43) := by rw [EV.hash_len EV.plainS_ern]; decide
 have hl2 : ¬ ((EV.plainS.nameT.length : Int) ≠ 44) := by rw [EV.name_len EV.plainS_ern]; decide
 refine Cq fun K1 hK1 => Cr (s_box rfl rfl rfl fun g1 w1 N1 => ?_)
 have Lg1_E := N1.le E
 replace E := E.then N1.mod
 have Bg1 := N1.blk
 refine Za rfl (Ln (e_K (hK1 _ _ _ _ (Cq fun K2 hK2 => Cq fun K3 hK3 => Cr (sc (oC ent42 rfl) (c_plainS _) rfl fun v_ w2 h_ => ?_)))))
 obtain ⟨⟨us3, rfl, R3⟩, E_⟩ := h_
 replace Bg1 := Bg1.mod0 E_
 replace E := E.then E_
 have E3 := Mod.refl [] w2
 refine sc (oC ent41 rfl) (c_sHash _ EV.plainS _ (R3.to0 E3) EV.plainS_ok EV.plainS_lens EV.plainS_few (hT.mod E (by simp)) (hM.mod0 E) (hD.mod0 E)) rfl fun v_ w3 h_ => ?_
 obtain ⟨rfl, E_⟩ := h_
 replace Bg1 := Bg1.mod0 E_
 replace E := E.then E_
 replace E3 := E3.then E_
 refine Sv (o_slen Tryz.underlying9 rfl) (Sv (o_neq rfl rfl) (bE (dF hl1) (Zm rfl (sgc rfl rfl (oC ent42 rfl) (c_plainS _) rfl fun v_ w4 h_ => ?_))))
 obtain ⟨⟨us8, rfl, R8⟩, E_⟩ := h_
 replace Bg1 := Bg1.mod0 E_
 replace E := E.then E_
 replace E3 := E3.then E_
 have E8 := Mod.refl [] w4
 refine sgc rfl rfl (oC ent43 rfl) (c_sName _ EV.plainS _ (R8.to0 E8) EV.plainS_ok EV.plainS_lens EV.plainS_few (hT.mod E (by simp)) (hM.mod0 E) (hD.mod0 E)) rfl fun v_ w5 h_ => ?_
 obtain ⟨rfl, E_⟩ := h_
 replace Bg1 := Bg1.mod0 E_
 replace E := E.then E_
 replace E3 := E3.then E_
 replace E8 := E8.then E_
 refine Sg rfl rfl (o_slen Tryz.underlying9 rfl) (Sg rfl rfl (o_neq rfl rfl) (bE (dF hl2) (Sv (oF rfl rfl rfl) (Ln (e_K (hK3 _ _ _ _ (c_false rfl (cK (e_K (hK2 _ _ _ _ (Cq fun K4 hK4 => Cq fun K5 hK5 => Cr (Sv (o_lda (vs := [_, _, _, _, _, _, _, _, _, _, _, _, _, _, _, _, _]) ag48 rfl rfl (Bg1.cs rfl)) (sc (oC ent44 rfl) (c_great13 _ e _ (R.to0 E) ho) rfl fun v_ w6 h_ => ?_)))))))))))))
 obtain ⟨rfl, E_⟩ := h_
 replace Bg1 := Bg1.mod0 E_
 replace E := E.then E_
 replace E3 := E3.then E_
 replace E8 := E8.then E_
 refine Ln (e_K (hK5 _ _ _ _ ?_))
 refine c_cond rfl (fun h14 => ?_) (fun h14 => ?_)
 ·exact Cq fun K6 hK6 => Cr (Za rfl (Ln (e_K (hK6 _ _ _ _ (cR (eT (by simp) (ret1 rfl rfl ⟨rfl, E⟩)))))))
 ·have hg : e.great 4096 = false := by
   have := h14
   rw [EV.g13, Bool.or_eq_false_iff] at this
   exact this.2
  have hlens := EV.lens_of4 hg
  have hfew : e.few := EV.few_of hg (by omega)
  refine cK (e_K (hK4 _ _ _ _ (Cq fun K7 hK7 => c_draw wide (by kernel_rfl) (tv (fun w_ E_ => (o_lda (vs := [_, _, _, _, _, _, _, _, _, _, _, _, _, _, _, _, _]) ag48 rfl rfl ((Bg1.mod0 E_).cs rfl))) rfl rfl (tc (fun w_ E_ => oC ent41 rfl) (fun w_ E_ => c_sHash _ e _ (R.to0 (E.then E_)) ho hlens hfew (hT.mod (E.then E_) (by simp)) (hM.mod0 (E.then E_)) (hD.mod0 (E.then E_))) rfl rfl (tv (fun w_ E_ => (o_lda (vs := [_, _, _, _, _, _, _, _, _, _, _, _, _, _, _, _, _]) ag48 rfl rfl ((Bg1.mod0 E_).cs rfl))) rfl rfl (tc (fun w_ E_ => oC ent45 rfl) (fun w_ E_ => c_rHash _ e _ (R.to0 (E.then E_)) ho hlens hfew (hT.mod (E.then E_) (by simp)) (hM.mod0 (E.then E_)) (hD.mod0 (E.then E_))) rfl rfl (tv (fun w_ E_ => (o_seq rfl rfl)) rfl rfl (tv (fun w_ E_ => (oM rfl)) rfl rfl (tvg rfl (dT rfl) (fun w_ E_ => (o_lda (vs := [_, _, _, _, _, _, _, _, _, _, _, _, _, _, _, _, _]) ag48 rfl rfl ((Bg1.mod0 E_).cs rfl))) rfl rfl (tcg rfl (dT rfl) (fun w_ E_ => oC ent46 rfl) (fun w_ E_ => c_sBytes _ e _ (R.to0 (E.then E_)) ho hlens hfew (hT.mod (E.then E_) (by simp)) (hM.mod0 (E.then E_))) rfl rfl (tvg rfl (dT rfl) (fun w_ E_ => (o_lda (vs := [_, _, _, _, _, _, _, _, _, _, _, _, _, _, _, _, _]) ag48 rfl rfl ((Bg1.mod0 E_).cs rfl))) rfl rfl (tcg rfl (dT rfl) (fun w_ E_ => oC ent47 rfl) (fun w_ E_ => c_rBytes _ e _ (R.to0 (E.then E_)) ho hlens hfew (hT.mod (E.then E_) (by simp)) (hM.mod0 (E.then E_)) (hD.mod0 (E.then E_))) rfl rfl ?_)))))))))))))
  refine tvg rfl (dT rfl) (fun w_ E_ => (o_seq rfl rfl)) rfl rfl (tv (fun w_ E_ => (oT (dT rfl) rfl rfl)) rfl rfl (tv (fun w_ E_ => (oM rfl)) rfl rfl (tvg rfl (dT rfl) (fun w_ E_ => (o_lda (vs := [_, _, _, _, _, _, _, _, _, _, _, _, _, _, _, _, _]) ag48 rfl rfl ((Bg1.mod0 E_).cs rfl))) rfl rfl (tcg rfl (dT rfl) (fun w_ E_ => oC ent43 rfl) (fun w_ E_ => c_sName _ e _ (R.to0 (E.then E_)) ho hlens hfew (hT.mod (E.then E_) (by simp)) (hM.mod0 (E.then E_)) (hD.mod0 (E.then E_))) rfl rfl (tvg rfl (dT rfl) (fun w_ E_ => (o_lda (vs := [_, _, _, _, _, _, _, _, _, _, _, _, _, _, _, _, _]) ag48 rfl rfl ((Bg1.mod0 E_).cs rfl))) rfl rfl (tcg rfl (dT rfl) (fun w_ E_ => oC ent48 rfl) (fun w_ E_ => c_rName _ e _ (R.to0 (E.then E_)) ho hlens hfew (hT.mod (E.then E_) (by simp)) (hM.mod0 (E.then E_)) (hD.mod0 (E.then E_))) rfl rfl (tvg rfl (dT rfl) (fun w_ E_ => (o_seq rfl rfl)) rfl rfl (tv (fun w_ E_ => (oT (dT rfl) rfl rfl)) rfl rfl (tv (fun w_ E_ => (o_as rfl)) rfl rfl (tw_nil rfl fun w7 E_ => ?_))))))))))
  replace Bg1 := Bg1.mod0 E_
  replace E := E.then E_
  replace E3 := E3.then E_
  replace E8 := E8.then E_
  exact e_K (hK7 _ _ _ _ (cR (ret1 rfl rfl ⟨by first | rfl | exact congrArg Value.bool (dT rfl), E⟩)))
end Go.Proofs.YtknndpjacklkeaaGreatDoor.V
