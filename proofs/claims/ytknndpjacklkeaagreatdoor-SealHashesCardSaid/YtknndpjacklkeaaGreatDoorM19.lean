/-
  A part of the proof: the document's Content, told member by member; the laws of Content, last steps; the text of what stays of a content is no longer than the content's; what stays, stays; a drawn region's operations that look at two or three slots of which something is known; its tail behind two such slots; a list of structs of the call's own that grows, each with memory of its own behind it; a list of structs of the call's own that grows, each with memory of its own behind it; what stays of a content is no longer than memory. No condition of its own.
-/
import Derived.Test.YtknndpjacklkeaaGreatDoorM18
import Derived.Test.YtknndpjacklkeaaGreatDoorM4
import Derived.Test.YtknndpjacklkeaaGreatDoorM15
import Derived.Test.YtknndpjacklkeaaGreatDoorM8
set_option linter.unusedVariables false
set_option linter.unusedSimpArgs false
set_option maxRecDepth 10000
namespace Go.Proofs.YtknndpjacklkeaaGreatDoor.V
open Go Go.Proofs
theorem ent73 : Ent Tryz.prog 73 := Ent.of Tryz.func73 (by kernel_rfl) (by kernel_rfl)
theorem ent175 : Ent Tryz.prog 175 := Ent.of Tryz.func175 (by kernel_rfl) (by kernel_rfl)
theorem ent74 : Ent Tryz.prog 74 := Ent.of Tryz.func74 (by kernel_rfl) (by kernel_rfl)
theorem c_contentA (A : List Nat) (w : World) (hAl : ∀ a ∈ A, a < w.heap.size) (kind : Str) (v : JV) (us : List Value) (R : Reps A w v.D us) (hva : ascM v.map) (hvn : v.map.length ≤ 1353245080310) (hta : ascM v.third.map) (htn : v.third.map.length ≤ 1353245080310) : Calls Tryz.prog 139 [S kind, .agg us.toArray].toArray w (Ret fun u w' => ∃ us', u = .agg us'.toArray ∧ Reps A w' (JV.content kind v).D us' ∧ Mod [] w w') := by
 refine enter Tryz.func139 rfl rfl rfl (l := [(0, _), (1, _)]) ⟨rfl, rfl, trivial⟩ ?_
 have E := Mod.refl [] w
 obtain ⟨alv, clv, amv, cmv, rfl, Rlv, Rmv⟩ := JV.cells_ R
 have R := JV.reps_ Rlv Rmv
 refine Cq fun K1 hK1 => Cr (s_box rfl rfl rfl fun g1 w1 N1 => ?_)
 have Lg1_E := N1.le E
 replace E := E.then N1.mod
 have Bg1 := N1.blk
 refine s_alloc zv25 rfl fun g2 w2 N2 => ?_
 have Lg2_E := N2.le E
 have Dg1_g2 := N2.ne Bg1
 replace Bg1 := Bg1.mod0 N2.mod
 replace E := E.then N2.mod
 have Bg2 := N2.blk
 refine Ln (e_K (hK1 _ _ _ _ (Cq fun K2 hK2 => Cr (Zm rfl (sc (oC ent175 rfl) (c_kept [] _ (by simp) kind) rfl fun v_ w3 h_ => ?_)))))
 obtain ⟨u1, rfl, Ru, E_⟩ := h_
 replace Bg1 := Bg1.mod0 E_
 replace Bg2 := Bg2.mod0 E_
 replace E := E.then E_
 have Ek1 := Mod.refl [] w3
 obtain ⟨adk, ck, rfl, hk1, hk2⟩ := flat_len Ru
 have hkl := JV.kept_len kind
 refine tW 5 rfl (Ln (e_K (hK2 _ _ _ _ (Cq fun K3 hK3 => Cq fun K4 hK4 => Cr (Zm rfl (Ln (e_K (hK4 _ _ _ _ ?_))))))))
 refine c_cond rfl (fun h21 => ?_) (fun h21 => ?_)
 ·have hcr : kind = kCreate := of_decide_eq_true h21
  have hcont : JV.content kind v = v := if_pos hcr
  refine Cq fun K5 hK5 => Cr (Sv (o_lda (vs := [_, _, _, _, _, _]) ag25 rfl rfl (Bg1.cs rfl)) (s_sta (vs := [_, _, _, _, _, _]) ag25 Bg2 rfl rfl rfl (by simp [Value.oneCell']) (by simp) fun w4 P4 => ?_))
  replace Bg1 := Bg1.ne P4.mod (Ne.symm (Ne.symm Dg1_g2))
  replace E := E.own P4.mod Lg2_E
  replace Bg2 : Blk w4 g2 _ [_, _, _, _, _, _] := P4.blk
  exact Ln (e_K (hK5 _ _ _ _ (cR (eT (by simp) (retc (vs := [_, _, _, _, _, _]) rfl ag25 rfl rfl (Bg2.cs rfl) ⟨_, rfl, by rw [hcont]; exact R.to0 E, E⟩)))))
 ·have hcr : ¬ kind = kCreate := of_decide_eq_false h21
  refine cK (e_K (hK3 _ _ _ _ (Cq fun K6 hK6 => Cr (sc (oC ent73 rfl) (c_jmap (g2 :: A) _ (fun a ha => by rcases List.mem_cons.1 ha with rfl | ha; exact Bg2.lt; exact Nat.lt_of_lt_of_le (hAl a ha) E.size) [] _ Rep.sl_nil (by simp)) rfl fun v_ w5 h_ => ?_))))
  obtain ⟨us2, rfl, Ro, E_⟩ := h_
  replace Bg1 := Bg1.mod0 E_
  replace Bg2 := Bg2.mod0 E_
  replace E := E.then E_
  replace Ek1 := Ek1.then E_
  have Ek2 := Mod.refl [] w5
  obtain ⟨al0, cl0, am0, cm0, rfl, Rl0, Rm0⟩ := JV.cells_ Ro
  replace Ro := JV.reps_ Rl0 Rm0
  refine s_alloc zv25 rfl fun g3 w6 N3 => ?_
  have Lg3_E := N3.le E
  have Lg3_Ek1 := N3.le Ek1
  have Lg3_Ek2 := N3.le Ek2
  have Dg1_g3 := N3.ne Bg1
  have Dg2_g3 := N3.ne Bg2
  replace Bg1 := Bg1.mod0 N3.mod
  replace Bg2 := Bg2.mod0 N3.mod
  replace E := E.then N3.mod
  replace Ek1 := Ek1.then N3.mod
  replace Ek2 := Ek2.then N3.mod
  have Bg3 := N3.blk
  refine s_sta (vs := [_, _, _, _, _, _]) ag25 Bg3 rfl rfl rfl (by simp [Value.oneCell']) (by simp) fun w7 P7 => ?_
  replace Bg1 := Bg1.ne P7.mod (Ne.symm (Ne.symm Dg1_g3))
  replace Bg2 := Bg2.ne P7.mod (Ne.symm (Ne.symm Dg2_g3))
  replace E := E.own P7.mod Lg3_E
  replace Ek1 := Ek1.own P7.mod Lg3_Ek1
  replace Ek2 := Ek2.own P7.mod Lg3_Ek2
  replace Bg3 : Blk w7 g3 _ [_, _, _, _, _, _] := P7.blk
  refine Ln (e_K (hK6 _ _ _ _ (Cq fun K7 hK7 => Cq fun K8 hK8 => ?_)))
  have Ro2 := (Ro.more (A' := (g2 :: g3 :: A)) (fun a ha => by rcases List.mem_cons.1 ha with rfl | ha; exact .inl (by simp); rcases List.mem_cons.1 ha with rfl | ha; exact .inr Lg3_Ek2; exact .inl (by simp [ha]))).to0 Ek2
  refine Cr (Zm rfl (Sv (o_len Tryz.underlying45 rfl) (Zm rfl (Ln (e_K (hK8 _ _ _ _ (cB (c_loop (σ := Nat × Option Addr × Nat × Option Addr × Nat) (fun ⟨k, al, cl, am, cm⟩ => [(0, S kind), (3, .pointer (some ⟨g1, 0, none⟩)), (4, .pointer (some ⟨g2, 0, none⟩)), (7, .pointer (some ⟨g3, 0, none⟩)), (24, .slice adk (keptK kind).length ck), (25, .int .i64 (keptK kind).length), (26, .int .i64 (k : Int))]) (fun ⟨k, al, cl, am, cm⟩ w1 => k ≤ (keptK kind).length ∧ Reps (g2 :: g3 :: A) w1 (JV.obj (v.kf (keptK kind) k)).D [.int .i64 5, .bool false, .int .i64 0, S [], .slice al 0 cl, .slice am ((v.kf (keptK kind) k)).length cm] ∧ Blk w1 g3 25 [.int .i64 5, .bool false, .int .i64 0, S [], .slice al 0 cl, .slice am ((v.kf (keptK kind) k)).length cm] ∧ Blk w1 g2 25 [.int .i64 0, .bool false, .int .i64 0, S [], .slice none 0 0, .slice none 0 0] ∧ Blk w1 g1 25 [.int .i64 v.kind, .bool v.is, .int .i64 v.num, S v.str, .slice alv v.list.length clv, .slice amv v.map.length cmv] ∧ Mod [] w w1 ∧ Mod [] w3 w1) (fun ⟨k, al, cl, am, cm⟩ => (keptK kind).length - k) (⟨0, al0, cl0, am0, cm0⟩) ⟨rfl, rfl, rfl, rfl, rfl, rfl, rfl, trivial⟩ (⟨by omega, Ro2, Bg3, Bg2, Bg1, E, Ek1⟩) ?_))))))))
  rintro ⟨k, al, cl, am, cm⟩ w8 ⟨hk, Rk, Bg3, Bg2, Bg1, E, Ek1⟩
  have Ek := Mod.refl [] w8
  refine Cq fun K9 hK9 => Cr (Sv (o_lss rfl rfl) (Ln (e_K (hK9 _ _ _ _ (Cq fun K10 hK10 => ?_)))))
  refine c_if rfl (fun h27 => ?_) (fun h27 => ?_)
  ·obtain ⟨q, hx_q⟩ : ∃ q, (keptK kind)[k]? = some q := ⟨_, List.getElem?_eq_getElem (by omega)⟩
   obtain ⟨a_q, ha_q, hcs_q, _⟩ := flat_at (Ru.to0 Ek1) hx_q
   obtain rfl := ha_q
   refine cK (e_K (hK10 _ _ _ _ (Cq fun K11 hK11 => cB (Cq fun K12 hK12 => Cr (Sv (o_ix sl45 rfl rfl (by omega)) (Sv (oL sc9 rfl hcs_q.first) (Za rfl (Ln (e_K (hK12 _ _ _ _ (Cq fun K13 hK13 => Cr (Sv (o_lda (vs := [_, _, _, _, _, _]) ag25 rfl rfl (Bg1.cs rfl)) ?_))))))))))))
   refine Zm rfl (sc (oC ent74 rfl) (c_jget A w _ E v _ R q hva hvn) rfl fun v_ w9 h_ => ?_)
   obtain ⟨us3, rfl, Rg, E_⟩ := h_
   replace Bg1 := Bg1.mod0 E_
   replace Bg2 := Bg2.mod0 E_
   replace Bg3 := Bg3.mod0 E_
   replace E := E.then E_
   replace Ek1 := Ek1.then E_
   replace Ek := Ek.then E_
   obtain ⟨al3, cl3, am3, cm3, rfl, Rl3, Rm3⟩ := JV.cells_ Rg
   replace Rg := JV.reps_ Rl3 Rm3
   refine tW 3 rfl (s_alloc zv25 rfl fun g4 w10 N4 => ?_)
   have Lg4_E := N4.le E
   have Lg4_Ek1 := N4.le Ek1
   have Lg4_Ek := N4.le Ek
   have Dg1_g4 := N4.ne Bg1
   have Dg2_g4 := N4.ne Bg2
   have Dg3_g4 := N4.ne Bg3
   replace Bg1 := Bg1.mod0 N4.mod
   replace Bg2 := Bg2.mod0 N4.mod
   replace Bg3 := Bg3.mod0 N4.mod
   replace E := E.then N4.mod
   replace Ek1 := Ek1.then N4.mod
   replace Ek := Ek.then N4.mod
   have Bg4 := N4.blk
   refine s_sta (vs := [_, _, _, _, _, _]) ag25 Bg4 rfl rfl rfl (by simp [Value.oneCell']) (by simp) fun w11 P11 => ?_
   replace Bg1 := Bg1.ne P11.mod (Ne.symm (Ne.symm Dg1_g4))
   replace Bg2 := Bg2.ne P11.mod (Ne.symm (Ne.symm Dg2_g4))
   replace Bg3 := Bg3.ne P11.mod (Ne.symm (Ne.symm Dg3_g4))
   replace E := E.own P11.mod Lg4_E
   replace Ek1 := Ek1.own P11.mod Lg4_Ek1
   replace Ek := Ek.own P11.mod Lg4_Ek
   replace Bg4 : Blk w11 g4 _ [_, _, _, _, _, _] := P11.blk
   refine Za rfl (Ln (e_K (hK13 _ _ _ _ (Cq fun K14 hK14 => Cr (Zm rfl (Ln (e_K (hK14 _ _ _ _ ?_))))))))
   refine c_cond rfl (fun h36 => ?_) (fun h36 => ?_)
   ·refine Cr (Sv (o_lda (vs := [_, _, _, _, _, _]) ag25 rfl rfl (Bg3.cs rfl)) (Zm rfl (Sv (o_lda (vs := [_, _, _, _, _, _]) ag25 rfl rfl (Bg4.cs rfl)) (sc (oC ent25 rfl) (c_jput (g2 :: g3 :: A) _ (fun a ha => by rcases List.mem_cons.1 ha with rfl | ha; exact Bg2.lt; rcases List.mem_cons.1 ha with rfl | ha; exact Bg3.lt; exact Nat.lt_of_lt_of_le (hAl a ha) E.size) (JV.obj (v.kf (keptK kind) k)) ((v.get q).getD JV.nul) _ _ (Rk.to0 Ek) ((Rg.more (A' := (g2 :: g3 :: A)) (fun a ha => by rcases List.mem_cons.1 ha with rfl | ha; exact .inr Lg2_E; rcases List.mem_cons.1 ha with rfl | ha; exact .inr Lg3_E; exact .inl ha)).to0 E) q (by rw [JV.tbl_obj]; exact JV.kf_asc) (by rw [JV.tbl_obj]; have := JV.kf_len (v := v) (K := keptK kind) (k := k); omega)) rfl fun v_ w12 h_ => ?_))))
    obtain ⟨us4, rfl, Rp, E_⟩ := h_
    replace Bg1 := Bg1.mod0 E_
    replace Bg2 := Bg2.mod0 E_
    replace Bg3 := Bg3.mod0 E_
    replace Bg4 := Bg4.mod0 E_
    replace E := E.then E_
    replace Ek1 := Ek1.then E_
    replace Ek := Ek.then E_
    rw [JV.tbl_obj] at Rp
    rw [← JV.kf_yes hx_q h36] at Rp
    obtain ⟨al4, cl4, am4, cm4, rfl, Rl4, Rm4⟩ := JV.cells_ Rp
    replace Rp := JV.reps_ Rl4 Rm4
    have hS : v.kf (keptK kind) (k + 1) = v.kf (keptK kind) (k + 1) := rfl
    refine s_sta (vs := [_, _, _, _, _, _]) ag25 Bg3 rfl rfl rfl (by simp [Value.oneCell']) (by simp) fun w13 P13 => ?_
    replace Bg1 := Bg1.ne P13.mod (Ne.symm (Ne.symm Dg1_g3))
    replace Bg2 := Bg2.ne P13.mod (Ne.symm (Ne.symm Dg2_g3))
    replace Bg4 := Bg4.ne P13.mod (Ne.symm Dg3_g4)
    replace E := E.own P13.mod Lg3_E
    replace Ek1 := Ek1.own P13.mod Lg3_Ek1
    replace Bg3 : Blk w13 g3 _ [_, _, _, _, _, _] := P13.blk
    have Rp2 := Rp.toM P13.mod (fun a ha => by simp [List.mem_singleton.1 ha])
    exact Ln (eI (by simp) (e_K (hK11 _ _ _ _ (Cr (Sv (o_addN rfl rfl (by omega)) (Zm rfl (Ln (eR (σ := Nat × Option Addr × Nat × Option Addr × Nat) (s := ⟨k, al, cl, am, cm⟩) (⟨k + 1, al4, cl4, am4, cm4⟩) ⟨rfl, rfl, rfl, rfl, rfl, rfl, rfl, trivial⟩ ⟨by omega, by rw [hS]; exact Rp2, by rw [hS]; exact Bg3, Bg2, Bg1, E, Ek1⟩ (by dsimp only; omega)))))))))
   ·have hS := JV.kf_no hx_q h36
    exact cK (eI (by simp) (e_K (hK11 _ _ _ _ (Cr (Sv (o_addN rfl rfl (by omega)) (Zm rfl (Ln (eR (σ := Nat × Option Addr × Nat × Option Addr × Nat) (s := ⟨k, al, cl, am, cm⟩) (⟨k + 1, al, cl, am, cm⟩) ⟨rfl, rfl, rfl, rfl, rfl, rfl, rfl, trivial⟩ ⟨by omega, by rw [hS]; exact Rk.to0 Ek, by rw [hS]; exact Bg3, Bg2, Bg1, E, Ek1⟩ (by dsimp only; omega)))))))))
  ·have hkf : (v.kf (keptK kind) k) = v.keep (keptK kind) := JV.kf_all (by omega)
   refine c_exit (eT (by simp) (eT (by simp) (e_hit (e_K (hK7 _ _ _ _ (Cq fun K15 hK15 => Cr (Sv (o_lda (vs := [_, _, _, _, _, _]) ag25 rfl rfl (Bg1.cs rfl)) (sc (oC ent74 rfl) (c_jget A w _ E v _ R kThird hva hvn) rfl fun v_ w14 h_ => ?_))))))))
   obtain ⟨us5, rfl, Rt, E_⟩ := h_
   replace Bg1 := Bg1.mod0 E_
   replace Bg2 := Bg2.mod0 E_
   replace Bg3 := Bg3.mod0 E_
   replace E := E.then E_
   replace Ek1 := Ek1.then E_
   replace Ek := Ek.then E_
   have Rt : Reps A w v.third.D us5 := Rt
   obtain ⟨al5, cl5, am5, cm5, rfl, Rl5, Rm5⟩ := JV.cells_ Rt
   replace Rt := JV.reps_ Rl5 Rm5
   refine tW 3 rfl (s_alloc zv25 rfl fun g5 w15 N5 => ?_)
   have Lg5_E := N5.le E
   have Lg5_Ek1 := N5.le Ek1
   have Lg5_Ek := N5.le Ek
   have Dg1_g5 := N5.ne Bg1
   have Dg2_g5 := N5.ne Bg2
   have Dg3_g5 := N5.ne Bg3
   replace Bg1 := Bg1.mod0 N5.mod
   replace Bg2 := Bg2.mod0 N5.mod
   replace Bg3 := Bg3.mod0 N5.mod
   replace E := E.then N5.mod
   replace Ek1 := Ek1.then N5.mod
   replace Ek := Ek.then N5.mod
   have Bg5 := N5.blk
   refine s_sta (vs := [_, _, _, _, _, _]) ag25 Bg5 rfl rfl rfl (by simp [Value.oneCell']) (by simp) fun w16 P16 => ?_
   replace Bg1 := Bg1.ne P16.mod (Ne.symm (Ne.symm Dg1_g5))
   replace Bg2 := Bg2.ne P16.mod (Ne.symm (Ne.symm Dg2_g5))
   replace Bg3 := Bg3.ne P16.mod (Ne.symm (Ne.symm Dg3_g5))
   replace E := E.own P16.mod Lg5_E
   replace Ek1 := Ek1.own P16.mod Lg5_Ek1
   replace Ek := Ek.own P16.mod Lg5_Ek
   replace Bg5 : Blk w16 g5 _ [_, _, _, _, _, _] := P16.blk
   refine Za rfl (Ln (e_K (hK15 _ _ _ _ (Cq fun K16 hK16 => Cq fun K17 hK17 => Cr (Sv (o_lda (vs := [_, _, _, _, _, _]) ag25 rfl rfl (Bg5.cs rfl)) (sc (oC ent74 rfl) (c_jget A w _ E v.third _ Rt kSigned hta htn) rfl fun v_ w17 h_ => ?_))))))
   obtain ⟨us6, rfl, Rs, E_⟩ := h_
   replace Bg1 := Bg1.mod0 E_
   replace Bg2 := Bg2.mod0 E_
   replace Bg3 := Bg3.mod0 E_
   replace Bg5 := Bg5.mod0 E_
   replace E := E.then E_
   replace Ek1 := Ek1.then E_
   replace Ek := Ek.then E_
   obtain ⟨al6, cl6, am6, cm6, rfl, Rl6, Rm6⟩ := JV.cells_ Rs
   replace Rs := JV.reps_ Rl6 Rm6
   refine tW 3 rfl (s_alloc zv25 rfl fun g6 w18 N6 => ?_)
   have Lg6_E := N6.le E
   have Lg6_Ek1 := N6.le Ek1
   have Lg6_Ek := N6.le Ek
   have Dg1_g6 := N6.ne Bg1
   have Dg2_g6 := N6.ne Bg2
   have Dg3_g6 := N6.ne Bg3
   have Dg5_g6 := N6.ne Bg5
   replace Bg1 := Bg1.mod0 N6.mod
   replace Bg2 := Bg2.mod0 N6.mod
   replace Bg3 := Bg3.mod0 N6.mod
   replace Bg5 := Bg5.mod0 N6.mod
   replace E := E.then N6.mod
   replace Ek1 := Ek1.then N6.mod
   replace Ek := Ek.then N6.mod
   have Bg6 := N6.blk
   refine s_sta (vs := [_, _, _, _, _, _]) ag25 Bg6 rfl rfl rfl (by simp [Value.oneCell']) (by simp) fun w19 P19 => ?_
   replace Bg1 := Bg1.ne P19.mod (Ne.symm (Ne.symm Dg1_g6))
   replace Bg2 := Bg2.ne P19.mod (Ne.symm (Ne.symm Dg2_g6))
   replace Bg3 := Bg3.ne P19.mod (Ne.symm (Ne.symm Dg3_g6))
   replace Bg5 := Bg5.ne P19.mod (Ne.symm (Ne.symm Dg5_g6))
   replace E := E.own P19.mod Lg6_E
   replace Ek1 := Ek1.own P19.mod Lg6_Ek1
   replace Ek := Ek.own P19.mod Lg6_Ek
   replace Bg6 : Blk w19 g6 _ [_, _, _, _, _, _] := P19.blk
   refine Za rfl (Ln (e_K (hK17 _ _ _ _ (Cq fun K18 hK18 => Cr (Zm rfl ?_)))))
   refine bB (fun hs14_0 : (v.third.get kSigned).isSome = true => ?_) (fun hs14_0 => ?_)
   ·refine tW 2 rfl (Sg rfl rfl (o_seq rfl rfl) (Sv (oT rfl rfl rfl) (Ln (e_K (hK18 _ _ _ _ ?_)))))
    refine c_if rfl (fun h56 => ?_) (fun h56 => ?_)
    ·have hcont := JV.content_yes hcr hs14_0 h56
     rw [← hkf] at hcont
     refine c_drawp [] [0, 1, 2, 3, 4, 5] 6 [] wide (by kernel_rfl) (fun _ _ _ h => h.2) (pw_nil (tv (fun w_ E_ => (o_lda (vs := [_, _, _, _, _, _]) ag25 rfl rfl ((Bg3.mod0 E_).cs rfl))) rfl rfl (tv (fun w_ E_ => (o_lda (vs := [_, _, _, _, _, _]) ag25 rfl rfl ((Bg6.mod0 E_).cs rfl))) rfl rfl (tv (fun w_ E_ => (o_build (cs := [_, _, _, _, _, _, _]) pl44 zv44 rfl rfl)) rfl rfl ?_))))
     refine t_bslice (cs := [_, _, _, _, _, _, _]) (fun u w_ => Rep (g2 :: g3 :: A) w_ (.sl 7 ([(kSigned, ((v.third.get kSigned).getD JV.nul))].map JV.Dp)) u) (fun v_ w1_ w2_ k_ h_ => h_.to0 k_) sl23 zv44 rfl rfl rfl (by decide) (fun w_ g w2_ E_ N_ => ?_) rfl rfl ?_
     ·exact Own.mem_ (A := (g2 :: g3 :: A)) (m := [(kSigned, ((v.third.get kSigned).getD JV.nul))]) (Own.all (cs := [_, _, _, _, _, _, _]) N_.blk rfl (by omega)) (by simpa using JV.Dp_reps (p := (kSigned, ((v.third.get kSigned).getD JV.nul))) ((Rs.more (A' := (g2 :: g3 :: A)) (fun a ha => by rcases List.mem_cons.1 ha with rfl | ha; exact .inr Lg2_E; rcases List.mem_cons.1 ha with rfl | ha; exact .inr Lg3_E; exact .inl ha)).to0 ((E.then E_).then N_.mod))) rfl (fun x hx h => by
       simp only [ob, List.mem_singleton] at hx
       subst hx
       have h1 := N_.ne (Bg2.mod0 E_)
       have h2 := N_.ne (Bg3.mod0 E_)
       simp only [List.mem_cons] at h
       rcases h with h | h | h
       ·exact h1 h.symm
       ·exact h2 h.symm
       ·have h3 := hAl _ h
        have h4 := N_.at_
        have h5 := (E.then E_).size
        omega)
     refine tcr1 (fun u w_ => ∃ us, u = .agg us.toArray ∧ Reps (g2 :: g3 :: A) w_ (JV.obj (putAll [(kSigned, ((v.third.get kSigned).getD JV.nul))] 1)).D us) (fun v_ w1_ w2_ k_ h_ => by obtain ⟨us_, e_, r_⟩ := h_; exact ⟨us_, e_, r_.to0 k_⟩) 60 rfl rfl ⟨_, List.Mem.tail _ (List.Mem.head _), rfl⟩ (fun w_ u_ E_ h_ => oC ent73 rfl) (fun w_ u_ E_ h_ => Calls.imp (c_jmap (g2 :: g3 :: A) _ (fun a ha => by rcases List.mem_cons.1 ha with rfl | ha; exact (Bg2.mod0 E_).lt; rcases List.mem_cons.1 ha with rfl | ha; exact (Bg3.mod0 E_).lt; exact Nat.lt_of_lt_of_le (hAl a ha) (E.then E_).size) [(kSigned, ((v.third.get kSigned).getD JV.nul))] _ h_ (by simp)) fun r_ w2_ hr => by obtain ⟨us_, e_, r2_, k_⟩ := hr; exact ⟨⟨us_, e_, r2_⟩, k_⟩) rfl rfl rfl ?_
     refine tcr1 (args := fun u_ => [_, _, u_].toArray) (fun u w_ => ∃ us, u = .agg us.toArray ∧ Reps (g2 :: g3 :: A) w_ (JV.obj (putM (v.kf (keptK kind) k) kThird (JV.obj (putAll [(kSigned, ((v.third.get kSigned).getD JV.nul))] 1)))).D us) (fun v_ w1_ w2_ k_ h_ => by obtain ⟨us_, e_, r_⟩ := h_; exact ⟨us_, e_, r_.to0 k_⟩) 61 rfl rfl ⟨_, List.Mem.tail _ (List.Mem.tail _ (List.Mem.tail _ (List.Mem.head _))), rfl⟩ (fun w_ u_ E_ h_ => oC ent25 rfl) (fun w_ u_ E_ h_ => by
      obtain ⟨us_, rfl, r0_⟩ := h_
      exact Calls.imp (c_jput (g2 :: g3 :: A) _ (fun a ha => by rcases List.mem_cons.1 ha with rfl | ha; exact (Bg2.mod0 E_).lt; rcases List.mem_cons.1 ha with rfl | ha; exact (Bg3.mod0 E_).lt; exact Nat.lt_of_lt_of_le (hAl a ha) (E.then E_).size) (JV.obj (v.kf (keptK kind) k)) (JV.obj (putAll [(kSigned, ((v.third.get kSigned).getD JV.nul))] 1)) _ _ ((Rk.to0 Ek).to0 E_) r0_ kThird (by rw [JV.tbl_obj]; exact JV.kf_asc) (by rw [JV.tbl_obj]; have := JV.kf_len (v := v) (K := keptK kind) (k := k); omega)) fun r_ w2_ hr => by
       obtain ⟨us_, e_, r2_, k_⟩ := hr
       rw [JV.tbl_obj] at r2_
       exact ⟨⟨us_, e_, r2_⟩, k_⟩) rfl rfl rfl ?_
     refine tw_tail1 (t := 62) rfl rfl rfl rfl fun w20 v_ E_ h_ => ?_
     obtain ⟨us8, rfl, Rp⟩ := h_
     obtain ⟨al8, cl8, am8, cm8, rfl, Rl8, Rm8⟩ := JV.cells_ Rp
     replace Rp := JV.reps_ Rl8 Rm8
     replace Bg1 := Bg1.mod0 E_
     replace Bg2 := Bg2.mod0 E_
     replace Bg3 := Bg3.mod0 E_
     replace Bg5 := Bg5.mod0 E_
     replace Bg6 := Bg6.mod0 E_
     replace E := E.then E_
     replace Ek1 := Ek1.then E_
     replace Ek := Ek.then E_
     refine s_sta (vs := [_, _, _, _, _, _]) ag25 Bg3 rfl rfl rfl (by simp [Value.oneCell']) (by simp) fun w21 P21 => ?_
     replace Bg1 := Bg1.ne P21.mod (Ne.symm (Ne.symm Dg1_g3))
     replace Bg2 := Bg2.ne P21.mod (Ne.symm (Ne.symm Dg2_g3))
     replace Bg5 := Bg5.ne P21.mod (Ne.symm Dg3_g5)
     replace Bg6 := Bg6.ne P21.mod (Ne.symm Dg3_g6)
     replace E := E.own P21.mod Lg3_E
     replace Ek1 := Ek1.own P21.mod Lg3_Ek1
     replace Bg3 : Blk w21 g3 _ [_, _, _, _, _, _] := P21.blk
     have Rf := Rp.toM P21.mod (fun a ha => by simp [List.mem_singleton.1 ha])
     refine Ln (e_K (hK16 _ _ _ _ (Cq fun K19 hK19 => Cr (Sv (o_lda (vs := [_, _, _, _, _, _]) ag25 rfl rfl (Bg3.cs rfl)) ?_))))
     skip
     refine s_sta (vs := [_, _, _, _, _, _]) ag25 Bg2 rfl rfl rfl (by simp [Value.oneCell']) (by simp) fun w22 P22 => ?_
     replace Bg1 := Bg1.ne P22.mod (Ne.symm (Ne.symm Dg1_g2))
     replace Bg3 := Bg3.ne P22.mod (Ne.symm Dg2_g3)
     replace Bg5 := Bg5.ne P22.mod (Ne.symm Dg2_g5)
     replace Bg6 := Bg6.ne P22.mod (Ne.symm Dg2_g6)
     replace E := E.own P22.mod Lg2_E
     replace Bg2 : Blk w22 g2 _ [_, _, _, _, _, _] := P22.blk
     have Rf2 := (Rf.toM P22.mod (fun a ha => by simp [List.mem_singleton.1 ha])).anti (A' := A) (fun a ha => by simp [ha])
     exact Ln (e_K (hK19 _ _ _ _ (cR (retc (vs := [_, _, _, _, _, _]) rfl ag25 rfl rfl (Bg2.cs rfl) ⟨_, rfl, by rw [hcont]; exact Rf2, E⟩))))
    ·have hcont := JV.content_no2 (v := v) hcr h56
     rw [← hkf] at hcont
     refine cK (e_K (hK16 _ _ _ _ (Cq fun K20 hK20 => Cr (Sv (o_lda (vs := [_, _, _, _, _, _]) ag25 rfl rfl (Bg3.cs rfl)) ?_))))
     have Rf := Rk.to0 Ek
     refine s_sta (vs := [_, _, _, _, _, _]) ag25 Bg2 rfl rfl rfl (by simp [Value.oneCell']) (by simp) fun w23 P23 => ?_
     replace Bg1 := Bg1.ne P23.mod (Ne.symm (Ne.symm Dg1_g2))
     replace Bg3 := Bg3.ne P23.mod (Ne.symm Dg2_g3)
     replace Bg5 := Bg5.ne P23.mod (Ne.symm Dg2_g5)
     replace Bg6 := Bg6.ne P23.mod (Ne.symm Dg2_g6)
     replace E := E.own P23.mod Lg2_E
     replace Bg2 : Blk w23 g2 _ [_, _, _, _, _, _] := P23.blk
     have Rf2 := (Rf.toM P23.mod (fun a ha => by simp [List.mem_singleton.1 ha])).anti (A' := A) (fun a ha => by simp [ha])
     exact Ln (e_K (hK20 _ _ _ _ (cR (retc (vs := [_, _, _, _, _, _]) rfl ag25 rfl rfl (Bg2.cs rfl) ⟨_, rfl, by rw [hcont]; exact Rf2, E⟩))))
   ·refine tW 4 rfl (Ln (e_K (hK18 _ _ _ _ (c_false rfl ?_))))
    have hcont := JV.content_no1 hcr (bF hs14_0)
    rw [← hkf] at hcont
    refine cK (e_K (hK16 _ _ _ _ (Cq fun K21 hK21 => Cr (Sv (o_lda (vs := [_, _, _, _, _, _]) ag25 rfl rfl (Bg3.cs rfl)) ?_))))
    have Rf := Rk.to0 Ek
    refine s_sta (vs := [_, _, _, _, _, _]) ag25 Bg2 rfl rfl rfl (by simp [Value.oneCell']) (by simp) fun w24 P24 => ?_
    replace Bg1 := Bg1.ne P24.mod (Ne.symm (Ne.symm Dg1_g2))
    replace Bg3 := Bg3.ne P24.mod (Ne.symm Dg2_g3)
    replace Bg5 := Bg5.ne P24.mod (Ne.symm Dg2_g5)
    replace Bg6 := Bg6.ne P24.mod (Ne.symm Dg2_g6)
    replace E := E.own P24.mod Lg2_E
    replace Bg2 : Blk w24 g2 _ [_, _, _, _, _, _] := P24.blk
    have Rf2 := (Rf.toM P24.mod (fun a ha => by simp [List.mem_singleton.1 ha])).anti (A' := A) (fun a ha => by simp [ha])
    exact Ln (e_K (hK21 _ _ _ _ (cR (retc (vs := [_, _, _, _, _, _]) rfl ag25 rfl rfl (Bg2.cs rfl) ⟨_, rfl, by rw [hcont]; exact Rf2, E⟩))))

end Go.Proofs.YtknndpjacklkeaaGreatDoor.V

set_option linter.unusedVariables false
set_option linter.unusedSimpArgs false
namespace Go.Proofs.YtknndpjacklkeaaGreatDoor.V
open Go
theorem Own.as_ {w : World} {e sz m n : Nat} {v : Value} {vs : List Value} (h : Own w e sz v n vs) (hm : n = m) : Own w e sz v m vs := hm ▸ h
namespace JV
variable {kind : Str} {v : JV} {p : Str × JV}
def qf (kind : Str) (v : JV) (k : Nat) : List (Str × JV) := (v.map.take k).filterMap (stay kind)
theorem qf_len {k : Nat} : (qf kind v k).length ≤ k := by
 unfold qf
 have h1 := List.length_filterMap_le (stay kind) (v.map.take k)
 have h2 := List.length_take_le k v.map
 omega
theorem qf_some {k : Nat} {q : Str × JV} (h : v.map[k]? = some p) (hs : stay kind p = some q) : qf kind v (k + 1) = qf kind v k ++ [q] := by
 have hlt := (List.getElem?_eq_some_iff.1 h).1
 rw [qf, List.take_succ_eq_append_getElem hlt, (List.getElem?_eq_some_iff.1 h).2, List.filterMap_append, List.filterMap_cons_some hs]
 rfl
theorem qf_none {k : Nat} (h : v.map[k]? = some p) (hs : stay kind p = none) : qf kind v (k + 1) = qf kind v k := by
 have hlt := (List.getElem?_eq_some_iff.1 h).1
 rw [qf, List.take_succ_eq_append_getElem hlt, (List.getElem?_eq_some_iff.1 h).2, List.filterMap_append, List.filterMap_cons_none hs]
 simp [qf]
theorem qf_all {k : Nat} (h : v.map.length ≤ k) : qf kind v k = v.map.filterMap (stay kind) := by rw [qf, List.take_of_length_le h]
theorem stay_eq0 (h : ¬ (p.1 = kThird ∧ kind = k_member ∧ p.2.kind = 5)) : stay kind p = stay0 kind p := by rw [stay, if_neg h]
theorem stay_eq0' (h : (look p.2.map kSigned).isSome = false) : stay kind p = stay0 kind p := by
 cases hl : look p.2.map kSigned with
 | some y => rw [hl] at h; cases h
 | none =>
  unfold stay
  split
  ·simp [hl]
  ·rfl
theorem stay_yes (h1 : p.1 = kThird) (h2 : kind = k_member) (h3 : p.2.kind = 5) (h : (look p.2.map kSigned).isSome = true) : stay kind p = some (p.1, obj [(kSigned, (look p.2.map kSigned).getD nul)]) := by
 unfold stay
 rw [if_pos ⟨h1, h2, h3⟩]
 cases hl : look p.2.map kSigned with
 | none => rw [hl] at h; cases h
 | some y => rfl
theorem stay0_yes (h : p.1 ∈ keptK kind) : stay0 kind p = some p := if_pos h
theorem stay0_no (h : ¬ p.1 ∈ keptK kind) : stay0 kind p = none := if_neg h
theorem mem_take_succ {K : List Str} {j : Nat} {q s : Str} (h : K[j]? = some q) : s ∈ K.take (j + 1) ↔ s ∈ K.take j ∨ q = s := by
 have hlt := (List.getElem?_eq_some_iff.1 h).1
 rw [List.take_succ_eq_append_getElem hlt, (List.getElem?_eq_some_iff.1 h).2, List.mem_append, List.mem_singleton]
 exact or_congr Iff.rfl eq_comm
end JV
end Go.Proofs.YtknndpjacklkeaaGreatDoor.V

set_option linter.unusedVariables false
set_option linter.unusedSimpArgs false
namespace Go.Proofs.YtknndpjacklkeaaGreatDoor.V
open Go
namespace JV
def txtV (s : Str) : JV := .mk 3 false 0 s [] []
theorem txt_reps {A : List Nat} {w : World} {s : Str} : Reps A w (txtV s).D [.int .i64 3, .bool false, .int .i64 0, S s, .slice none 0 0, .slice none 0 0] := by
 have := reps_ (A := A) (w := w) (v := txtV s) (al := none) (am := none) (cl := 0) (cm := 0) Rep.sl_nil Rep.sl_nil
 exact this
theorem third_asc {v : JV} (h : v.Rise) : ascM v.third.map := by
 unfold third
 cases hg : v.get kThird with
 | none => exact List.Pairwise.nil
 | some x => exact ((Rise_eq x).1 (((Rise_eq v).1 h).2.2 _ (get_memA hg))).1
theorem third_len {v : JV} (h : v.ok) : v.third.map.length ≤ 1353245080310 := by
 unfold third
 cases hg : v.get kThird with
 | none => simp [nul, map]
 | some x =>
  have := ((ok_eq x).1 (((ok_eq v).1 h).2.2.2.2 _ (get_memA hg)).2).2.2.1
  simp only [Option.getD_some]
  omega
end JV
end Go.Proofs.YtknndpjacklkeaaGreatDoor.V

set_option linter.unusedVariables false
set_option linter.unusedSimpArgs false
set_option maxRecDepth 10000
namespace Go.Proofs.YtknndpjacklkeaaGreatDoor.V
open Go Go.Proofs

end Go.Proofs.YtknndpjacklkeaaGreatDoor.V

set_option linter.unusedVariables false
set_option linter.unusedSimpArgs false
namespace Go.Proofs.YtknndpjacklkeaaGreatDoor.V
open Go
theorem lng_fit {b : Str} (h : b.length ≤ 65536) : lng b = .ok b := if_neg (by omega)
theorem bind_ok {r : Except Int Str} {f : Str → Except Int Str} {b' : Str} (h : r.bind f = .ok b') : ∃ b, r = .ok b ∧ f b = .ok b' := by
 cases r with
 | ok b => exact ⟨b, rfl, h⟩
 | error e => cases h
namespace JV
def Fit (v : JV) (deep : Nat) (t : Str) : Prop := ∀ b, (b ++ t).length ≤ 65536 → wr v deep b = .ok (b ++ t)
def FitL (l : List JV) (deep : Nat) (fst : Bool) (t : Str) : Prop := ∀ b, (b ++ t).length ≤ 65536 → wrl l deep fst b = .ok (b ++ t)
def FitM (m : List (Str × JV)) (deep : Nat) (prev : Option Str) (t : Str) : Prop := ∀ b, (b ++ t).length ≤ 65536 → wrm m deep prev b = .ok (b ++ t)
theorem txt_fit {b s b' : Str} (h : txtW b s = .ok b') : ∃ t, b' = b ++ t ∧ t = putQ s ∧ b'.length ≤ 65536 ∧ ∀ c, (c ++ t).length ≤ 65536 → txtW c s = .ok (c ++ t) := by
 unfold txtW at h
 split at h
 ·cases h
 ·rename_i h1
  split at h
  ·rename_i h2
   obtain ⟨rfl, h3⟩ := lng_ok h
   exact ⟨putQ s, rfl, rfl, h3, fun c hc => by rw [txtW, if_neg h1, if_pos h2, lng_fit hc]⟩
  ·cases h
def stepK (prev : Option Str) (k b : Str) : Except Int Str := match prev with
 | none => Except.ok b
 | some q => (lng (b ++ [44])).bind fun b => if bl q k then .ok b else .error 1
theorem wrm_step' (p : Str × JV) (r : List (Str × JV)) (deep : Nat) (prev : Option Str) (b : Str) :
  wrm (p :: r) deep prev b = (stepK prev p.1 b).bind fun b => (txtW b p.1).bind fun b => (lng (b ++ [58])).bind fun b => (wr p.2 (deep + 1) b).bind fun b => wrm r deep (some p.1) b := by
 rw [wrm.eq_def]
 rfl
theorem wrl_step' (v : JV) (r : List JV) (deep : Nat) (fst : Bool) (b : Str) :
  wrl (v :: r) deep fst b = (if fst then Except.ok b else lng (b ++ [44])).bind fun b => (wr v (deep + 1) b).bind fun b => wrl r deep false b := by
 rw [wrl]
def comma : Option Str → Str
 | none => []
 | some _ => [44]
theorem mem_ok {p : Str × JV} {r : List (Str × JV)} {deep : Nat} {prev : Option Str} {b b' : Str} (h : wrm (p :: r) deep prev b = .ok b') :
  (∀ q, prev = some q → bl q p.1 = true) ∧ ∃ b2, wr p.2 (deep + 1) (b ++ comma prev ++ putQ p.1 ++ [58]) = .ok b2 ∧ wrm r deep (some p.1) b2 = .ok b' ∧ (∀ c, (c ++ putQ p.1).length ≤ 65536 → txtW c p.1 = .ok (c ++ putQ p.1)) ∧ (b ++ comma prev ++ putQ p.1 ++ [58]).length ≤ 65536 := by
 rw [wrm_step'] at h
 obtain ⟨b1, h1, h⟩ := bind_ok h
 have hc : b1 = b ++ comma prev ∧ ∀ q, prev = some q → bl q p.1 = true := by
  cases prev with
  | none => injection h1 with h1; subst h1; exact ⟨by simp [comma], fun q hq => by cases hq⟩
  | some q =>
   obtain ⟨b0, h0, h1⟩ := bind_ok h1
   obtain ⟨rfl, _⟩ := lng_ok h0
   split at h1
   ·rename_i hq
    injection h1 with h1
    subst h1
    exact ⟨rfl, fun q' e => by injection e with e; subst e; exact hq⟩
   ·cases h1
 obtain ⟨rfl, hq⟩ := hc
 obtain ⟨b2, h2, h⟩ := bind_ok h
 obtain ⟨t, rfl, rfl, _, ht⟩ := txt_fit h2
 obtain ⟨b3, h3, h⟩ := bind_ok h
 obtain ⟨rfl, h3l⟩ := lng_ok h3
 obtain ⟨b4, h4, h5⟩ := bind_ok h
 exact ⟨hq, b4, h4, h5, ht, h3l⟩
theorem mem_fit {p : Str × JV} {r : List (Str × JV)} {deep : Nat} {prev : Option Str} {t1 t2 : Str} (hq : ∀ q, prev = some q → bl q p.1 = true) (ht : ∀ c, (c ++ putQ p.1).length ≤ 65536 → txtW c p.1 = .ok (c ++ putQ p.1)) (h1 : Fit p.2 (deep + 1) t1) (h2 : FitM r deep (some p.1) t2) :
  FitM (p :: r) deep prev (comma prev ++ putQ p.1 ++ [58] ++ t1 ++ t2) := by
 intro b hb
 simp only [List.length_append] at hb
 rw [wrm_step']
 have e1 : stepK prev p.1 b = .ok (b ++ comma prev) := by
  cases prev with
  | none => simp [comma, stepK]
  | some q =>
   have : (b ++ [44]).length ≤ 65536 := by simp only [comma, List.length_append] at hb ⊢; omega
   show ((lng (b ++ [44])).bind fun b => if bl q p.1 then .ok b else .error 1) = _
   rw [lng_fit this]
   show (if bl q p.1 then Except.ok (b ++ [44]) else .error 1) = _
   rw [if_pos (hq q rfl)]
   rfl
 rw [e1]
 show (txtW (b ++ comma prev) p.1).bind _ = _
 rw [ht _ (by simp only [List.length_append]; omega)]
 show (lng (b ++ comma prev ++ putQ p.1 ++ [58])).bind _ = _
 rw [lng_fit (by simp only [List.length_append]; omega)]
 show (wr p.2 (deep + 1) (b ++ comma prev ++ putQ p.1 ++ [58])).bind _ = _
 rw [h1 _ (by simp only [List.length_append]; omega)]
 show wrm r deep (some p.1) (b ++ comma prev ++ putQ p.1 ++ [58] ++ t1) = _
 rw [h2 _ (by simp only [List.length_append]; omega)]
 simp
theorem fit_all : ∀ N : Nat, ∀ (v : JV) (deep : Nat) (b b' : Str), v.sz ≤ N → wr v deep b = .ok b' → ∃ t, b' = b ++ t ∧ b'.length ≤ 65536 ∧ Fit v deep t
 | 0, v, _, _, _, h, _ => absurd (sz_eq v) (by omega)
 | N + 1, v, deep, b, b', hN, h => by
  have ih := fit_all N
  have fitl : ∀ (l : List JV), (∀ x ∈ l, x.sz ≤ N) → ∀ (fst : Bool) (b b' : Str), wrl l deep fst b = .ok b' → ∃ t, b' = b ++ t ∧ FitL l deep fst t := by
   intro l
   induction l with
   | nil =>
    intro _ fst b b' h
    rw [wrl] at h
    injection h with h
    subst h
    exact ⟨[], by simp, fun b _ => by rw [wrl]; simp⟩
   | cons x r ihl =>
    intro hx fst b b' h
    rw [wrl_step'] at h
    obtain ⟨b1, h1, h⟩ := bind_ok h
    obtain ⟨b2, h2, h3⟩ := bind_ok h
    obtain ⟨t1, rfl, _, hf1⟩ := ih x (deep + 1) b1 b2 (hx x (by simp)) h2
    obtain ⟨t2, rfl, hf2⟩ := ihl (fun y hy => hx y (by simp [hy])) false _ _ h3
    cases fst with
    | true =>
     injection h1 with h1
     subst h1
     refine ⟨t1 ++ t2, by simp, fun c hc => ?_⟩
     simp only [List.length_append] at hc
     rw [wrl_step']
     show (wr x (deep + 1) c).bind _ = _
     rw [hf1 c (by simp only [List.length_append]; omega)]
     show wrl r deep false (c ++ t1) = _
     rw [hf2 _ (by simp only [List.length_append]; omega)]
     simp
    | false =>
     obtain ⟨rfl, _⟩ := lng_ok h1
     refine ⟨[44] ++ t1 ++ t2, by simp, fun c hc => ?_⟩
     simp only [List.length_append] at hc
     rw [wrl_step']
     show (lng (c ++ [44])).bind _ = _
     rw [lng_fit (by simp only [List.length_append]; omega)]
     show (wr x (deep + 1) (c ++ [44])).bind _ = _
     rw [hf1 _ (by simp only [List.length_append]; omega)]
     show wrl r deep false (c ++ [44] ++ t1) = _
     rw [hf2 _ (by simp only [List.length_append]; omega)]
     simp
  have fitm : ∀ (m : List (Str × JV)), (∀ p ∈ m, p.2.sz ≤ N) → ∀ (prev : Option Str) (b b' : Str), wrm m deep prev b = .ok b' → ∃ t, b' = b ++ t ∧ FitM m deep prev t := by
   intro m
   induction m with
   | nil =>
    intro _ prev b b' h
    rw [wrm] at h
    injection h with h
    subst h
    exact ⟨[], by simp, fun b _ => by rw [wrm]; simp⟩
   | cons p r ihm =>
    intro hx prev b b' h
    obtain ⟨hq, b2, h2, h3, ht, _⟩ := mem_ok h
    obtain ⟨t1, rfl, _, hf1⟩ := ih p.2 (deep + 1) _ b2 (hx p (by simp)) h2
    obtain ⟨t2, rfl, hf2⟩ := ihm (fun y hy => hx y (by simp [hy])) (some p.1) _ _ h3
    exact ⟨_, by simp, mem_fit hq ht hf1 hf2⟩
  rw [wr_eq] at h
  by_cases hb : bare v = false
  ·rw [if_pos hb] at h; cases h
  rw [if_neg hb] at h
  by_cases k0 : v.kind = 0
  ·rw [if_pos k0] at h
   obtain ⟨rfl, hl⟩ := lng_ok h
   exact ⟨_, rfl, hl, fun c hc => by rw [wr_eq, if_neg hb, if_pos k0, lng_fit hc]⟩
  rw [if_neg k0] at h
  by_cases k1 : v.kind = 1
  ·rw [if_pos k1] at h
   obtain ⟨rfl, hl⟩ := lng_ok h
   exact ⟨_, rfl, hl, fun c hc => by rw [wr_eq, if_neg hb, if_neg k0, if_pos k1, lng_fit hc]⟩
  rw [if_neg k1] at h
  by_cases k2 : v.kind = 2
  ·rw [if_pos k2] at h
   obtain ⟨rfl, hl⟩ := lng_ok h
   exact ⟨_, rfl, hl, fun c hc => by rw [wr_eq, if_neg hb, if_neg k0, if_neg k1, if_pos k2, lng_fit hc]⟩
  rw [if_neg k2] at h
  by_cases k3 : v.kind = 3
  ·rw [if_pos k3] at h
   obtain ⟨t, rfl, _, hl, ht⟩ := txt_fit h
   exact ⟨t, rfl, hl, fun c hc => by rw [wr_eq, if_neg hb, if_neg k0, if_neg k1, if_neg k2, if_pos k3, ht c hc]⟩
  rw [if_neg k3] at h
  by_cases hd : deep = 32
  ·rw [if_pos hd] at h; cases h
  rw [if_neg hd] at h
  by_cases k4 : v.kind = 4
  ·rw [if_pos k4] at h
   obtain ⟨b1, h1, h⟩ := bind_ok h
   obtain ⟨rfl, _⟩ := lng_ok h1
   obtain ⟨b2, h2, h3⟩ := bind_ok h
   obtain ⟨t, rfl, ht⟩ := fitl v.list (fun x hx => by have := sz_in_list hx; omega) true _ _ h2
   obtain ⟨rfl, hl⟩ := lng_ok h3
   refine ⟨[91] ++ t ++ [93], by simp, hl, fun c hc => ?_⟩
   simp only [List.length_append] at hc
   rw [wr_eq, if_neg hb, if_neg k0, if_neg k1, if_neg k2, if_neg k3, if_neg hd, if_pos k4, lng_fit (by simp only [List.length_append]; omega)]
   show (wrl v.list deep true (c ++ [91])).bind _ = _
   rw [ht _ (by simp only [List.length_append]; omega)]
   show lng (c ++ [91] ++ t ++ [93]) = _
   rw [lng_fit (by simp only [List.length_append]; omega)]
   simp
  ·rw [if_neg k4] at h
   obtain ⟨b1, h1, h⟩ := bind_ok h
   obtain ⟨rfl, _⟩ := lng_ok h1
   obtain ⟨b2, h2, h3⟩ := bind_ok h
   obtain ⟨t, rfl, ht⟩ := fitm v.map (fun x hx => by have := sz_in_map hx; omega) none _ _ h2
   obtain ⟨rfl, hl⟩ := lng_ok h3
   refine ⟨[123] ++ t ++ [125], by simp, hl, fun c hc => ?_⟩
   simp only [List.length_append] at hc
   rw [wr_eq, if_neg hb, if_neg k0, if_neg k1, if_neg k2, if_neg k3, if_neg hd, if_neg k4, lng_fit (by simp only [List.length_append]; omega)]
   show (wrm v.map deep none (c ++ [123])).bind _ = _
   rw [ht _ (by simp only [List.length_append]; omega)]
   show lng (c ++ [123] ++ t ++ [125]) = _
   rw [lng_fit (by simp only [List.length_append]; omega)]
   simp
theorem fit {v : JV} {deep : Nat} {b b' : Str} (h : wr v deep b = .ok b') : ∃ t, b' = b ++ t ∧ b'.length ≤ 65536 ∧ Fit v deep t := fit_all v.sz v deep b b' (Nat.le_refl _) h
theorem filt {f : Str × JV → Option (Str × JV)} {deep : Nat} (hf : ∀ p q, f p = some q → q.1 = p.1) (hv : ∀ p q b b', f p = some q → wr p.2 (deep + 1) b = .ok b' → ∃ t', b.length + t'.length ≤ b'.length ∧ Fit q.2 (deep + 1) t') :
  ∀ (m : List (Str × JV)) (prev prev' : Option Str) (b b' : Str), wrm m deep prev b = .ok b' → (prev = none → prev' = none) → (∀ q', prev' = some q' → ∀ p ∈ m, bl q' p.1 = true) → ascM m → ∃ t', b.length + t'.length ≤ b'.length ∧ FitM (m.filterMap f) deep prev' t'
 | [], prev, prev', b, b', h, _, _, _ => by
  rw [wrm] at h
  injection h with h
  subst h
  exact ⟨[], by simp, fun b _ => by rw [List.filterMap_nil, wrm]; simp⟩
 | p :: r, prev, prev', b, b', h, hp, hq', ha => by
  obtain ⟨hq, b2, h2, h3, ht, hl⟩ := mem_ok h
  have har : ascM r := List.Pairwise.of_cons ha
  have hrel : ∀ y ∈ r, bl p.1 y.1 = true := fun y hy => List.rel_of_pairwise_cons ha hy
  obtain ⟨t1, rfl, hl2, hf1⟩ := fit h2
  cases hfp : f p with
  | none =>
   obtain ⟨t', h5, h6⟩ := filt hf hv r (some p.1) prev' _ _ h3 (fun e => by cases e) (fun q' e y hy => hq' q' e y (by simp [hy])) har
   refine ⟨t', ?_, by rw [List.filterMap_cons_none hfp]; exact h6⟩
   simp only [List.length_append] at h5
   omega
  | some q =>
   obtain ⟨t1', h7, h8⟩ := hv p q _ _ hfp h2
   have hk := hf p q hfp
   obtain ⟨t', h5, h6⟩ := filt hf hv r (some p.1) (some q.1) _ _ h3 (fun e => by cases e) (fun q' e y hy => by injection e with e; rw [← e, hk]; exact hrel y hy) har
   refine ⟨comma prev' ++ putQ q.1 ++ [58] ++ t1' ++ t', ?_, by
    rw [List.filterMap_cons_some hfp]
    exact mem_fit (fun q' e => by rw [hk]; exact hq' q' e p (by simp)) (by rw [hk]; exact ht) h8 h6⟩
   have hc : (comma prev').length ≤ (comma prev).length := by
    cases prev with
    | none => rw [hp rfl]; exact Nat.le_refl _
    | some x => cases prev' <;> simp [comma]
   simp only [List.length_append] at h5 h7 ⊢
   rw [hk]
   omega
theorem wrm_asc : ∀ (m : List (Str × JV)) (deep : Nat) (prev : Option Str) (b b' : Str), wrm m deep prev b = .ok b' → ascM m ∧ ∀ q, prev = some q → ∀ p ∈ m, bl q p.1 = true
 | [], _, _, _, _, _ => ⟨List.Pairwise.nil, fun _ _ _ h => by cases h⟩
 | p :: r, deep, prev, b, b', h => by
  obtain ⟨hq, b2, _, h3, _, _⟩ := mem_ok h
  obtain ⟨h4, h5⟩ := wrm_asc r deep (some p.1) _ _ h3
  refine ⟨List.Pairwise.cons (fun y hy => h5 p.1 rfl y hy) h4, fun q e y hy => ?_⟩
  rcases List.mem_cons.1 hy with rfl | hy
  ·exact hq q e
  ·exact bl_trans (hq q e) (h5 p.1 rfl y hy)
theorem fit_obj {m : List (Str × JV)} {deep : Nat} {t : Str} (h : FitM m deep none t) (hd : deep ≠ 32) : Fit (obj m) deep ([123] ++ t ++ [125]) := fun c hc => by
 simp only [List.length_append] at hc
 have hb : ¬ bare (obj m) = false := by simp [bare, obj, kind, is, num, str, list]
 have k5 : (obj m).kind = 5 := rfl
 rw [wr_eq, if_neg hb, if_neg (by rw [k5]; decide), if_neg (by rw [k5]; decide), if_neg (by rw [k5]; decide), if_neg (by rw [k5]; decide), if_neg hd, if_neg (by rw [k5]; decide), lng_fit (by simp only [List.length_append]; omega)]
 show (wrm m deep none (c ++ [123])).bind _ = _
 rw [h _ (by simp only [List.length_append]; omega)]
 show lng (c ++ [123] ++ t ++ [125]) = _
 rw [lng_fit (by simp only [List.length_append]; omega)]
 simp
theorem map_ok {v : JV} {deep : Nat} {b b' : Str} (k5 : v.kind = 5) (h : wr v deep b = .ok b') : deep ≠ 32 ∧ ∃ b2, wrm v.map deep none (b ++ [123]) = .ok b2 ∧ b' = b2 ++ [125] ∧ b'.length ≤ 65536 := by
 rw [wr_eq] at h
 split at h
 ·cases h
 rw [if_neg (by rw [k5]; decide), if_neg (by rw [k5]; decide), if_neg (by rw [k5]; decide), if_neg (by rw [k5]; decide)] at h
 split at h
 ·cases h
 rename_i hd
 rw [if_neg (by rw [k5]; decide)] at h
 obtain ⟨b1, h1, h⟩ := bind_ok h
 obtain ⟨rfl, _⟩ := lng_ok h1
 obtain ⟨b2, h2, h3⟩ := bind_ok h
 obtain ⟨rfl, hl⟩ := lng_ok h3
 exact ⟨hd, b2, h2, rfl, hl⟩
theorem one_of {m : List (Str × JV)} {k : Str} {y : JV} (ha : ascM m) (h : look m k = some y) : m.filterMap (fun p => if p.1 = k then some p else none) = [(k, y)] := by
 have hf : ∀ p q : Str × JV, (if p.1 = k then some p else none) = some q → q.1 = p.1 := fun p q e => by
  split at e
  ·injection e with e; rw [e]
  ·cases e
 refine ascM_ext (ascM_filterMap hf ha) (List.pairwise_singleton _ _) fun k' => ?_
 rw [look_filterMap hf ha]
 by_cases hk : k' = k
 ·subst hk
  rw [h]
  simp [look]
 ·have : look [(k, y)] k' = none := by simp [look, Ne.symm hk]
  rw [this]
  cases look m k' <;> simp [hk]
theorem stay_small (kind : Str) (p q : Str × JV) (deep : Nat) (b b' : Str) (h : stay kind p = some q) (hw : wr p.2 deep b = .ok b') : ∃ t', b.length + t'.length ≤ b'.length ∧ Fit q.2 deep t' := by
 have same : p = q → ∃ t', b.length + t'.length ≤ b'.length ∧ Fit q.2 deep t' := fun e => by
  subst e
  obtain ⟨t, rfl, _, hf⟩ := fit hw
  exact ⟨t, by simp, hf⟩
 have s0 : stay0 kind p = some q → p = q := fun e => by
  unfold stay0 at e
  split at e
  ·injection e
  ·cases e
 unfold stay at h
 split at h
 ·rename_i hc
  split at h
  ·rename_i y hy
   injection h with h
   subst h
   obtain ⟨hd, b2, h2, rfl, hl⟩ := map_ok hc.2.2 hw
   obtain ⟨ha, _⟩ := wrm_asc _ _ _ _ _ h2
   obtain ⟨t', h5, h6⟩ := filt (f := fun p => if p.1 = kSigned then some p else none) (fun p q e => by
    split at e
    ·injection e with e; rw [e]
    ·cases e) (fun p q b b' e hw => by
    split at e
    ·injection e with e
     subst e
     obtain ⟨t, rfl, _, hf⟩ := fit hw
     exact ⟨t, by simp, hf⟩
    ·cases e) p.2.map none none _ _ h2 (fun _ => rfl) (fun q' e => by cases e) ha
   rw [one_of ha hy] at h6
   refine ⟨[123] ++ t' ++ [125], ?_, fit_obj h6 hd⟩
   simp only [List.length_append, List.length_singleton] at h5 ⊢
   omega
  ·exact same (s0 h)
 ·exact same (s0 h)
theorem content_wr {kind : Str} {v : JV} (k5 : v.kind = 5) (h : ern (v.wr 0 []) = 0) : (contentR kind v).kind = 5 ∧ ern ((contentR kind v).wr 0 []) = 0 := by
 unfold contentR
 split
 ·exact ⟨k5, h⟩
 ·rw [if_neg (by simp [k5])]
  refine ⟨rfl, ?_⟩
  obtain ⟨b', hb⟩ := ern_ok h
  obtain ⟨hd, b2, h2, rfl, hl⟩ := map_ok k5 hb
  obtain ⟨ha, _⟩ := wrm_asc _ _ _ _ _ h2
  obtain ⟨t', h5, h6⟩ := filt (f := stay kind) (stay_key kind) (fun p q b b' e hw => stay_small kind p q _ b b' e hw) v.map none none _ _ h2 (fun _ => rfl) (fun q' e => by cases e) ha
  have h7 := fit_obj h6 (by decide) [] (by
   simp only [List.length_append, List.length_singleton, List.length_nil] at h5 hl ⊢
   omega)
  rw [h7]
  rfl
end JV
end Go.Proofs.YtknndpjacklkeaaGreatDoor.V

set_option linter.unusedVariables false
set_option linter.unusedSimpArgs false
namespace Go.Proofs.YtknndpjacklkeaaGreatDoor.V
open Go
section
variable {P : Program} {ops : Array Oper} {Q : Exit → Act → World → Prop} {n : Nat} {ds : List Deferred} {l : List (Nat × Value)} {M : List (Nat × (Value → World → Prop))} {w : World} {Fin : Kn → Prop} {rest : List Oper} {d : Nat} {ty : TypeId} {pos : String} {af : Array Edge} {op : Op}
theorem tr2 (V : Value → World → Prop) (hV : ∀ v w1 w2, Mod [] w1 w2 → V v w1 → V v w2) (t s : Nat) {U U' : Value → World → Prop} (ht : lk t l = none) (hM : lkM t M = some U) (hx : ∃ x ∈ op.operands.toList, x = .tmp t) (hs' : lk s l = none) (hM' : lkM s M = some U') (hx' : ∃ x ∈ op.operands.toList, x = .tmp s)
  (hr : ∀ w1 u u', Mod [] w w1 → U u w1 → U' u' w1 → ∃ v w2, Runs P ((t, u) :: (s, u') :: l) ⟨some d, op, ty, pos, af, none⟩ w1 v w2 ∧ Mod [] w1 w2 ∧ V v w2) (hd : Nat.blt d n = true) (hs : notSel op = true) (hl : lk d l = none)
  (h : TWL P ops w n Fin rest l ((d, V) :: M)) : TWL P ops w n Fin (⟨some d, op, ty, pos, af, none⟩ :: rest) l M := by
 refine ⟨V, J_of2 ht hM hx hs' hM' hx' hV hd hs fun ρ w1 u u' hC hU hU' h1 => ?_, ?_⟩
 ·obtain ⟨v, w2, e, hm, hv⟩ := hr w1 u u' hC hU hU'
  rw [e ρ h1]
  exact ⟨hm, hv⟩
 ·rw [kn_put_r rfl hl]; exact h
theorem J_of3 {V : Value → World → Prop} {t s r : Nat} {U U' U2 : Value → World → Prop} (ht : lk t l = none) (hM : lkM t M = some U) (hx : ∃ x ∈ op.operands.toList, x = .tmp t) (hs' : lk s l = none) (hM' : lkM s M = some U') (hx' : ∃ x ∈ op.operands.toList, x = .tmp s) (hr' : lk r l = none) (hM2 : lkM r M = some U2) (hx2 : ∃ x ∈ op.operands.toList, x = .tmp r) (hV : ∀ v w1 w2, Mod [] w1 w2 → V v w1 → V v w2) (hd : Nat.blt d n = true) (hs : notSel op = true)
  (hr : ∀ (ρ : Operand → Value) w1 u u' u2, Mod [] w w1 → U u w1 → U' u' w1 → U2 u2 w1 → (∀ x v, evO ((t, u) :: (s, u') :: (r, u2) :: l) x = some v → ρ x = v) → TameUpon P (Mod []) w1 V ((execOp ρ ⟨some d, op, ty, pos, af, none⟩).run P w1)) :
  J P ops (Mod []) (Mod [] w) n (kn l M) ⟨some d, op, ty, pos, af, none⟩ V := by
 refine J_of hV hd hs fun ρ w1 hC h1 h2 => hr ρ w1 (ρ (.tmp t)) (ρ (.tmp s)) (ρ (.tmp r)) hC (h2 t U ht hM hx) (h2 s U' hs' hM' hx') (h2 r U2 hr' hM2 hx2) fun x v hv => ?_
 cases x with
 | tmp q =>
  simp only [evO, lk] at hv
  cases hb : Nat.beq t q with
  | true =>
   rw [hb] at hv
   have := Nat.eq_of_beq_eq_true hb
   subst this
   injection hv
  | false =>
   rw [hb] at hv
   cases hb' : Nat.beq s q with
   | true =>
    rw [hb'] at hv
    have := Nat.eq_of_beq_eq_true hb'
    subst this
    injection hv
   | false =>
    rw [hb'] at hv
    cases hb2 : Nat.beq r q with
    | true =>
     rw [hb2] at hv
     have := Nat.eq_of_beq_eq_true hb2
     subst this
     injection hv
    | false => rw [hb2] at hv; exact h1 _ _ hv
 | const c => exact h1 _ _ hv
 | global g => exact h1 _ _ hv
 | func f => exact h1 _ _ hv
theorem tr3 (V : Value → World → Prop) (hV : ∀ v w1 w2, Mod [] w1 w2 → V v w1 → V v w2) (t s r : Nat) {U U' U2 : Value → World → Prop} (ht : lk t l = none) (hM : lkM t M = some U) (hx : ∃ x ∈ op.operands.toList, x = .tmp t) (hs' : lk s l = none) (hM' : lkM s M = some U') (hx' : ∃ x ∈ op.operands.toList, x = .tmp s) (hr' : lk r l = none) (hM2 : lkM r M = some U2) (hx2 : ∃ x ∈ op.operands.toList, x = .tmp r)
  (hr : ∀ w1 u u' u2, Mod [] w w1 → U u w1 → U' u' w1 → U2 u2 w1 → ∃ v w2, Runs P ((t, u) :: (s, u') :: (r, u2) :: l) ⟨some d, op, ty, pos, af, none⟩ w1 v w2 ∧ Mod [] w1 w2 ∧ V v w2) (hd : Nat.blt d n = true) (hs : notSel op = true) (hl : lk d l = none)
  (h : TWL P ops w n Fin rest l ((d, V) :: M)) : TWL P ops w n Fin (⟨some d, op, ty, pos, af, none⟩ :: rest) l M := by
 refine ⟨V, J_of3 ht hM hx hs' hM' hx' hr' hM2 hx2 hV hd hs fun ρ w1 u u' u2 hC hU hU' hU2 h1 => ?_, ?_⟩
 ·obtain ⟨v, w2, e, hm, hv⟩ := hr w1 u u' u2 hC hU hU' hU2
  rw [e ρ h1]
  exact ⟨hm, hv⟩
 ·rw [kn_put_r rfl hl]; exact h
theorem tw_tail2 {rest' : List Oper} {t r : Nat} {V U : Value → World → Prop} (hf : fitB n l = true) (ht : lk t l = none) (hM : lkM t M = some V) (hr : lk r l = none) (hN : lkM r M = some U) (htn : Nat.blt t n = true) (hrn : Nat.blt r n = true)
  (h : ∀ w' v u, Mod [] w w' → V v w' → U u w' → WL P ops Q rest' n ds ((t, v) :: (r, u) :: l) w') :
  TWL P ops w n (fun N => ∀ a w', a.defers = ds → Mod [] w w' → N.all n a w' → wpList P ops Q rest' a w') [] l M := by
 intro a w' hd hC hN'
 have h1 := kn_has hd hN'
 rw [fitB_filter hf] at h1
 have htn' : t < a.tmps.size := by rw [hN'.1]; simpa [Nat.blt_eq] using htn
 have hrn' : r < a.tmps.size := by rw [hN'.1]; simpa [Nat.blt_eq] using hrn
 have h2 := hN'.2 t V (by simp [kn, ht, hM])
 have h4 := hN'.2 r U (by simp [kn, hr, hN])
 have h3 : a.tmps.getD t undef = a.tmps[t] := by simp [htn']
 have h5 : a.tmps.getD r undef = a.tmps[r] := by simp [hrn']
 rw [h3] at h2
 rw [h5] at h4
 refine h w' _ _ hC h2 h4 a ⟨h1.size, h1.defers, fun s v hv => ?_⟩
 simp only [lk] at hv
 cases hb : Nat.beq t s with
 | true =>
  rw [hb] at hv
  have := Nat.eq_of_beq_eq_true hb
  subst this
  injection hv with hv
  subst hv
  simp [htn']
 | false =>
  rw [hb] at hv
  cases hb2 : Nat.beq r s with
  | true =>
   rw [hb2] at hv
   have := Nat.eq_of_beq_eq_true hb2
   subst this
   injection hv with hv
   subst hv
   simp [hrn']
  | false => rw [hb2] at hv; exact h1.get s v hv
theorem t_alloc {t : TypeId} {zs : List Value} (hz : zvB P t zs) (hd : Nat.blt d n = true) (hl : lk d l = none)
  (h : TWL P ops w n Fin rest l ((d, fun u w2 => ∃ g, u = .pointer (some ⟨g, 0, none⟩) ∧ w.heap.size ≤ g ∧ Blk w2 g t zs) :: M)) : TWL P ops w n Fin (⟨some d, .alloc t, ty, pos, af, none⟩ :: rest) l M :=
 tr _ (fun v w1 w2 k h => by obtain ⟨g, h1, h2, h3⟩ := h; exact ⟨g, h1, h2, h3.mod0 k⟩) (fun w1 k => by
  have h2 := New.mk' w1 t zs
  exact ⟨_, _, r_alloc hz, h2.mod, _, rfl, k.size, h2.blk⟩) hd rfl hl h
end
theorem Rep.off_ {A : List Nat} {w : World} {sz g T : Nat} {x : Value} {zs : List Value} {r : List D} {rows : List (List D)} {ad : Option Addr} {n c : Nat} (R : Rep A w (.sl sz ((.v x :: r) :: rows)) (.slice ad n c)) (hg : Blk w g T zs) (hx : x ∉ zs) : ∃ a, ad = some a ∧ a.block ≠ g := by
 obtain ⟨a, us, rfl, h2, h3, h4, _⟩ := R.at_ (i := 0) rfl
 refine ⟨a, rfl, fun e => hx ?_⟩
 obtain ⟨u, us', rfl, h5, _⟩ := h2
 have hu := h5.v_eq
 subst hu
 have hc := h4 0 _ rfl
 rw [Nat.zero_mul] at hc
 unfold World.cell? at hc
 rw [show (a.add 0).add 0 = a by simp [Addr.add], e, hg] at hc
 dsimp only at hc
 split at hc
 ·cases hc
 ·have : zs[a.off]? = some u := by simpa using hc
  exact List.mem_of_getElem? this
end Go.Proofs.YtknndpjacklkeaaGreatDoor.V

set_option linter.unusedVariables false
set_option linter.unusedSimpArgs false
namespace Go.Proofs.YtknndpjacklkeaaGreatDoor.V
open Go
structure GL (A : List Nat) (w0 w : World) (e sz : Nat) (wv : Value) (n : Nat) (rows : List (List D)) (vs : List Value) : Prop where
 own : Own w e sz wv n vs
 rd : Reps (A ++ ob wv) w rows.flatten vs
 fr : ∀ y ∈ ob wv, w0.heap.size ≤ y
 dj : ∀ y ∈ ob wv, y ∉ A
 al : ∀ a ∈ A, a < w.heap.size
section
variable {A : List Nat} {w0 w w' : World} {e sz n : Nat} {wv wv' : Value} {rows : List (List D)} {vs us : List Value} {row : List D}
theorem GL.nil (hA : ∀ a ∈ A, a < w.heap.size) : GL A w0 w e sz (.slice none 0 0) 0 [] [] := ⟨Own.nil _ _ _, Reps.nil_, by simp [ob], by simp [ob], hA⟩
theorem GL.mod0 (G : GL A w0 w e sz wv n rows vs) (k : Mod [] w w') : GL A w0 w' e sz wv n rows vs := ⟨G.own.mod0 k, G.rd.to0 k, G.fr, G.dj, fun a ha => Nat.lt_of_lt_of_le (G.al a ha) k.size⟩
theorem GL.lt (G : GL A w0 w e sz wv n rows vs) : ∀ a ∈ A ++ ob wv, a < w.heap.size := fun a ha => (List.mem_append.1 ha).elim (G.al a) (G.own.lt a)
theorem GL.in_ (AA : App w w' e sz wv wv' n vs) : ∀ y ∈ A ++ ob wv', y ∈ A ++ ob wv ∨ w.heap.size ≤ y := fun y hy => (List.mem_append.1 hy).elim (fun h => .inl (by simp [h])) (fun h => (AA.ob_ y h).imp (fun h => by simp [h]) id)
theorem GL.app {k : Nat} (G : GL A w0 w e sz wv n rows vs) (E : Mod [] w0 w) (AA : App w w' e sz wv wv' k (vs ++ us)) (hk : k = n + 1) (Rx : Reps (A ++ ob wv) w row us) : GL A w0 w' e sz wv' (n + 1) (rows ++ [row]) (vs ++ us) := by
 subst hk
 refine ⟨AA.own, ?_, fun y hy => (AA.ob_ y hy).elim (G.fr y) (Nat.le_trans E.size), fun y hy ha => (AA.ob_ y hy).elim (fun h => G.dj y h ha) (fun h => by have := G.al y ha; omega), fun a ha => Nat.lt_of_lt_of_le (G.al a ha) AA.mod.size⟩
 rw [List.flatten_append]
 refine Reps.to AA.mod (fun y hy => by simp [hy]) (GL.in_ AA) _ _ (Reps.append G.rd ?_)
 simpa using Rx
theorem GL.keep {k : Nat} {d : D} {u : Value} (AA : App w w' e sz wv wv' k vs) (R : Rep (A ++ ob wv) w d u) : Rep (A ++ ob wv') w' d u := Rep.to AA.mod (fun y hy => by simp [hy]) (GL.in_ AA) _ _ R
theorem GL.rep (G : GL A w0 w e sz wv n rows vs) (hl : ∀ r ∈ rows, r.length = sz) (hn : rows.length = n) : Rep A w (.sl sz rows) wv := Own.rep G.own (G.rd.anti (fun x hx => by simp [hx])) hl hn G.dj
theorem GL.same {m : Nat} {rows' : List (List D)} (G : GL A w0 w e sz wv n rows vs) (h1 : n = m) (h2 : rows = rows') : GL A w0 w e sz wv m rows' vs := by subst h1; subst h2; exact G
end
theorem take_map_succ {α β : Type} {l : List α} {k : Nat} {x : α} (f : α → β) (h : l[k]? = some x) : (l.take (k + 1)).map f = (l.take k).map f ++ [f x] := by
 have hlt := (List.getElem?_eq_some_iff.1 h).1
 rw [List.take_succ_eq_append_getElem hlt, (List.getElem?_eq_some_iff.1 h).2]
 simp
end Go.Proofs.YtknndpjacklkeaaGreatDoor.V

set_option linter.unusedVariables false
set_option linter.unusedSimpArgs false
namespace Go.Proofs.YtknndpjacklkeaaGreatDoor.V
open Go
def EV.strip (e : EV) : EV := { e with con := JV.content e.ty e.con }
theorem EV.strip_chk {e : EV} (ha : ascM e.con.map) (h : e.chk = 0) : e.strip.chk = 0 := by
 unfold EV.chk at h
 split at h
 ·cases h
 rename_i hm
 split at h
 ·rename_i hf
  refine EV.chk_yes hm ?_
  rw [EV.fine_eq] at hf ⊢
  simp only [Bool.and_eq_true, decide_eq_true_eq] at hf
  obtain ⟨⟨⟨⟨⟨⟨⟨⟨h1, h2⟩, h3⟩, h4⟩, h5⟩, h6⟩, h7⟩, h8⟩, h9⟩ := hf
  obtain ⟨k5, kw⟩ := JV.content_wr (kind := e.ty) h4 h5
  rw [← JV.content_eq ha] at k5 kw
  have e1 : e.strip.names = e.names := rfl
  have e2 : e.strip.nums = e.nums := rfl
  simp only [Bool.and_eq_true, decide_eq_true_eq]
  exact ⟨⟨⟨⟨⟨⟨⟨⟨h1, h2⟩, h3⟩, k5⟩, kw⟩, h6⟩, h7⟩, h8⟩, h9⟩
 ·cases h
end Go.Proofs.YtknndpjacklkeaaGreatDoor.V

set_option linter.unusedVariables false
set_option linter.unusedSimpArgs false
set_option maxRecDepth 10000
namespace Go.Proofs.YtknndpjacklkeaaGreatDoor.V
open Go Go.Proofs
theorem ent139 : Ent Tryz.prog 139 := Ent.of Tryz.func139 (by kernel_rfl) (by kernel_rfl)
theorem c_strip (w : World) (e : EV) (us : List Value) (R : Reps [] w e.D us) (hva : ascM e.con.map) (hvn : e.con.map.length ≤ 1353245080310) (hta : ascM e.con.third.map) (htn : e.con.third.map.length ≤ 1353245080310) : Calls Tryz.prog 93 [.agg us.toArray].toArray w (Ret fun u w' => ∃ us', u = .agg us'.toArray ∧ Reps [] w' e.strip.D us' ∧ Mod [] w w') := by
 refine enter Tryz.func93 rfl rfl rfl (l := [(0, _)]) ⟨rfl, trivial⟩ ?_
 have E := Mod.refl [] w
 obtain ⟨al, cl, am, cm, ap, cp, aa, ca, aS, cS, rfl, Rc, Rp, Ra, Rs⟩ := EV.cells17 R
 refine Cq fun K1 hK1 => Cr (s_box rfl rfl rfl fun g1 w1 N1 => ?_)
 have Lg1_E := N1.le E
 replace E := E.then N1.mod
 have Bg1 := N1.blk
 refine s_alloc zv48 rfl fun g2 w2 N2 => ?_
 have Lg2_E := N2.le E
 have Dg1_g2 := N2.ne Bg1
 replace Bg1 := Bg1.mod0 N2.mod
 replace E := E.then N2.mod
 have Bg2 := N2.blk
 refine Ln (e_K (hK1 _ _ _ _ (Cq fun K2 hK2 => Cr (Sv (oA0 fd48_2 rfl) (Sv (oL sc9 rfl (Bg1.cell rfl)) (Sv (oA0 fd48_5 rfl) (Sv (o_lda (vs := [_, _, _, _, _, _]) ag25 rfl rfl (Bg1.cs rfl)) (sc (oC ent139 rfl) (c_contentA [g1, g2] _ (fun a ha => by rcases List.mem_cons.1 ha with rfl | ha; exact Bg1.lt; rcases List.mem_cons.1 ha with rfl | ha; exact Bg2.lt; cases ha) e.ty e.con _ ((Rc.more (A' := [g1, g2]) (fun a ha => by rcases List.mem_cons.1 ha with rfl | ha; exact .inr Lg1_E; rcases List.mem_cons.1 ha with rfl | ha; exact .inr Lg2_E; cases ha)).to0 E) hva hvn hta htn) rfl fun v_ w3 h_ => ?_))))))))
 obtain ⟨us7, rfl, Rx, E_⟩ := h_
 replace Bg1 := Bg1.mod0 E_
 replace Bg2 := Bg2.mod0 E_
 replace E := E.then E_
 obtain ⟨al7, cl7, am7, cm7, rfl, Rl7, Rm7⟩ := JV.cells_ Rx
 clear Rx
 refine Sv (oA0 fd48_5 rfl) (s_sta (vs := [_, _, _, _, _, _]) ag25 Bg1 rfl rfl rfl (by simp [Value.oneCell']) (by simp) fun w4 P4 => ?_)
 replace Bg2 := Bg2.ne P4.mod (Ne.symm Dg1_g2)
 replace E := E.own P4.mod Lg1_E
 replace Bg1 : Blk w4 g1 _ [_, _, _, _, _, _, _, _, _, _, _, _, _, _, _, _, _] := P4.blk
 replace Rl7 := Rl7.toM P4.mod (fun a ha => by simp [List.mem_singleton.1 ha])
 replace Rm7 := Rm7.toM P4.mod (fun a ha => by simp [List.mem_singleton.1 ha])
 refine Ln (e_K (hK2 _ _ _ _ (Cq fun K3 hK3 => Cr (Sv (o_lda (vs := [_, _, _, _, _, _, _, _, _, _, _, _, _, _, _, _, _]) ag48 rfl rfl (Bg1.cs rfl)) (s_sta (vs := [_, _, _, _, _, _, _, _, _, _, _, _, _, _, _, _, _]) ag48 Bg2 rfl rfl rfl (by simp [Value.oneCell']) (by simp) fun w5 P5 => ?_)))))
 replace Bg1 := Bg1.ne P5.mod (Ne.symm (Ne.symm Dg1_g2))
 replace E := E.own P5.mod Lg2_E
 replace Bg2 : Blk w5 g2 _ [_, _, _, _, _, _, _, _, _, _, _, _, _, _, _, _, _] := P5.blk
 replace Rl7 := Rl7.toM P5.mod (fun a ha => by simp [List.mem_singleton.1 ha])
 replace Rm7 := Rm7.toM P5.mod (fun a ha => by simp [List.mem_singleton.1 ha])
 exact Ln (e_K (hK3 _ _ _ _ (cR (retc (vs := [_, _, _, _, _, _, _, _, _, _, _, _, _, _, _, _, _]) rfl ag48 rfl rfl (Bg2.cs rfl) ⟨_, rfl, EV.reps_ (e := e.strip) (JV.reps_ (v := JV.content e.ty e.con) (Rl7.anti (A' := []) (by simp)) (Rm7.anti (A' := []) (by simp))) (Rp.to0 E) (Ra.to0 E) (Rs.to0 E), E⟩))))
end Go.Proofs.YtknndpjacklkeaaGreatDoor.V

set_option linter.unusedVariables false
set_option linter.unusedSimpArgs false
set_option maxRecDepth 10000
namespace Go.Proofs.YtknndpjacklkeaaGreatDoor.V
open Go Go.Proofs
end Go.Proofs.YtknndpjacklkeaaGreatDoor.V

set_option linter.unusedVariables false
set_option linter.unusedSimpArgs false
namespace Go.Proofs.YtknndpjacklkeaaGreatDoor.V
open Go
namespace JV
theorem stay_ok (kind : Str) (p q : Str × JV) (hp : p.1.length ≤ 140737488351232 ∧ p.2.ok) (h : stay kind p = some q) : q.1.length ≤ 140737488351232 ∧ q.2.ok := by
 have s0 : stay0 kind p = some q → q.1.length ≤ 140737488351232 ∧ q.2.ok := fun e => by
  unfold stay0 at e
  split at e
  ·injection e with e
   subst e
   exact hp
  ·cases e
 unfold stay at h
 split at h
 ·split at h
  ·rename_i y hy
   injection h with h
   subst h
   refine ⟨hp.1, (ok_eq _).2 ⟨by simp [obj, str], by simp [obj, list], by simp [obj, map], by simp [obj, list], fun x hx => ?_⟩⟩
   simp only [obj, map, List.mem_singleton] at hx
   subst hx
   exact ⟨(show kSigned.length ≤ 140737488351232 by decide), (((ok_eq _).1 hp.2).2.2.2.2 _ (look_some hy)).2⟩
  ·exact s0 h
 ·exact s0 h
theorem contentR_ok {kind : Str} {v : JV} (h : v.ok) : (contentR kind v).ok := by
 unfold contentR
 split
 ·exact h
 obtain ⟨h1, h2, h3, h4, h5⟩ := (ok_eq v).1 h
 split
 ·exact (ok_eq _).2 ⟨by simp [obj, str], by simp [obj, list], by simp [obj, map], by simp [obj, list], by simp [obj, map]⟩
 ·refine (ok_eq _).2 ⟨by simp [obj, str], by simp [obj, list], ?_, by simp [obj, list], fun x hx => ?_⟩
  ·simp only [obj, map]
   exact Nat.le_trans (List.length_filterMap_le _ _) h3
  ·simp only [obj, map] at hx
   obtain ⟨p, hp, hq⟩ := List.mem_filterMap.1 hx
   exact stay_ok kind p x (h5 p hp) hq
end JV
namespace EV
theorem strip_ok {e : EV} (ha : ascM e.con.map) (ho : e.ok) : e.strip.ok := by
 obtain ⟨ho1, ho2, ho3, ho4, ho5, ho6, ho7, ho8, ho9, ho10, ho11, ho12⟩ := ho
 exact ⟨ho1, ho2, ho3, ho4, by show (JV.content e.ty e.con).ok; rw [JV.content_eq ha]; exact JV.contentR_ok ho5, ho6, ho7, ho8, ho9, ho10, ho11, ho12⟩
end EV
end Go.Proofs.YtknndpjacklkeaaGreatDoor.V

set_option linter.unusedVariables false
set_option linter.unusedSimpArgs false
set_option maxRecDepth 10000
namespace Go.Proofs.YtknndpjacklkeaaGreatDoor.V
open Go Go.Proofs
theorem ent93 : Ent Tryz.prog 93 := Ent.of Tryz.func93 (by kernel_rfl) (by kernel_rfl)
end Go.Proofs.YtknndpjacklkeaaGreatDoor.V
