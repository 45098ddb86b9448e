/-
  A part of the proof: walks of functions, and the plain laws of what they compute. No condition of its own.
-/
import Derived.Test.YtccjjkdogljmpaaJ8
import Derived.Test.YtccjjkdogljmpaaUA
set_option linter.unusedVariables false
set_option linter.unusedSimpArgs false
set_option maxRecDepth 10000
namespace Go.Proofs.Ytccjjkdogljmpaa.V
open Go Go.Proofs
theorem ent34 : Ent Try.prog 34 := Ent.of Try.func34 (by kernel_rfl) (by kernel_rfl)
theorem ent33 : Ent Try.prog 33 := Ent.of Try.func33 (by kernel_rfl) (by kernel_rfl)
theorem ent35 : Ent Try.prog 35 := Ent.of Try.func35 (by kernel_rfl) (by kernel_rfl)
theorem c_content (w : World) (kind : Str) (v : JV) (us : List Value) (R : Reps [] w v.D us) (hva : ascM v.map) (hvn : v.map.length ≤ 1353245080310) (hta : ascM v.third.map) (htn : v.third.map.length ≤ 1353245080310) : Calls Try.prog 21 [S kind, .agg us.toArray].toArray w (Ret fun u w' => ∃ us', u = .agg us'.toArray ∧ Reps [] w' (JV.content kind v).D us' ∧ Mod [] w w') := by
  refine enter Try.func21 rfl rfl rfl (l := [(0, _), (1, _)]) ⟨rfl, rfl, trivial⟩ ?_
  have E := Mod.refl [] w
  obtain ⟨alv, clv, amv, cmv, rfl, Rlv, Rmv⟩ := JV.cells_ R
  have R := JV.reps_ Rlv Rmv
  refine c_seq fun K1 hK1 => ?_
  refine c_region ?_
  refine s_box rfl rfl rfl fun g1 w1 N1 => ?_
  have Lg1_E := N1.le E
  replace E := E.then N1.mod
  have Bg1 := N1.blk
  refine s_alloc zv38 rfl fun g2 w2 N2 => ?_
  have Lg2_E := N2.le E
  have Dg1_g2 := N2.ne Bg1
  replace Bg1 := Bg1.mod0 N2.mod
  replace E := E.then N2.mod
  have Bg2 := N2.blk
  refine l_nil ?_
  refine e_K (hK1 _ _ _ _ ?_)
  refine c_seq fun K2 hK2 => ?_
  refine c_region ?_
  refine sv (o_mv rfl) rfl ?_
  refine sc (o_call ent33 rfl) (c_kept [] _ (by simp) kind) rfl fun v_ w3 h_ => ?_
  obtain ⟨u1, rfl, Ru, E_⟩ := h_
  replace Bg1 := Bg1.mod0 E_
  replace Bg2 := Bg2.mod0 E_
  replace E := E.then E_
  have Ek1 := Mod.refl [] w3
  obtain ⟨adk, ck, rfl, hk1, hk2⟩ := flat_len Ru
  have hkl := JV.kept_len kind
  refine sv (o_mv rfl) rfl ?_
  refine sv (o_ext rfl rfl) rfl ?_
  refine sv (o_ext rfl rfl) rfl ?_
  refine sv (o_as rfl) rfl ?_
  refine sv (o_as rfl) rfl ?_
  refine l_nil ?_
  refine e_K (hK2 _ _ _ _ ?_)
  refine c_seq fun K3 hK3 => ?_
  refine c_seq fun K4 hK4 => ?_
  refine c_region ?_
  refine sv (o_mv rfl) rfl ?_
  refine l_nil ?_
  refine e_K (hK4 _ _ _ _ ?_)
  refine c_cond rfl (fun h21 => ?_) (fun h21 => ?_)
  · skip
    have hcr : kind = kCreate := of_decide_eq_true h21
    have hcont : JV.content kind v = v := if_pos hcr
    refine c_seq fun K5 hK5 => ?_
    refine c_region ?_
    refine sv (o_lda (vs := [_, _, _, _, _, _]) ag38 rfl rfl (Bg1.cs rfl)) rfl ?_
    refine s_sta (vs := [_, _, _, _, _, _]) ag38 Bg2 rfl rfl rfl (by simp [Value.oneCell']) (by simp) fun w4 P4 => ?_
    replace Bg1 := Bg1.ne P4.mod (Ne.symm (Ne.symm Dg1_g2))
    replace E := E.own P4.mod Lg2_E
    replace Bg2 : Blk w4 g2 _ [_, _, _, _, _, _] := P4.blk
    refine l_nil ?_
    refine e_K (hK5 _ _ _ _ ?_)
    refine c_ret ?_
    refine e_then (by simp) ?_
    exact retc (vs := [_, _, _, _, _, _]) rfl ag38 rfl rfl (Bg2.cs rfl) ⟨_, rfl, by rw [hcont]; exact R.to0 E, E⟩
  · skip
    have hcr : ¬ kind = kCreate := of_decide_eq_false h21
    refine c_skip ?_
    refine e_K (hK3 _ _ _ _ ?_)
    refine c_seq fun K6 hK6 => ?_
    refine c_region ?_
    refine sc (o_call ent34 rfl) (c_jmap [g2] _ (fun a ha => by rw [List.mem_singleton.1 ha]; exact Bg2.lt) [] _ Rep.sl_nil (by simp)) rfl fun v_ w5 h_ => ?_
    obtain ⟨us2, rfl, Ro, E_⟩ := h_
    replace Bg1 := Bg1.mod0 E_
    replace Bg2 := Bg2.mod0 E_
    replace E := E.then E_
    replace Ek1 := Ek1.then E_
    have Ek2 := Mod.refl [] w5
    obtain ⟨al0, cl0, am0, cm0, rfl, Rl0, Rm0⟩ := JV.cells_ Ro
    replace Ro := JV.reps_ Rl0 Rm0
    refine s_alloc zv38 rfl fun g3 w6 N3 => ?_
    have Lg3_E := N3.le E
    have Lg3_Ek1 := N3.le Ek1
    have Lg3_Ek2 := N3.le Ek2
    have Dg1_g3 := N3.ne Bg1
    have Dg2_g3 := N3.ne Bg2
    replace Bg1 := Bg1.mod0 N3.mod
    replace Bg2 := Bg2.mod0 N3.mod
    replace E := E.then N3.mod
    replace Ek1 := Ek1.then N3.mod
    replace Ek2 := Ek2.then N3.mod
    have Bg3 := N3.blk
    refine s_sta (vs := [_, _, _, _, _, _]) ag38 Bg3 rfl rfl rfl (by simp [Value.oneCell']) (by simp) fun w7 P7 => ?_
    replace Bg1 := Bg1.ne P7.mod (Ne.symm (Ne.symm Dg1_g3))
    replace Bg2 := Bg2.ne P7.mod (Ne.symm (Ne.symm Dg2_g3))
    replace E := E.own P7.mod Lg3_E
    replace Ek1 := Ek1.own P7.mod Lg3_Ek1
    replace Ek2 := Ek2.own P7.mod Lg3_Ek2
    replace Bg3 : Blk w7 g3 _ [_, _, _, _, _, _] := P7.blk
    refine l_nil ?_
    refine e_K (hK6 _ _ _ _ ?_)
    refine c_seq fun K7 hK7 => ?_
    refine c_seq fun K8 hK8 => ?_
    have Ro2 := (Ro.more (A' := [g2, g3]) (fun a ha => by rcases List.mem_cons.1 ha with rfl | ha; exact .inl (by simp); rcases List.mem_cons.1 ha with rfl | ha; exact .inr Lg3_Ek2; cases ha)).to0 Ek2
    refine c_region ?_
    refine sv (o_mv rfl) rfl ?_
    refine sv (o_len Try.underlying45 rfl) rfl ?_
    refine sv (o_mv rfl) rfl ?_
    refine l_nil ?_
    refine e_K (hK8 _ _ _ _ ?_)
    refine c_block ?_
    refine c_loop (σ := Nat × Option Addr × Nat × Option Addr × Nat) (fun ⟨k, al, cl, am, cm⟩ => [(0, S kind), (3, .pointer (some ⟨g1, 0, none⟩)), (4, .pointer (some ⟨g2, 0, none⟩)), (7, .pointer (some ⟨g3, 0, none⟩)), (24, .slice adk (keptK kind).length ck), (25, .int .i64 (keptK kind).length), (26, .int .i64 (k : Int))]) (fun ⟨k, al, cl, am, cm⟩ w1 => k ≤ (keptK kind).length ∧ Reps [g2, g3] w1 (JV.obj (v.kf (keptK kind) k)).D [.int .i64 5, .bool false, .int .i64 0, S [], .slice al 0 cl, .slice am ((v.kf (keptK kind) k)).length cm] ∧ Blk w1 g3 38 [.int .i64 5, .bool false, .int .i64 0, S [], .slice al 0 cl, .slice am ((v.kf (keptK kind) k)).length cm] ∧ Blk w1 g2 38 [.int .i64 0, .bool false, .int .i64 0, S [], .slice none 0 0, .slice none 0 0] ∧ Blk w1 g1 38 [.int .i64 v.kind, .bool v.is, .int .i64 v.num, S v.str, .slice alv v.list.length clv, .slice amv v.map.length cmv] ∧ Mod [] w w1 ∧ Mod [] w3 w1) (fun ⟨k, al, cl, am, cm⟩ => (keptK kind).length - k) (⟨0, al0, cl0, am0, cm0⟩) ⟨rfl, rfl, rfl, rfl, rfl, rfl, rfl, trivial⟩ (⟨by omega, Ro2, Bg3, Bg2, Bg1, E, Ek1⟩) ?_
    rintro ⟨k, al, cl, am, cm⟩ w8 ⟨hk, Rk, Bg3, Bg2, Bg1, E, Ek1⟩
    have Ek := Mod.refl [] w8
    refine c_seq fun K9 hK9 => ?_
    refine c_region ?_
    refine sv (o_lss rfl rfl) rfl ?_
    refine l_nil ?_
    refine e_K (hK9 _ _ _ _ ?_)
    refine c_seq fun K10 hK10 => ?_
    refine c_if rfl (fun h27 => ?_) (fun h27 => ?_)
    · skip
      obtain ⟨q, hx_q⟩ : ∃ q, (keptK kind)[k]? = some q := ⟨_, List.getElem?_eq_getElem (by omega)⟩
      obtain ⟨a_q, ha_q, hcs_q, _⟩ := flat_at (Ru.to0 Ek1) hx_q
      obtain rfl := ha_q
      refine c_skip ?_
      refine e_K (hK10 _ _ _ _ ?_)
      refine c_seq fun K11 hK11 => ?_
      refine c_block ?_
      refine c_seq fun K12 hK12 => ?_
      refine c_region ?_
      refine sv (o_ix sl45 rfl rfl (by omega)) rfl ?_
      refine sv (o_ld sc9 rfl hcs_q.first) rfl ?_
      refine sv (o_as rfl) rfl ?_
      refine l_nil ?_
      refine e_K (hK12 _ _ _ _ ?_)
      refine c_seq fun K13 hK13 => ?_
      refine c_region ?_
      refine sv (o_lda (vs := [_, _, _, _, _, _]) ag38 rfl rfl (Bg1.cs rfl)) rfl ?_
      refine sv (o_mv rfl) rfl ?_
      refine sc (o_call ent35 rfl) (c_jget [] w _ E v _ R q hva hvn) rfl fun v_ w9 h_ => ?_
      obtain ⟨us3, rfl, Rg, E_⟩ := h_
      replace Bg1 := Bg1.mod0 E_
      replace Bg2 := Bg2.mod0 E_
      replace Bg3 := Bg3.mod0 E_
      replace E := E.then E_
      replace Ek1 := Ek1.then E_
      replace Ek := Ek.then E_
      obtain ⟨al3, cl3, am3, cm3, rfl, Rl3, Rm3⟩ := JV.cells_ Rg
      replace Rg := JV.reps_ Rl3 Rm3
      refine sv (o_mv rfl) rfl ?_
      refine sv (o_ext rfl rfl) rfl ?_
      refine sv (o_ext rfl rfl) rfl ?_
      refine s_alloc zv38 rfl fun g4 w10 N4 => ?_
      have Lg4_E := N4.le E
      have Lg4_Ek1 := N4.le Ek1
      have Lg4_Ek := N4.le Ek
      have Dg1_g4 := N4.ne Bg1
      have Dg2_g4 := N4.ne Bg2
      have Dg3_g4 := N4.ne Bg3
      replace Bg1 := Bg1.mod0 N4.mod
      replace Bg2 := Bg2.mod0 N4.mod
      replace Bg3 := Bg3.mod0 N4.mod
      replace E := E.then N4.mod
      replace Ek1 := Ek1.then N4.mod
      replace Ek := Ek.then N4.mod
      have Bg4 := N4.blk
      refine s_sta (vs := [_, _, _, _, _, _]) ag38 Bg4 rfl rfl rfl (by simp [Value.oneCell']) (by simp) fun w11 P11 => ?_
      replace Bg1 := Bg1.ne P11.mod (Ne.symm (Ne.symm Dg1_g4))
      replace Bg2 := Bg2.ne P11.mod (Ne.symm (Ne.symm Dg2_g4))
      replace Bg3 := Bg3.ne P11.mod (Ne.symm (Ne.symm Dg3_g4))
      replace E := E.own P11.mod Lg4_E
      replace Ek1 := Ek1.own P11.mod Lg4_Ek1
      replace Ek := Ek.own P11.mod Lg4_Ek
      replace Bg4 : Blk w11 g4 _ [_, _, _, _, _, _] := P11.blk
      refine sv (o_as rfl) rfl ?_
      refine l_nil ?_
      refine e_K (hK13 _ _ _ _ ?_)
      refine c_seq fun K14 hK14 => ?_
      refine c_region ?_
      refine sv (o_mv rfl) rfl ?_
      refine l_nil ?_
      refine e_K (hK14 _ _ _ _ ?_)
      refine c_cond rfl (fun h36 => ?_) (fun h36 => ?_)
      · skip
        refine c_region ?_
        refine sv (o_lda (vs := [_, _, _, _, _, _]) ag38 rfl rfl (Bg3.cs rfl)) rfl ?_
        refine sv (o_mv rfl) rfl ?_
        refine sv (o_lda (vs := [_, _, _, _, _, _]) ag38 rfl rfl (Bg4.cs rfl)) rfl ?_
        refine sc (o_call ent36 rfl) (c_jput [g2, g3] _ (fun a ha => by rcases List.mem_cons.1 ha with rfl | ha; exact Bg2.lt; rcases List.mem_cons.1 ha with rfl | ha; exact Bg3.lt; cases ha) (JV.obj (v.kf (keptK kind) k)) ((v.get q).getD JV.nul) _ _ (Rk.to0 Ek) ((Rg.more (A' := [g2, g3]) (fun a ha => .inr (by rcases List.mem_cons.1 ha with rfl | ha; exact Lg2_E; rcases List.mem_cons.1 ha with rfl | ha; exact Lg3_E; cases ha))).to0 E) q (by rw [JV.tbl_obj]; exact JV.kf_asc) (by rw [JV.tbl_obj]; have := JV.kf_len (v := v) (K := keptK kind) (k := k); omega)) rfl fun v_ w12 h_ => ?_
        obtain ⟨us4, rfl, Rp, E_⟩ := h_
        replace Bg1 := Bg1.mod0 E_
        replace Bg2 := Bg2.mod0 E_
        replace Bg3 := Bg3.mod0 E_
        replace Bg4 := Bg4.mod0 E_
        replace E := E.then E_
        replace Ek1 := Ek1.then E_
        replace Ek := Ek.then E_
        rw [JV.tbl_obj] at Rp
        rw [← JV.kf_yes hx_q h36] at Rp
        obtain ⟨al4, cl4, am4, cm4, rfl, Rl4, Rm4⟩ := JV.cells_ Rp
        replace Rp := JV.reps_ Rl4 Rm4
        have hS : v.kf (keptK kind) (k + 1) = v.kf (keptK kind) (k + 1) := rfl
        refine s_sta (vs := [_, _, _, _, _, _]) ag38 Bg3 rfl rfl rfl (by simp [Value.oneCell']) (by simp) fun w13 P13 => ?_
        replace Bg1 := Bg1.ne P13.mod (Ne.symm (Ne.symm Dg1_g3))
        replace Bg2 := Bg2.ne P13.mod (Ne.symm (Ne.symm Dg2_g3))
        replace Bg4 := Bg4.ne P13.mod (Ne.symm Dg3_g4)
        replace E := E.own P13.mod Lg3_E
        replace Ek1 := Ek1.own P13.mod Lg3_Ek1
        replace Bg3 : Blk w13 g3 _ [_, _, _, _, _, _] := P13.blk
        have Rp2 := Rp.toM P13.mod (fun a ha => by simp [List.mem_singleton.1 ha])
        refine l_nil ?_
        refine e_in (by simp) ?_
        refine e_K (hK11 _ _ _ _ ?_)
        refine c_region ?_
        refine sv (o_addN rfl rfl (by omega)) rfl ?_
        refine sv (o_mv rfl) rfl ?_
        refine l_nil ?_
        exact e_round (σ := Nat × Option Addr × Nat × Option Addr × Nat) (s := ⟨k, al, cl, am, cm⟩) (⟨k + 1, al4, cl4, am4, cm4⟩) ⟨rfl, rfl, rfl, rfl, rfl, rfl, rfl, trivial⟩ ⟨by omega, by rw [hS]; exact Rp2, by rw [hS]; exact Bg3, Bg2, Bg1, E, Ek1⟩ (by dsimp only; omega)
      · skip
        have hS := JV.kf_no hx_q h36
        refine c_skip ?_
        refine e_in (by simp) ?_
        refine e_K (hK11 _ _ _ _ ?_)
        refine c_region ?_
        refine sv (o_addN rfl rfl (by omega)) rfl ?_
        refine sv (o_mv rfl) rfl ?_
        refine l_nil ?_
        exact e_round (σ := Nat × Option Addr × Nat × Option Addr × Nat) (s := ⟨k, al, cl, am, cm⟩) (⟨k + 1, al, cl, am, cm⟩) ⟨rfl, rfl, rfl, rfl, rfl, rfl, rfl, trivial⟩ ⟨by omega, by rw [hS]; exact Rk.to0 Ek, by rw [hS]; exact Bg3, Bg2, Bg1, E, Ek1⟩ (by dsimp only; omega)
    · skip
      have hkf : (v.kf (keptK kind) k) = v.keep (keptK kind) := JV.kf_all (by omega)
      refine c_exit ?_
      refine e_then (by simp) ?_
      refine e_then (by simp) ?_
      refine e_hit ?_
      refine e_K (hK7 _ _ _ _ ?_)
      refine c_seq fun K15 hK15 => ?_
      refine c_region ?_
      refine sv (o_lda (vs := [_, _, _, _, _, _]) ag38 rfl rfl (Bg1.cs rfl)) rfl ?_
      refine sc (o_call ent35 rfl) (c_jget [] w _ E v _ R kThird hva hvn) rfl fun v_ w14 h_ => ?_
      obtain ⟨us5, rfl, Rt, E_⟩ := h_
      replace Bg1 := Bg1.mod0 E_
      replace Bg2 := Bg2.mod0 E_
      replace Bg3 := Bg3.mod0 E_
      replace E := E.then E_
      replace Ek1 := Ek1.then E_
      replace Ek := Ek.then E_
      have Rt : Reps [] w v.third.D us5 := Rt
      obtain ⟨al5, cl5, am5, cm5, rfl, Rl5, Rm5⟩ := JV.cells_ Rt
      replace Rt := JV.reps_ Rl5 Rm5
      refine sv (o_mv rfl) rfl ?_
      refine sv (o_ext rfl rfl) rfl ?_
      refine sv (o_ext rfl rfl) rfl ?_
      refine s_alloc zv38 rfl fun g5 w15 N5 => ?_
      have Lg5_E := N5.le E
      have Lg5_Ek1 := N5.le Ek1
      have Lg5_Ek := N5.le Ek
      have Dg1_g5 := N5.ne Bg1
      have Dg2_g5 := N5.ne Bg2
      have Dg3_g5 := N5.ne Bg3
      replace Bg1 := Bg1.mod0 N5.mod
      replace Bg2 := Bg2.mod0 N5.mod
      replace Bg3 := Bg3.mod0 N5.mod
      replace E := E.then N5.mod
      replace Ek1 := Ek1.then N5.mod
      replace Ek := Ek.then N5.mod
      have Bg5 := N5.blk
      refine s_sta (vs := [_, _, _, _, _, _]) ag38 Bg5 rfl rfl rfl (by simp [Value.oneCell']) (by simp) fun w16 P16 => ?_
      replace Bg1 := Bg1.ne P16.mod (Ne.symm (Ne.symm Dg1_g5))
      replace Bg2 := Bg2.ne P16.mod (Ne.symm (Ne.symm Dg2_g5))
      replace Bg3 := Bg3.ne P16.mod (Ne.symm (Ne.symm Dg3_g5))
      replace E := E.own P16.mod Lg5_E
      replace Ek1 := Ek1.own P16.mod Lg5_Ek1
      replace Ek := Ek.own P16.mod Lg5_Ek
      replace Bg5 : Blk w16 g5 _ [_, _, _, _, _, _] := P16.blk
      refine sv (o_as rfl) rfl ?_
      refine l_nil ?_
      refine e_K (hK15 _ _ _ _ ?_)
      refine c_seq fun K16 hK16 => ?_
      refine c_seq fun K17 hK17 => ?_
      refine c_region ?_
      refine sv (o_lda (vs := [_, _, _, _, _, _]) ag38 rfl rfl (Bg5.cs rfl)) rfl ?_
      refine sc (o_call ent35 rfl) (c_jget [] w _ E v.third _ Rt kSigned hta htn) rfl fun v_ w17 h_ => ?_
      obtain ⟨us6, rfl, Rs, E_⟩ := h_
      replace Bg1 := Bg1.mod0 E_
      replace Bg2 := Bg2.mod0 E_
      replace Bg3 := Bg3.mod0 E_
      replace Bg5 := Bg5.mod0 E_
      replace E := E.then E_
      replace Ek1 := Ek1.then E_
      replace Ek := Ek.then E_
      obtain ⟨al6, cl6, am6, cm6, rfl, Rl6, Rm6⟩ := JV.cells_ Rs
      replace Rs := JV.reps_ Rl6 Rm6
      refine sv (o_mv rfl) rfl ?_
      refine sv (o_ext rfl rfl) rfl ?_
      refine sv (o_ext rfl rfl) rfl ?_
      refine s_alloc zv38 rfl fun g6 w18 N6 => ?_
      have Lg6_E := N6.le E
      have Lg6_Ek1 := N6.le Ek1
      have Lg6_Ek := N6.le Ek
      have Dg1_g6 := N6.ne Bg1
      have Dg2_g6 := N6.ne Bg2
      have Dg3_g6 := N6.ne Bg3
      have Dg5_g6 := N6.ne Bg5
      replace Bg1 := Bg1.mod0 N6.mod
      replace Bg2 := Bg2.mod0 N6.mod
      replace Bg3 := Bg3.mod0 N6.mod
      replace Bg5 := Bg5.mod0 N6.mod
      replace E := E.then N6.mod
      replace Ek1 := Ek1.then N6.mod
      replace Ek := Ek.then N6.mod
      have Bg6 := N6.blk
      refine s_sta (vs := [_, _, _, _, _, _]) ag38 Bg6 rfl rfl rfl (by simp [Value.oneCell']) (by simp) fun w19 P19 => ?_
      replace Bg1 := Bg1.ne P19.mod (Ne.symm (Ne.symm Dg1_g6))
      replace Bg2 := Bg2.ne P19.mod (Ne.symm (Ne.symm Dg2_g6))
      replace Bg3 := Bg3.ne P19.mod (Ne.symm (Ne.symm Dg3_g6))
      replace Bg5 := Bg5.ne P19.mod (Ne.symm (Ne.symm Dg5_g6))
      replace E := E.own P19.mod Lg6_E
      replace Ek1 := Ek1.own P19.mod Lg6_Ek1
      replace Ek := Ek.own P19.mod Lg6_Ek
      replace Bg6 : Blk w19 g6 _ [_, _, _, _, _, _] := P19.blk
      refine sv (o_as rfl) rfl ?_
      refine l_nil ?_
      refine e_K (hK17 _ _ _ _ ?_)
      refine c_seq fun K18 hK18 => ?_
      by_cases hs14_0 : (v.third.get kSigned).isSome = true
      · skip
        refine c_region ?_
        refine sv (o_mv rfl) rfl ?_
        refine sv (o_mv rfl) rfl ?_
        refine sg rfl (hs14_0) (o_mv rfl) rfl ?_
        refine sg rfl (hs14_0) (o_seq rfl rfl) rfl ?_
        refine sv (o_pickT (hs14_0) rfl rfl) rfl ?_
        refine l_nil ?_
        refine e_K (hK18 _ _ _ _ ?_)
        refine c_if rfl (fun h56 => ?_) (fun h56 => ?_)
        · skip
          have hcont := JV.content_yes hcr hs14_0 h56
          rw [← hkf] at hcont
          refine c_drawp [] [0, 1, 2, 3, 4, 5] 6 [] wide (by kernel_rfl) (fun _ _ _ h => h.2) ?_
          refine pw_nil ?_
          refine tv (fun w_ E_ => (o_lda (vs := [_, _, _, _, _, _]) ag38 rfl rfl ((Bg3.mod0 E_).cs rfl))) rfl rfl ?_
          refine tv (fun w_ E_ => (o_lda (vs := [_, _, _, _, _, _]) ag38 rfl rfl ((Bg6.mod0 E_).cs rfl))) rfl rfl ?_
          refine tv (fun w_ E_ => (o_build (cs := [_, _, _, _, _, _, _]) pl49 zv49 rfl rfl)) rfl rfl ?_
          refine t_bslice (cs := [_, _, _, _, _, _, _]) (fun u w_ => Rep [g2, g3] w_ (.sl 7 ([(kSigned, ((v.third.get kSigned).getD JV.nul))].map JV.Dp)) u) (fun v_ w1_ w2_ k_ h_ => h_.to0 k_) sl36 zv49 rfl rfl rfl (by decide) (fun w_ g w2_ E_ N_ => ?_) rfl rfl ?_
          · exact Own.mem_ (A := [g2, g3]) (m := [(kSigned, ((v.third.get kSigned).getD JV.nul))]) (Own.all (cs := [_, _, _, _, _, _, _]) N_.blk rfl (by omega)) (by simpa using JV.Dp_reps (p := (kSigned, ((v.third.get kSigned).getD JV.nul))) ((Rs.more (A' := [g2, g3]) (fun a ha => .inr (by rcases List.mem_cons.1 ha with rfl | ha; exact Lg2_E; rcases List.mem_cons.1 ha with rfl | ha; exact Lg3_E; cases ha))).to0 ((E.then E_).then N_.mod))) rfl (fun x hx h => by
              simp only [ob, List.mem_singleton] at hx
              subst hx
              have h1 := N_.ne (Bg2.mod0 E_)
              have h2 := N_.ne (Bg3.mod0 E_)
              simp only [List.mem_cons, List.not_mem_nil, or_false] at h
              rcases h with h | h
              · exact h1 h.symm
              · exact h2 h.symm)
          refine tcr1 (fun u w_ => ∃ us, u = .agg us.toArray ∧ Reps [g2, g3] w_ (JV.obj (putAll [(kSigned, ((v.third.get kSigned).getD JV.nul))] 1)).D us) (fun v_ w1_ w2_ k_ h_ => by obtain ⟨us_, e_, r_⟩ := h_; exact ⟨us_, e_, r_.to0 k_⟩) 60 rfl rfl ⟨_, List.Mem.tail _ (List.Mem.head _), rfl⟩ (fun w_ u_ E_ h_ => o_call ent34 rfl) (fun w_ u_ E_ h_ => Calls.imp (c_jmap [g2, g3] _ (fun a ha => by rcases List.mem_cons.1 ha with rfl | ha; exact (Bg2.mod0 E_).lt; rcases List.mem_cons.1 ha with rfl | ha; exact (Bg3.mod0 E_).lt; cases ha) [(kSigned, ((v.third.get kSigned).getD JV.nul))] _ h_ (by simp)) fun r_ w2_ hr => by obtain ⟨us_, e_, r2_, k_⟩ := hr; exact ⟨⟨us_, e_, r2_⟩, k_⟩) rfl rfl rfl ?_
          refine tcr1 (args := fun u_ => [_, _, u_].toArray) (fun u w_ => ∃ us, u = .agg us.toArray ∧ Reps [g2, g3] w_ (JV.obj (putM (v.kf (keptK kind) k) kThird (JV.obj (putAll [(kSigned, ((v.third.get kSigned).getD JV.nul))] 1)))).D us) (fun v_ w1_ w2_ k_ h_ => by obtain ⟨us_, e_, r_⟩ := h_; exact ⟨us_, e_, r_.to0 k_⟩) 61 rfl rfl ⟨_, List.Mem.tail _ (List.Mem.tail _ (List.Mem.tail _ (List.Mem.head _))), rfl⟩ (fun w_ u_ E_ h_ => o_call ent36 rfl) (fun w_ u_ E_ h_ => by
            obtain ⟨us_, rfl, r0_⟩ := h_
            exact Calls.imp (c_jput [g2, g3] _ (fun a ha => by rcases List.mem_cons.1 ha with rfl | ha; exact (Bg2.mod0 E_).lt; rcases List.mem_cons.1 ha with rfl | ha; exact (Bg3.mod0 E_).lt; cases ha) (JV.obj (v.kf (keptK kind) k)) (JV.obj (putAll [(kSigned, ((v.third.get kSigned).getD JV.nul))] 1)) _ _ ((Rk.to0 Ek).to0 E_) r0_ kThird (by rw [JV.tbl_obj]; exact JV.kf_asc) (by rw [JV.tbl_obj]; have := JV.kf_len (v := v) (K := keptK kind) (k := k); omega)) fun r_ w2_ hr => by
              obtain ⟨us_, e_, r2_, k_⟩ := hr
              rw [JV.tbl_obj] at r2_
              exact ⟨⟨us_, e_, r2_⟩, k_⟩) rfl rfl rfl ?_
          refine tw_tail1 (t := 62) rfl rfl rfl rfl fun w20 v_ E_ h_ => ?_
          obtain ⟨us8, rfl, Rp⟩ := h_
          obtain ⟨al8, cl8, am8, cm8, rfl, Rl8, Rm8⟩ := JV.cells_ Rp
          replace Rp := JV.reps_ Rl8 Rm8
          replace Bg1 := Bg1.mod0 E_
          replace Bg2 := Bg2.mod0 E_
          replace Bg3 := Bg3.mod0 E_
          replace Bg5 := Bg5.mod0 E_
          replace Bg6 := Bg6.mod0 E_
          replace E := E.then E_
          replace Ek1 := Ek1.then E_
          replace Ek := Ek.then E_
          refine s_sta (vs := [_, _, _, _, _, _]) ag38 Bg3 rfl rfl rfl (by simp [Value.oneCell']) (by simp) fun w21 P21 => ?_
          replace Bg1 := Bg1.ne P21.mod (Ne.symm (Ne.symm Dg1_g3))
          replace Bg2 := Bg2.ne P21.mod (Ne.symm (Ne.symm Dg2_g3))
          replace Bg5 := Bg5.ne P21.mod (Ne.symm Dg3_g5)
          replace Bg6 := Bg6.ne P21.mod (Ne.symm Dg3_g6)
          replace E := E.own P21.mod Lg3_E
          replace Ek1 := Ek1.own P21.mod Lg3_Ek1
          replace Bg3 : Blk w21 g3 _ [_, _, _, _, _, _] := P21.blk
          have Rf := Rp.toM P21.mod (fun a ha => by simp [List.mem_singleton.1 ha])
          refine l_nil ?_
          refine e_K (hK16 _ _ _ _ ?_)
          refine c_seq fun K19 hK19 => ?_
          refine c_region ?_
          refine sv (o_lda (vs := [_, _, _, _, _, _]) ag38 rfl rfl (Bg3.cs rfl)) rfl ?_
          skip
          refine s_sta (vs := [_, _, _, _, _, _]) ag38 Bg2 rfl rfl rfl (by simp [Value.oneCell']) (by simp) fun w22 P22 => ?_
          replace Bg1 := Bg1.ne P22.mod (Ne.symm (Ne.symm Dg1_g2))
          replace Bg3 := Bg3.ne P22.mod (Ne.symm Dg2_g3)
          replace Bg5 := Bg5.ne P22.mod (Ne.symm Dg2_g5)
          replace Bg6 := Bg6.ne P22.mod (Ne.symm Dg2_g6)
          replace E := E.own P22.mod Lg2_E
          replace Bg2 : Blk w22 g2 _ [_, _, _, _, _, _] := P22.blk
          have Rf2 := (Rf.toM P22.mod (fun a ha => by simp [List.mem_singleton.1 ha])).anti (A' := []) (by simp)
          refine l_nil ?_
          refine e_K (hK19 _ _ _ _ ?_)
          refine c_ret ?_
          exact retc (vs := [_, _, _, _, _, _]) rfl ag38 rfl rfl (Bg2.cs rfl) ⟨_, rfl, by rw [hcont]; exact Rf2, E⟩
        · skip
          have hcont := JV.content_no2 (v := v) hcr h56
          rw [← hkf] at hcont
          refine c_skip ?_
          refine e_K (hK16 _ _ _ _ ?_)
          refine c_seq fun K20 hK20 => ?_
          refine c_region ?_
          refine sv (o_lda (vs := [_, _, _, _, _, _]) ag38 rfl rfl (Bg3.cs rfl)) rfl ?_
          have Rf := Rk.to0 Ek
          refine s_sta (vs := [_, _, _, _, _, _]) ag38 Bg2 rfl rfl rfl (by simp [Value.oneCell']) (by simp) fun w23 P23 => ?_
          replace Bg1 := Bg1.ne P23.mod (Ne.symm (Ne.symm Dg1_g2))
          replace Bg3 := Bg3.ne P23.mod (Ne.symm Dg2_g3)
          replace Bg5 := Bg5.ne P23.mod (Ne.symm Dg2_g5)
          replace Bg6 := Bg6.ne P23.mod (Ne.symm Dg2_g6)
          replace E := E.own P23.mod Lg2_E
          replace Bg2 : Blk w23 g2 _ [_, _, _, _, _, _] := P23.blk
          have Rf2 := (Rf.toM P23.mod (fun a ha => by simp [List.mem_singleton.1 ha])).anti (A' := []) (by simp)
          refine l_nil ?_
          refine e_K (hK20 _ _ _ _ ?_)
          refine c_ret ?_
          exact retc (vs := [_, _, _, _, _, _]) rfl ag38 rfl rfl (Bg2.cs rfl) ⟨_, rfl, by rw [hcont]; exact Rf2, E⟩
      · skip
        refine c_region ?_
        refine sv (o_mv rfl) rfl ?_
        refine sv (o_mv rfl) rfl ?_
        refine sn rfl (fun e_ => absurd ((Bool.eq_false_iff.2 hs14_0).symm.trans e_) (by decide)) rfl ?_
        refine sn rfl (fun e_ => absurd ((Bool.eq_false_iff.2 hs14_0).symm.trans e_) (by decide)) rfl ?_
        refine sv (o_pickF (Bool.eq_false_iff.2 hs14_0) rfl rfl) rfl ?_
        refine l_nil ?_
        refine e_K (hK18 _ _ _ _ ?_)
        refine c_false rfl ?_
        have hcont := JV.content_no1 hcr (Bool.eq_false_iff.2 hs14_0)
        rw [← hkf] at hcont
        refine c_skip ?_
        refine e_K (hK16 _ _ _ _ ?_)
        refine c_seq fun K21 hK21 => ?_
        refine c_region ?_
        refine sv (o_lda (vs := [_, _, _, _, _, _]) ag38 rfl rfl (Bg3.cs rfl)) rfl ?_
        have Rf := Rk.to0 Ek
        refine s_sta (vs := [_, _, _, _, _, _]) ag38 Bg2 rfl rfl rfl (by simp [Value.oneCell']) (by simp) fun w24 P24 => ?_
        replace Bg1 := Bg1.ne P24.mod (Ne.symm (Ne.symm Dg1_g2))
        replace Bg3 := Bg3.ne P24.mod (Ne.symm Dg2_g3)
        replace Bg5 := Bg5.ne P24.mod (Ne.symm Dg2_g5)
        replace Bg6 := Bg6.ne P24.mod (Ne.symm Dg2_g6)
        replace E := E.own P24.mod Lg2_E
        replace Bg2 : Blk w24 g2 _ [_, _, _, _, _, _] := P24.blk
        have Rf2 := (Rf.toM P24.mod (fun a ha => by simp [List.mem_singleton.1 ha])).anti (A' := []) (by simp)
        refine l_nil ?_
        refine e_K (hK21 _ _ _ _ ?_)
        refine c_ret ?_
        exact retc (vs := [_, _, _, _, _, _]) rfl ag38 rfl rfl (Bg2.cs rfl) ⟨_, rfl, by rw [hcont]; exact Rf2, E⟩
end Go.Proofs.Ytccjjkdogljmpaa.V
