/-
  A part of the proof: walks of functions. No condition of its own.
-/
import Derived.Test.YtknndpjacklkeaaGreatDoorM19
import Derived.Test.YtknndpjacklkeaaGreatDoorM4
set_option linter.unusedVariables false
set_option linter.unusedSimpArgs false
set_option maxRecDepth 10000
namespace Go.Proofs.YtknndpjacklkeaaGreatDoor.V
open Go Go.Proofs
theorem ent176 : Ent Tryz.prog 176 := Ent.of Tryz.func176 (by kernel_rfl) (by kernel_rfl)
theorem ent77 : Ent Tryz.prog 77 := Ent.of Tryz.func77 (by kernel_rfl) (by kernel_rfl)
theorem c_contentRA (A : List Nat) (w : World) (hAl : ∀ a ∈ A, a < w.heap.size) (kind : Str) (v : JV) (us : List Value) (R : Reps A w v.D us) (hn : v.map.length ≤ 1353245080310) : Calls Tryz.prog 140 [S kind, .agg us.toArray].toArray w (Ret fun u w' => ∃ us', u = .agg us'.toArray ∧ Reps A w' (JV.contentR kind v).D us' ∧ Mod [] w w') := by
 refine enter Tryz.func140 rfl rfl rfl (l := [(0, _), (1, _)]) ⟨rfl, rfl, trivial⟩ ?_
 have E := Mod.refl [] w
 obtain ⟨al, cl, am, cm, rfl, Rl, Rm⟩ := JV.cells_ R
 have R := JV.reps_ Rl Rm
 have hkl := JV.kept_len kind
 refine Cq fun K1 hK1 => Cr (s_box rfl rfl rfl fun g1 w1 N1 => ?_)
 have Lg1_E := N1.le E
 replace E := E.then N1.mod
 have Bg1 := N1.blk
 refine s_alloc zv25 rfl fun g2 w2 N2 => ?_
 have Lg2_E := N2.le E
 have Dg1_g2 := N2.ne Bg1
 replace Bg1 := Bg1.mod0 N2.mod
 replace E := E.then N2.mod
 have Bg2 := N2.blk
 refine Ln (e_K (hK1 _ _ _ _ (Cq fun K2 hK2 => Cq fun K3 hK3 => Cr (Zm rfl (Sv (o_seq rfl rfl) (Ln (e_K (hK3 _ _ _ _ ?_))))))))
 refine c_if rfl (fun h14 => ?_) (fun h14 => ?_)
 ·have hcont : JV.contentR kind v = v := if_pos h14
  refine Cq fun K4 hK4 => Cr (Sv (o_lda (vs := [_, _, _, _, _, _]) ag25 rfl rfl (Bg1.cs rfl)) (s_sta (vs := [_, _, _, _, _, _]) ag25 Bg2 rfl rfl rfl (by simp [Value.oneCell']) (by simp) fun w3 P3 => ?_))
  replace Bg1 := Bg1.ne P3.mod (Ne.symm (Ne.symm Dg1_g2))
  replace E := E.own P3.mod Lg2_E
  replace Bg2 : Blk w3 g2 _ [_, _, _, _, _, _] := P3.blk
  exact Ln (e_K (hK4 _ _ _ _ (cR (eT (by simp) (retc (vs := [_, _, _, _, _, _]) rfl ag25 rfl rfl (Bg2.cs rfl) ⟨_, rfl, by rw [hcont]; exact R.to0 E, E⟩)))))
 ·have hcr : ¬ kind = kCreate := h14
  refine cK (e_K (hK2 _ _ _ _ (Cq fun K5 hK5 => Cr (Sv (o_build (cs := [_, _, _, _, _, _]) pl25 zv25 rfl rfl) (s_alloc zv25 rfl fun g3 w4 N3 => ?_)))))
  have Lg3_E := N3.le E
  have Dg1_g3 := N3.ne Bg1
  have Dg2_g3 := N3.ne Bg2
  replace Bg1 := Bg1.mod0 N3.mod
  replace Bg2 := Bg2.mod0 N3.mod
  replace E := E.then N3.mod
  have Bg3 := N3.blk
  refine s_sta (vs := [_, _, _, _, _, _]) ag25 Bg3 rfl rfl rfl (by simp [Value.oneCell']) (by simp) fun w5 P5 => ?_
  replace Bg1 := Bg1.ne P5.mod (Ne.symm (Ne.symm Dg1_g3))
  replace Bg2 := Bg2.ne P5.mod (Ne.symm (Ne.symm Dg2_g3))
  replace E := E.own P5.mod Lg3_E
  replace Bg3 : Blk w5 g3 _ [_, _, _, _, _, _] := P5.blk
  refine Ln (e_K (hK5 _ _ _ _ (Cq fun K6 hK6 => Cq fun K7 hK7 => Cr (Sv (oA0 fd25_0 rfl) (Sv (oL sc3 rfl (Bg1.cell rfl)) (Sv (o_neq rfl rfl) (Ln (e_K (hK7 _ _ _ _ ?_)))))))))
  refine c_if rfl (fun h19 => ?_) (fun h19 => ?_)
  ·have hcont : JV.contentR kind v = JV.obj [] := by rw [JV.contentR, if_neg hcr, if_pos h19]
   refine Cq fun K8 hK8 => Cr (Sv (o_lda (vs := [_, _, _, _, _, _]) ag25 rfl rfl (Bg3.cs rfl)) (s_sta (vs := [_, _, _, _, _, _]) ag25 Bg2 rfl rfl rfl (by simp [Value.oneCell']) (by simp) fun w6 P6 => ?_))
   replace Bg1 := Bg1.ne P6.mod (Ne.symm (Ne.symm Dg1_g2))
   replace Bg3 := Bg3.ne P6.mod (Ne.symm Dg2_g3)
   replace E := E.own P6.mod Lg2_E
   replace Bg2 : Blk w6 g2 _ [_, _, _, _, _, _] := P6.blk
   exact Ln (e_K (hK8 _ _ _ _ (cR (eT (by simp) (retc (vs := [_, _, _, _, _, _]) rfl ag25 rfl rfl (Bg2.cs rfl) ⟨_, rfl, by rw [hcont]; exact JV.obj_reps Rep.sl_nil, E⟩)))))
  ·have hcont : JV.contentR kind v = JV.obj (v.map.filterMap (JV.stay kind)) := by rw [JV.contentR, if_neg hcr, if_neg h19]
   refine cK (e_K (hK6 _ _ _ _ (Cq fun K9 hK9 => Cq fun K10 hK10 => Cr (Sv (oA0 fd25_5 rfl) (Sv (oL sc23 rfl (Bg1.cell rfl)) (Sv (o_len Tryz.underlying23 rfl) (Zm rfl (Ln (e_K (hK10 _ _ _ _ (cB (c_loop (σ := Nat × Value × List Value) (fun ⟨k, wv, vs⟩ => [(0, S kind), (3, .pointer (some ⟨g1, 0, none⟩)), (4, .pointer (some ⟨g2, 0, none⟩)), (5, .pointer (some ⟨g3, 0, none⟩)), (22, .slice am v.map.length cm), (23, .int .i64 v.map.length), (24, .int .i64 (k : Int))]) (fun ⟨k, wv, vs⟩ w1 => k ≤ v.map.length ∧ Own w1 44 7 wv (JV.qf kind v k).length vs ∧ Reps (g2 :: g3 :: (A ++ ob wv)) w1 ((JV.qf kind v k).map JV.Dp).flatten vs ∧ (∀ y ∈ ob wv, w.heap.size ≤ y) ∧ (∀ y ∈ ob wv, y ≠ g1) ∧ (∀ y ∈ ob wv, y ≠ g2) ∧ (∀ y ∈ ob wv, y ≠ g3) ∧ Blk w1 g3 25 [.int .i64 5, .bool false, .int .i64 0, S [], .slice none 0 0, wv] ∧ Blk w1 g2 25 [.int .i64 0, .bool false, .int .i64 0, S [], .slice none 0 0, .slice none 0 0] ∧ Blk w1 g1 25 [.int .i64 v.kind, .bool v.is, .int .i64 v.num, S v.str, .slice al v.list.length cl, .slice am v.map.length cm] ∧ Mod [] w w1) (fun ⟨k, wv, vs⟩ => v.map.length - k) (⟨0, .slice none 0 0, []⟩) ⟨rfl, rfl, rfl, rfl, rfl, rfl, rfl, trivial⟩ (⟨by omega, Own.nil _ 44 7, Reps.nil_, by simp [ob], by simp [ob], by simp [ob], by simp [ob], Bg3, Bg2, Bg1, E⟩) ?_))))))))))))
   rintro ⟨k, wv, vs⟩ w7 ⟨hk, Ow, Rq, Lw, Dw1, Dw2, Dw3, Bg3, Bg2, Bg1, E⟩
   obtain ⟨adw, cw, rfl, hw1, hw2⟩ := Ow.form
   have Ek := Mod.refl [] w7
   refine Cq fun K11 hK11 => Cr (Sv (o_lss rfl rfl) (Ln (e_K (hK11 _ _ _ _ (Cq fun K12 hK12 => ?_)))))
   refine c_if rfl (fun h25 => ?_) (fun h25 => ?_)
   ·obtain ⟨x, hx_x⟩ : ∃ x, v.map[k]? = some x := ⟨_, List.getElem?_eq_getElem (by omega)⟩
    obtain ⟨a_x, us_x, ha_x, R_x, hcs0_x⟩ := JV.at_m Rm hx_x
    obtain ⟨al_x, cl_x, am_x, cm_x, rfl, Rl_x, Rm_x⟩ := JV.cells_ R_x
    have hcs_x := hcs0_x.mod0 E
    have hcap_x := JV.cap_m Rm
    obtain rfl := ha_x
    refine cK (e_K (hK12 _ _ _ _ (Cq fun K13 hK13 => cB (Cq fun K14 hK14 => Cr (Sv (o_ix sl23 rfl rfl (by omega)) (Sv (o_lda ag44 rfl rfl hcs_x) (s_alloc zv44 rfl fun g4 w8 N4 => ?_)))))))
    have Lg4_E := N4.le E
    have Lg4_Ek := N4.le Ek
    have Dg1_g4 := N4.ne Bg1
    have Dg2_g4 := N4.ne Bg2
    have Dg3_g4 := N4.ne Bg3
    have Dow_g4 := N4.own_ne Ow
    replace Bg1 := Bg1.mod0 N4.mod
    replace Bg2 := Bg2.mod0 N4.mod
    replace Bg3 := Bg3.mod0 N4.mod
    replace E := E.then N4.mod
    replace Ek := Ek.then N4.mod
    replace Ow := Ow.mod0 N4.mod
    have Bg4 := N4.blk
    refine s_sta (vs := [_, _, _, _, _, _, _]) ag44 Bg4 rfl rfl rfl (by simp [Value.oneCell']) (by simp) fun w9 P9 => ?_
    replace Bg1 := Bg1.ne P9.mod (Ne.symm (Ne.symm Dg1_g4))
    replace Bg2 := Bg2.ne P9.mod (Ne.symm (Ne.symm Dg2_g4))
    replace Bg3 := Bg3.ne P9.mod (Ne.symm (Ne.symm Dg3_g4))
    replace E := E.own P9.mod Lg4_E
    replace Ek := Ek.own P9.mod Lg4_Ek
    replace Ow := Ow.put P9.mod Dow_g4
    replace Bg4 : Blk w9 g4 _ [_, _, _, _, _, _, _] := P9.blk
    refine Ln (e_K (hK14 _ _ _ _ (Cq fun K15 hK15 => Cr (Za rfl (Ln (e_K (hK15 _ _ _ _ (Cq fun K16 hK16 => Cq fun K17 hK17 => Cr (Zm rfl (sc (oC ent176 rfl) (c_keptR [] _ (by simp) kind) rfl fun v_ w10 h_ => ?_))))))))))
    obtain ⟨Ru, E_⟩ := h_
    replace Bg1 := Bg1.mod0 E_
    replace Bg2 := Bg2.mod0 E_
    replace Bg3 := Bg3.mod0 E_
    replace Bg4 := Bg4.mod0 E_
    replace E := E.then E_
    replace Ek := Ek.then E_
    replace Ow := Ow.mod0 E_
    obtain ⟨adk, ck, rfl, hk1, hk2⟩ := flat_len Ru
    refine Sv (o_len Tryz.underlying45 rfl) (Zm rfl (Ln (e_K (hK17 _ _ _ _ (cB (c_loop (σ := Nat × Bool) (fun ⟨j, b⟩ => [(0, S kind), (3, .pointer (some ⟨g1, 0, none⟩)), (4, .pointer (some ⟨g2, 0, none⟩)), (5, .pointer (some ⟨g3, 0, none⟩)), (7, .pointer (some ⟨g4, 0, none⟩)), (8, .bool b), (22, .slice (some a_x) v.map.length cm), (23, .int .i64 v.map.length), (24, .int .i64 (k : Int)), (29, .slice adk (keptK kind).length ck), (30, .int .i64 (keptK kind).length), (31, .int .i64 (j : Int))]) (fun ⟨j, b⟩ w1 => j ≤ (keptK kind).length ∧ b = decide (x.1 ∈ (keptK kind).take j) ∧ Mod [] w10 w1) (fun ⟨j, b⟩ => (keptK kind).length - j) (⟨0, false⟩) ⟨rfl, rfl, rfl, rfl, rfl, rfl, rfl, rfl, rfl, rfl, rfl, rfl, trivial⟩ (⟨by omega, rfl, Mod.refl [] w10⟩) ?_))))))
    rintro ⟨j, b⟩ w11 ⟨hj, hb, EI⟩
    replace Bg1 := Bg1.mod0 EI
    replace Bg2 := Bg2.mod0 EI
    replace Bg3 := Bg3.mod0 EI
    replace Bg4 := Bg4.mod0 EI
    replace E := E.then EI
    replace Ek := Ek.then EI
    replace Ow := Ow.mod0 EI
    refine Cq fun K18 hK18 => Cr (Sv (o_lss rfl rfl) (Ln (e_K (hK18 _ _ _ _ (Cq fun K19 hK19 => ?_)))))
    refine c_if rfl (fun h32 => ?_) (fun h32 => ?_)
    ·obtain ⟨q, hx_q⟩ : ∃ q, (keptK kind)[j]? = some q := ⟨_, List.getElem?_eq_getElem (by omega)⟩
     obtain ⟨a_q, ha_q, hcs_q, _⟩ := flat_at (Ru.to0 EI) hx_q
     obtain rfl := ha_q
     refine cK (e_K (hK19 _ _ _ _ (Cq fun K20 hK20 => cB (Cq fun K21 hK21 => Cr (Sv (o_ix sl45 rfl rfl (by omega)) (Sv (oL sc9 rfl hcs_q.first) (Za rfl (Ln (e_K (hK21 _ _ _ _ (Cr (Zm rfl ?_))))))))))))
     refine bB (fun hs13_0 : b = true => ?_) (fun hs13_0 => ?_)
     ·exact tW 7 rfl (Ln (eI (by simp) (e_K (hK20 _ _ _ _ (Cr (Sv (o_addN rfl rfl (by omega)) (Zm rfl (Ln (eR (σ := Nat × Bool) (s := ⟨j, b⟩) (⟨j + 1, true⟩) ⟨rfl, rfl, rfl, rfl, rfl, rfl, rfl, rfl, rfl, rfl, rfl, rfl, trivial⟩ ⟨by omega, (by rw [eq_comm, decide_eq_true_iff, JV.mem_take_succ hx_q]; exact .inl (of_decide_eq_true (hb.symm.trans hs13_0))), EI⟩ (by dsimp only; omega))))))))))
     ·exact tW 2 rfl (Sg rfl rfl (oA0 fd44_0 rfl) (Sg rfl rfl (oL sc9 rfl (Bg4.cell rfl)) (Sg rfl rfl (o_seq rfl rfl) (tW 2 rfl (Ln (eI (by simp) (e_K (hK20 _ _ _ _ (Cr (Sv (o_addN rfl rfl (by omega)) (Zm rfl (Ln (eR (σ := Nat × Bool) (s := ⟨j, b⟩) (⟨j + 1, decide (q = x.1)⟩) ⟨rfl, rfl, rfl, rfl, rfl, rfl, rfl, rfl, rfl, rfl, rfl, rfl, trivial⟩ ⟨by omega, (by have hn := of_decide_eq_false (hb.symm.trans (bF hs13_0)); by_cases hq : q = x.1; rw [dT hq, eq_comm, decide_eq_true_iff, JV.mem_take_succ hx_q]; exact .inr hq; rw [dF hq, eq_comm, decide_eq_false_iff_not, JV.mem_take_succ hx_q]; exact fun h => h.elim hn hq), EI⟩ (by dsimp only; omega))))))))))))))
    ·have hbK : b = true ↔ x.1 ∈ keptK kind := by rw [hb, decide_eq_true_iff, List.take_of_length_le (by omega)]
     refine c_exit (eT (by simp) (eT (by simp) (e_hit (e_K (hK16 _ _ _ _ (Cq fun K22 hK22 => Cq fun K23 hK23 => Cr (Sv (oA0 fd44_0 rfl) (Sv (oL sc9 rfl (Bg4.cell rfl)) (Sv (o_seq rfl rfl) ?_)))))))))
     refine bD (fun hs15_0 : x.1 = kThird => ?_) (fun hs15_0 => ?_)
     ·refine tW 2 rfl (Sg rfl rfl (o_seq rfl rfl) ?_)
      refine bD (fun hs15_1 : kind = k_member => ?_) (fun hs15_1 => ?_)
      ·refine tW 2 rfl (Sg rfl rfl (oA0 fd44_1 rfl) (Sg rfl rfl (o_fa fd25_0 rfl) (Sg rfl rfl (oL sc3 rfl (Bg4.cell rfl)) (tW 2 rfl (Ln (e_K (hK23 _ _ _ _ ?_)))))))
       refine c_if rfl (fun h55 => ?_) (fun h55 => ?_)
       ·refine Cq fun K24 hK24 => Cr (Sv (oA0 fd44_1 rfl) (Sv (o_fa fd25_5 rfl) (Sv (oL sc23 rfl (Bg4.cell rfl)) (sc (oC ent77 rfl) (c_jfindR A w _ E x.2.map _ Rm_x kSigned) rfl fun v_ w12 h_ => ?_))))
        obtain ⟨us3, rfl, Rf, E_⟩ := h_
        replace Bg1 := Bg1.mod0 E_
        replace Bg2 := Bg2.mod0 E_
        replace Bg3 := Bg3.mod0 E_
        replace Bg4 := Bg4.mod0 E_
        replace E := E.then E_
        replace Ek := Ek.then E_
        replace Ow := Ow.mod0 E_
        obtain ⟨al3, cl3, am3, cm3, rfl, Rl3, Rm3⟩ := JV.cells_ Rf
        replace Rf := JV.reps_ Rl3 Rm3
        refine tW 3 rfl (s_alloc zv25 rfl fun g5 w13 N5 => ?_)
        have Lg5_E := N5.le E
        have Lg5_Ek := N5.le Ek
        have Dg1_g5 := N5.ne Bg1
        have Dg2_g5 := N5.ne Bg2
        have Dg3_g5 := N5.ne Bg3
        have Dg4_g5 := N5.ne Bg4
        have Dow_g5 := N5.own_ne Ow
        replace Bg1 := Bg1.mod0 N5.mod
        replace Bg2 := Bg2.mod0 N5.mod
        replace Bg3 := Bg3.mod0 N5.mod
        replace Bg4 := Bg4.mod0 N5.mod
        replace E := E.then N5.mod
        replace Ek := Ek.then N5.mod
        replace Ow := Ow.mod0 N5.mod
        have Bg5 := N5.blk
        refine s_sta (vs := [_, _, _, _, _, _]) ag25 Bg5 rfl rfl rfl (by simp [Value.oneCell']) (by simp) fun w14 P14 => ?_
        replace Bg1 := Bg1.ne P14.mod (Ne.symm (Ne.symm Dg1_g5))
        replace Bg2 := Bg2.ne P14.mod (Ne.symm (Ne.symm Dg2_g5))
        replace Bg3 := Bg3.ne P14.mod (Ne.symm (Ne.symm Dg3_g5))
        replace Bg4 := Bg4.ne P14.mod (Ne.symm (Ne.symm Dg4_g5))
        replace E := E.own P14.mod Lg5_E
        replace Ek := Ek.own P14.mod Lg5_Ek
        replace Ow := Ow.put P14.mod Dow_g5
        replace Bg5 : Blk w14 g5 _ [_, _, _, _, _, _] := P14.blk
        refine Za rfl (Ln (e_K (hK24 _ _ _ _ (Cq fun K25 hK25 => Cr (Zm rfl (Ln (e_K (hK25 _ _ _ _ ?_))))))))
        refine c_cond rfl (fun h63 => ?_) (fun h63 => ?_)
        ·refine Cq fun K26 hK26 => Cr (Za rfl (Ln (e_K (hK26 _ _ _ _ (Cr (Sv (o_lda (vs := [_, _, _, _, _, _]) ag25 rfl rfl (Bg5.cs rfl)) (Sv (o_build (cs := [_, _, _, _, _, _, _]) pl44 zv44 rfl rfl) (s_bslice (cs := [_, _, _, _, _, _, _]) sl23 zv44 rfl rfl rfl (by decide) rfl fun g6 w15 N6 => ?_))))))))
         have Lg6_E := N6.le E
         have Lg6_Ek := N6.le Ek
         have Dg1_g6 := N6.ne Bg1
         have Dg2_g6 := N6.ne Bg2
         have Dg3_g6 := N6.ne Bg3
         have Dg4_g6 := N6.ne Bg4
         have Dg5_g6 := N6.ne Bg5
         have Dow_g6 := N6.own_ne Ow
         replace Bg1 := Bg1.mod0 N6.mod
         replace Bg2 := Bg2.mod0 N6.mod
         replace Bg3 := Bg3.mod0 N6.mod
         replace Bg4 := Bg4.mod0 N6.mod
         replace Bg5 := Bg5.mod0 N6.mod
         replace E := E.then N6.mod
         replace Ek := Ek.then N6.mod
         replace Ow := Ow.mod0 N6.mod
         have Bg6 := N6.blk
         refine Sv (o_build (cs := [_, _, _, _, _, _]) pl25 zv25 rfl rfl) (Sv (oA0 fd44_1 rfl) (s_sta (vs := [_, _, _, _, _, _]) ag25 Bg4 rfl rfl rfl (by simp [Value.oneCell']) (by simp) fun w16 P16 => ?_))
         replace Bg1 := Bg1.ne P16.mod (Ne.symm (Ne.symm Dg1_g4))
         replace Bg2 := Bg2.ne P16.mod (Ne.symm (Ne.symm Dg2_g4))
         replace Bg3 := Bg3.ne P16.mod (Ne.symm (Ne.symm Dg3_g4))
         replace Bg5 := Bg5.ne P16.mod (Ne.symm Dg4_g5)
         replace Bg6 := Bg6.ne P16.mod (Ne.symm Dg4_g6)
         replace E := E.own P16.mod Lg4_E
         replace Ek := Ek.own P16.mod Lg4_Ek
         replace Ow := Ow.put P16.mod Dow_g4
         replace Bg4 : Blk w16 g4 _ [_, _, _, _, _, _, _] := P16.blk
         have Rrow := JV.Dp_reps (p := (x.1, JV.obj [(kSigned, (look x.2.map kSigned).getD JV.nul)])) (JV.obj_repsN (A := g2 :: g3 :: (A ++ ob (.slice adw (JV.qf kind v k).length cw))) (n := 1) rfl (Own.mem_ (m := [(kSigned, (look x.2.map kSigned).getD JV.nul)]) (Own.all (cs := [_, _, _, _, _, _, _]) Bg6 rfl (by omega)) (by simpa using JV.Dp_reps (p := (kSigned, (look x.2.map kSigned).getD JV.nul)) ((Rf.more (A' := g2 :: g3 :: (A ++ ob (.slice adw (JV.qf kind v k).length cw))) (fun a ha => by rcases List.mem_cons.1 ha with rfl | ha; exact .inr Lg2_E; rcases List.mem_cons.1 ha with rfl | ha; exact .inr Lg3_E; rcases List.mem_append.1 ha with ha | ha; exact .inl ha; exact .inr (Lw a ha))).to0 E)) rfl (fun y hy h => by
          simp only [ob, List.mem_singleton] at hy
          subst hy
          rcases List.mem_cons.1 h with h | h
          ·exact Dg2_g6 h.symm
          rcases List.mem_cons.1 h with h | h
          ·exact Dg3_g6 h.symm
          rcases List.mem_append.1 h with h | h
          ·have := hAl _ h; have := Lg6_E; omega
          ·exact Dow_g6 _ h rfl)))
         have hst := JV.stay_yes hs15_0 hs15_1 h55 h63
         have Ekr := Mod.refl [] w16
         refine Ln (e_K (hK22 _ _ _ _ (Cq fun K27 hK27 => Cr (Zm rfl (Ln (e_K (hK27 _ _ _ _ (c_true rfl (Cr (Sv (oA0 fd25_5 rfl) (Sv (oL sc23 rfl (Bg3.cell rfl)) (Sv (o_lda (vs := [_, _, _, _, _, _, _]) ag44 rfl rfl (Bg4.cs rfl)) (s_bslice (cs := [_, _, _, _, _, _, _]) sl23 zv44 rfl rfl rfl (by decide) rfl fun g7 w17 N7 => ?_)))))))))))))
         have Lg7_E := N7.le E
         have Lg7_Ek := N7.le Ek
         have Lg7_Ekr := N7.le Ekr
         have Dg1_g7 := N7.ne Bg1
         have Dg2_g7 := N7.ne Bg2
         have Dg3_g7 := N7.ne Bg3
         have Dg4_g7 := N7.ne Bg4
         have Dg5_g7 := N7.ne Bg5
         have Dg6_g7 := N7.ne Bg6
         have Dow_g7 := N7.own_ne Ow
         replace Bg1 := Bg1.mod0 N7.mod
         replace Bg2 := Bg2.mod0 N7.mod
         replace Bg3 := Bg3.mod0 N7.mod
         replace Bg4 := Bg4.mod0 N7.mod
         replace Bg5 := Bg5.mod0 N7.mod
         replace Bg6 := Bg6.mod0 N7.mod
         replace E := E.then N7.mod
         replace Ek := Ek.then N7.mod
         replace Ekr := Ekr.then N7.mod
         replace Ow := Ow.mod0 N7.mod
         have Bg7 := N7.blk
         have hszQ := JV.qf_len (kind := kind) (v := v) (k := k)
         have hlw := Ow.lt
         have hle2 := Bg2.lt
         have hle3 := Bg3.lt
         have hle1 := Bg1.lt
         have hszE := E.size
         have RqN := Rq.to0 Ek
         refine s_append sl23 rfl rfl Ow (Src.own Tryz.underlying23 (Own.all (cs := [_, _, _, _, _, _, _]) Bg7 rfl (by omega)) (by simp [Value.oneCell'])) (by decide) (by omega) (by omega) rfl fun wv2 w18 AA => ?_
         replace Bg1 := Bg1.mod AA.mod (fun hx => Dw1 _ hx rfl)
         replace Bg2 := Bg2.mod AA.mod (fun hx => Dw2 _ hx rfl)
         replace Bg3 := Bg3.mod AA.mod (fun hx => Dw3 _ hx rfl)
         have Dx1 : ∀ y ∈ ob wv2, y ≠ g1 := fun y hy => (AA.ob_ y hy).elim (fun h => Dw1 y h) (fun h e => by omega)
         have Dx2 : ∀ y ∈ ob wv2, y ≠ g2 := fun y hy => (AA.ob_ y hy).elim (fun h => Dw2 y h) (fun h e => by omega)
         have Dx3 : ∀ y ∈ ob wv2, y ≠ g3 := fun y hy => (AA.ob_ y hy).elim (fun h => Dw3 y h) (fun h e => by omega)
         have Lx : ∀ y ∈ ob wv2, w.heap.size ≤ y := fun y hy => (AA.ob_ y hy).elim (fun h => Lw y h) (fun h => by omega)
         have hAA : ∀ y ∈ g2 :: g3 :: (A ++ ob wv2), y ∈ g2 :: g3 :: (A ++ ob (.slice adw (JV.qf kind v k).length cw)) ∨ _ ≤ y := fun y hy => by
          rcases List.mem_cons.1 hy with rfl | hy
          ·exact .inl (by simp)
          rcases List.mem_cons.1 hy with rfl | hy
          ·exact .inl (by simp)
          rcases List.mem_append.1 hy with hy | hy
          ·exact .inl (by simp [hy])
          ·exact (AA.ob_ y hy).elim (fun h => .inl (List.mem_cons_of_mem _ (List.mem_cons_of_mem _ (List.mem_append_right _ h)))) .inr
         have Rq2 := Reps.to AA.mod (fun y hy => List.mem_cons_of_mem _ (List.mem_cons_of_mem _ (List.mem_append_right _ hy))) hAA _ _ (JV.rows_snoc RqN (Rrow.to0 Ekr))
         rw [← JV.qf_some hx_x hst] at Rq2
         replace E := E.trans' AA.mod (fun y hy => .inr (Lw y hy))
         have Ox := AA.own.as_ (m := (JV.qf kind v (k + 1)).length) (by rw [JV.qf_some hx_x hst]; simp)
         obtain ⟨ad2, c2, rfl, hc21, hc22⟩ := Ox.form
         refine Sv (oA0 fd25_5 rfl) (s_st sc23 Bg3 rfl rfl rfl (by simp) fun w19 P19 => ?_)
         replace Bg1 := Bg1.ne P19.mod (Ne.symm (Ne.symm Dg1_g3))
         replace Bg2 := Bg2.ne P19.mod (Ne.symm (Ne.symm Dg2_g3))
         replace E := E.own P19.mod Lg3_E
         replace Ox := Ox.put P19.mod Dx3
         replace Bg3 : Blk w19 g3 _ [_, _, _, _, _, _] := P19.blk
         have Rq3 := Rq2.toM P19.mod (fun a ha => by simp [List.mem_singleton.1 ha])
         exact Ln (eI (by simp) (e_K (hK13 _ _ _ _ (Cr (Sv (o_addN rfl rfl (by omega)) (Zm rfl (Ln (eR (σ := Nat × Value × List Value) (s := ⟨k, (.slice adw (JV.qf kind v k).length cw), vs⟩) (⟨k + 1, .slice ad2 (JV.qf kind v (k + 1)).length c2, vs ++ _⟩) ⟨rfl, rfl, rfl, rfl, rfl, rfl, rfl, trivial⟩ ⟨by omega, Ox, Rq3, Lx, Dx1, Dx2, Dx3, Bg3, Bg2, Bg1, E⟩ (by dsimp only; omega)))))))))
        ·have hs0 := JV.stay_eq0' (kind := kind) (p := x) h63
         refine cK (e_K (hK22 _ _ _ _ (Cq fun K28 hK28 => Cr (Zm rfl (Ln (e_K (hK28 _ _ _ _ ?_)))))))
         refine c_cond rfl (fun h69 => ?_) (fun h69 => ?_)
         ·have Ekr := Mod.refl [] w14
          have Rrow := JV.Dp_reps (p := x) ((R_x.more (A' := g2 :: g3 :: (A ++ ob (.slice adw (JV.qf kind v k).length cw))) (fun a ha => by rcases List.mem_cons.1 ha with rfl | ha; exact .inr Lg2_E; rcases List.mem_cons.1 ha with rfl | ha; exact .inr Lg3_E; rcases List.mem_append.1 ha with ha | ha; exact .inl ha; exact .inr (Lw a ha))).to0 E)
          have hst : JV.stay kind x = some x := hs0.trans (JV.stay0_yes (hbK.1 h69))
          refine Cr (Sv (oA0 fd25_5 rfl) (Sv (oL sc23 rfl (Bg3.cell rfl)) (Sv (o_lda (vs := [_, _, _, _, _, _, _]) ag44 rfl rfl (Bg4.cs rfl)) (s_bslice (cs := [_, _, _, _, _, _, _]) sl23 zv44 rfl rfl rfl (by decide) rfl fun g8 w20 N8 => ?_))))
          have Lg8_E := N8.le E
          have Lg8_Ek := N8.le Ek
          have Lg8_Ekr := N8.le Ekr
          have Dg1_g8 := N8.ne Bg1
          have Dg2_g8 := N8.ne Bg2
          have Dg3_g8 := N8.ne Bg3
          have Dg4_g8 := N8.ne Bg4
          have Dg5_g8 := N8.ne Bg5
          have Dow_g8 := N8.own_ne Ow
          replace Bg1 := Bg1.mod0 N8.mod
          replace Bg2 := Bg2.mod0 N8.mod
          replace Bg3 := Bg3.mod0 N8.mod
          replace Bg4 := Bg4.mod0 N8.mod
          replace Bg5 := Bg5.mod0 N8.mod
          replace E := E.then N8.mod
          replace Ek := Ek.then N8.mod
          replace Ekr := Ekr.then N8.mod
          replace Ow := Ow.mod0 N8.mod
          have Bg8 := N8.blk
          have hszQ := JV.qf_len (kind := kind) (v := v) (k := k)
          have hlw := Ow.lt
          have hle2 := Bg2.lt
          have hle3 := Bg3.lt
          have hle1 := Bg1.lt
          have hszE := E.size
          have RqN := Rq.to0 Ek
          refine s_append sl23 rfl rfl Ow (Src.own Tryz.underlying23 (Own.all (cs := [_, _, _, _, _, _, _]) Bg8 rfl (by omega)) (by simp [Value.oneCell'])) (by decide) (by omega) (by omega) rfl fun wv2 w21 AA => ?_
          replace Bg1 := Bg1.mod AA.mod (fun hx => Dw1 _ hx rfl)
          replace Bg2 := Bg2.mod AA.mod (fun hx => Dw2 _ hx rfl)
          replace Bg3 := Bg3.mod AA.mod (fun hx => Dw3 _ hx rfl)
          have Dx1 : ∀ y ∈ ob wv2, y ≠ g1 := fun y hy => (AA.ob_ y hy).elim (fun h => Dw1 y h) (fun h e => by omega)
          have Dx2 : ∀ y ∈ ob wv2, y ≠ g2 := fun y hy => (AA.ob_ y hy).elim (fun h => Dw2 y h) (fun h e => by omega)
          have Dx3 : ∀ y ∈ ob wv2, y ≠ g3 := fun y hy => (AA.ob_ y hy).elim (fun h => Dw3 y h) (fun h e => by omega)
          have Lx : ∀ y ∈ ob wv2, w.heap.size ≤ y := fun y hy => (AA.ob_ y hy).elim (fun h => Lw y h) (fun h => by omega)
          have hAA : ∀ y ∈ g2 :: g3 :: (A ++ ob wv2), y ∈ g2 :: g3 :: (A ++ ob (.slice adw (JV.qf kind v k).length cw)) ∨ _ ≤ y := fun y hy => by
           rcases List.mem_cons.1 hy with rfl | hy
           ·exact .inl (by simp)
           rcases List.mem_cons.1 hy with rfl | hy
           ·exact .inl (by simp)
           rcases List.mem_append.1 hy with hy | hy
           ·exact .inl (by simp [hy])
           ·exact (AA.ob_ y hy).elim (fun h => .inl (List.mem_cons_of_mem _ (List.mem_cons_of_mem _ (List.mem_append_right _ h)))) .inr
          have Rq2 := Reps.to AA.mod (fun y hy => List.mem_cons_of_mem _ (List.mem_cons_of_mem _ (List.mem_append_right _ hy))) hAA _ _ (JV.rows_snoc RqN (Rrow.to0 Ekr))
          rw [← JV.qf_some hx_x hst] at Rq2
          replace E := E.trans' AA.mod (fun y hy => .inr (Lw y hy))
          have Ox := AA.own.as_ (m := (JV.qf kind v (k + 1)).length) (by rw [JV.qf_some hx_x hst]; simp)
          obtain ⟨ad2, c2, rfl, hc21, hc22⟩ := Ox.form
          refine Sv (oA0 fd25_5 rfl) (s_st sc23 Bg3 rfl rfl rfl (by simp) fun w22 P22 => ?_)
          replace Bg1 := Bg1.ne P22.mod (Ne.symm (Ne.symm Dg1_g3))
          replace Bg2 := Bg2.ne P22.mod (Ne.symm (Ne.symm Dg2_g3))
          replace E := E.own P22.mod Lg3_E
          replace Ox := Ox.put P22.mod Dx3
          replace Bg3 : Blk w22 g3 _ [_, _, _, _, _, _] := P22.blk
          have Rq3 := Rq2.toM P22.mod (fun a ha => by simp [List.mem_singleton.1 ha])
          exact Ln (eI (by simp) (e_K (hK13 _ _ _ _ (Cr (Sv (o_addN rfl rfl (by omega)) (Zm rfl (Ln (eR (σ := Nat × Value × List Value) (s := ⟨k, (.slice adw (JV.qf kind v k).length cw), vs⟩) (⟨k + 1, .slice ad2 (JV.qf kind v (k + 1)).length c2, vs ++ _⟩) ⟨rfl, rfl, rfl, rfl, rfl, rfl, rfl, trivial⟩ ⟨by omega, Ox, Rq3, Lx, Dx1, Dx2, Dx3, Bg3, Bg2, Bg1, E⟩ (by dsimp only; omega)))))))))
         ·have hst : JV.stay kind x = none := hs0.trans (JV.stay0_no (fun h => by rw [hbK.2 h] at h69; cases h69))
          exact cK (eI (by simp) (e_K (hK13 _ _ _ _ (Cr (Sv (o_addN rfl rfl (by omega)) (Zm rfl (Ln (eR (σ := Nat × Value × List Value) (s := ⟨k, (.slice adw (JV.qf kind v k).length cw), vs⟩) (⟨k + 1, (.slice adw (JV.qf kind v k).length cw), vs⟩) ⟨rfl, rfl, rfl, rfl, rfl, rfl, rfl, trivial⟩ ⟨by omega, Ow.as_ (by rw [JV.qf_none hx_x hst]), by rw [JV.qf_none hx_x hst]; exact Rq.to0 Ek, Lw, Dw1, Dw2, Dw3, Bg3, Bg2, Bg1, E⟩ (by dsimp only; omega)))))))))
       ·have hs0 := JV.stay_eq0 (kind := kind) (p := x) (fun e => h55 e.2.2)
        refine cK (e_K (hK22 _ _ _ _ (Cq fun K29 hK29 => Cr (Zm rfl (Ln (e_K (hK29 _ _ _ _ ?_)))))))
        refine c_cond rfl (fun h69 => ?_) (fun h69 => ?_)
        ·have Ekr := Mod.refl [] w11
         have Rrow := JV.Dp_reps (p := x) ((R_x.more (A' := g2 :: g3 :: (A ++ ob (.slice adw (JV.qf kind v k).length cw))) (fun a ha => by rcases List.mem_cons.1 ha with rfl | ha; exact .inr Lg2_E; rcases List.mem_cons.1 ha with rfl | ha; exact .inr Lg3_E; rcases List.mem_append.1 ha with ha | ha; exact .inl ha; exact .inr (Lw a ha))).to0 E)
         have hst : JV.stay kind x = some x := hs0.trans (JV.stay0_yes (hbK.1 h69))
         refine Cr (Sv (oA0 fd25_5 rfl) (Sv (oL sc23 rfl (Bg3.cell rfl)) (Sv (o_lda (vs := [_, _, _, _, _, _, _]) ag44 rfl rfl (Bg4.cs rfl)) (s_bslice (cs := [_, _, _, _, _, _, _]) sl23 zv44 rfl rfl rfl (by decide) rfl fun g9 w23 N9 => ?_))))
         have Lg9_E := N9.le E
         have Lg9_Ek := N9.le Ek
         have Lg9_Ekr := N9.le Ekr
         have Dg1_g9 := N9.ne Bg1
         have Dg2_g9 := N9.ne Bg2
         have Dg3_g9 := N9.ne Bg3
         have Dg4_g9 := N9.ne Bg4
         have Dow_g9 := N9.own_ne Ow
         replace Bg1 := Bg1.mod0 N9.mod
         replace Bg2 := Bg2.mod0 N9.mod
         replace Bg3 := Bg3.mod0 N9.mod
         replace Bg4 := Bg4.mod0 N9.mod
         replace E := E.then N9.mod
         replace Ek := Ek.then N9.mod
         replace Ekr := Ekr.then N9.mod
         replace Ow := Ow.mod0 N9.mod
         have Bg9 := N9.blk
         have hszQ := JV.qf_len (kind := kind) (v := v) (k := k)
         have hlw := Ow.lt
         have hle2 := Bg2.lt
         have hle3 := Bg3.lt
         have hle1 := Bg1.lt
         have hszE := E.size
         have RqN := Rq.to0 Ek
         refine s_append sl23 rfl rfl Ow (Src.own Tryz.underlying23 (Own.all (cs := [_, _, _, _, _, _, _]) Bg9 rfl (by omega)) (by simp [Value.oneCell'])) (by decide) (by omega) (by omega) rfl fun wv2 w24 AA => ?_
         replace Bg1 := Bg1.mod AA.mod (fun hx => Dw1 _ hx rfl)
         replace Bg2 := Bg2.mod AA.mod (fun hx => Dw2 _ hx rfl)
         replace Bg3 := Bg3.mod AA.mod (fun hx => Dw3 _ hx rfl)
         have Dx1 : ∀ y ∈ ob wv2, y ≠ g1 := fun y hy => (AA.ob_ y hy).elim (fun h => Dw1 y h) (fun h e => by omega)
         have Dx2 : ∀ y ∈ ob wv2, y ≠ g2 := fun y hy => (AA.ob_ y hy).elim (fun h => Dw2 y h) (fun h e => by omega)
         have Dx3 : ∀ y ∈ ob wv2, y ≠ g3 := fun y hy => (AA.ob_ y hy).elim (fun h => Dw3 y h) (fun h e => by omega)
         have Lx : ∀ y ∈ ob wv2, w.heap.size ≤ y := fun y hy => (AA.ob_ y hy).elim (fun h => Lw y h) (fun h => by omega)
         have hAA : ∀ y ∈ g2 :: g3 :: (A ++ ob wv2), y ∈ g2 :: g3 :: (A ++ ob (.slice adw (JV.qf kind v k).length cw)) ∨ _ ≤ y := fun y hy => by
          rcases List.mem_cons.1 hy with rfl | hy
          ·exact .inl (by simp)
          rcases List.mem_cons.1 hy with rfl | hy
          ·exact .inl (by simp)
          rcases List.mem_append.1 hy with hy | hy
          ·exact .inl (by simp [hy])
          ·exact (AA.ob_ y hy).elim (fun h => .inl (List.mem_cons_of_mem _ (List.mem_cons_of_mem _ (List.mem_append_right _ h)))) .inr
         have Rq2 := Reps.to AA.mod (fun y hy => List.mem_cons_of_mem _ (List.mem_cons_of_mem _ (List.mem_append_right _ hy))) hAA _ _ (JV.rows_snoc RqN (Rrow.to0 Ekr))
         rw [← JV.qf_some hx_x hst] at Rq2
         replace E := E.trans' AA.mod (fun y hy => .inr (Lw y hy))
         have Ox := AA.own.as_ (m := (JV.qf kind v (k + 1)).length) (by rw [JV.qf_some hx_x hst]; simp)
         obtain ⟨ad2, c2, rfl, hc21, hc22⟩ := Ox.form
         refine Sv (oA0 fd25_5 rfl) (s_st sc23 Bg3 rfl rfl rfl (by simp) fun w25 P25 => ?_)
         replace Bg1 := Bg1.ne P25.mod (Ne.symm (Ne.symm Dg1_g3))
         replace Bg2 := Bg2.ne P25.mod (Ne.symm (Ne.symm Dg2_g3))
         replace E := E.own P25.mod Lg3_E
         replace Ox := Ox.put P25.mod Dx3
         replace Bg3 : Blk w25 g3 _ [_, _, _, _, _, _] := P25.blk
         have Rq3 := Rq2.toM P25.mod (fun a ha => by simp [List.mem_singleton.1 ha])
         exact Ln (eI (by simp) (e_K (hK13 _ _ _ _ (Cr (Sv (o_addN rfl rfl (by omega)) (Zm rfl (Ln (eR (σ := Nat × Value × List Value) (s := ⟨k, (.slice adw (JV.qf kind v k).length cw), vs⟩) (⟨k + 1, .slice ad2 (JV.qf kind v (k + 1)).length c2, vs ++ _⟩) ⟨rfl, rfl, rfl, rfl, rfl, rfl, rfl, trivial⟩ ⟨by omega, Ox, Rq3, Lx, Dx1, Dx2, Dx3, Bg3, Bg2, Bg1, E⟩ (by dsimp only; omega)))))))))
        ·have hst : JV.stay kind x = none := hs0.trans (JV.stay0_no (fun h => by rw [hbK.2 h] at h69; cases h69))
         exact cK (eI (by simp) (e_K (hK13 _ _ _ _ (Cr (Sv (o_addN rfl rfl (by omega)) (Zm rfl (Ln (eR (σ := Nat × Value × List Value) (s := ⟨k, (.slice adw (JV.qf kind v k).length cw), vs⟩) (⟨k + 1, (.slice adw (JV.qf kind v k).length cw), vs⟩) ⟨rfl, rfl, rfl, rfl, rfl, rfl, rfl, trivial⟩ ⟨by omega, Ow.as_ (by rw [JV.qf_none hx_x hst]), by rw [JV.qf_none hx_x hst]; exact Rq.to0 Ek, Lw, Dw1, Dw2, Dw3, Bg3, Bg2, Bg1, E⟩ (by dsimp only; omega)))))))))
      ·have hs0 := JV.stay_eq0 (kind := kind) (p := x) (fun e => hs15_1 e.2.1)
       refine tW 7 rfl (Ln (e_K (hK23 _ _ _ _ (c_false rfl (cK (e_K (hK22 _ _ _ _ (Cq fun K30 hK30 => Cr (Zm rfl (Ln (e_K (hK30 _ _ _ _ ?_))))))))))))
       refine c_cond rfl (fun h69 => ?_) (fun h69 => ?_)
       ·have Ekr := Mod.refl [] w11
        have Rrow := JV.Dp_reps (p := x) ((R_x.more (A' := g2 :: g3 :: (A ++ ob (.slice adw (JV.qf kind v k).length cw))) (fun a ha => by rcases List.mem_cons.1 ha with rfl | ha; exact .inr Lg2_E; rcases List.mem_cons.1 ha with rfl | ha; exact .inr Lg3_E; rcases List.mem_append.1 ha with ha | ha; exact .inl ha; exact .inr (Lw a ha))).to0 E)
        have hst : JV.stay kind x = some x := hs0.trans (JV.stay0_yes (hbK.1 h69))
        refine Cr (Sv (oA0 fd25_5 rfl) (Sv (oL sc23 rfl (Bg3.cell rfl)) (Sv (o_lda (vs := [_, _, _, _, _, _, _]) ag44 rfl rfl (Bg4.cs rfl)) (s_bslice (cs := [_, _, _, _, _, _, _]) sl23 zv44 rfl rfl rfl (by decide) rfl fun g10 w26 N10 => ?_))))
        have Lg10_E := N10.le E
        have Lg10_Ek := N10.le Ek
        have Lg10_Ekr := N10.le Ekr
        have Dg1_g10 := N10.ne Bg1
        have Dg2_g10 := N10.ne Bg2
        have Dg3_g10 := N10.ne Bg3
        have Dg4_g10 := N10.ne Bg4
        have Dow_g10 := N10.own_ne Ow
        replace Bg1 := Bg1.mod0 N10.mod
        replace Bg2 := Bg2.mod0 N10.mod
        replace Bg3 := Bg3.mod0 N10.mod
        replace Bg4 := Bg4.mod0 N10.mod
        replace E := E.then N10.mod
        replace Ek := Ek.then N10.mod
        replace Ekr := Ekr.then N10.mod
        replace Ow := Ow.mod0 N10.mod
        have Bg10 := N10.blk
        have hszQ := JV.qf_len (kind := kind) (v := v) (k := k)
        have hlw := Ow.lt
        have hle2 := Bg2.lt
        have hle3 := Bg3.lt
        have hle1 := Bg1.lt
        have hszE := E.size
        have RqN := Rq.to0 Ek
        refine s_append sl23 rfl rfl Ow (Src.own Tryz.underlying23 (Own.all (cs := [_, _, _, _, _, _, _]) Bg10 rfl (by omega)) (by simp [Value.oneCell'])) (by decide) (by omega) (by omega) rfl fun wv2 w27 AA => ?_
        replace Bg1 := Bg1.mod AA.mod (fun hx => Dw1 _ hx rfl)
        replace Bg2 := Bg2.mod AA.mod (fun hx => Dw2 _ hx rfl)
        replace Bg3 := Bg3.mod AA.mod (fun hx => Dw3 _ hx rfl)
        have Dx1 : ∀ y ∈ ob wv2, y ≠ g1 := fun y hy => (AA.ob_ y hy).elim (fun h => Dw1 y h) (fun h e => by omega)
        have Dx2 : ∀ y ∈ ob wv2, y ≠ g2 := fun y hy => (AA.ob_ y hy).elim (fun h => Dw2 y h) (fun h e => by omega)
        have Dx3 : ∀ y ∈ ob wv2, y ≠ g3 := fun y hy => (AA.ob_ y hy).elim (fun h => Dw3 y h) (fun h e => by omega)
        have Lx : ∀ y ∈ ob wv2, w.heap.size ≤ y := fun y hy => (AA.ob_ y hy).elim (fun h => Lw y h) (fun h => by omega)
        have hAA : ∀ y ∈ g2 :: g3 :: (A ++ ob wv2), y ∈ g2 :: g3 :: (A ++ ob (.slice adw (JV.qf kind v k).length cw)) ∨ _ ≤ y := fun y hy => by
         rcases List.mem_cons.1 hy with rfl | hy
         ·exact .inl (by simp)
         rcases List.mem_cons.1 hy with rfl | hy
         ·exact .inl (by simp)
         rcases List.mem_append.1 hy with hy | hy
         ·exact .inl (by simp [hy])
         ·exact (AA.ob_ y hy).elim (fun h => .inl (List.mem_cons_of_mem _ (List.mem_cons_of_mem _ (List.mem_append_right _ h)))) .inr
        have Rq2 := Reps.to AA.mod (fun y hy => List.mem_cons_of_mem _ (List.mem_cons_of_mem _ (List.mem_append_right _ hy))) hAA _ _ (JV.rows_snoc RqN (Rrow.to0 Ekr))
        rw [← JV.qf_some hx_x hst] at Rq2
        replace E := E.trans' AA.mod (fun y hy => .inr (Lw y hy))
        have Ox := AA.own.as_ (m := (JV.qf kind v (k + 1)).length) (by rw [JV.qf_some hx_x hst]; simp)
        obtain ⟨ad2, c2, rfl, hc21, hc22⟩ := Ox.form
        refine Sv (oA0 fd25_5 rfl) (s_st sc23 Bg3 rfl rfl rfl (by simp) fun w28 P28 => ?_)
        replace Bg1 := Bg1.ne P28.mod (Ne.symm (Ne.symm Dg1_g3))
        replace Bg2 := Bg2.ne P28.mod (Ne.symm (Ne.symm Dg2_g3))
        replace E := E.own P28.mod Lg3_E
        replace Ox := Ox.put P28.mod Dx3
        replace Bg3 : Blk w28 g3 _ [_, _, _, _, _, _] := P28.blk
        have Rq3 := Rq2.toM P28.mod (fun a ha => by simp [List.mem_singleton.1 ha])
        exact Ln (eI (by simp) (e_K (hK13 _ _ _ _ (Cr (Sv (o_addN rfl rfl (by omega)) (Zm rfl (Ln (eR (σ := Nat × Value × List Value) (s := ⟨k, (.slice adw (JV.qf kind v k).length cw), vs⟩) (⟨k + 1, .slice ad2 (JV.qf kind v (k + 1)).length c2, vs ++ _⟩) ⟨rfl, rfl, rfl, rfl, rfl, rfl, rfl, trivial⟩ ⟨by omega, Ox, Rq3, Lx, Dx1, Dx2, Dx3, Bg3, Bg2, Bg1, E⟩ (by dsimp only; omega)))))))))
       ·have hst : JV.stay kind x = none := hs0.trans (JV.stay0_no (fun h => by rw [hbK.2 h] at h69; cases h69))
        exact cK (eI (by simp) (e_K (hK13 _ _ _ _ (Cr (Sv (o_addN rfl rfl (by omega)) (Zm rfl (Ln (eR (σ := Nat × Value × List Value) (s := ⟨k, (.slice adw (JV.qf kind v k).length cw), vs⟩) (⟨k + 1, (.slice adw (JV.qf kind v k).length cw), vs⟩) ⟨rfl, rfl, rfl, rfl, rfl, rfl, rfl, trivial⟩ ⟨by omega, Ow.as_ (by rw [JV.qf_none hx_x hst]), by rw [JV.qf_none hx_x hst]; exact Rq.to0 Ek, Lw, Dw1, Dw2, Dw3, Bg3, Bg2, Bg1, E⟩ (by dsimp only; omega)))))))))
     ·have hs0 := JV.stay_eq0 (kind := kind) (p := x) (fun e => hs15_0 e.1)
      refine tW 10 rfl (Ln (e_K (hK23 _ _ _ _ (c_false rfl (cK (e_K (hK22 _ _ _ _ (Cq fun K31 hK31 => Cr (Zm rfl (Ln (e_K (hK31 _ _ _ _ ?_))))))))))))
      refine c_cond rfl (fun h69 => ?_) (fun h69 => ?_)
      ·have Ekr := Mod.refl [] w11
       have Rrow := JV.Dp_reps (p := x) ((R_x.more (A' := g2 :: g3 :: (A ++ ob (.slice adw (JV.qf kind v k).length cw))) (fun a ha => by rcases List.mem_cons.1 ha with rfl | ha; exact .inr Lg2_E; rcases List.mem_cons.1 ha with rfl | ha; exact .inr Lg3_E; rcases List.mem_append.1 ha with ha | ha; exact .inl ha; exact .inr (Lw a ha))).to0 E)
       have hst : JV.stay kind x = some x := hs0.trans (JV.stay0_yes (hbK.1 h69))
       refine Cr (Sv (oA0 fd25_5 rfl) (Sv (oL sc23 rfl (Bg3.cell rfl)) (Sv (o_lda (vs := [_, _, _, _, _, _, _]) ag44 rfl rfl (Bg4.cs rfl)) (s_bslice (cs := [_, _, _, _, _, _, _]) sl23 zv44 rfl rfl rfl (by decide) rfl fun g11 w29 N11 => ?_))))
       have Lg11_E := N11.le E
       have Lg11_Ek := N11.le Ek
       have Lg11_Ekr := N11.le Ekr
       have Dg1_g11 := N11.ne Bg1
       have Dg2_g11 := N11.ne Bg2
       have Dg3_g11 := N11.ne Bg3
       have Dg4_g11 := N11.ne Bg4
       have Dow_g11 := N11.own_ne Ow
       replace Bg1 := Bg1.mod0 N11.mod
       replace Bg2 := Bg2.mod0 N11.mod
       replace Bg3 := Bg3.mod0 N11.mod
       replace Bg4 := Bg4.mod0 N11.mod
       replace E := E.then N11.mod
       replace Ek := Ek.then N11.mod
       replace Ekr := Ekr.then N11.mod
       replace Ow := Ow.mod0 N11.mod
       have Bg11 := N11.blk
       have hszQ := JV.qf_len (kind := kind) (v := v) (k := k)
       have hlw := Ow.lt
       have hle2 := Bg2.lt
       have hle3 := Bg3.lt
       have hle1 := Bg1.lt
       have hszE := E.size
       have RqN := Rq.to0 Ek
       refine s_append sl23 rfl rfl Ow (Src.own Tryz.underlying23 (Own.all (cs := [_, _, _, _, _, _, _]) Bg11 rfl (by omega)) (by simp [Value.oneCell'])) (by decide) (by omega) (by omega) rfl fun wv2 w30 AA => ?_
       replace Bg1 := Bg1.mod AA.mod (fun hx => Dw1 _ hx rfl)
       replace Bg2 := Bg2.mod AA.mod (fun hx => Dw2 _ hx rfl)
       replace Bg3 := Bg3.mod AA.mod (fun hx => Dw3 _ hx rfl)
       have Dx1 : ∀ y ∈ ob wv2, y ≠ g1 := fun y hy => (AA.ob_ y hy).elim (fun h => Dw1 y h) (fun h e => by omega)
       have Dx2 : ∀ y ∈ ob wv2, y ≠ g2 := fun y hy => (AA.ob_ y hy).elim (fun h => Dw2 y h) (fun h e => by omega)
       have Dx3 : ∀ y ∈ ob wv2, y ≠ g3 := fun y hy => (AA.ob_ y hy).elim (fun h => Dw3 y h) (fun h e => by omega)
       have Lx : ∀ y ∈ ob wv2, w.heap.size ≤ y := fun y hy => (AA.ob_ y hy).elim (fun h => Lw y h) (fun h => by omega)
       have hAA : ∀ y ∈ g2 :: g3 :: (A ++ ob wv2), y ∈ g2 :: g3 :: (A ++ ob (.slice adw (JV.qf kind v k).length cw)) ∨ _ ≤ y := fun y hy => by
        rcases List.mem_cons.1 hy with rfl | hy
        ·exact .inl (by simp)
        rcases List.mem_cons.1 hy with rfl | hy
        ·exact .inl (by simp)
        rcases List.mem_append.1 hy with hy | hy
        ·exact .inl (by simp [hy])
        ·exact (AA.ob_ y hy).elim (fun h => .inl (List.mem_cons_of_mem _ (List.mem_cons_of_mem _ (List.mem_append_right _ h)))) .inr
       have Rq2 := Reps.to AA.mod (fun y hy => List.mem_cons_of_mem _ (List.mem_cons_of_mem _ (List.mem_append_right _ hy))) hAA _ _ (JV.rows_snoc RqN (Rrow.to0 Ekr))
       rw [← JV.qf_some hx_x hst] at Rq2
       replace E := E.trans' AA.mod (fun y hy => .inr (Lw y hy))
       have Ox := AA.own.as_ (m := (JV.qf kind v (k + 1)).length) (by rw [JV.qf_some hx_x hst]; simp)
       obtain ⟨ad2, c2, rfl, hc21, hc22⟩ := Ox.form
       refine Sv (oA0 fd25_5 rfl) (s_st sc23 Bg3 rfl rfl rfl (by simp) fun w31 P31 => ?_)
       replace Bg1 := Bg1.ne P31.mod (Ne.symm (Ne.symm Dg1_g3))
       replace Bg2 := Bg2.ne P31.mod (Ne.symm (Ne.symm Dg2_g3))
       replace E := E.own P31.mod Lg3_E
       replace Ox := Ox.put P31.mod Dx3
       replace Bg3 : Blk w31 g3 _ [_, _, _, _, _, _] := P31.blk
       have Rq3 := Rq2.toM P31.mod (fun a ha => by simp [List.mem_singleton.1 ha])
       exact Ln (eI (by simp) (e_K (hK13 _ _ _ _ (Cr (Sv (o_addN rfl rfl (by omega)) (Zm rfl (Ln (eR (σ := Nat × Value × List Value) (s := ⟨k, (.slice adw (JV.qf kind v k).length cw), vs⟩) (⟨k + 1, .slice ad2 (JV.qf kind v (k + 1)).length c2, vs ++ _⟩) ⟨rfl, rfl, rfl, rfl, rfl, rfl, rfl, trivial⟩ ⟨by omega, Ox, Rq3, Lx, Dx1, Dx2, Dx3, Bg3, Bg2, Bg1, E⟩ (by dsimp only; omega)))))))))
      ·have hst : JV.stay kind x = none := hs0.trans (JV.stay0_no (fun h => by rw [hbK.2 h] at h69; cases h69))
       exact cK (eI (by simp) (e_K (hK13 _ _ _ _ (Cr (Sv (o_addN rfl rfl (by omega)) (Zm rfl (Ln (eR (σ := Nat × Value × List Value) (s := ⟨k, (.slice adw (JV.qf kind v k).length cw), vs⟩) (⟨k + 1, (.slice adw (JV.qf kind v k).length cw), vs⟩) ⟨rfl, rfl, rfl, rfl, rfl, rfl, rfl, trivial⟩ ⟨by omega, Ow.as_ (by rw [JV.qf_none hx_x hst]), by rw [JV.qf_none hx_x hst]; exact Rq.to0 Ek, Lw, Dw1, Dw2, Dw3, Bg3, Bg2, Bg1, E⟩ (by dsimp only; omega)))))))))
   ·refine c_exit (eT (by simp) (eT (by simp) (e_hit (e_K (hK9 _ _ _ _ (Cq fun K32 hK32 => Cr (Sv (o_lda (vs := [_, _, _, _, _, _]) ag25 rfl rfl (Bg3.cs rfl)) ?_)))))))
    have Rf := JV.obj_repsN (A := g2 :: g3 :: A) (by rw [JV.qf_all (by omega)]) (Own.mem_ Ow ((Rq.to0 Ek).anti (A' := g2 :: g3 :: A) (fun a ha => by rcases List.mem_cons.1 ha with rfl | ha; simp; rcases List.mem_cons.1 ha with rfl | ha; simp; simp [ha])) rfl (fun y hy h => by rcases List.mem_cons.1 h with h | h; exact Dw2 y hy h; rcases List.mem_cons.1 h with h | h; exact Dw3 y hy h; have := hAl _ h; have := Lw y hy; omega))
    refine s_sta (vs := [_, _, _, _, _, _]) ag25 Bg2 rfl rfl rfl (by simp [Value.oneCell']) (by simp) fun w32 P32 => ?_
    replace Bg1 := Bg1.ne P32.mod (Ne.symm (Ne.symm Dg1_g2))
    replace Bg3 := Bg3.ne P32.mod (Ne.symm Dg2_g3)
    replace E := E.own P32.mod Lg2_E
    replace Ow := Ow.put P32.mod Dw2
    replace Bg2 : Blk w32 g2 _ [_, _, _, _, _, _] := P32.blk
    have Rf2 := (Rf.toM P32.mod (fun a ha => by simp [List.mem_singleton.1 ha])).anti (A' := A) (fun a ha => by simp [ha])
    exact Ln (e_K (hK32 _ _ _ _ (cR (retc (vs := [_, _, _, _, _, _]) rfl ag25 rfl rfl (Bg2.cs rfl) ⟨_, rfl, by rw [hcont, ← JV.qf_all (kind := kind) (v := v) (k := k) (by omega)]; exact Rf2, E⟩))))

end Go.Proofs.YtknndpjacklkeaaGreatDoor.V
