/-
  A part of the proof: walks of functions. No condition of its own.
-/
import Derived.Test.YtebfihecdooneaaDoorM15
set_option linter.unusedVariables false
set_option linter.unusedSimpArgs false
set_option maxRecDepth 10000
namespace Go.Proofs.YtebfihecdooneaaDoor.V
open Go Go.Proofs
theorem zv9 : zvB Tryd.prog 9 ([S []]) := by unfold zvB; kernel_rfl
theorem ent18 : Ent Tryd.prog 18 := Ent.of Tryd.func18 (by kernel_rfl) (by kernel_rfl)
theorem ent22 : Ent Tryd.prog 22 := Ent.of Tryd.func22 (by kernel_rfl) (by kernel_rfl)
theorem ent23 : Ent Tryd.prog 23 := Ent.of Tryd.func23 (by kernel_rfl) (by kernel_rfl)
theorem c_need (w : World) (e : EV) (us : List Value) (R : Reps [] w e.D us) (ho : e.ok) (hr : e.con.Rise) : Calls Tryd.prog 8 [.agg us.toArray].toArray w (Ret fun u w' => Own w' 35 2 u (e.need).length (((e.need).map Pair.cells).flatten) ∧ (∀ x ∈ ob u, w.heap.size ≤ x) ∧ Mod [] w w') := by
  refine enter Tryd.func8 rfl rfl rfl (l := [(0, _)]) ⟨rfl, trivial⟩ ?_
  have E := Mod.refl [] w
  obtain ⟨al, cl, am, cm, ap, cp, aa, ca, aS, cS, rfl, Rc, Rp, Ra, Rs⟩ := EV.cells17 R
  have hok := ho.2.2.2.2.1
  refine c_seq fun K1 hK1 => ?_
  refine c_region ?_
  refine s_box rfl rfl rfl fun g1 w1 N1 => ?_
  have Lg1_E := N1.le E
  replace E := E.then N1.mod
  have Bg1 := N1.blk
  refine sv (o_as rfl) rfl ?_
  refine l_nil ?_
  refine e_K (hK1 _ _ _ _ ?_)
  refine c_seq fun K2 hK2 => ?_
  refine c_seq fun K3 hK3 => ?_
  refine c_region ?_
  refine sv (o_fa0 fd29_2 rfl) rfl ?_
  refine sv (o_ld sc9 rfl (Bg1.cell rfl)) rfl ?_
  refine sv (o_seq rfl rfl) rfl ?_
  refine l_nil ?_
  refine e_K (hK3 _ _ _ _ ?_)
  refine c_if rfl (fun h9 => ?_) (fun h9 => ?_)
  · skip
    have hcr : e.ty = crS := h9
    refine c_seq fun K4 hK4 => ?_
    refine c_region ?_
    refine sv (o_as rfl) rfl ?_
    refine l_nil ?_
    refine e_K (hK4 _ _ _ _ ?_)
    refine c_ret ?_
    refine e_then (by simp) ?_
    exact ret1 rfl rfl ⟨by rw [EV.need_cr hcr]; exact Own.nil _ 35 2, by simp [ob], E⟩
  · skip
    have hcr : e.ty ≠ crS := h9
    refine c_skip ?_
    refine e_K (hK2 _ _ _ _ ?_)
    refine c_seq fun K5 hK5 => ?_
    refine c_region ?_
    refine sv (o_build (cs := [_, _]) pl35 zv35 rfl rfl) rfl ?_
    refine sv (o_build (cs := [_, _]) pl35 zv35 rfl rfl) rfl ?_
    refine sv (o_fa0 fd29_1 rfl) rfl ?_
    refine sv (o_ld sc9 rfl (Bg1.cell rfl)) rfl ?_
    refine sv (o_build (cs := [_, _]) pl35 zv35 rfl rfl) rfl ?_
    refine s_bslice (cs := [_, _, _, _, _, _]) sl32 zv35 rfl rfl rfl (by decide) rfl fun g2 w2 N2 => ?_
    have Lg2_E := N2.le E
    have Dg1_g2 := N2.ne Bg1
    replace Bg1 := Bg1.mod0 N2.mod
    replace E := E.then N2.mod
    have Bg2 := N2.blk
    have Oa0 : Own w2 35 2 (.slice (some ⟨g2, 0, none⟩) 3 3) 3 (((ndP e.snd).map Pair.cells).flatten) := Own.all (cs := [_, _, _, _, _, _]) Bg2 rfl (by omega)
    have D0 : ∀ x ∈ ob (.slice (some ⟨g2, 0, none⟩) 3 3), x ≠ g1 := fun x hx => by simp [ob] at hx; subst hx; exact (Ne.symm Dg1_g2)
    have L0 : ∀ x ∈ ob (.slice (some ⟨g2, 0, none⟩) 3 3), w.heap.size ≤ x := fun x hx => by simp [ob] at hx; subst hx; exact Lg2_E
    refine sv (o_as rfl) rfl ?_
    refine l_nil ?_
    refine e_K (hK5 _ _ _ _ ?_)
    refine c_seq fun K6 hK6 => ?_
    have J6 : ∀ (l : List Pair) (v : Value) (w1 : World), Own w1 35 2 v l.length ((l.map Pair.cells).flatten) ∧ (∀ x ∈ ob v, w.heap.size ≤ x) ∧ l.length ≤ 12 ∧ e.needs = l ∧ Mod [] w w1 → ∀ a, Has 77 [] [(3, v)] a → K6 a w1 := by
      intro l v w3 hI
      obtain ⟨Oa0, L0, hl, hneeds, E⟩ := hI
      refine hK6 _ _ _ _ ?_
      refine c_seq fun K7 hK7 => ?_
      refine c_region ?_
      refine sv (o_mv rfl) rfl ?_
      refine sc (o_call ent19 rfl) (c_sort _ l v Oa0 hl) rfl fun v_ w4 h_ => ?_
      obtain ⟨Os, Es⟩ := h_
      replace E := E.trans' Es (fun x hx => .inr (L0 x hx))
      refine l_nil ?_
      refine e_K (hK7 _ _ _ _ ?_)
      refine c_seq fun K8 hK8 => ?_
      refine c_region ?_
      refine sv (o_mv rfl) rfl ?_
      refine sc (o_call ent21 rfl) (c_compact _ (isortP l l.length) v (Os.same (isortP_len (Nat.le_refl _)).symm rfl) (by rw [isortP_len (Nat.le_refl _)]; omega)) rfl fun v_ w5 h_ => ?_
      obtain ⟨Oc, Lc, Ec⟩ := h_
      replace E := E.trans' Ec (fun x hx => .inr (L0 x hx))
      refine sv (o_as rfl) rfl ?_
      refine l_nil ?_
      refine e_K (hK8 _ _ _ _ ?_)
      refine c_ret ?_
      exact ret1 rfl rfl ⟨by rw [EV.need_of hcr hneeds]; exact Oc, fun x hx => L0 x (Lc x hx), E⟩
    refine c_seq fun K9 hK9 => ?_
    refine c_region ?_
    refine sv (o_fa0 fd29_2 rfl) rfl ?_
    refine sv (o_ld sc9 rfl (Bg1.cell rfl)) rfl ?_
    refine sv (o_seq rfl rfl) rfl ?_
    refine l_nil ?_
    refine e_K (hK9 _ _ _ _ ?_)
    refine c_if rfl (fun h18 => ?_) (fun h18 => ?_)
    · skip
      have hm18 : e.ty = mbS := h18
      refine c_seq fun K10 hK10 => ?_
      refine c_region ?_
      refine sv (o_mv rfl) rfl ?_
      refine sv (o_fa0 fd29_4 rfl) rfl ?_
      refine sv (o_ld sc9 rfl (Bg1.cell rfl)) rfl ?_
      refine sv (o_build (cs := [_, _]) pl35 zv35 rfl rfl) rfl ?_
      refine s_bslice (cs := [_, _]) sl32 zv35 rfl rfl rfl (by decide) rfl fun g3 w6 N3 => ?_
      have Lg3_E := N3.le E
      have Dg1_g3 := N3.ne Bg1
      have Da0_g3 := N3.own_ne Oa0
      replace Bg1 := Bg1.mod0 N3.mod
      replace E := E.then N3.mod
      replace Oa0 := Oa0.mod0 N3.mod
      have Bg3 := N3.blk
      refine s_append sl32 rfl rfl Oa0 (Src.own Tryd.underlying32 (Own.all (cs := [_, _]) Bg3 rfl (by omega)) (by simp [Value.oneCell'])) (by decide) (by omega) (by omega) rfl fun v1 w7 A1 => ?_
      have Dv1_g1 := A1.ne D0 Bg1
      have Dv1_g3 := A1.ne Da0_g3 Bg3
      have Lv1_E := A1.ge L0 E
      replace Bg1 := Bg1.mod A1.mod (fun hx => D0 _ hx rfl)
      replace Bg3 := Bg3.mod A1.mod (fun hx => Da0_g3 _ hx rfl)
      replace E := E.trans' A1.mod (fun x hx => .inr (L0 x hx))
      replace Oa0 := A1.own
      refine sv (o_as rfl) rfl ?_
      refine l_nil ?_
      refine e_K (hK10 _ _ _ _ ?_)
      refine c_seq fun K11 hK11 => ?_
      refine c_region ?_
      refine sv (o_fa0 fd29_5 rfl) rfl ?_
      refine sv (o_lda (vs := [_, _, _, _, _, _]) ag25 rfl rfl (Bg1.cs rfl)) rfl ?_
      refine s_bslice (cs := [_]) sl26 zv9 rfl rfl rfl (by decide) rfl fun g4 w8 N4 => ?_
      have Lg4_E := N4.le E
      have Dg1_g4 := N4.ne Bg1
      have Dg3_g4 := N4.ne Bg3
      have Da0_g4 := N4.own_ne Oa0
      replace Bg1 := Bg1.mod0 N4.mod
      replace Bg3 := Bg3.mod0 N4.mod
      replace E := E.then N4.mod
      replace Oa0 := Oa0.mod0 N4.mod
      have Bg4 := N4.blk
      refine sc (o_call ent18 rfl) (c_text _ e.con _ (Rc.to0 E) hr hok [kMem] _ (strs_blk (xs := [kMem]) Bg4 (by decide) (by simp))) rfl fun v_ w9 h_ => ?_
      obtain ⟨rfl, E_⟩ := h_
      replace Bg1 := Bg1.mod0 E_
      replace Bg3 := Bg3.mod0 E_
      replace Bg4 := Bg4.mod0 E_
      replace E := E.then E_
      replace Oa0 := Oa0.mod0 E_
      refine sv (o_as rfl) rfl ?_
      refine l_nil ?_
      refine e_K (hK11 _ _ _ _ ?_)
      refine c_seq fun K12 hK12 => ?_
      refine c_seq fun K13 hK13 => ?_
      by_cases hs7_0 : e.hw = joS
      · skip
        skip
        refine c_region ?_
        refine sv (o_mv rfl) rfl ?_
        refine sv (o_seq rfl rfl) rfl ?_
        refine sv (o_mv rfl) rfl ?_
        refine sn rfl (fun e_ => absurd ((decide_eq_true hs7_0).symm.trans e_) (by decide)) rfl ?_
        refine sn rfl (fun e_ => absurd ((decide_eq_true hs7_0).symm.trans e_) (by decide)) rfl ?_
        refine sv (o_pickT (decide_eq_true hs7_0) rfl rfl) rfl ?_
        refine sv (o_mv rfl) rfl ?_
        refine sn rfl (fun e_ => absurd ((rfl).symm.trans e_) (by decide)) rfl ?_
        refine sn rfl (fun e_ => absurd ((rfl).symm.trans e_) (by decide)) rfl ?_
        refine sv (o_pickT (rfl) rfl rfl) rfl ?_
        refine l_nil ?_
        refine e_K (hK13 _ _ _ _ ?_)
        refine c_true rfl ?_
        refine c_region ?_
        refine sv (o_mv rfl) rfl ?_
        refine sv (o_build (cs := [_, _]) pl35 zv35 rfl rfl) rfl ?_
        refine s_bslice (cs := [_, _]) sl32 zv35 rfl rfl rfl (by decide) rfl fun g5 w10 N5 => ?_
        have Lg5_E := N5.le E
        have Dg1_g5 := N5.ne Bg1
        have Dg3_g5 := N5.ne Bg3
        have Dg4_g5 := N5.ne Bg4
        have Da0_g5 := N5.own_ne Oa0
        replace Bg1 := Bg1.mod0 N5.mod
        replace Bg3 := Bg3.mod0 N5.mod
        replace Bg4 := Bg4.mod0 N5.mod
        replace E := E.then N5.mod
        replace Oa0 := Oa0.mod0 N5.mod
        have Bg5 := N5.blk
        refine s_append sl32 rfl rfl Oa0 (Src.own Tryd.underlying32 (Own.all (cs := [_, _]) Bg5 rfl (by omega)) (by simp [Value.oneCell'])) (by decide) (by omega) (by omega) rfl fun v2 w11 A2 => ?_
        have Dv2_g1 := A2.ne Dv1_g1 Bg1
        have Dv2_g3 := A2.ne Dv1_g3 Bg3
        have Dv2_g4 := A2.ne Da0_g4 Bg4
        have Dv2_g5 := A2.ne Da0_g5 Bg5
        have Lv2_E := A2.ge Lv1_E E
        replace Bg1 := Bg1.mod A2.mod (fun hx => Dv1_g1 _ hx rfl)
        replace Bg3 := Bg3.mod A2.mod (fun hx => Dv1_g3 _ hx rfl)
        replace Bg4 := Bg4.mod A2.mod (fun hx => Da0_g4 _ hx rfl)
        replace Bg5 := Bg5.mod A2.mod (fun hx => Da0_g5 _ hx rfl)
        replace E := E.trans' A2.mod (fun x hx => .inr (Lv1_E x hx))
        replace Oa0 := A2.own
        refine sv (o_as rfl) rfl ?_
        refine l_nil ?_
        refine e_K (hK12 _ _ _ _ ?_)
        refine c_seq fun K14 hK14 => ?_
        refine c_seq fun K15 hK15 => ?_
        refine c_region ?_
        refine sv (o_fa0 fd29_5 rfl) rfl ?_
        refine sv (o_lda (vs := [_, _, _, _, _, _]) ag25 rfl rfl (Bg1.cs rfl)) rfl ?_
        refine s_bslice (cs := [_, _, _]) sl26 zv9 rfl rfl rfl (by decide) rfl fun g6 w12 N6 => ?_
        have Lg6_E := N6.le E
        have Dg1_g6 := N6.ne Bg1
        have Dg3_g6 := N6.ne Bg3
        have Dg4_g6 := N6.ne Bg4
        have Dg5_g6 := N6.ne Bg5
        have Da0_g6 := N6.own_ne Oa0
        replace Bg1 := Bg1.mod0 N6.mod
        replace Bg3 := Bg3.mod0 N6.mod
        replace Bg4 := Bg4.mod0 N6.mod
        replace Bg5 := Bg5.mod0 N6.mod
        replace E := E.then N6.mod
        replace Oa0 := Oa0.mod0 N6.mod
        have Bg6 := N6.blk
        refine sc (o_call ent18 rfl) (c_text _ e.con _ (Rc.to0 E) hr hok [kTpi, kSgn, kTok] _ (strs_blk (xs := [kTpi, kSgn, kTok]) Bg6 (by decide) (by simp))) rfl fun v_ w13 h_ => ?_
        obtain ⟨rfl, E_⟩ := h_
        replace Bg1 := Bg1.mod0 E_
        replace Bg3 := Bg3.mod0 E_
        replace Bg4 := Bg4.mod0 E_
        replace Bg5 := Bg5.mod0 E_
        replace Bg6 := Bg6.mod0 E_
        replace E := E.then E_
        replace Oa0 := Oa0.mod0 E_
        refine sv (o_as rfl) rfl ?_
        refine l_nil ?_
        refine e_K (hK15 _ _ _ _ ?_)
        refine c_seq fun K16 hK16 => ?_
        refine c_region ?_
        refine sv (o_mv rfl) rfl ?_
        refine sv (o_seq rfl rfl) rfl ?_
        refine sv (o_mv rfl) rfl ?_
        refine sn rfl (fun e_ => absurd ((decide_eq_false (p := e.hw = inS) (by rw [hs7_0]; decide)).symm.trans e_) (by decide)) rfl ?_
        refine sn rfl (fun e_ => absurd ((decide_eq_false (p := e.hw = inS) (by rw [hs7_0]; decide)).symm.trans e_) (by decide)) rfl ?_
        refine sv (o_pickF (decide_eq_false (p := e.hw = inS) (by rw [hs7_0]; decide)) rfl rfl) rfl ?_
        refine l_nil ?_
        refine e_K (hK16 _ _ _ _ ?_)
        refine c_false rfl ?_
        refine c_skip ?_
        refine e_K (hK14 _ _ _ _ ?_)
        refine c_seq fun K17 hK17 => ?_
        refine c_region ?_
        refine sv (o_fa0 fd29_5 rfl) rfl ?_
        refine sv (o_lda (vs := [_, _, _, _, _, _]) ag25 rfl rfl (Bg1.cs rfl)) rfl ?_
        refine s_bslice (cs := [_]) sl26 zv9 rfl rfl rfl (by decide) rfl fun g7 w14 N7 => ?_
        have Lg7_E := N7.le E
        have Dg1_g7 := N7.ne Bg1
        have Dg3_g7 := N7.ne Bg3
        have Dg4_g7 := N7.ne Bg4
        have Dg5_g7 := N7.ne Bg5
        have Dg6_g7 := N7.ne Bg6
        have Da0_g7 := N7.own_ne Oa0
        replace Bg1 := Bg1.mod0 N7.mod
        replace Bg3 := Bg3.mod0 N7.mod
        replace Bg4 := Bg4.mod0 N7.mod
        replace Bg5 := Bg5.mod0 N7.mod
        replace Bg6 := Bg6.mod0 N7.mod
        replace E := E.then N7.mod
        replace Oa0 := Oa0.mod0 N7.mod
        have Bg7 := N7.blk
        refine sc (o_call ent18 rfl) (c_text _ e.con _ (Rc.to0 E) hr hok [kBy] _ (strs_blk (xs := [kBy]) Bg7 (by decide) (by simp))) rfl fun v_ w15 h_ => ?_
        obtain ⟨rfl, E_⟩ := h_
        replace Bg1 := Bg1.mod0 E_
        replace Bg3 := Bg3.mod0 E_
        replace Bg4 := Bg4.mod0 E_
        replace Bg5 := Bg5.mod0 E_
        replace Bg6 := Bg6.mod0 E_
        replace Bg7 := Bg7.mod0 E_
        replace E := E.then E_
        replace Oa0 := Oa0.mod0 E_
        refine sv (o_as rfl) rfl ?_
        refine l_nil ?_
        refine e_K (hK17 _ _ _ _ ?_)
        refine c_seq fun K18 hK18 => ?_
        by_cases hs13_1 : e.byw ≠ []
        · skip
          refine c_region ?_
          refine sv (o_mv rfl) rfl ?_
          refine sv (o_seq rfl rfl) rfl ?_
          refine sv (o_mv rfl) rfl ?_
          refine sg rfl (decide_eq_true hs7_0) (o_mv rfl) rfl ?_
          refine sg rfl (decide_eq_true hs7_0) (o_sne rfl rfl) rfl ?_
          refine sv (o_pickT (decide_eq_true hs7_0) rfl rfl) rfl ?_
          refine l_nil ?_
          refine e_K (hK18 _ _ _ _ ?_)
          refine c_if rfl (fun h67 => ?_) (fun h67 => absurd hs13_1 h67)
          skip
          refine c_region ?_
          refine sv (o_mv rfl) rfl ?_
          refine sv (o_mv rfl) rfl ?_
          refine sv (o_build (cs := [_, _]) pl35 zv35 rfl rfl) rfl ?_
          refine s_bslice (cs := [_, _]) sl32 zv35 rfl rfl rfl (by decide) rfl fun g8 w16 N8 => ?_
          have Lg8_E := N8.le E
          have Dg1_g8 := N8.ne Bg1
          have Dg3_g8 := N8.ne Bg3
          have Dg4_g8 := N8.ne Bg4
          have Dg5_g8 := N8.ne Bg5
          have Dg6_g8 := N8.ne Bg6
          have Dg7_g8 := N8.ne Bg7
          have Da0_g8 := N8.own_ne Oa0
          replace Bg1 := Bg1.mod0 N8.mod
          replace Bg3 := Bg3.mod0 N8.mod
          replace Bg4 := Bg4.mod0 N8.mod
          replace Bg5 := Bg5.mod0 N8.mod
          replace Bg6 := Bg6.mod0 N8.mod
          replace Bg7 := Bg7.mod0 N8.mod
          replace E := E.then N8.mod
          replace Oa0 := Oa0.mod0 N8.mod
          have Bg8 := N8.blk
          refine s_append sl32 rfl rfl Oa0 (Src.own Tryd.underlying32 (Own.all (cs := [_, _]) Bg8 rfl (by omega)) (by simp [Value.oneCell'])) (by decide) (by omega) (by omega) rfl fun v3 w17 A3 => ?_
          have Dv3_g1 := A3.ne Dv2_g1 Bg1
          have Dv3_g3 := A3.ne Dv2_g3 Bg3
          have Dv3_g4 := A3.ne Dv2_g4 Bg4
          have Dv3_g5 := A3.ne Dv2_g5 Bg5
          have Dv3_g6 := A3.ne Da0_g6 Bg6
          have Dv3_g7 := A3.ne Da0_g7 Bg7
          have Dv3_g8 := A3.ne Da0_g8 Bg8
          have Lv3_E := A3.ge Lv2_E E
          replace Bg1 := Bg1.mod A3.mod (fun hx => Dv2_g1 _ hx rfl)
          replace Bg3 := Bg3.mod A3.mod (fun hx => Dv2_g3 _ hx rfl)
          replace Bg4 := Bg4.mod A3.mod (fun hx => Dv2_g4 _ hx rfl)
          replace Bg5 := Bg5.mod A3.mod (fun hx => Dv2_g5 _ hx rfl)
          replace Bg6 := Bg6.mod A3.mod (fun hx => Da0_g6 _ hx rfl)
          replace Bg7 := Bg7.mod A3.mod (fun hx => Da0_g7 _ hx rfl)
          replace Bg8 := Bg8.mod A3.mod (fun hx => Da0_g8 _ hx rfl)
          replace E := E.trans' A3.mod (fun x hx => .inr (Lv2_E x hx))
          replace Oa0 := A3.own
          refine sv (o_as rfl) rfl ?_
          refine l_nil ?_
          refine WE.sub (l' := [(3, _)]) ⟨rfl, trivial⟩ (e_K (J6 [⟨crS, []⟩, ⟨pwS, []⟩, ⟨mbS, e.snd⟩, ⟨mbS, e.key⟩, ⟨jrS, []⟩, ⟨mbS, e.byw⟩] (v3) w17 ⟨Oa0.same rfl rfl, Lv3_E, by simp, by rw [EV.needs, if_pos hm18, EV.more, if_pos hs7_0, if_neg hs13_1]; rfl, E⟩))
        · skip
          refine c_region ?_
          refine sv (o_mv rfl) rfl ?_
          refine sv (o_seq rfl rfl) rfl ?_
          refine sv (o_mv rfl) rfl ?_
          refine sg rfl (decide_eq_true hs7_0) (o_mv rfl) rfl ?_
          refine sg rfl (decide_eq_true hs7_0) (o_sne rfl rfl) rfl ?_
          refine sv (o_pickT (decide_eq_true hs7_0) rfl rfl) rfl ?_
          refine l_nil ?_
          refine e_K (hK18 _ _ _ _ ?_)
          refine c_if rfl (fun h67 => absurd h67 hs13_1) (fun h67 => ?_)
          refine c_skip ?_
          refine WE.sub (l' := [(3, _)]) ⟨rfl, trivial⟩ (e_K (J6 [⟨crS, []⟩, ⟨pwS, []⟩, ⟨mbS, e.snd⟩, ⟨mbS, e.key⟩, ⟨jrS, []⟩] (v2) w15 ⟨Oa0.same rfl rfl, Lv2_E, by simp, by rw [EV.needs, if_pos hm18, EV.more, if_pos hs7_0, if_pos (Classical.not_not.1 hs13_1)]; rfl, E⟩))
      · skip
        by_cases hs7_1 : e.hw = inS
        · skip
          skip
          refine c_region ?_
          refine sv (o_mv rfl) rfl ?_
          refine sv (o_seq rfl rfl) rfl ?_
          refine sv (o_mv rfl) rfl ?_
          refine sg rfl (decide_eq_false hs7_0) (o_mv rfl) rfl ?_
          refine sg rfl (decide_eq_false hs7_0) (o_seq rfl rfl) rfl ?_
          refine sv (o_pickF (decide_eq_false hs7_0) rfl rfl) rfl ?_
          refine sv (o_mv rfl) rfl ?_
          refine sn rfl (fun e_ => absurd ((decide_eq_true hs7_1).symm.trans e_) (by decide)) rfl ?_
          refine sn rfl (fun e_ => absurd ((decide_eq_true hs7_1).symm.trans e_) (by decide)) rfl ?_
          refine sv (o_pickT (decide_eq_true hs7_1) rfl rfl) rfl ?_
          refine l_nil ?_
          refine e_K (hK13 _ _ _ _ ?_)
          refine c_true rfl ?_
          refine c_region ?_
          refine sv (o_mv rfl) rfl ?_
          refine sv (o_build (cs := [_, _]) pl35 zv35 rfl rfl) rfl ?_
          refine s_bslice (cs := [_, _]) sl32 zv35 rfl rfl rfl (by decide) rfl fun g9 w18 N9 => ?_
          have Lg9_E := N9.le E
          have Dg1_g9 := N9.ne Bg1
          have Dg3_g9 := N9.ne Bg3
          have Dg4_g9 := N9.ne Bg4
          have Da0_g9 := N9.own_ne Oa0
          replace Bg1 := Bg1.mod0 N9.mod
          replace Bg3 := Bg3.mod0 N9.mod
          replace Bg4 := Bg4.mod0 N9.mod
          replace E := E.then N9.mod
          replace Oa0 := Oa0.mod0 N9.mod
          have Bg9 := N9.blk
          refine s_append sl32 rfl rfl Oa0 (Src.own Tryd.underlying32 (Own.all (cs := [_, _]) Bg9 rfl (by omega)) (by simp [Value.oneCell'])) (by decide) (by omega) (by omega) rfl fun v4 w19 A4 => ?_
          have Dv4_g1 := A4.ne Dv1_g1 Bg1
          have Dv4_g3 := A4.ne Dv1_g3 Bg3
          have Dv4_g4 := A4.ne Da0_g4 Bg4
          have Dv4_g9 := A4.ne Da0_g9 Bg9
          have Lv4_E := A4.ge Lv1_E E
          replace Bg1 := Bg1.mod A4.mod (fun hx => Dv1_g1 _ hx rfl)
          replace Bg3 := Bg3.mod A4.mod (fun hx => Dv1_g3 _ hx rfl)
          replace Bg4 := Bg4.mod A4.mod (fun hx => Da0_g4 _ hx rfl)
          replace Bg9 := Bg9.mod A4.mod (fun hx => Da0_g9 _ hx rfl)
          replace E := E.trans' A4.mod (fun x hx => .inr (Lv1_E x hx))
          replace Oa0 := A4.own
          refine sv (o_as rfl) rfl ?_
          refine l_nil ?_
          refine e_K (hK12 _ _ _ _ ?_)
          refine c_seq fun K19 hK19 => ?_
          refine c_seq fun K20 hK20 => ?_
          refine c_region ?_
          refine sv (o_fa0 fd29_5 rfl) rfl ?_
          refine sv (o_lda (vs := [_, _, _, _, _, _]) ag25 rfl rfl (Bg1.cs rfl)) rfl ?_
          refine s_bslice (cs := [_, _, _]) sl26 zv9 rfl rfl rfl (by decide) rfl fun g10 w20 N10 => ?_
          have Lg10_E := N10.le E
          have Dg1_g10 := N10.ne Bg1
          have Dg3_g10 := N10.ne Bg3
          have Dg4_g10 := N10.ne Bg4
          have Dg9_g10 := N10.ne Bg9
          have Da0_g10 := N10.own_ne Oa0
          replace Bg1 := Bg1.mod0 N10.mod
          replace Bg3 := Bg3.mod0 N10.mod
          replace Bg4 := Bg4.mod0 N10.mod
          replace Bg9 := Bg9.mod0 N10.mod
          replace E := E.then N10.mod
          replace Oa0 := Oa0.mod0 N10.mod
          have Bg10 := N10.blk
          refine sc (o_call ent18 rfl) (c_text _ e.con _ (Rc.to0 E) hr hok [kTpi, kSgn, kTok] _ (strs_blk (xs := [kTpi, kSgn, kTok]) Bg10 (by decide) (by simp))) rfl fun v_ w21 h_ => ?_
          obtain ⟨rfl, E_⟩ := h_
          replace Bg1 := Bg1.mod0 E_
          replace Bg3 := Bg3.mod0 E_
          replace Bg4 := Bg4.mod0 E_
          replace Bg9 := Bg9.mod0 E_
          replace Bg10 := Bg10.mod0 E_
          replace E := E.then E_
          replace Oa0 := Oa0.mod0 E_
          refine sv (o_as rfl) rfl ?_
          refine l_nil ?_
          refine e_K (hK20 _ _ _ _ ?_)
          refine c_seq fun K21 hK21 => ?_
          by_cases hs10_1 : e.tok ≠ []
          · skip
            refine c_region ?_
            refine sv (o_mv rfl) rfl ?_
            refine sv (o_seq rfl rfl) rfl ?_
            refine sv (o_mv rfl) rfl ?_
            refine sg rfl (decide_eq_true hs7_1) (o_mv rfl) rfl ?_
            refine sg rfl (decide_eq_true hs7_1) (o_sne rfl rfl) rfl ?_
            refine sv (o_pickT (decide_eq_true hs7_1) rfl rfl) rfl ?_
            refine l_nil ?_
            refine e_K (hK21 _ _ _ _ ?_)
            refine c_if rfl (fun h52 => ?_) (fun h52 => absurd hs10_1 h52)
            skip
            refine c_region ?_
            refine sv (o_mv rfl) rfl ?_
            refine sv (o_mv rfl) rfl ?_
            refine sv (o_build (cs := [_, _]) pl35 zv35 rfl rfl) rfl ?_
            refine s_bslice (cs := [_, _]) sl32 zv35 rfl rfl rfl (by decide) rfl fun g11 w22 N11 => ?_
            have Lg11_E := N11.le E
            have Dg1_g11 := N11.ne Bg1
            have Dg3_g11 := N11.ne Bg3
            have Dg4_g11 := N11.ne Bg4
            have Dg9_g11 := N11.ne Bg9
            have Dg10_g11 := N11.ne Bg10
            have Da0_g11 := N11.own_ne Oa0
            replace Bg1 := Bg1.mod0 N11.mod
            replace Bg3 := Bg3.mod0 N11.mod
            replace Bg4 := Bg4.mod0 N11.mod
            replace Bg9 := Bg9.mod0 N11.mod
            replace Bg10 := Bg10.mod0 N11.mod
            replace E := E.then N11.mod
            replace Oa0 := Oa0.mod0 N11.mod
            have Bg11 := N11.blk
            refine s_append sl32 rfl rfl Oa0 (Src.own Tryd.underlying32 (Own.all (cs := [_, _]) Bg11 rfl (by omega)) (by simp [Value.oneCell'])) (by decide) (by omega) (by omega) rfl fun v5 w23 A5 => ?_
            have Dv5_g1 := A5.ne Dv4_g1 Bg1
            have Dv5_g3 := A5.ne Dv4_g3 Bg3
            have Dv5_g4 := A5.ne Dv4_g4 Bg4
            have Dv5_g9 := A5.ne Dv4_g9 Bg9
            have Dv5_g10 := A5.ne Da0_g10 Bg10
            have Dv5_g11 := A5.ne Da0_g11 Bg11
            have Lv5_E := A5.ge Lv4_E E
            replace Bg1 := Bg1.mod A5.mod (fun hx => Dv4_g1 _ hx rfl)
            replace Bg3 := Bg3.mod A5.mod (fun hx => Dv4_g3 _ hx rfl)
            replace Bg4 := Bg4.mod A5.mod (fun hx => Dv4_g4 _ hx rfl)
            replace Bg9 := Bg9.mod A5.mod (fun hx => Dv4_g9 _ hx rfl)
            replace Bg10 := Bg10.mod A5.mod (fun hx => Da0_g10 _ hx rfl)
            replace Bg11 := Bg11.mod A5.mod (fun hx => Da0_g11 _ hx rfl)
            replace E := E.trans' A5.mod (fun x hx => .inr (Lv4_E x hx))
            replace Oa0 := A5.own
            refine sv (o_as rfl) rfl ?_
            refine l_nil ?_
            refine e_K (hK19 _ _ _ _ ?_)
            refine c_seq fun K22 hK22 => ?_
            refine c_region ?_
            refine sv (o_fa0 fd29_5 rfl) rfl ?_
            refine sv (o_lda (vs := [_, _, _, _, _, _]) ag25 rfl rfl (Bg1.cs rfl)) rfl ?_
            refine s_bslice (cs := [_]) sl26 zv9 rfl rfl rfl (by decide) rfl fun g12 w24 N12 => ?_
            have Lg12_E := N12.le E
            have Dg1_g12 := N12.ne Bg1
            have Dg3_g12 := N12.ne Bg3
            have Dg4_g12 := N12.ne Bg4
            have Dg9_g12 := N12.ne Bg9
            have Dg10_g12 := N12.ne Bg10
            have Dg11_g12 := N12.ne Bg11
            have Da0_g12 := N12.own_ne Oa0
            replace Bg1 := Bg1.mod0 N12.mod
            replace Bg3 := Bg3.mod0 N12.mod
            replace Bg4 := Bg4.mod0 N12.mod
            replace Bg9 := Bg9.mod0 N12.mod
            replace Bg10 := Bg10.mod0 N12.mod
            replace Bg11 := Bg11.mod0 N12.mod
            replace E := E.then N12.mod
            replace Oa0 := Oa0.mod0 N12.mod
            have Bg12 := N12.blk
            refine sc (o_call ent18 rfl) (c_text _ e.con _ (Rc.to0 E) hr hok [kBy] _ (strs_blk (xs := [kBy]) Bg12 (by decide) (by simp))) rfl fun v_ w25 h_ => ?_
            obtain ⟨rfl, E_⟩ := h_
            replace Bg1 := Bg1.mod0 E_
            replace Bg3 := Bg3.mod0 E_
            replace Bg4 := Bg4.mod0 E_
            replace Bg9 := Bg9.mod0 E_
            replace Bg10 := Bg10.mod0 E_
            replace Bg11 := Bg11.mod0 E_
            replace Bg12 := Bg12.mod0 E_
            replace E := E.then E_
            replace Oa0 := Oa0.mod0 E_
            refine sv (o_as rfl) rfl ?_
            refine l_nil ?_
            refine e_K (hK22 _ _ _ _ ?_)
            refine c_seq fun K23 hK23 => ?_
            refine c_region ?_
            refine sv (o_mv rfl) rfl ?_
            refine sv (o_seq rfl rfl) rfl ?_
            refine sv (o_mv rfl) rfl ?_
            refine sn rfl (fun e_ => absurd ((decide_eq_false (p := e.hw = joS) hs7_0).symm.trans e_) (by decide)) rfl ?_
            refine sn rfl (fun e_ => absurd ((decide_eq_false (p := e.hw = joS) hs7_0).symm.trans e_) (by decide)) rfl ?_
            refine sv (o_pickF (decide_eq_false (p := e.hw = joS) hs7_0) rfl rfl) rfl ?_
            refine l_nil ?_
            refine e_K (hK23 _ _ _ _ ?_)
            refine c_false rfl ?_
            refine c_skip ?_
            refine WE.sub (l' := [(3, _)]) ⟨rfl, trivial⟩ (e_K (J6 [⟨crS, []⟩, ⟨pwS, []⟩, ⟨mbS, e.snd⟩, ⟨mbS, e.key⟩, ⟨jrS, []⟩, ⟨tpS, e.tok⟩] (v5) w25 ⟨Oa0.same rfl rfl, Lv5_E, by simp, by rw [EV.needs, if_pos hm18, EV.more, if_neg hs7_0, if_pos hs7_1, if_neg hs10_1]; rfl, E⟩))
          · skip
            refine c_region ?_
            refine sv (o_mv rfl) rfl ?_
            refine sv (o_seq rfl rfl) rfl ?_
            refine sv (o_mv rfl) rfl ?_
            refine sg rfl (decide_eq_true hs7_1) (o_mv rfl) rfl ?_
            refine sg rfl (decide_eq_true hs7_1) (o_sne rfl rfl) rfl ?_
            refine sv (o_pickT (decide_eq_true hs7_1) rfl rfl) rfl ?_
            refine l_nil ?_
            refine e_K (hK21 _ _ _ _ ?_)
            refine c_if rfl (fun h52 => absurd h52 hs10_1) (fun h52 => ?_)
            refine c_skip ?_
            refine e_K (hK19 _ _ _ _ ?_)
            refine c_seq fun K24 hK24 => ?_
            refine c_region ?_
            refine sv (o_fa0 fd29_5 rfl) rfl ?_
            refine sv (o_lda (vs := [_, _, _, _, _, _]) ag25 rfl rfl (Bg1.cs rfl)) rfl ?_
            refine s_bslice (cs := [_]) sl26 zv9 rfl rfl rfl (by decide) rfl fun g13 w26 N13 => ?_
            have Lg13_E := N13.le E
            have Dg1_g13 := N13.ne Bg1
            have Dg3_g13 := N13.ne Bg3
            have Dg4_g13 := N13.ne Bg4
            have Dg9_g13 := N13.ne Bg9
            have Dg10_g13 := N13.ne Bg10
            have Da0_g13 := N13.own_ne Oa0
            replace Bg1 := Bg1.mod0 N13.mod
            replace Bg3 := Bg3.mod0 N13.mod
            replace Bg4 := Bg4.mod0 N13.mod
            replace Bg9 := Bg9.mod0 N13.mod
            replace Bg10 := Bg10.mod0 N13.mod
            replace E := E.then N13.mod
            replace Oa0 := Oa0.mod0 N13.mod
            have Bg13 := N13.blk
            refine sc (o_call ent18 rfl) (c_text _ e.con _ (Rc.to0 E) hr hok [kBy] _ (strs_blk (xs := [kBy]) Bg13 (by decide) (by simp))) rfl fun v_ w27 h_ => ?_
            obtain ⟨rfl, E_⟩ := h_
            replace Bg1 := Bg1.mod0 E_
            replace Bg3 := Bg3.mod0 E_
            replace Bg4 := Bg4.mod0 E_
            replace Bg9 := Bg9.mod0 E_
            replace Bg10 := Bg10.mod0 E_
            replace Bg13 := Bg13.mod0 E_
            replace E := E.then E_
            replace Oa0 := Oa0.mod0 E_
            refine sv (o_as rfl) rfl ?_
            refine l_nil ?_
            refine e_K (hK24 _ _ _ _ ?_)
            refine c_seq fun K25 hK25 => ?_
            refine c_region ?_
            refine sv (o_mv rfl) rfl ?_
            refine sv (o_seq rfl rfl) rfl ?_
            refine sv (o_mv rfl) rfl ?_
            refine sn rfl (fun e_ => absurd ((decide_eq_false (p := e.hw = joS) hs7_0).symm.trans e_) (by decide)) rfl ?_
            refine sn rfl (fun e_ => absurd ((decide_eq_false (p := e.hw = joS) hs7_0).symm.trans e_) (by decide)) rfl ?_
            refine sv (o_pickF (decide_eq_false (p := e.hw = joS) hs7_0) rfl rfl) rfl ?_
            refine l_nil ?_
            refine e_K (hK25 _ _ _ _ ?_)
            refine c_false rfl ?_
            refine c_skip ?_
            refine WE.sub (l' := [(3, _)]) ⟨rfl, trivial⟩ (e_K (J6 [⟨crS, []⟩, ⟨pwS, []⟩, ⟨mbS, e.snd⟩, ⟨mbS, e.key⟩, ⟨jrS, []⟩] (v4) w27 ⟨Oa0.same rfl rfl, Lv4_E, by simp, by rw [EV.needs, if_pos hm18, EV.more, if_neg hs7_0, if_pos hs7_1, if_pos (Classical.not_not.1 hs10_1)]; rfl, E⟩))
        · skip
          by_cases hs7_2 : e.hw = knS
          · skip
            skip
            refine c_region ?_
            refine sv (o_mv rfl) rfl ?_
            refine sv (o_seq rfl rfl) rfl ?_
            refine sv (o_mv rfl) rfl ?_
            refine sg rfl (decide_eq_false hs7_0) (o_mv rfl) rfl ?_
            refine sg rfl (decide_eq_false hs7_0) (o_seq rfl rfl) rfl ?_
            refine sv (o_pickF (decide_eq_false hs7_0) rfl rfl) rfl ?_
            refine sv (o_mv rfl) rfl ?_
            refine sg rfl (decide_eq_false hs7_1) (o_mv rfl) rfl ?_
            refine sg rfl (decide_eq_false hs7_1) (o_seq rfl rfl) rfl ?_
            refine sv (o_pickF (decide_eq_false hs7_1) rfl rfl) rfl ?_
            refine l_nil ?_
            refine e_K (hK13 _ _ _ _ ?_)
            refine c_if rfl (fun h38 => ?_) (fun h38 => absurd hs7_2 h38)
            refine c_region ?_
            refine sv (o_mv rfl) rfl ?_
            refine sv (o_build (cs := [_, _]) pl35 zv35 rfl rfl) rfl ?_
            refine s_bslice (cs := [_, _]) sl32 zv35 rfl rfl rfl (by decide) rfl fun g14 w28 N14 => ?_
            have Lg14_E := N14.le E
            have Dg1_g14 := N14.ne Bg1
            have Dg3_g14 := N14.ne Bg3
            have Dg4_g14 := N14.ne Bg4
            have Da0_g14 := N14.own_ne Oa0
            replace Bg1 := Bg1.mod0 N14.mod
            replace Bg3 := Bg3.mod0 N14.mod
            replace Bg4 := Bg4.mod0 N14.mod
            replace E := E.then N14.mod
            replace Oa0 := Oa0.mod0 N14.mod
            have Bg14 := N14.blk
            refine s_append sl32 rfl rfl Oa0 (Src.own Tryd.underlying32 (Own.all (cs := [_, _]) Bg14 rfl (by omega)) (by simp [Value.oneCell'])) (by decide) (by omega) (by omega) rfl fun v6 w29 A6 => ?_
            have Dv6_g1 := A6.ne Dv1_g1 Bg1
            have Dv6_g3 := A6.ne Dv1_g3 Bg3
            have Dv6_g4 := A6.ne Da0_g4 Bg4
            have Dv6_g14 := A6.ne Da0_g14 Bg14
            have Lv6_E := A6.ge Lv1_E E
            replace Bg1 := Bg1.mod A6.mod (fun hx => Dv1_g1 _ hx rfl)
            replace Bg3 := Bg3.mod A6.mod (fun hx => Dv1_g3 _ hx rfl)
            replace Bg4 := Bg4.mod A6.mod (fun hx => Da0_g4 _ hx rfl)
            replace Bg14 := Bg14.mod A6.mod (fun hx => Da0_g14 _ hx rfl)
            replace E := E.trans' A6.mod (fun x hx => .inr (Lv1_E x hx))
            replace Oa0 := A6.own
            refine sv (o_as rfl) rfl ?_
            refine l_nil ?_
            refine e_K (hK12 _ _ _ _ ?_)
            refine c_seq fun K26 hK26 => ?_
            refine c_seq fun K27 hK27 => ?_
            refine c_region ?_
            refine sv (o_fa0 fd29_5 rfl) rfl ?_
            refine sv (o_lda (vs := [_, _, _, _, _, _]) ag25 rfl rfl (Bg1.cs rfl)) rfl ?_
            refine s_bslice (cs := [_, _, _]) sl26 zv9 rfl rfl rfl (by decide) rfl fun g15 w30 N15 => ?_
            have Lg15_E := N15.le E
            have Dg1_g15 := N15.ne Bg1
            have Dg3_g15 := N15.ne Bg3
            have Dg4_g15 := N15.ne Bg4
            have Dg14_g15 := N15.ne Bg14
            have Da0_g15 := N15.own_ne Oa0
            replace Bg1 := Bg1.mod0 N15.mod
            replace Bg3 := Bg3.mod0 N15.mod
            replace Bg4 := Bg4.mod0 N15.mod
            replace Bg14 := Bg14.mod0 N15.mod
            replace E := E.then N15.mod
            replace Oa0 := Oa0.mod0 N15.mod
            have Bg15 := N15.blk
            refine sc (o_call ent18 rfl) (c_text _ e.con _ (Rc.to0 E) hr hok [kTpi, kSgn, kTok] _ (strs_blk (xs := [kTpi, kSgn, kTok]) Bg15 (by decide) (by simp))) rfl fun v_ w31 h_ => ?_
            obtain ⟨rfl, E_⟩ := h_
            replace Bg1 := Bg1.mod0 E_
            replace Bg3 := Bg3.mod0 E_
            replace Bg4 := Bg4.mod0 E_
            replace Bg14 := Bg14.mod0 E_
            replace Bg15 := Bg15.mod0 E_
            replace E := E.then E_
            replace Oa0 := Oa0.mod0 E_
            refine sv (o_as rfl) rfl ?_
            refine l_nil ?_
            refine e_K (hK27 _ _ _ _ ?_)
            refine c_seq fun K28 hK28 => ?_
            refine c_region ?_
            refine sv (o_mv rfl) rfl ?_
            refine sv (o_seq rfl rfl) rfl ?_
            refine sv (o_mv rfl) rfl ?_
            refine sn rfl (fun e_ => absurd ((decide_eq_false (p := e.hw = inS) hs7_1).symm.trans e_) (by decide)) rfl ?_
            refine sn rfl (fun e_ => absurd ((decide_eq_false (p := e.hw = inS) hs7_1).symm.trans e_) (by decide)) rfl ?_
            refine sv (o_pickF (decide_eq_false (p := e.hw = inS) hs7_1) rfl rfl) rfl ?_
            refine l_nil ?_
            refine e_K (hK28 _ _ _ _ ?_)
            refine c_false rfl ?_
            refine c_skip ?_
            refine e_K (hK26 _ _ _ _ ?_)
            refine c_seq fun K29 hK29 => ?_
            refine c_region ?_
            refine sv (o_fa0 fd29_5 rfl) rfl ?_
            refine sv (o_lda (vs := [_, _, _, _, _, _]) ag25 rfl rfl (Bg1.cs rfl)) rfl ?_
            refine s_bslice (cs := [_]) sl26 zv9 rfl rfl rfl (by decide) rfl fun g16 w32 N16 => ?_
            have Lg16_E := N16.le E
            have Dg1_g16 := N16.ne Bg1
            have Dg3_g16 := N16.ne Bg3
            have Dg4_g16 := N16.ne Bg4
            have Dg14_g16 := N16.ne Bg14
            have Dg15_g16 := N16.ne Bg15
            have Da0_g16 := N16.own_ne Oa0
            replace Bg1 := Bg1.mod0 N16.mod
            replace Bg3 := Bg3.mod0 N16.mod
            replace Bg4 := Bg4.mod0 N16.mod
            replace Bg14 := Bg14.mod0 N16.mod
            replace Bg15 := Bg15.mod0 N16.mod
            replace E := E.then N16.mod
            replace Oa0 := Oa0.mod0 N16.mod
            have Bg16 := N16.blk
            refine sc (o_call ent18 rfl) (c_text _ e.con _ (Rc.to0 E) hr hok [kBy] _ (strs_blk (xs := [kBy]) Bg16 (by decide) (by simp))) rfl fun v_ w33 h_ => ?_
            obtain ⟨rfl, E_⟩ := h_
            replace Bg1 := Bg1.mod0 E_
            replace Bg3 := Bg3.mod0 E_
            replace Bg4 := Bg4.mod0 E_
            replace Bg14 := Bg14.mod0 E_
            replace Bg15 := Bg15.mod0 E_
            replace Bg16 := Bg16.mod0 E_
            replace E := E.then E_
            replace Oa0 := Oa0.mod0 E_
            refine sv (o_as rfl) rfl ?_
            refine l_nil ?_
            refine e_K (hK29 _ _ _ _ ?_)
            refine c_seq fun K30 hK30 => ?_
            refine c_region ?_
            refine sv (o_mv rfl) rfl ?_
            refine sv (o_seq rfl rfl) rfl ?_
            refine sv (o_mv rfl) rfl ?_
            refine sn rfl (fun e_ => absurd ((decide_eq_false (p := e.hw = joS) hs7_0).symm.trans e_) (by decide)) rfl ?_
            refine sn rfl (fun e_ => absurd ((decide_eq_false (p := e.hw = joS) hs7_0).symm.trans e_) (by decide)) rfl ?_
            refine sv (o_pickF (decide_eq_false (p := e.hw = joS) hs7_0) rfl rfl) rfl ?_
            refine l_nil ?_
            refine e_K (hK30 _ _ _ _ ?_)
            refine c_false rfl ?_
            refine c_skip ?_
            refine WE.sub (l' := [(3, _)]) ⟨rfl, trivial⟩ (e_K (J6 [⟨crS, []⟩, ⟨pwS, []⟩, ⟨mbS, e.snd⟩, ⟨mbS, e.key⟩, ⟨jrS, []⟩] (v6) w33 ⟨Oa0.same rfl rfl, Lv6_E, by simp, by rw [EV.needs, if_pos hm18, EV.more, if_neg hs7_0, if_neg hs7_1, if_pos hs7_2]; rfl, E⟩))
          · skip
            skip
            refine c_region ?_
            refine sv (o_mv rfl) rfl ?_
            refine sv (o_seq rfl rfl) rfl ?_
            refine sv (o_mv rfl) rfl ?_
            refine sg rfl (decide_eq_false hs7_0) (o_mv rfl) rfl ?_
            refine sg rfl (decide_eq_false hs7_0) (o_seq rfl rfl) rfl ?_
            refine sv (o_pickF (decide_eq_false hs7_0) rfl rfl) rfl ?_
            refine sv (o_mv rfl) rfl ?_
            refine sg rfl (decide_eq_false hs7_1) (o_mv rfl) rfl ?_
            refine sg rfl (decide_eq_false hs7_1) (o_seq rfl rfl) rfl ?_
            refine sv (o_pickF (decide_eq_false hs7_1) rfl rfl) rfl ?_
            refine l_nil ?_
            refine e_K (hK13 _ _ _ _ ?_)
            refine c_if rfl (fun h38 => absurd h38 hs7_2) (fun h38 => ?_)
            refine c_skip ?_
            refine e_K (hK12 _ _ _ _ ?_)
            refine c_seq fun K31 hK31 => ?_
            refine c_seq fun K32 hK32 => ?_
            refine c_region ?_
            refine sv (o_fa0 fd29_5 rfl) rfl ?_
            refine sv (o_lda (vs := [_, _, _, _, _, _]) ag25 rfl rfl (Bg1.cs rfl)) rfl ?_
            refine s_bslice (cs := [_, _, _]) sl26 zv9 rfl rfl rfl (by decide) rfl fun g17 w34 N17 => ?_
            have Lg17_E := N17.le E
            have Dg1_g17 := N17.ne Bg1
            have Dg3_g17 := N17.ne Bg3
            have Dg4_g17 := N17.ne Bg4
            have Da0_g17 := N17.own_ne Oa0
            replace Bg1 := Bg1.mod0 N17.mod
            replace Bg3 := Bg3.mod0 N17.mod
            replace Bg4 := Bg4.mod0 N17.mod
            replace E := E.then N17.mod
            replace Oa0 := Oa0.mod0 N17.mod
            have Bg17 := N17.blk
            refine sc (o_call ent18 rfl) (c_text _ e.con _ (Rc.to0 E) hr hok [kTpi, kSgn, kTok] _ (strs_blk (xs := [kTpi, kSgn, kTok]) Bg17 (by decide) (by simp))) rfl fun v_ w35 h_ => ?_
            obtain ⟨rfl, E_⟩ := h_
            replace Bg1 := Bg1.mod0 E_
            replace Bg3 := Bg3.mod0 E_
            replace Bg4 := Bg4.mod0 E_
            replace Bg17 := Bg17.mod0 E_
            replace E := E.then E_
            replace Oa0 := Oa0.mod0 E_
            refine sv (o_as rfl) rfl ?_
            refine l_nil ?_
            refine e_K (hK32 _ _ _ _ ?_)
            refine c_seq fun K33 hK33 => ?_
            refine c_region ?_
            refine sv (o_mv rfl) rfl ?_
            refine sv (o_seq rfl rfl) rfl ?_
            refine sv (o_mv rfl) rfl ?_
            refine sn rfl (fun e_ => absurd ((decide_eq_false (p := e.hw = inS) hs7_1).symm.trans e_) (by decide)) rfl ?_
            refine sn rfl (fun e_ => absurd ((decide_eq_false (p := e.hw = inS) hs7_1).symm.trans e_) (by decide)) rfl ?_
            refine sv (o_pickF (decide_eq_false (p := e.hw = inS) hs7_1) rfl rfl) rfl ?_
            refine l_nil ?_
            refine e_K (hK33 _ _ _ _ ?_)
            refine c_false rfl ?_
            refine c_skip ?_
            refine e_K (hK31 _ _ _ _ ?_)
            refine c_seq fun K34 hK34 => ?_
            refine c_region ?_
            refine sv (o_fa0 fd29_5 rfl) rfl ?_
            refine sv (o_lda (vs := [_, _, _, _, _, _]) ag25 rfl rfl (Bg1.cs rfl)) rfl ?_
            refine s_bslice (cs := [_]) sl26 zv9 rfl rfl rfl (by decide) rfl fun g18 w36 N18 => ?_
            have Lg18_E := N18.le E
            have Dg1_g18 := N18.ne Bg1
            have Dg3_g18 := N18.ne Bg3
            have Dg4_g18 := N18.ne Bg4
            have Dg17_g18 := N18.ne Bg17
            have Da0_g18 := N18.own_ne Oa0
            replace Bg1 := Bg1.mod0 N18.mod
            replace Bg3 := Bg3.mod0 N18.mod
            replace Bg4 := Bg4.mod0 N18.mod
            replace Bg17 := Bg17.mod0 N18.mod
            replace E := E.then N18.mod
            replace Oa0 := Oa0.mod0 N18.mod
            have Bg18 := N18.blk
            refine sc (o_call ent18 rfl) (c_text _ e.con _ (Rc.to0 E) hr hok [kBy] _ (strs_blk (xs := [kBy]) Bg18 (by decide) (by simp))) rfl fun v_ w37 h_ => ?_
            obtain ⟨rfl, E_⟩ := h_
            replace Bg1 := Bg1.mod0 E_
            replace Bg3 := Bg3.mod0 E_
            replace Bg4 := Bg4.mod0 E_
            replace Bg17 := Bg17.mod0 E_
            replace Bg18 := Bg18.mod0 E_
            replace E := E.then E_
            replace Oa0 := Oa0.mod0 E_
            refine sv (o_as rfl) rfl ?_
            refine l_nil ?_
            refine e_K (hK34 _ _ _ _ ?_)
            refine c_seq fun K35 hK35 => ?_
            refine c_region ?_
            refine sv (o_mv rfl) rfl ?_
            refine sv (o_seq rfl rfl) rfl ?_
            refine sv (o_mv rfl) rfl ?_
            refine sn rfl (fun e_ => absurd ((decide_eq_false (p := e.hw = joS) hs7_0).symm.trans e_) (by decide)) rfl ?_
            refine sn rfl (fun e_ => absurd ((decide_eq_false (p := e.hw = joS) hs7_0).symm.trans e_) (by decide)) rfl ?_
            refine sv (o_pickF (decide_eq_false (p := e.hw = joS) hs7_0) rfl rfl) rfl ?_
            refine l_nil ?_
            refine e_K (hK35 _ _ _ _ ?_)
            refine c_false rfl ?_
            refine c_skip ?_
            refine WE.sub (l' := [(3, _)]) ⟨rfl, trivial⟩ (e_K (J6 [⟨crS, []⟩, ⟨pwS, []⟩, ⟨mbS, e.snd⟩, ⟨mbS, e.key⟩] (v1) w37 ⟨Oa0.same rfl rfl, Lv1_E, by simp, by rw [EV.needs, if_pos hm18, EV.more, if_neg hs7_0, if_neg hs7_1, if_neg hs7_2]; rfl, E⟩))
    · skip
      have hm18 : e.ty ≠ mbS := h18
      refine c_skip ?_
      refine WE.sub (l' := [(3, _)]) ⟨rfl, trivial⟩ (e_K (J6 [⟨crS, []⟩, ⟨pwS, []⟩, ⟨mbS, e.snd⟩] ((.slice (some ⟨g2, 0, none⟩) 3 3)) w2 ⟨Oa0.same rfl rfl, L0, by simp, show e.needs = [⟨crS, []⟩, ⟨pwS, []⟩, ⟨mbS, e.snd⟩] by rw [EV.needs, if_neg hm18] <;> rfl, E⟩))

theorem c_needR (w : World) (e : EV) (us : List Value) (R : Reps [] w e.D us) : Calls Tryd.prog 9 [.agg us.toArray].toArray w (Ret fun u w' => Own w' 35 2 u (e.needR).length (((e.needR).map Pair.cells).flatten) ∧ Mod [] w w') := by
  refine enter Tryd.func9 rfl rfl rfl (l := [(0, _)]) ⟨rfl, trivial⟩ ?_
  have E := Mod.refl [] w
  obtain ⟨al, cl, am, cm, ap, cp, aa, ca, aS, cS, rfl, Rc, Rp, Ra, Rs⟩ := EV.cells17 R
  have Rmc := JV.map_of Rc
  refine c_seq fun K1 hK1 => ?_
  refine c_region ?_
  refine s_box rfl rfl rfl fun g1 w1 N1 => ?_
  have Lg1_E := N1.le E
  replace E := E.then N1.mod
  have Bg1 := N1.blk
  refine sv (o_as rfl) rfl ?_
  refine l_nil ?_
  refine e_K (hK1 _ _ _ _ ?_)
  refine c_seq fun K2 hK2 => ?_
  refine c_seq fun K3 hK3 => ?_
  refine c_region ?_
  refine sv (o_fa0 fd29_2 rfl) rfl ?_
  refine sv (o_ld sc9 rfl (Bg1.cell rfl)) rfl ?_
  refine sv (o_seq rfl rfl) rfl ?_
  refine l_nil ?_
  refine e_K (hK3 _ _ _ _ ?_)
  refine c_if rfl (fun h13 => ?_) (fun h13 => ?_)
  · skip
    have hcr : e.ty = crS := h13
    refine c_seq fun K4 hK4 => ?_
    refine c_region ?_
    refine sv (o_as rfl) rfl ?_
    refine l_nil ?_
    refine e_K (hK4 _ _ _ _ ?_)
    refine c_ret ?_
    refine e_then (by simp) ?_
    exact ret1 rfl rfl ⟨by rw [← EV.need_eq, EV.need_cr hcr]; exact Own.nil _ 35 2, E⟩
  · skip
    have hcr : e.ty ≠ crS := h13
    refine c_skip ?_
    refine e_K (hK2 _ _ _ _ ?_)
    refine c_seq fun K5 hK5 => ?_
    refine c_region ?_
    refine sv (o_build (cs := [_, _]) pl35 zv35 rfl rfl) rfl ?_
    refine s_bslice (cs := [_, _]) sl32 zv35 rfl rfl rfl (by decide) rfl fun g2 w2 N2 => ?_
    have Lg2_E := N2.le E
    have Dg1_g2 := N2.ne Bg1
    replace Bg1 := Bg1.mod0 N2.mod
    replace E := E.then N2.mod
    have Bg2 := N2.blk
    refine sv (o_as rfl) rfl ?_
    refine l_nil ?_
    refine e_K (hK5 _ _ _ _ ?_)
    refine c_seq fun K6 hK6 => ?_
    refine c_region ?_
    refine sv (o_mv rfl) rfl ?_
    refine sv (o_build (cs := [_, _]) pl35 zv35 rfl rfl) rfl ?_
    obtain ⟨l0, hl0⟩ : ∃ l, l = withP [] ⟨crS, []⟩ := ⟨_, rfl⟩
    have hb0 : l0.length ≤ 1 := by rw [hl0]; exact Nat.le_refl _
    have Ow0 : Own w2 35 2 (.slice (some ⟨g2, 0, none⟩) 1 1) l0.length ((l0.map Pair.cells).flatten) := by rw [hl0]; exact Own.all (c := 1) (cs := [_, _]) Bg2 rfl (by omega)
    refine sc (o_call ent22 rfl) (c_with _ l0 _ (Own.pairs [] Ow0 (by simp)) ⟨pwS, []⟩ (by omega)) rfl fun v_ w3 h_ => ?_
    obtain ⟨Ow_, Lw_, E_⟩ := h_
    replace Bg1 := Bg1.mod0 E_
    replace Bg2 := Bg2.mod0 E_
    replace E := E.then E_
    obtain ⟨l1, hl1⟩ : ∃ l, l = withP l0 ⟨pwS, []⟩ := ⟨_, rfl⟩
    rw [← hl1] at Ow_
    have hb1 : l1.length ≤ 2 := by have := @withP_len l0 ⟨pwS, []⟩; rw [← hl1] at this; omega
    have Ow1 := Ow_
    refine sv (o_as rfl) rfl ?_
    refine l_nil ?_
    refine e_K (hK6 _ _ _ _ ?_)
    refine c_seq fun K7 hK7 => ?_
    refine c_region ?_
    refine sv (o_mv rfl) rfl ?_
    refine sv (o_fa0 fd29_1 rfl) rfl ?_
    refine sv (o_ld sc9 rfl (Bg1.cell rfl)) rfl ?_
    refine sv (o_build (cs := [_, _]) pl35 zv35 rfl rfl) rfl ?_
    refine sc (o_call ent22 rfl) (c_with _ l1 _ (Own.pairs [] Ow1 (by simp)) ⟨mbS, e.snd⟩ (by omega)) rfl fun v_ w4 h_ => ?_
    obtain ⟨Ow_, Lw_, E_⟩ := h_
    replace Bg1 := Bg1.mod0 E_
    replace Bg2 := Bg2.mod0 E_
    replace E := E.then E_
    obtain ⟨l2, hl2⟩ : ∃ l, l = withP l1 ⟨mbS, e.snd⟩ := ⟨_, rfl⟩
    rw [← hl2] at Ow_
    have hb2 : l2.length ≤ 3 := by have := @withP_len l1 ⟨mbS, e.snd⟩; rw [← hl2] at this; omega
    have Ow2 := Ow_
    refine sv (o_as rfl) rfl ?_
    refine l_nil ?_
    refine e_K (hK7 _ _ _ _ ?_)
    refine c_seq fun K8 hK8 => ?_
    refine c_seq fun K9 hK9 => ?_
    refine c_region ?_
    refine sv (o_fa0 fd29_2 rfl) rfl ?_
    refine sv (o_ld sc9 rfl (Bg1.cell rfl)) rfl ?_
    refine sv (o_sne rfl rfl) rfl ?_
    refine l_nil ?_
    refine e_K (hK9 _ _ _ _ ?_)
    refine c_if rfl (fun h26 => ?_) (fun h26 => ?_)
    · skip
      have hm26 : e.ty ≠ mbS := h26
      refine c_seq fun K10 hK10 => ?_
      refine c_region ?_
      refine sv (o_mv rfl) rfl ?_
      refine sv (o_as rfl) rfl ?_
      refine l_nil ?_
      refine e_K (hK10 _ _ _ _ ?_)
      refine c_ret ?_
      refine e_then (by simp) ?_
      exact ret1 rfl rfl ⟨by rw [show e.needR = l2 from by rw [EV.needR_of (l := [⟨crS, []⟩, ⟨pwS, []⟩, ⟨mbS, e.snd⟩]) hcr (show e.needs = [⟨crS, []⟩, ⟨pwS, []⟩, ⟨mbS, e.snd⟩] by rw [EV.needs, if_neg hm26] <;> rfl)]; simp only [List.foldl_cons, List.foldl_nil]; rw [hl2, hl1, hl0]]; exact Ow2, E⟩
    · skip
      have hm26 : e.ty = mbS := Classical.not_not.1 h26
      refine c_skip ?_
      refine e_K (hK8 _ _ _ _ ?_)
      refine c_seq fun K11 hK11 => ?_
      refine c_region ?_
      refine sv (o_mv rfl) rfl ?_
      refine sv (o_fa0 fd29_4 rfl) rfl ?_
      refine sv (o_ld sc9 rfl (Bg1.cell rfl)) rfl ?_
      refine sv (o_build (cs := [_, _]) pl35 zv35 rfl rfl) rfl ?_
      refine sc (o_call ent22 rfl) (c_with _ l2 _ (Own.pairs [] Ow2 (by simp)) ⟨mbS, e.key⟩ (by omega)) rfl fun v_ w5 h_ => ?_
      obtain ⟨Ow_, Lw_, E_⟩ := h_
      replace Bg1 := Bg1.mod0 E_
      replace Bg2 := Bg2.mod0 E_
      replace E := E.then E_
      obtain ⟨l3, hl3⟩ : ∃ l, l = withP l2 ⟨mbS, e.key⟩ := ⟨_, rfl⟩
      rw [← hl3] at Ow_
      have hb3 : l3.length ≤ 4 := by have := @withP_len l2 ⟨mbS, e.key⟩; rw [← hl3] at this; omega
      have Ow3 := Ow_
      refine sv (o_as rfl) rfl ?_
      refine l_nil ?_
      refine e_K (hK11 _ _ _ _ ?_)
      refine c_seq fun K12 hK12 => ?_
      refine c_region ?_
      refine sv (o_fa0 fd29_5 rfl) rfl ?_
      refine sv (o_lda (vs := [_, _, _, _, _, _]) ag25 rfl rfl (Bg1.cs rfl)) rfl ?_
      refine sc (o_call ent23 rfl) (c_text15 _ e.con _ (Rc.to0 E) kMem) rfl fun v_ w6 h_ => ?_
      obtain ⟨rfl, E_⟩ := h_
      replace Bg1 := Bg1.mod0 E_
      replace Bg2 := Bg2.mod0 E_
      replace E := E.then E_
      replace Ow3 := Ow3.mod0 E_
      refine sv (o_as rfl) rfl ?_
      refine l_nil ?_
      refine e_K (hK12 _ _ _ _ ?_)
      refine c_seq fun K13 hK13 => ?_
      refine c_seq fun K14 hK14 => ?_
      by_cases hs10_0 : e.hw = joS
      · skip
        skip
        refine c_region ?_
        refine sv (o_mv rfl) rfl ?_
        refine sv (o_seq rfl rfl) rfl ?_
        refine sv (o_mv rfl) rfl ?_
        refine sn rfl (fun e_ => absurd ((decide_eq_true hs10_0).symm.trans e_) (by decide)) rfl ?_
        refine sn rfl (fun e_ => absurd ((decide_eq_true hs10_0).symm.trans e_) (by decide)) rfl ?_
        refine sv (o_pickT (decide_eq_true hs10_0) rfl rfl) rfl ?_
        refine sv (o_mv rfl) rfl ?_
        refine sn rfl (fun e_ => absurd ((rfl).symm.trans e_) (by decide)) rfl ?_
        refine sn rfl (fun e_ => absurd ((rfl).symm.trans e_) (by decide)) rfl ?_
        refine sv (o_pickT (rfl) rfl rfl) rfl ?_
        refine l_nil ?_
        refine e_K (hK14 _ _ _ _ ?_)
        refine c_true rfl ?_
        refine c_region ?_
        refine sv (o_mv rfl) rfl ?_
        refine sv (o_build (cs := [_, _]) pl35 zv35 rfl rfl) rfl ?_
        refine sc (o_call ent22 rfl) (c_with _ l3 _ (Own.pairs [] Ow3 (by simp)) ⟨jrS, []⟩ (by omega)) rfl fun v_ w7 h_ => ?_
        obtain ⟨Ow_, Lw_, E_⟩ := h_
        replace Bg1 := Bg1.mod0 E_
        replace Bg2 := Bg2.mod0 E_
        replace E := E.then E_
        obtain ⟨l4, hl4⟩ : ∃ l, l = withP l3 ⟨jrS, []⟩ := ⟨_, rfl⟩
        rw [← hl4] at Ow_
        have hb4 : l4.length ≤ 5 := by have := @withP_len l3 ⟨jrS, []⟩; rw [← hl4] at this; omega
        have Ow4 := Ow_
        refine sv (o_as rfl) rfl ?_
        refine l_nil ?_
        refine e_K (hK13 _ _ _ _ ?_)
        refine c_seq fun K15 hK15 => ?_
        refine c_region ?_
        refine sv (o_fa0 fd29_5 rfl) rfl ?_
        refine sv (o_lda (vs := [_, _, _, _, _, _]) ag25 rfl rfl (Bg1.cs rfl)) rfl ?_
        refine sc (o_call ent23 rfl) (c_text15 _ e.con _ (Rc.to0 E) kBy) rfl fun v_ w8 h_ => ?_
        obtain ⟨rfl, E_⟩ := h_
        replace Bg1 := Bg1.mod0 E_
        replace Bg2 := Bg2.mod0 E_
        replace E := E.then E_
        replace Ow4 := Ow4.mod0 E_
        refine sv (o_as rfl) rfl ?_
        refine l_nil ?_
        refine e_K (hK15 _ _ _ _ ?_)
        refine c_seq fun K16 hK16 => ?_
        refine c_seq fun K17 hK17 => ?_
        by_cases hs13_1 : e.byw ≠ []
        · skip
          refine c_region ?_
          refine sv (o_mv rfl) rfl ?_
          refine sv (o_seq rfl rfl) rfl ?_
          refine sv (o_mv rfl) rfl ?_
          refine sg rfl (decide_eq_true hs10_0) (o_mv rfl) rfl ?_
          refine sg rfl (decide_eq_true hs10_0) (o_sne rfl rfl) rfl ?_
          refine sv (o_pickT (decide_eq_true hs10_0) rfl rfl) rfl ?_
          refine l_nil ?_
          refine e_K (hK17 _ _ _ _ ?_)
          refine c_if rfl (fun h57 => ?_) (fun h57 => absurd hs13_1 h57)
          skip
          refine c_region ?_
          refine sv (o_mv rfl) rfl ?_
          refine sv (o_mv rfl) rfl ?_
          refine sv (o_build (cs := [_, _]) pl35 zv35 rfl rfl) rfl ?_
          refine sc (o_call ent22 rfl) (c_with _ l4 _ (Own.pairs [] Ow4 (by simp)) ⟨mbS, e.byw⟩ (by omega)) rfl fun v_ w9 h_ => ?_
          obtain ⟨Ow_, Lw_, E_⟩ := h_
          replace Bg1 := Bg1.mod0 E_
          replace Bg2 := Bg2.mod0 E_
          replace E := E.then E_
          obtain ⟨l5, hl5⟩ : ∃ l, l = withP l4 ⟨mbS, e.byw⟩ := ⟨_, rfl⟩
          rw [← hl5] at Ow_
          have hb5 : l5.length ≤ 6 := by have := @withP_len l4 ⟨mbS, e.byw⟩; rw [← hl5] at this; omega
          have Ow5 := Ow_
          refine sv (o_as rfl) rfl ?_
          refine l_nil ?_
          refine e_K (hK16 _ _ _ _ ?_)
          refine c_seq fun K18 hK18 => ?_
          have J18 : ∀ (l : List Pair) (v : Value) (w1 : World), Own w1 35 2 v l.length ((l.map Pair.cells).flatten) ∧ e.needR = l ∧ Mod [] w w1 → ∀ a, Has 95 [] [(3, v)] a → K18 a w1 := by
            intro l v w10 hI
            obtain ⟨Oa0, hneeds, E⟩ := hI
            refine hK18 _ _ _ _ ?_
            refine c_seq fun K19 hK19 => ?_
            refine c_region ?_
            refine sv (o_mv rfl) rfl ?_
            refine sv (o_as rfl) rfl ?_
            refine l_nil ?_
            refine e_K (hK19 _ _ _ _ ?_)
            refine c_ret ?_
            exact ret1 rfl rfl ⟨by rw [hneeds]; exact Oa0, E⟩
          refine c_seq fun K20 hK20 => ?_
          refine c_region ?_
          refine sv (o_mv rfl) rfl ?_
          refine sv (o_seq rfl rfl) rfl ?_
          refine sv (o_mv rfl) rfl ?_
          refine sn rfl (fun e_ => absurd ((decide_eq_false (p := e.hw = inS) (by rw [hs10_0]; decide)).symm.trans e_) (by decide)) rfl ?_
          refine sn rfl (fun e_ => absurd ((decide_eq_false (p := e.hw = inS) (by rw [hs10_0]; decide)).symm.trans e_) (by decide)) rfl ?_
          refine sn rfl (fun e_ => absurd ((decide_eq_false (p := e.hw = inS) (by rw [hs10_0]; decide)).symm.trans e_) (by decide)) rfl ?_
          refine sn rfl (fun e_ => absurd ((decide_eq_false (p := e.hw = inS) (by rw [hs10_0]; decide)).symm.trans e_) (by decide)) rfl ?_
          refine sv (o_pickF (decide_eq_false (p := e.hw = inS) (by rw [hs10_0]; decide)) rfl rfl) rfl ?_
          refine l_nil ?_
          refine e_K (hK20 _ _ _ _ ?_)
          refine c_false rfl ?_
          skip
          refine c_skip ?_
          refine WE.sub (l' := [(3, _)]) ⟨rfl, trivial⟩ (e_K (J18 l5 _ w9 ⟨Ow5, by rw [EV.needR_of (l := [⟨crS, []⟩, ⟨pwS, []⟩, ⟨mbS, e.snd⟩, ⟨mbS, e.key⟩, ⟨jrS, []⟩, ⟨mbS, e.byw⟩]) hcr (by rw [EV.needs, if_pos hm26, EV.more, if_pos hs10_0, if_neg hs13_1]; rfl)]; simp only [List.foldl_cons, List.foldl_nil]; rw [hl5, hl4, hl3, hl2, hl1, hl0], E⟩))
        · skip
          refine c_region ?_
          refine sv (o_mv rfl) rfl ?_
          refine sv (o_seq rfl rfl) rfl ?_
          refine sv (o_mv rfl) rfl ?_
          refine sg rfl (decide_eq_true hs10_0) (o_mv rfl) rfl ?_
          refine sg rfl (decide_eq_true hs10_0) (o_sne rfl rfl) rfl ?_
          refine sv (o_pickT (decide_eq_true hs10_0) rfl rfl) rfl ?_
          refine l_nil ?_
          refine e_K (hK17 _ _ _ _ ?_)
          refine c_if rfl (fun h57 => absurd h57 hs13_1) (fun h57 => ?_)
          refine c_skip ?_
          refine e_K (hK16 _ _ _ _ ?_)
          refine c_seq fun K21 hK21 => ?_
          have J21 : ∀ (l : List Pair) (v : Value) (w1 : World), Own w1 35 2 v l.length ((l.map Pair.cells).flatten) ∧ e.needR = l ∧ Mod [] w w1 → ∀ a, Has 95 [] [(3, v)] a → K21 a w1 := by
            intro l v w11 hI
            obtain ⟨Oa0, hneeds, E⟩ := hI
            refine hK21 _ _ _ _ ?_
            refine c_seq fun K22 hK22 => ?_
            refine c_region ?_
            refine sv (o_mv rfl) rfl ?_
            refine sv (o_as rfl) rfl ?_
            refine l_nil ?_
            refine e_K (hK22 _ _ _ _ ?_)
            refine c_ret ?_
            exact ret1 rfl rfl ⟨by rw [hneeds]; exact Oa0, E⟩
          refine c_seq fun K23 hK23 => ?_
          refine c_region ?_
          refine sv (o_mv rfl) rfl ?_
          refine sv (o_seq rfl rfl) rfl ?_
          refine sv (o_mv rfl) rfl ?_
          refine sn rfl (fun e_ => absurd ((decide_eq_false (p := e.hw = inS) (by rw [hs10_0]; decide)).symm.trans e_) (by decide)) rfl ?_
          refine sn rfl (fun e_ => absurd ((decide_eq_false (p := e.hw = inS) (by rw [hs10_0]; decide)).symm.trans e_) (by decide)) rfl ?_
          refine sn rfl (fun e_ => absurd ((decide_eq_false (p := e.hw = inS) (by rw [hs10_0]; decide)).symm.trans e_) (by decide)) rfl ?_
          refine sn rfl (fun e_ => absurd ((decide_eq_false (p := e.hw = inS) (by rw [hs10_0]; decide)).symm.trans e_) (by decide)) rfl ?_
          refine sv (o_pickF (decide_eq_false (p := e.hw = inS) (by rw [hs10_0]; decide)) rfl rfl) rfl ?_
          refine l_nil ?_
          refine e_K (hK23 _ _ _ _ ?_)
          refine c_false rfl ?_
          skip
          refine c_skip ?_
          refine WE.sub (l' := [(3, _)]) ⟨rfl, trivial⟩ (e_K (J21 l4 _ w8 ⟨Ow4, by rw [EV.needR_of (l := [⟨crS, []⟩, ⟨pwS, []⟩, ⟨mbS, e.snd⟩, ⟨mbS, e.key⟩, ⟨jrS, []⟩]) hcr (by rw [EV.needs, if_pos hm26, EV.more, if_pos hs10_0, if_pos (Classical.not_not.1 hs13_1)]; rfl)]; simp only [List.foldl_cons, List.foldl_nil]; rw [hl4, hl3, hl2, hl1, hl0], E⟩))
      · skip
        by_cases hs10_1 : e.hw = inS
        · skip
          skip
          refine c_region ?_
          refine sv (o_mv rfl) rfl ?_
          refine sv (o_seq rfl rfl) rfl ?_
          refine sv (o_mv rfl) rfl ?_
          refine sg rfl (decide_eq_false hs10_0) (o_mv rfl) rfl ?_
          refine sg rfl (decide_eq_false hs10_0) (o_seq rfl rfl) rfl ?_
          refine sv (o_pickF (decide_eq_false hs10_0) rfl rfl) rfl ?_
          refine sv (o_mv rfl) rfl ?_
          refine sn rfl (fun e_ => absurd ((decide_eq_true hs10_1).symm.trans e_) (by decide)) rfl ?_
          refine sn rfl (fun e_ => absurd ((decide_eq_true hs10_1).symm.trans e_) (by decide)) rfl ?_
          refine sv (o_pickT (decide_eq_true hs10_1) rfl rfl) rfl ?_
          refine l_nil ?_
          refine e_K (hK14 _ _ _ _ ?_)
          refine c_true rfl ?_
          refine c_region ?_
          refine sv (o_mv rfl) rfl ?_
          refine sv (o_build (cs := [_, _]) pl35 zv35 rfl rfl) rfl ?_
          refine sc (o_call ent22 rfl) (c_with _ l3 _ (Own.pairs [] Ow3 (by simp)) ⟨jrS, []⟩ (by omega)) rfl fun v_ w12 h_ => ?_
          obtain ⟨Ow_, Lw_, E_⟩ := h_
          replace Bg1 := Bg1.mod0 E_
          replace Bg2 := Bg2.mod0 E_
          replace E := E.then E_
          obtain ⟨l4, hl4⟩ : ∃ l, l = withP l3 ⟨jrS, []⟩ := ⟨_, rfl⟩
          rw [← hl4] at Ow_
          have hb4 : l4.length ≤ 5 := by have := @withP_len l3 ⟨jrS, []⟩; rw [← hl4] at this; omega
          have Ow4 := Ow_
          refine sv (o_as rfl) rfl ?_
          refine l_nil ?_
          refine e_K (hK13 _ _ _ _ ?_)
          refine c_seq fun K24 hK24 => ?_
          refine c_region ?_
          refine sv (o_fa0 fd29_5 rfl) rfl ?_
          refine sv (o_lda (vs := [_, _, _, _, _, _]) ag25 rfl rfl (Bg1.cs rfl)) rfl ?_
          refine sc (o_call ent23 rfl) (c_text15 _ e.con _ (Rc.to0 E) kBy) rfl fun v_ w13 h_ => ?_
          obtain ⟨rfl, E_⟩ := h_
          replace Bg1 := Bg1.mod0 E_
          replace Bg2 := Bg2.mod0 E_
          replace E := E.then E_
          replace Ow4 := Ow4.mod0 E_
          refine sv (o_as rfl) rfl ?_
          refine l_nil ?_
          refine e_K (hK24 _ _ _ _ ?_)
          refine c_seq fun K25 hK25 => ?_
          refine c_seq fun K26 hK26 => ?_
          refine c_region ?_
          refine sv (o_mv rfl) rfl ?_
          refine sv (o_seq rfl rfl) rfl ?_
          refine sv (o_mv rfl) rfl ?_
          refine sn rfl (fun e_ => absurd ((decide_eq_false (p := e.hw = joS) hs10_0).symm.trans e_) (by decide)) rfl ?_
          refine sn rfl (fun e_ => absurd ((decide_eq_false (p := e.hw = joS) hs10_0).symm.trans e_) (by decide)) rfl ?_
          refine sv (o_pickF (decide_eq_false (p := e.hw = joS) hs10_0) rfl rfl) rfl ?_
          refine l_nil ?_
          refine e_K (hK26 _ _ _ _ ?_)
          refine c_false rfl ?_
          refine c_skip ?_
          refine e_K (hK25 _ _ _ _ ?_)
          refine c_seq fun K27 hK27 => ?_
          have J27 : ∀ (l : List Pair) (v : Value) (w1 : World), Own w1 35 2 v l.length ((l.map Pair.cells).flatten) ∧ e.needR = l ∧ Mod [] w w1 → ∀ a, Has 95 [] [(3, v)] a → K27 a w1 := by
            intro l v w14 hI
            obtain ⟨Oa0, hneeds, E⟩ := hI
            refine hK27 _ _ _ _ ?_
            refine c_seq fun K28 hK28 => ?_
            refine c_region ?_
            refine sv (o_mv rfl) rfl ?_
            refine sv (o_as rfl) rfl ?_
            refine l_nil ?_
            refine e_K (hK28 _ _ _ _ ?_)
            refine c_ret ?_
            exact ret1 rfl rfl ⟨by rw [hneeds]; exact Oa0, E⟩
          refine c_seq fun K29 hK29 => ?_
          by_cases hs15_1 : e.con.kind = 5
          · skip
            refine c_region ?_
            refine sv (o_mv rfl) rfl ?_
            refine sv (o_seq rfl rfl) rfl ?_
            refine sv (o_mv rfl) rfl ?_
            refine sg rfl (decide_eq_true hs10_1) (o_fa0 fd29_5 rfl) rfl ?_
            refine sg rfl (decide_eq_true hs10_1) (o_fa fd25_0 rfl) rfl ?_
            refine sg rfl (decide_eq_true hs10_1) (o_ld sc3 rfl (Bg1.cell rfl)) rfl ?_
            refine sg rfl (decide_eq_true hs10_1) (o_eql rfl rfl) rfl ?_
            refine sv (o_pickT (decide_eq_true hs10_1) rfl rfl) rfl ?_
            refine l_nil ?_
            refine e_K (hK29 _ _ _ _ ?_)
            refine c_if rfl (fun h69 => ?_) (fun h69 => absurd hs15_1 h69)
            refine c_seq fun K30 hK30 => ?_
            refine c_region ?_
            refine sv (o_fa0 fd29_5 rfl) rfl ?_
            refine sv (o_fa fd25_5 rfl) rfl ?_
            refine sv (o_ld sc23 rfl (Bg1.cell rfl)) rfl ?_
            refine sc (o_call ent24 rfl) (c_jfindR [] w _ E e.con.map _ Rmc kTpi) rfl fun v_ w15 h_ => ?_
            obtain ⟨us_x, rfl, R_x, E_⟩ := h_
            replace Bg1 := Bg1.mod0 E_
            replace Bg2 := Bg2.mod0 E_
            replace E := E.then E_
            replace Ow4 := Ow4.mod0 E_
            obtain ⟨x, hx_x⟩ : ∃ z_, z_ = (look e.con.map kTpi).getD JV.nul := ⟨_, rfl⟩
            rw [← hx_x] at R_x
            have hs_x : e.con.sub kTpi = x := by rw [hx_x]; exact JV.sub_yes hs15_1
            obtain ⟨al_x, cl_x, am_x, cm_x, rfl, Rl_x, Rm_x⟩ := JV.cells_ R_x
            refine sv (o_mv rfl) rfl ?_
            refine sv (o_ext rfl rfl) rfl ?_
            refine sv (o_ext rfl rfl) rfl ?_
            refine s_alloc zv25 rfl fun g3 w16 N3 => ?_
            have Lg3_E := N3.le E
            have Dg1_g3 := N3.ne Bg1
            have Dg2_g3 := N3.ne Bg2
            have Dow_g3 := N3.own_ne Ow4
            replace Bg1 := Bg1.mod0 N3.mod
            replace Bg2 := Bg2.mod0 N3.mod
            replace E := E.then N3.mod
            replace Ow4 := Ow4.mod0 N3.mod
            have Bg3 := N3.blk
            refine s_sta (vs := [_, _, _, _, _, _]) ag25 Bg3 rfl rfl rfl (by simp [Value.oneCell']) (by simp) fun w17 P17 => ?_
            replace Bg1 := Bg1.ne P17.mod (Ne.symm (Ne.symm Dg1_g3))
            replace Bg2 := Bg2.ne P17.mod (Ne.symm (Ne.symm Dg2_g3))
            replace E := E.own P17.mod Lg3_E
            replace Ow4 := Ow4.put P17.mod Dow_g3
            replace Bg3 : Blk w17 g3 _ [_, _, _, _, _, _] := P17.blk
            refine sv (o_as rfl) rfl ?_
            refine l_nil ?_
            refine e_K (hK30 _ _ _ _ ?_)
            refine c_seq fun K31 hK31 => ?_
            refine c_region ?_
            refine sv (o_fa0 fd25_0 rfl) rfl ?_
            refine sv (o_ld sc3 rfl (Bg3.cell rfl)) rfl ?_
            refine sv (o_eql rfl rfl) rfl ?_
            refine l_nil ?_
            refine e_K (hK31 _ _ _ _ ?_)
            refine c_if rfl (fun h79 => ?_) (fun h79 => ?_)
            · skip
              have hx5 : x.kind = 5 := by omega
              refine c_seq fun K32 hK32 => ?_
              refine c_region ?_
              refine sv (o_fa0 fd25_5 rfl) rfl ?_
              refine sv (o_ld sc23 rfl (Bg3.cell rfl)) rfl ?_
              refine sc (o_call ent24 rfl) (c_jfindR [] w _ E x.map _ Rm_x kSgn) rfl fun v_ w18 h_ => ?_
              obtain ⟨us_y, rfl, R_y, E_⟩ := h_
              replace Bg1 := Bg1.mod0 E_
              replace Bg2 := Bg2.mod0 E_
              replace Bg3 := Bg3.mod0 E_
              replace E := E.then E_
              replace Ow4 := Ow4.mod0 E_
              obtain ⟨y, hx_y⟩ : ∃ z_, z_ = (look x.map kSgn).getD JV.nul := ⟨_, rfl⟩
              rw [← hx_y] at R_y
              have hs_y : x.sub kSgn = y := by rw [hx_y]; exact JV.sub_yes hx5
              obtain ⟨al_y, cl_y, am_y, cm_y, rfl, Rl_y, Rm_y⟩ := JV.cells_ R_y
              refine sv (o_mv rfl) rfl ?_
              refine sv (o_ext rfl rfl) rfl ?_
              refine sv (o_ext rfl rfl) rfl ?_
              refine s_alloc zv25 rfl fun g4 w19 N4 => ?_
              have Lg4_E := N4.le E
              have Dg1_g4 := N4.ne Bg1
              have Dg2_g4 := N4.ne Bg2
              have Dg3_g4 := N4.ne Bg3
              have Dow_g4 := N4.own_ne Ow4
              replace Bg1 := Bg1.mod0 N4.mod
              replace Bg2 := Bg2.mod0 N4.mod
              replace Bg3 := Bg3.mod0 N4.mod
              replace E := E.then N4.mod
              replace Ow4 := Ow4.mod0 N4.mod
              have Bg4 := N4.blk
              refine s_sta (vs := [_, _, _, _, _, _]) ag25 Bg4 rfl rfl rfl (by simp [Value.oneCell']) (by simp) fun w20 P20 => ?_
              replace Bg1 := Bg1.ne P20.mod (Ne.symm (Ne.symm Dg1_g4))
              replace Bg2 := Bg2.ne P20.mod (Ne.symm (Ne.symm Dg2_g4))
              replace Bg3 := Bg3.ne P20.mod (Ne.symm (Ne.symm Dg3_g4))
              replace E := E.own P20.mod Lg4_E
              replace Ow4 := Ow4.put P20.mod Dow_g4
              replace Bg4 : Blk w20 g4 _ [_, _, _, _, _, _] := P20.blk
              refine sv (o_as rfl) rfl ?_
              refine l_nil ?_
              refine e_K (hK32 _ _ _ _ ?_)
              refine c_seq fun K33 hK33 => ?_
              refine c_region ?_
              refine sv (o_lda (vs := [_, _, _, _, _, _]) ag25 rfl rfl (Bg4.cs rfl)) rfl ?_
              refine sc (o_call ent23 rfl) (c_text15 _ y _ (R_y.to0 E) kTok) rfl fun v_ w21 h_ => ?_
              obtain ⟨rfl, E_⟩ := h_
              replace Bg1 := Bg1.mod0 E_
              replace Bg2 := Bg2.mod0 E_
              replace Bg3 := Bg3.mod0 E_
              replace Bg4 := Bg4.mod0 E_
              replace E := E.then E_
              replace Ow4 := Ow4.mod0 E_
              refine sv (o_as rfl) rfl ?_
              refine l_nil ?_
              refine e_K (hK33 _ _ _ _ ?_)
              refine c_seq fun K34 hK34 => ?_
              refine c_region ?_
              refine sv (o_mv rfl) rfl ?_
              refine sv (o_sne rfl rfl) rfl ?_
              refine l_nil ?_
              refine e_K (hK34 _ _ _ _ ?_)
              refine c_if rfl (fun h89 => ?_) (fun h89 => ?_)
              · skip
                have htk0 : e.tok = y.text [kTok] := by rw [show e.tok = ((e.con.sub kTpi).sub kSgn).text [kTok] from rfl, hs_x, hs_y]
                have htk : e.tok ≠ [] := by rw [htk0]; exact h89
                refine c_region ?_
                refine sv (o_mv rfl) rfl ?_
                refine sv (o_mv rfl) rfl ?_
                refine sv (o_build (cs := [_, _]) pl35 zv35 rfl rfl) rfl ?_
                refine sc (o_call ent22 rfl) (c_with _ l4 _ (Own.pairs [] Ow4 (by simp)) ⟨tpS, y.text [kTok]⟩ (by omega)) rfl fun v_ w22 h_ => ?_
                obtain ⟨Ow_, Lw_, E_⟩ := h_
                replace Bg1 := Bg1.mod0 E_
                replace Bg2 := Bg2.mod0 E_
                replace Bg3 := Bg3.mod0 E_
                replace Bg4 := Bg4.mod0 E_
                replace E := E.then E_
                obtain ⟨l5, hl5⟩ : ∃ l, l = withP l4 ⟨tpS, y.text [kTok]⟩ := ⟨_, rfl⟩
                rw [← hl5] at Ow_
                have hb5 : l5.length ≤ 6 := by have := @withP_len l4 ⟨tpS, y.text [kTok]⟩; rw [← hl5] at this; omega
                have Ow5 := Ow_
                refine sv (o_as rfl) rfl ?_
                refine l_nil ?_
                refine WE.sub (l' := [(3, _)]) ⟨rfl, trivial⟩ (e_K (J27 l5 _ w22 ⟨Ow5, by rw [EV.needR_of (l := [⟨crS, []⟩, ⟨pwS, []⟩, ⟨mbS, e.snd⟩, ⟨mbS, e.key⟩, ⟨jrS, []⟩, ⟨tpS, e.tok⟩]) hcr (by rw [EV.needs, if_pos hm26, EV.more, if_neg hs10_0, if_pos hs10_1, if_neg htk]; rfl)]; simp only [List.foldl_cons, List.foldl_nil]; rw [htk0, hl5, hl4, hl3, hl2, hl1, hl0], E⟩))
              · skip
                have hno : ¬ e.tok ≠ [] := by
                  rw [show e.tok = ((e.con.sub kTpi).sub kSgn).text [kTok] from rfl, hs_x, hs_y]; exact h89
                refine c_skip ?_
                refine WE.sub (l' := [(3, _)]) ⟨rfl, trivial⟩ (e_K (J27 l4 _ w21 ⟨Ow4, by rw [EV.needR_of (l := [⟨crS, []⟩, ⟨pwS, []⟩, ⟨mbS, e.snd⟩, ⟨mbS, e.key⟩, ⟨jrS, []⟩]) hcr (by rw [EV.needs, if_pos hm26, EV.more, if_neg hs10_0, if_pos hs10_1, if_pos (Classical.not_not.1 hno)]; rfl)]; simp only [List.foldl_cons, List.foldl_nil]; rw [hl4, hl3, hl2, hl1, hl0], E⟩))
            · skip
              have hno : ¬ e.tok ≠ [] := Classical.not_not.2 (by rw [show e.tok = ((e.con.sub kTpi).sub kSgn).text [kTok] from rfl, hs_x, JV.sub_no (by omega), JV.text_nul])
              refine c_skip ?_
              refine WE.sub (l' := [(3, _)]) ⟨rfl, trivial⟩ (e_K (J27 l4 _ w17 ⟨Ow4, by rw [EV.needR_of (l := [⟨crS, []⟩, ⟨pwS, []⟩, ⟨mbS, e.snd⟩, ⟨mbS, e.key⟩, ⟨jrS, []⟩]) hcr (by rw [EV.needs, if_pos hm26, EV.more, if_neg hs10_0, if_pos hs10_1, if_pos (Classical.not_not.1 hno)]; rfl)]; simp only [List.foldl_cons, List.foldl_nil]; rw [hl4, hl3, hl2, hl1, hl0], E⟩))
          · skip
            refine c_region ?_
            refine sv (o_mv rfl) rfl ?_
            refine sv (o_seq rfl rfl) rfl ?_
            refine sv (o_mv rfl) rfl ?_
            refine sg rfl (decide_eq_true hs10_1) (o_fa0 fd29_5 rfl) rfl ?_
            refine sg rfl (decide_eq_true hs10_1) (o_fa fd25_0 rfl) rfl ?_
            refine sg rfl (decide_eq_true hs10_1) (o_ld sc3 rfl (Bg1.cell rfl)) rfl ?_
            refine sg rfl (decide_eq_true hs10_1) (o_eql rfl rfl) rfl ?_
            refine sv (o_pickT (decide_eq_true hs10_1) rfl rfl) rfl ?_
            refine l_nil ?_
            refine e_K (hK29 _ _ _ _ ?_)
            refine c_if rfl (fun h69 => absurd h69 hs15_1) (fun h69 => ?_)
            have hno : ¬ e.tok ≠ [] := Classical.not_not.2 (by rw [show e.tok = (e.con.sub kTpi).text [kSgn, kTok] from rfl, JV.sub_no hs15_1, JV.text_nul])
            refine c_skip ?_
            refine WE.sub (l' := [(3, _)]) ⟨rfl, trivial⟩ (e_K (J27 l4 _ w13 ⟨Ow4, by rw [EV.needR_of (l := [⟨crS, []⟩, ⟨pwS, []⟩, ⟨mbS, e.snd⟩, ⟨mbS, e.key⟩, ⟨jrS, []⟩]) hcr (by rw [EV.needs, if_pos hm26, EV.more, if_neg hs10_0, if_pos hs10_1, if_pos (Classical.not_not.1 hno)]; rfl)]; simp only [List.foldl_cons, List.foldl_nil]; rw [hl4, hl3, hl2, hl1, hl0], E⟩))
        · skip
          by_cases hs10_2 : e.hw = knS
          · skip
            skip
            refine c_region ?_
            refine sv (o_mv rfl) rfl ?_
            refine sv (o_seq rfl rfl) rfl ?_
            refine sv (o_mv rfl) rfl ?_
            refine sg rfl (decide_eq_false hs10_0) (o_mv rfl) rfl ?_
            refine sg rfl (decide_eq_false hs10_0) (o_seq rfl rfl) rfl ?_
            refine sv (o_pickF (decide_eq_false hs10_0) rfl rfl) rfl ?_
            refine sv (o_mv rfl) rfl ?_
            refine sg rfl (decide_eq_false hs10_1) (o_mv rfl) rfl ?_
            refine sg rfl (decide_eq_false hs10_1) (o_seq rfl rfl) rfl ?_
            refine sv (o_pickF (decide_eq_false hs10_1) rfl rfl) rfl ?_
            refine l_nil ?_
            refine e_K (hK14 _ _ _ _ ?_)
            refine c_if rfl (fun h45 => ?_) (fun h45 => absurd hs10_2 h45)
            refine c_region ?_
            refine sv (o_mv rfl) rfl ?_
            refine sv (o_build (cs := [_, _]) pl35 zv35 rfl rfl) rfl ?_
            refine sc (o_call ent22 rfl) (c_with _ l3 _ (Own.pairs [] Ow3 (by simp)) ⟨jrS, []⟩ (by omega)) rfl fun v_ w23 h_ => ?_
            obtain ⟨Ow_, Lw_, E_⟩ := h_
            replace Bg1 := Bg1.mod0 E_
            replace Bg2 := Bg2.mod0 E_
            replace E := E.then E_
            obtain ⟨l4, hl4⟩ : ∃ l, l = withP l3 ⟨jrS, []⟩ := ⟨_, rfl⟩
            rw [← hl4] at Ow_
            have hb4 : l4.length ≤ 5 := by have := @withP_len l3 ⟨jrS, []⟩; rw [← hl4] at this; omega
            have Ow4 := Ow_
            refine sv (o_as rfl) rfl ?_
            refine l_nil ?_
            refine e_K (hK13 _ _ _ _ ?_)
            refine c_seq fun K35 hK35 => ?_
            refine c_region ?_
            refine sv (o_fa0 fd29_5 rfl) rfl ?_
            refine sv (o_lda (vs := [_, _, _, _, _, _]) ag25 rfl rfl (Bg1.cs rfl)) rfl ?_
            refine sc (o_call ent23 rfl) (c_text15 _ e.con _ (Rc.to0 E) kBy) rfl fun v_ w24 h_ => ?_
            obtain ⟨rfl, E_⟩ := h_
            replace Bg1 := Bg1.mod0 E_
            replace Bg2 := Bg2.mod0 E_
            replace E := E.then E_
            replace Ow4 := Ow4.mod0 E_
            refine sv (o_as rfl) rfl ?_
            refine l_nil ?_
            refine e_K (hK35 _ _ _ _ ?_)
            refine c_seq fun K36 hK36 => ?_
            refine c_seq fun K37 hK37 => ?_
            refine c_region ?_
            refine sv (o_mv rfl) rfl ?_
            refine sv (o_seq rfl rfl) rfl ?_
            refine sv (o_mv rfl) rfl ?_
            refine sn rfl (fun e_ => absurd ((decide_eq_false (p := e.hw = joS) hs10_0).symm.trans e_) (by decide)) rfl ?_
            refine sn rfl (fun e_ => absurd ((decide_eq_false (p := e.hw = joS) hs10_0).symm.trans e_) (by decide)) rfl ?_
            refine sv (o_pickF (decide_eq_false (p := e.hw = joS) hs10_0) rfl rfl) rfl ?_
            refine l_nil ?_
            refine e_K (hK37 _ _ _ _ ?_)
            refine c_false rfl ?_
            refine c_skip ?_
            refine e_K (hK36 _ _ _ _ ?_)
            refine c_seq fun K38 hK38 => ?_
            have J38 : ∀ (l : List Pair) (v : Value) (w1 : World), Own w1 35 2 v l.length ((l.map Pair.cells).flatten) ∧ e.needR = l ∧ Mod [] w w1 → ∀ a, Has 95 [] [(3, v)] a → K38 a w1 := by
              intro l v w25 hI
              obtain ⟨Oa0, hneeds, E⟩ := hI
              refine hK38 _ _ _ _ ?_
              refine c_seq fun K39 hK39 => ?_
              refine c_region ?_
              refine sv (o_mv rfl) rfl ?_
              refine sv (o_as rfl) rfl ?_
              refine l_nil ?_
              refine e_K (hK39 _ _ _ _ ?_)
              refine c_ret ?_
              exact ret1 rfl rfl ⟨by rw [hneeds]; exact Oa0, E⟩
            refine c_seq fun K40 hK40 => ?_
            refine c_region ?_
            refine sv (o_mv rfl) rfl ?_
            refine sv (o_seq rfl rfl) rfl ?_
            refine sv (o_mv rfl) rfl ?_
            refine sn rfl (fun e_ => absurd ((decide_eq_false (p := e.hw = inS) hs10_1).symm.trans e_) (by decide)) rfl ?_
            refine sn rfl (fun e_ => absurd ((decide_eq_false (p := e.hw = inS) hs10_1).symm.trans e_) (by decide)) rfl ?_
            refine sn rfl (fun e_ => absurd ((decide_eq_false (p := e.hw = inS) hs10_1).symm.trans e_) (by decide)) rfl ?_
            refine sn rfl (fun e_ => absurd ((decide_eq_false (p := e.hw = inS) hs10_1).symm.trans e_) (by decide)) rfl ?_
            refine sv (o_pickF (decide_eq_false (p := e.hw = inS) hs10_1) rfl rfl) rfl ?_
            refine l_nil ?_
            refine e_K (hK40 _ _ _ _ ?_)
            refine c_false rfl ?_
            skip
            refine c_skip ?_
            refine WE.sub (l' := [(3, _)]) ⟨rfl, trivial⟩ (e_K (J38 l4 _ w24 ⟨Ow4, by rw [EV.needR_of (l := [⟨crS, []⟩, ⟨pwS, []⟩, ⟨mbS, e.snd⟩, ⟨mbS, e.key⟩, ⟨jrS, []⟩]) hcr (by rw [EV.needs, if_pos hm26, EV.more, if_neg hs10_0, if_neg hs10_1, if_pos hs10_2]; rfl)]; simp only [List.foldl_cons, List.foldl_nil]; rw [hl4, hl3, hl2, hl1, hl0], E⟩))
          · skip
            skip
            refine c_region ?_
            refine sv (o_mv rfl) rfl ?_
            refine sv (o_seq rfl rfl) rfl ?_
            refine sv (o_mv rfl) rfl ?_
            refine sg rfl (decide_eq_false hs10_0) (o_mv rfl) rfl ?_
            refine sg rfl (decide_eq_false hs10_0) (o_seq rfl rfl) rfl ?_
            refine sv (o_pickF (decide_eq_false hs10_0) rfl rfl) rfl ?_
            refine sv (o_mv rfl) rfl ?_
            refine sg rfl (decide_eq_false hs10_1) (o_mv rfl) rfl ?_
            refine sg rfl (decide_eq_false hs10_1) (o_seq rfl rfl) rfl ?_
            refine sv (o_pickF (decide_eq_false hs10_1) rfl rfl) rfl ?_
            refine l_nil ?_
            refine e_K (hK14 _ _ _ _ ?_)
            refine c_if rfl (fun h45 => absurd h45 hs10_2) (fun h45 => ?_)
            refine c_skip ?_
            refine e_K (hK13 _ _ _ _ ?_)
            refine c_seq fun K41 hK41 => ?_
            refine c_region ?_
            refine sv (o_fa0 fd29_5 rfl) rfl ?_
            refine sv (o_lda (vs := [_, _, _, _, _, _]) ag25 rfl rfl (Bg1.cs rfl)) rfl ?_
            refine sc (o_call ent23 rfl) (c_text15 _ e.con _ (Rc.to0 E) kBy) rfl fun v_ w26 h_ => ?_
            obtain ⟨rfl, E_⟩ := h_
            replace Bg1 := Bg1.mod0 E_
            replace Bg2 := Bg2.mod0 E_
            replace E := E.then E_
            replace Ow3 := Ow3.mod0 E_
            refine sv (o_as rfl) rfl ?_
            refine l_nil ?_
            refine e_K (hK41 _ _ _ _ ?_)
            refine c_seq fun K42 hK42 => ?_
            refine c_seq fun K43 hK43 => ?_
            refine c_region ?_
            refine sv (o_mv rfl) rfl ?_
            refine sv (o_seq rfl rfl) rfl ?_
            refine sv (o_mv rfl) rfl ?_
            refine sn rfl (fun e_ => absurd ((decide_eq_false (p := e.hw = joS) hs10_0).symm.trans e_) (by decide)) rfl ?_
            refine sn rfl (fun e_ => absurd ((decide_eq_false (p := e.hw = joS) hs10_0).symm.trans e_) (by decide)) rfl ?_
            refine sv (o_pickF (decide_eq_false (p := e.hw = joS) hs10_0) rfl rfl) rfl ?_
            refine l_nil ?_
            refine e_K (hK43 _ _ _ _ ?_)
            refine c_false rfl ?_
            refine c_skip ?_
            refine e_K (hK42 _ _ _ _ ?_)
            refine c_seq fun K44 hK44 => ?_
            have J44 : ∀ (l : List Pair) (v : Value) (w1 : World), Own w1 35 2 v l.length ((l.map Pair.cells).flatten) ∧ e.needR = l ∧ Mod [] w w1 → ∀ a, Has 95 [] [(3, v)] a → K44 a w1 := by
              intro l v w27 hI
              obtain ⟨Oa0, hneeds, E⟩ := hI
              refine hK44 _ _ _ _ ?_
              refine c_seq fun K45 hK45 => ?_
              refine c_region ?_
              refine sv (o_mv rfl) rfl ?_
              refine sv (o_as rfl) rfl ?_
              refine l_nil ?_
              refine e_K (hK45 _ _ _ _ ?_)
              refine c_ret ?_
              exact ret1 rfl rfl ⟨by rw [hneeds]; exact Oa0, E⟩
            refine c_seq fun K46 hK46 => ?_
            refine c_region ?_
            refine sv (o_mv rfl) rfl ?_
            refine sv (o_seq rfl rfl) rfl ?_
            refine sv (o_mv rfl) rfl ?_
            refine sn rfl (fun e_ => absurd ((decide_eq_false (p := e.hw = inS) hs10_1).symm.trans e_) (by decide)) rfl ?_
            refine sn rfl (fun e_ => absurd ((decide_eq_false (p := e.hw = inS) hs10_1).symm.trans e_) (by decide)) rfl ?_
            refine sn rfl (fun e_ => absurd ((decide_eq_false (p := e.hw = inS) hs10_1).symm.trans e_) (by decide)) rfl ?_
            refine sn rfl (fun e_ => absurd ((decide_eq_false (p := e.hw = inS) hs10_1).symm.trans e_) (by decide)) rfl ?_
            refine sv (o_pickF (decide_eq_false (p := e.hw = inS) hs10_1) rfl rfl) rfl ?_
            refine l_nil ?_
            refine e_K (hK46 _ _ _ _ ?_)
            refine c_false rfl ?_
            skip
            refine c_skip ?_
            refine WE.sub (l' := [(3, _)]) ⟨rfl, trivial⟩ (e_K (J44 l3 _ w26 ⟨Ow3, by rw [EV.needR_of (l := [⟨crS, []⟩, ⟨pwS, []⟩, ⟨mbS, e.snd⟩, ⟨mbS, e.key⟩]) hcr (by rw [EV.needs, if_pos hm26, EV.more, if_neg hs10_0, if_neg hs10_1, if_neg hs10_2]; rfl)]; simp only [List.foldl_cons, List.foldl_nil]; rw [hl3, hl2, hl1, hl0], E⟩))
end Go.Proofs.YtebfihecdooneaaDoor.V
