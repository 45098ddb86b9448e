/-
  A part of the proof: walks of functions. No condition of its own.
-/
import Derived.Test.YtebfihecdooneaaDoorM17
set_option linter.unusedVariables false
set_option linter.unusedSimpArgs false
set_option maxRecDepth 10000
namespace Go.Proofs.YtebfihecdooneaaDoor.V
open Go Go.Proofs
theorem fd29_3 : fdB Tryd.prog 29 3 3 1 = true := by kernel_rfl
theorem ent29 : Ent Tryd.prog 29 := Ent.of Tryd.func29 (by kernel_rfl) (by kernel_rfl)
theorem ent30 : Ent Tryd.prog 30 := Ent.of Tryd.func30 (by kernel_rfl) (by kernel_rfl)
theorem c_right (w : World) (e : EV) (us : List Value) (R : Reps [] w e.D us) (ho : e.ok) (hr : e.con.Rise) (es : List EV) (vs : Value) (R2 : Rep [] w (.sl 17 (es.map EV.D)) vs) (hes : es.length ≤ 1000000) : Calls Tryd.prog 14 [.agg us.toArray, vs].toArray w (Ret fun u w' => u = .bool (e.right es) ∧ Mod [] w w') := by
  refine enter Tryd.func14 rfl rfl rfl (l := [(0, _), (1, _)]) ⟨rfl, rfl, trivial⟩ ?_
  have E := Mod.refl [] w
  obtain ⟨al, cl, am, cm, ap, cp, aa, ca, aS, cS, rfl, Rc, Rp, Ra, Rs⟩ := EV.cells17 R
  obtain ⟨ad, c, rfl, hc1, hc2⟩ : ∃ ad c, vs = .slice ad es.length c ∧ es.length ≤ c ∧ c ≤ 9223372036854775807 := by
    obtain ⟨ad, c, h1, h2, h3⟩ := R2.sl_
    rw [List.length_map] at h1 h2
    exact ⟨ad, c, h1, h2, h3⟩
  refine c_seq fun K1 hK1 => ?_
  refine c_region ?_
  refine s_box rfl rfl rfl fun g1 w1 N1 => ?_
  have Lg1_E := N1.le E
  replace E := E.then N1.mod
  have Bg1 := N1.blk
  refine sv (o_as rfl) rfl ?_
  refine l_nil ?_
  refine e_K (hK1 _ _ _ _ ?_)
  refine c_seq fun K2 hK2 => ?_
  refine c_region ?_
  refine sv (o_lda (vs := [_, _, _, _, _, _, _, _, _, _, _, _, _, _, _, _, _]) ag29 rfl rfl (Bg1.cs rfl)) rfl ?_
  refine sc (o_call ent8 rfl) (c_need _ e _ (R.to0 E) ho hr) rfl fun v_ w2 h_ => ?_
  obtain ⟨On, Ln, E_⟩ := h_
  replace Bg1 := Bg1.mod0 E_
  replace E := E.then E_
  obtain ⟨adn, cn, rfl, hcn1, hcn2⟩ := On.form
  have RN := Own.pairs [] On (by simp)
  have E2 := Mod.refl [] w2
  have hw2 := E.size
  refine sv (o_as rfl) rfl ?_
  refine l_nil ?_
  refine e_K (hK2 _ _ _ _ ?_)
  refine c_seq fun K3 hK3 => ?_
  refine c_region ?_
  refine sv (o_as rfl) rfl ?_
  refine l_nil ?_
  refine e_K (hK3 _ _ _ _ ?_)
  refine c_seq fun K4 hK4 => ?_
  refine c_seq fun K5 hK5 => ?_
  refine c_region ?_
  refine sv (o_mv rfl) rfl ?_
  refine sv (o_len Tryd.underlying41 rfl) rfl ?_
  refine sv (o_mv rfl) rfl ?_
  refine l_nil ?_
  refine e_K (hK5 _ _ _ _ ?_)
  refine c_block ?_
  refine c_loop (σ := Nat × Value) (fun ⟨k, v⟩ => [(2, .pointer (some ⟨g1, 0, none⟩)), (5, .slice adn e.need.length cn), (6, v), (12, .slice ad es.length c), (13, .int .i64 es.length), (14, .int .i64 (k : Int))]) (fun ⟨k, v⟩ w1 => k ≤ es.length ∧ EV.gd e.need (es.take k) ∧ Own w1 35 2 v ((es.take k).map EV.pr).length ((((es.take k).map EV.pr).map Pair.cells).flatten) ∧ (∀ x ∈ ob v, w.heap.size ≤ x) ∧ (∀ x ∈ ob v, w2.heap.size ≤ x) ∧ (∀ x ∈ ob v, x ≠ g1) ∧ Blk w1 g1 29 [S e.room, S e.snd, S e.ty, .bool e.st, S e.key, .int .i64 e.con.kind, .bool e.con.is, .int .i64 e.con.num, S e.con.str, .slice al e.con.list.length cl, .slice am e.con.map.length cm, .slice ap e.prev.length cp, .slice aa e.auth.length ca, .int .i64 e.dep, .int .i64 e.time, S e.hash, .slice aS e.sigs.length cS] ∧ w.heap.size ≤ g1 ∧ Mod [] w2 w1 ∧ Mod [] w w1) (fun ⟨k, v⟩ => es.length - k) (⟨0, .slice none 0 0⟩) ⟨rfl, rfl, rfl, rfl, rfl, rfl, trivial⟩ (⟨by omega, EV.gd_nil, by simpa using Own.nil w2 35 2, by simp [ob], by simp [ob], by simp [ob], Bg1, Lg1_E, E2, E⟩) ?_
  rintro ⟨k, v⟩ w3 ⟨hk, hgd, Oa0, L0, L2, D0, Bg1, Lg1_E, E2, E⟩
  refine c_seq fun K6 hK6 => ?_
  refine c_region ?_
  refine sv (o_lss rfl rfl) rfl ?_
  refine l_nil ?_
  refine e_K (hK6 _ _ _ _ ?_)
  refine c_seq fun K7 hK7 => ?_
  refine c_if rfl (fun h15 => ?_) (fun h15 => ?_)
  · skip
    have hlt : k < es.length := by omega
    obtain ⟨x, hx_x⟩ : ∃ x, es[k]? = some x := ⟨_, List.getElem?_eq_getElem (by omega)⟩
    obtain ⟨a_x, us_x, ha_x, R_x, hcs0_x⟩ := EV.at_ R2 hx_x
    obtain ⟨al_x, cl_x, am_x, cm_x, ap_x, cp_x, aa_x, ca_x, aS_x, cS_x, rfl, Rc_x, Rp_x, Ra_x, Rs_x⟩ := EV.cells17 R_x
    have hcs_x := hcs0_x.mod0 E
    obtain rfl := ha_x
    have hsl : ((es.take k).map EV.pr).length ≤ k := by rw [List.length_map, List.length_take]; omega
    refine c_skip ?_
    refine e_K (hK7 _ _ _ _ ?_)
    refine c_seq fun K8 hK8 => ?_
    refine c_block ?_
    refine c_seq fun K9 hK9 => ?_
    refine c_region ?_
    refine sv (o_ix sl41 rfl rfl (by omega)) rfl ?_
    refine sv (o_lda ag29 rfl rfl hcs_x) rfl ?_
    refine s_alloc zv29 rfl fun g2 w4 N2 => ?_
    have Lg2_E := N2.le E
    have Lg2_E2 := N2.le E2
    have Dg1_g2 := N2.ne Bg1
    have Da0_g2 := N2.own_ne Oa0
    replace Bg1 := Bg1.mod0 N2.mod
    replace E := E.then N2.mod
    replace E2 := E2.then N2.mod
    replace Oa0 := Oa0.mod0 N2.mod
    have Bg2 := N2.blk
    refine s_sta (vs := [_, _, _, _, _, _, _, _, _, _, _, _, _, _, _, _, _]) ag29 Bg2 rfl rfl rfl (by simp [Value.oneCell']) (by simp) fun w5 P5 => ?_
    replace Bg1 := Bg1.ne P5.mod (Ne.symm (Ne.symm Dg1_g2))
    replace E := E.own P5.mod Lg2_E
    replace E2 := E2.own P5.mod Lg2_E2
    replace Oa0 := Oa0.put P5.mod Da0_g2
    replace Bg2 : Blk w5 g2 _ [_, _, _, _, _, _, _, _, _, _, _, _, _, _, _, _, _] := P5.blk
    refine l_nil ?_
    refine e_K (hK9 _ _ _ _ ?_)
    refine c_seq fun K10 hK10 => ?_
    refine c_region ?_
    refine sv (o_fa0 fd29_2 rfl) rfl ?_
    refine sv (o_ld sc9 rfl (Bg2.cell rfl)) rfl ?_
    refine sv (o_fa0 fd29_4 rfl) rfl ?_
    refine sv (o_ld sc9 rfl (Bg2.cell rfl)) rfl ?_
    refine sv (o_build (cs := [_, _]) pl35 zv35 rfl rfl) rfl ?_
    refine s_alloc zv35 rfl fun g3 w6 N3 => ?_
    have Lg3_E := N3.le E
    have Lg3_E2 := N3.le E2
    have Dg1_g3 := N3.ne Bg1
    have Dg2_g3 := N3.ne Bg2
    have Da0_g3 := N3.own_ne Oa0
    replace Bg1 := Bg1.mod0 N3.mod
    replace Bg2 := Bg2.mod0 N3.mod
    replace E := E.then N3.mod
    replace E2 := E2.then N3.mod
    replace Oa0 := Oa0.mod0 N3.mod
    have Bg3 := N3.blk
    refine s_sta (vs := [_, _]) ag35 Bg3 rfl rfl rfl (by simp [Value.oneCell']) (by simp) fun w7 P7 => ?_
    replace Bg1 := Bg1.ne P7.mod (Ne.symm (Ne.symm Dg1_g3))
    replace Bg2 := Bg2.ne P7.mod (Ne.symm (Ne.symm Dg2_g3))
    replace E := E.own P7.mod Lg3_E
    replace E2 := E2.own P7.mod Lg3_E2
    replace Oa0 := Oa0.put P7.mod Da0_g3
    replace Bg3 : Blk w7 g3 _ [_, _] := P7.blk
    refine l_nil ?_
    refine e_K (hK10 _ _ _ _ ?_)
    refine c_seq fun K11 hK11 => ?_
    refine c_seq fun K12 hK12 => ?_
    rcases hs7_0 : (!x.st) with _ | _
    · skip
      by_cases hs7_1 : x.pr ∈ ((es.take k).map EV.pr)
      · skip
        skip
        refine c_region ?_
        refine sv (o_fa0 fd29_3 rfl) rfl ?_
        refine sv (o_ld sc4 rfl (Bg2.cell rfl)) rfl ?_
        refine sv (o_not rfl) rfl ?_
        refine sv (o_mv rfl) rfl ?_
        refine sg rfl (hs7_0) (o_mv rfl) rfl ?_
        refine sg rfl (hs7_0) (o_lda (vs := [_, _]) ag35 rfl rfl (Bg3.cs rfl)) rfl ?_
        refine sgc rfl (hs7_0) (o_call ent29 rfl) (c_contains _ ((es.take k).map EV.pr) _ (Own.pairs [] Oa0 (by simp)) x.pr) rfl fun v_ w8 h_ => ?_
        obtain ⟨rfl, E_⟩ := h_
        replace Bg1 := Bg1.mod0 E_
        replace Bg2 := Bg2.mod0 E_
        replace Bg3 := Bg3.mod0 E_
        replace E := E.then E_
        replace E2 := E2.then E_
        replace Oa0 := Oa0.mod0 E_
        refine sv (o_pickF (hs7_0) rfl rfl) rfl ?_
        refine sv (o_mv rfl) rfl ?_
        refine sn rfl (fun e_ => absurd ((decide_eq_true hs7_1).symm.trans e_) (by decide)) rfl ?_
        refine sn rfl (fun e_ => absurd ((decide_eq_true hs7_1).symm.trans e_) (by decide)) rfl ?_
        refine sn rfl (fun e_ => absurd ((decide_eq_true hs7_1).symm.trans e_) (by decide)) rfl ?_
        refine sn rfl (fun e_ => absurd ((decide_eq_true hs7_1).symm.trans e_) (by decide)) rfl ?_
        refine sv (o_pickT (decide_eq_true hs7_1) rfl rfl) rfl ?_
        refine l_nil ?_
        refine e_K (hK12 _ _ _ _ ?_)
        refine c_true rfl ?_
        have hno : e.right es = false := EV.right_no (EV.gd_not hx_x (fun h => h.2.2 hs7_1))
        refine c_seq fun K13 hK13 => ?_
        refine c_region ?_
        refine sv (o_as rfl) rfl ?_
        refine l_nil ?_
        refine e_K (hK13 _ _ _ _ ?_)
        refine c_ret ?_
        refine e_then (by simp) ?_
        refine e_in (by simp) ?_
        refine e_then (by simp) ?_
        refine e_then (by simp) ?_
        refine e_in (by simp) ?_
        refine e_then (by simp) ?_
        exact ret1 rfl rfl ⟨by rw [hno], E⟩
      · skip
        by_cases hs7_2 : x.pr ∉ e.need
        · skip
          skip
          refine c_region ?_
          refine sv (o_fa0 fd29_3 rfl) rfl ?_
          refine sv (o_ld sc4 rfl (Bg2.cell rfl)) rfl ?_
          refine sv (o_not rfl) rfl ?_
          refine sv (o_mv rfl) rfl ?_
          refine sg rfl (hs7_0) (o_mv rfl) rfl ?_
          refine sg rfl (hs7_0) (o_lda (vs := [_, _]) ag35 rfl rfl (Bg3.cs rfl)) rfl ?_
          refine sgc rfl (hs7_0) (o_call ent29 rfl) (c_contains _ ((es.take k).map EV.pr) _ (Own.pairs [] Oa0 (by simp)) x.pr) rfl fun v_ w9 h_ => ?_
          obtain ⟨rfl, E_⟩ := h_
          replace Bg1 := Bg1.mod0 E_
          replace Bg2 := Bg2.mod0 E_
          replace Bg3 := Bg3.mod0 E_
          replace E := E.then E_
          replace E2 := E2.then E_
          replace Oa0 := Oa0.mod0 E_
          refine sv (o_pickF (hs7_0) rfl rfl) rfl ?_
          refine sv (o_mv rfl) rfl ?_
          refine sg rfl (decide_eq_false hs7_1) (o_mv rfl) rfl ?_
          refine sg rfl (decide_eq_false hs7_1) (o_lda (vs := [_, _]) ag35 rfl rfl (Bg3.cs rfl)) rfl ?_
          refine sgc rfl (decide_eq_false hs7_1) (o_call ent29 rfl) (c_contains _ e.need _ (RN.to0 E2) x.pr) rfl fun v_ w10 h_ => ?_
          obtain ⟨rfl, E_⟩ := h_
          replace Bg1 := Bg1.mod0 E_
          replace Bg2 := Bg2.mod0 E_
          replace Bg3 := Bg3.mod0 E_
          replace E := E.then E_
          replace E2 := E2.then E_
          replace Oa0 := Oa0.mod0 E_
          refine sg rfl (decide_eq_false hs7_1) (o_not rfl) rfl ?_
          refine sv (o_pickF (decide_eq_false hs7_1) rfl rfl) rfl ?_
          refine l_nil ?_
          refine e_K (hK12 _ _ _ _ ?_)
          refine c_cond rfl (fun h36 => ?_) (fun h36 => absurd ((show (!decide (x.pr ∈ e.need)) = true by simp [hs7_2]).symm.trans h36) (by decide))
          have hno : e.right es = false := EV.right_no (EV.gd_not hx_x (fun h => hs7_2 h.2.1))
          refine c_seq fun K14 hK14 => ?_
          refine c_region ?_
          refine sv (o_as rfl) rfl ?_
          refine l_nil ?_
          refine e_K (hK14 _ _ _ _ ?_)
          refine c_ret ?_
          refine e_then (by simp) ?_
          refine e_in (by simp) ?_
          refine e_then (by simp) ?_
          refine e_then (by simp) ?_
          refine e_in (by simp) ?_
          refine e_then (by simp) ?_
          exact ret1 rfl rfl ⟨by rw [hno], E⟩
        · skip
          refine c_region ?_
          refine sv (o_fa0 fd29_3 rfl) rfl ?_
          refine sv (o_ld sc4 rfl (Bg2.cell rfl)) rfl ?_
          refine sv (o_not rfl) rfl ?_
          refine sv (o_mv rfl) rfl ?_
          refine sg rfl (hs7_0) (o_mv rfl) rfl ?_
          refine sg rfl (hs7_0) (o_lda (vs := [_, _]) ag35 rfl rfl (Bg3.cs rfl)) rfl ?_
          refine sgc rfl (hs7_0) (o_call ent29 rfl) (c_contains _ ((es.take k).map EV.pr) _ (Own.pairs [] Oa0 (by simp)) x.pr) rfl fun v_ w11 h_ => ?_
          obtain ⟨rfl, E_⟩ := h_
          replace Bg1 := Bg1.mod0 E_
          replace Bg2 := Bg2.mod0 E_
          replace Bg3 := Bg3.mod0 E_
          replace E := E.then E_
          replace E2 := E2.then E_
          replace Oa0 := Oa0.mod0 E_
          refine sv (o_pickF (hs7_0) rfl rfl) rfl ?_
          refine sv (o_mv rfl) rfl ?_
          refine sg rfl (decide_eq_false hs7_1) (o_mv rfl) rfl ?_
          refine sg rfl (decide_eq_false hs7_1) (o_lda (vs := [_, _]) ag35 rfl rfl (Bg3.cs rfl)) rfl ?_
          refine sgc rfl (decide_eq_false hs7_1) (o_call ent29 rfl) (c_contains _ e.need _ (RN.to0 E2) x.pr) rfl fun v_ w12 h_ => ?_
          obtain ⟨rfl, E_⟩ := h_
          replace Bg1 := Bg1.mod0 E_
          replace Bg2 := Bg2.mod0 E_
          replace Bg3 := Bg3.mod0 E_
          replace E := E.then E_
          replace E2 := E2.then E_
          replace Oa0 := Oa0.mod0 E_
          refine sg rfl (decide_eq_false hs7_1) (o_not rfl) rfl ?_
          refine sv (o_pickF (decide_eq_false hs7_1) rfl rfl) rfl ?_
          refine l_nil ?_
          refine e_K (hK12 _ _ _ _ ?_)
          refine c_cond rfl (fun h36 => absurd ((show (!decide (x.pr ∈ e.need)) = false by simp [Classical.not_not.1 hs7_2]).symm.trans h36) (by decide)) (fun h36 => ?_)
          refine c_skip ?_
          refine e_K (hK11 _ _ _ _ ?_)
          refine c_region ?_
          refine sv (o_mv rfl) rfl ?_
          refine sv (o_lda (vs := [_, _]) ag35 rfl rfl (Bg3.cs rfl)) rfl ?_
          refine s_bslice (cs := [_, _]) sl32 zv35 rfl rfl rfl (by decide) rfl fun g4 w13 N4 => ?_
          have Lg4_E := N4.le E
          have Lg4_E2 := N4.le E2
          have Dg1_g4 := N4.ne Bg1
          have Dg2_g4 := N4.ne Bg2
          have Dg3_g4 := N4.ne Bg3
          have Da0_g4 := N4.own_ne Oa0
          replace Bg1 := Bg1.mod0 N4.mod
          replace Bg2 := Bg2.mod0 N4.mod
          replace Bg3 := Bg3.mod0 N4.mod
          replace E := E.then N4.mod
          replace E2 := E2.then N4.mod
          replace Oa0 := Oa0.mod0 N4.mod
          have Bg4 := N4.blk
          refine s_append sl32 rfl rfl Oa0 (Src.own Tryd.underlying32 (Own.all (cs := [_, _]) Bg4 rfl (by omega)) (by simp [Value.oneCell'])) (by decide) (by omega) (by omega) rfl fun v1 w14 A1 => ?_
          have Dv1_g1 := A1.ne D0 Bg1
          have Dv1_g2 := A1.ne Da0_g2 Bg2
          have Dv1_g3 := A1.ne Da0_g3 Bg3
          have Dv1_g4 := A1.ne Da0_g4 Bg4
          have Lv1_E := A1.ge L0 E
          have Lv1_E2 := A1.ge L2 E2
          replace Bg1 := Bg1.mod A1.mod (fun hx => D0 _ hx rfl)
          replace Bg2 := Bg2.mod A1.mod (fun hx => Da0_g2 _ hx rfl)
          replace Bg3 := Bg3.mod A1.mod (fun hx => Da0_g3 _ hx rfl)
          replace Bg4 := Bg4.mod A1.mod (fun hx => Da0_g4 _ hx rfl)
          replace E := E.trans' A1.mod (fun x hx => .inr (L0 x hx))
          replace E2 := E2.trans' A1.mod (fun x hx => .inr (L2 x hx))
          replace Oa0 := A1.own
          refine sv (o_as rfl) rfl ?_
          refine l_nil ?_
          refine e_in (by simp) ?_
          refine e_K (hK8 _ _ _ _ ?_)
          refine c_region ?_
          refine sv (o_addN rfl rfl (by omega)) rfl ?_
          refine sv (o_mv rfl) rfl ?_
          refine l_nil ?_
          exact e_round (σ := Nat × Value) (s := ⟨k, v⟩) (⟨k + 1, v1⟩) ⟨rfl, rfl, rfl, rfl, rfl, rfl, trivial⟩ ⟨by omega, EV.gd_succ hx_x hgd (by simpa using hs7_0) (Classical.not_not.1 hs7_2) hs7_1, Oa0.snoc (x := x.pr) rfl (by rw [EV.take_one hx_x, List.map_append]; rfl), Lv1_E, Lv1_E2, Dv1_g1, Bg1, Lg1_E, E2, E⟩ (by dsimp only; omega)
    · skip
      skip
      refine c_region ?_
      refine sv (o_fa0 fd29_3 rfl) rfl ?_
      refine sv (o_ld sc4 rfl (Bg2.cell rfl)) rfl ?_
      refine sv (o_not rfl) rfl ?_
      refine sv (o_mv rfl) rfl ?_
      refine sn rfl (fun e_ => absurd ((hs7_0).symm.trans e_) (by decide)) rfl ?_
      refine sn rfl (fun e_ => absurd ((hs7_0).symm.trans e_) (by decide)) rfl ?_
      refine sn rfl (fun e_ => absurd ((hs7_0).symm.trans e_) (by decide)) rfl ?_
      refine sv (o_pickT (hs7_0) rfl rfl) rfl ?_
      refine sv (o_mv rfl) rfl ?_
      refine sn rfl (fun e_ => absurd ((rfl).symm.trans e_) (by decide)) rfl ?_
      refine sn rfl (fun e_ => absurd ((rfl).symm.trans e_) (by decide)) rfl ?_
      refine sn rfl (fun e_ => absurd ((rfl).symm.trans e_) (by decide)) rfl ?_
      refine sn rfl (fun e_ => absurd ((rfl).symm.trans e_) (by decide)) rfl ?_
      refine sv (o_pickT (rfl) rfl rfl) rfl ?_
      refine l_nil ?_
      refine e_K (hK12 _ _ _ _ ?_)
      refine c_true rfl ?_
      have hno : e.right es = false := EV.right_no (EV.gd_not hx_x (fun h => by rw [h.1] at hs7_0; cases hs7_0))
      refine c_seq fun K15 hK15 => ?_
      refine c_region ?_
      refine sv (o_as rfl) rfl ?_
      refine l_nil ?_
      refine e_K (hK15 _ _ _ _ ?_)
      refine c_ret ?_
      refine e_then (by simp) ?_
      refine e_in (by simp) ?_
      refine e_then (by simp) ?_
      refine e_then (by simp) ?_
      refine e_in (by simp) ?_
      refine e_then (by simp) ?_
      exact ret1 rfl rfl ⟨by rw [hno], E⟩
  · skip
    have hgd2 : EV.gd e.need es := by rwa [List.take_of_length_le (by omega)] at hgd
    have hse : ((es.take k).map EV.pr) = es.map EV.pr := by rw [List.take_of_length_le (by omega)]
    refine c_exit ?_
    refine e_then (by simp) ?_
    refine e_then (by simp) ?_
    refine e_hit ?_
    refine e_K (hK4 _ _ _ _ ?_)
    refine c_seq fun K16 hK16 => ?_
    by_cases hs11_0 : e.ty = crS
    · skip
      have hri : e.right es = true := EV.right_cr hgd2 hs11_0
      refine c_region ?_
      refine sv (o_fa0 fd29_2 rfl) rfl ?_
      refine sv (o_ld sc9 rfl (Bg1.cell rfl)) rfl ?_
      refine sv (o_seq rfl rfl) rfl ?_
      refine sv (o_mv rfl) rfl ?_
      refine sn rfl (fun e_ => absurd ((decide_eq_true hs11_0).symm.trans e_) (by decide)) rfl ?_
      refine sn rfl (fun e_ => absurd ((decide_eq_true hs11_0).symm.trans e_) (by decide)) rfl ?_
      refine sn rfl (fun e_ => absurd ((decide_eq_true hs11_0).symm.trans e_) (by decide)) rfl ?_
      refine sv (o_pickT (decide_eq_true hs11_0) rfl rfl) rfl ?_
      refine sv (o_as rfl) rfl ?_
      refine l_nil ?_
      refine e_K (hK16 _ _ _ _ ?_)
      refine c_ret ?_
      exact ret1 rfl rfl ⟨by rw [hri], E⟩
    · skip
      have hri : e.right es = decide ((⟨crS, []⟩ : Pair) ∈ es.map EV.pr) := EV.right_seen hgd2 hs11_0
      refine c_region ?_
      refine sv (o_fa0 fd29_2 rfl) rfl ?_
      refine sv (o_ld sc9 rfl (Bg1.cell rfl)) rfl ?_
      refine sv (o_seq rfl rfl) rfl ?_
      refine sv (o_mv rfl) rfl ?_
      refine sg rfl (decide_eq_false hs11_0) (o_mv rfl) rfl ?_
      refine sg rfl (decide_eq_false hs11_0) (o_build (cs := [_, _]) pl35 zv35 rfl rfl) rfl ?_
      refine sgc rfl (decide_eq_false hs11_0) (o_call ent29 rfl) (c_contains _ (es.map EV.pr) _ (hse ▸ Own.pairs [] Oa0 (by simp)) ⟨crS, []⟩) rfl fun v_ w15 h_ => ?_
      obtain ⟨rfl, E_⟩ := h_
      replace Bg1 := Bg1.mod0 E_
      replace E := E.then E_
      replace E2 := E2.then E_
      replace Oa0 := Oa0.mod0 E_
      refine sv (o_pickF (decide_eq_false hs11_0) rfl rfl) rfl ?_
      refine sv (o_as rfl) rfl ?_
      refine l_nil ?_
      refine e_K (hK16 _ _ _ _ ?_)
      refine c_ret ?_
      exact ret1 rfl rfl ⟨by rw [hri], E⟩

theorem c_rightR (w : World) (e : EV) (us : List Value) (R : Reps [] w e.D us) (es : List EV) (vs : Value) (R2 : Rep [] w (.sl 17 (es.map EV.D)) vs) (hes : es.length ≤ 1000000) : Calls Tryd.prog 15 [.agg us.toArray, vs].toArray w (Ret fun u w' => u = .bool (e.right es) ∧ Mod [] w w') := by
  refine enter Tryd.func15 rfl rfl rfl (l := [(0, _), (1, _)]) ⟨rfl, rfl, trivial⟩ ?_
  have E := Mod.refl [] w
  obtain ⟨al, cl, am, cm, ap, cp, aa, ca, aS, cS, rfl, Rc, Rp, Ra, Rs⟩ := EV.cells17 R
  obtain ⟨ad, c, rfl, hc1, hc2⟩ : ∃ ad c, vs = .slice ad es.length c ∧ es.length ≤ c ∧ c ≤ 9223372036854775807 := by
    obtain ⟨ad, c, h1, h2, h3⟩ := R2.sl_
    rw [List.length_map] at h1 h2
    exact ⟨ad, c, h1, h2, h3⟩
  refine c_seq fun K1 hK1 => ?_
  refine c_region ?_
  refine s_box rfl rfl rfl fun g1 w1 N1 => ?_
  have Lg1_E := N1.le E
  replace E := E.then N1.mod
  have Bg1 := N1.blk
  refine sv (o_as rfl) rfl ?_
  refine l_nil ?_
  refine e_K (hK1 _ _ _ _ ?_)
  refine c_seq fun K2 hK2 => ?_
  refine c_region ?_
  refine sv (o_fa0 fd29_2 rfl) rfl ?_
  refine sv (o_ld sc9 rfl (Bg1.cell rfl)) rfl ?_
  refine sv (o_seq rfl rfl) rfl ?_
  refine sv (o_as rfl) rfl ?_
  refine l_nil ?_
  refine e_K (hK2 _ _ _ _ ?_)
  refine c_seq fun K3 hK3 => ?_
  refine c_seq fun K4 hK4 => ?_
  refine c_region ?_
  refine sv (o_mv rfl) rfl ?_
  refine sv (o_len Tryd.underlying41 rfl) rfl ?_
  refine sv (o_mv rfl) rfl ?_
  refine l_nil ?_
  refine e_K (hK4 _ _ _ _ ?_)
  refine c_block ?_
  refine c_loop (σ := Nat) (fun k => [(1, .slice ad es.length c), (2, .pointer (some ⟨g1, 0, none⟩)), (5, .bool (e.crU (es.take k))), (13, .slice ad es.length c), (14, .int .i64 es.length), (15, .int .i64 (k : Int))]) (fun k w1 => k ≤ es.length ∧ EV.gd e.need (es.take k) ∧ Blk w1 g1 29 [S e.room, S e.snd, S e.ty, .bool e.st, S e.key, .int .i64 e.con.kind, .bool e.con.is, .int .i64 e.con.num, S e.con.str, .slice al e.con.list.length cl, .slice am e.con.map.length cm, .slice ap e.prev.length cp, .slice aa e.auth.length ca, .int .i64 e.dep, .int .i64 e.time, S e.hash, .slice aS e.sigs.length cS] ∧ w.heap.size ≤ g1 ∧ Mod [] w w1) (fun k => es.length - k) (0) ⟨rfl, rfl, rfl, rfl, rfl, rfl, trivial⟩ (⟨by omega, EV.gd_nil, Bg1, Lg1_E, E⟩) ?_
  rintro k w2 ⟨hk, hgd, Bg1, Lg1_E, E⟩
  refine c_seq fun K5 hK5 => ?_
  refine c_region ?_
  refine sv (o_lss rfl rfl) rfl ?_
  refine l_nil ?_
  refine e_K (hK5 _ _ _ _ ?_)
  refine c_seq fun K6 hK6 => ?_
  refine c_if rfl (fun h16 => ?_) (fun h16 => ?_)
  · skip
    have hlt : k < es.length := by omega
    obtain ⟨x, hx_x⟩ : ∃ x, es[k]? = some x := ⟨_, List.getElem?_eq_getElem (by omega)⟩
    obtain ⟨a_x, us_x, ha_x, R_x, hcs0_x⟩ := EV.at_ R2 hx_x
    obtain ⟨al_x, cl_x, am_x, cm_x, ap_x, cp_x, aa_x, ca_x, aS_x, cS_x, rfl, Rc_x, Rp_x, Ra_x, Rs_x⟩ := EV.cells17 R_x
    have hcs_x := hcs0_x.mod0 E
    obtain rfl := ha_x
    refine c_skip ?_
    refine e_K (hK6 _ _ _ _ ?_)
    refine c_seq fun K7 hK7 => ?_
    refine c_block ?_
    refine c_seq fun K8 hK8 => ?_
    refine c_region ?_
    refine sv (o_mv rfl) rfl ?_
    refine sv (o_ix sl41 rfl rfl (by omega)) rfl ?_
    refine sv (o_lda ag29 rfl rfl hcs_x) rfl ?_
    refine s_alloc zv29 rfl fun g2 w3 N2 => ?_
    have Lg2_E := N2.le E
    have Dg1_g2 := N2.ne Bg1
    replace Bg1 := Bg1.mod0 N2.mod
    replace E := E.then N2.mod
    have Bg2 := N2.blk
    refine sv (o_as rfl) rfl ?_
    refine s_sta (vs := [_, _, _, _, _, _, _, _, _, _, _, _, _, _, _, _, _]) ag29 Bg2 rfl rfl rfl (by simp [Value.oneCell']) (by simp) fun w4 P4 => ?_
    replace Bg1 := Bg1.ne P4.mod (Ne.symm (Ne.symm Dg1_g2))
    replace E := E.own P4.mod Lg2_E
    replace Bg2 : Blk w4 g2 _ [_, _, _, _, _, _, _, _, _, _, _, _, _, _, _, _, _] := P4.blk
    refine l_nil ?_
    refine e_K (hK8 _ _ _ _ ?_)
    refine c_seq fun K9 hK9 => ?_
    refine c_region ?_
    refine sv (o_fa0 fd29_2 rfl) rfl ?_
    refine sv (o_ld sc9 rfl (Bg2.cell rfl)) rfl ?_
    refine sv (o_fa0 fd29_4 rfl) rfl ?_
    refine sv (o_ld sc9 rfl (Bg2.cell rfl)) rfl ?_
    refine sv (o_build (cs := [_, _]) pl35 zv35 rfl rfl) rfl ?_
    refine s_alloc zv35 rfl fun g3 w5 N3 => ?_
    have Lg3_E := N3.le E
    have Dg1_g3 := N3.ne Bg1
    have Dg2_g3 := N3.ne Bg2
    replace Bg1 := Bg1.mod0 N3.mod
    replace Bg2 := Bg2.mod0 N3.mod
    replace E := E.then N3.mod
    have Bg3 := N3.blk
    refine s_sta (vs := [_, _]) ag35 Bg3 rfl rfl rfl (by simp [Value.oneCell']) (by simp) fun w6 P6 => ?_
    replace Bg1 := Bg1.ne P6.mod (Ne.symm (Ne.symm Dg1_g3))
    replace Bg2 := Bg2.ne P6.mod (Ne.symm (Ne.symm Dg2_g3))
    replace E := E.own P6.mod Lg3_E
    replace Bg3 : Blk w6 g3 _ [_, _] := P6.blk
    refine l_nil ?_
    refine e_K (hK9 _ _ _ _ ?_)
    refine c_seq fun K10 hK10 => ?_
    refine c_seq fun K11 hK11 => ?_
    rcases hs6_0 : (!x.st) with _ | _
    · skip
      refine c_draw wide (by kernel_rfl) ?_
      refine tv (fun w_ E_ => (o_fa0 fd29_3 rfl)) rfl rfl ?_
      refine tv (fun w_ E_ => (o_ld sc4 rfl ((Bg2.mod0 E_).cell rfl))) rfl rfl ?_
      refine tv (fun w_ E_ => (o_not rfl)) rfl rfl ?_
      refine tv (fun w_ E_ => (o_mv rfl)) rfl rfl ?_
      refine tvg rfl (hs6_0) (fun w_ E_ => (o_lda (vs := [_, _, _, _, _, _, _, _, _, _, _, _, _, _, _, _, _]) ag29 rfl rfl ((Bg1.mod0 E_).cs rfl))) rfl rfl ?_
      refine tcrg (fun u w2 => Own w2 35 2 u (e.needR).length (((e.needR).map Pair.cells).flatten)) (fun v w1 w2 k h => h.mod0 k) rfl (hs6_0) (fun w_ E_ => o_call ent9 rfl) (fun w_ E_ => Calls.imp (c_needR _ e _ (R.to0 (E.then E_))) fun u w' h => ⟨h.1, h.2⟩) rfl rfl rfl ?_
      refine tvg rfl (hs6_0) (fun w_ E_ => (o_lda (vs := [_, _]) ag35 rfl rfl ((Bg3.mod0 E_).cs rfl))) rfl rfl ?_
      refine tc1g (v := .bool (decide (x.pr ∈ e.needR))) 30 rfl (hs6_0) rfl rfl ⟨_, List.Mem.tail _ (List.Mem.head _), rfl⟩ (fun w_ u E_ h => o_call ent30 rfl) (fun w_ u E_ h => c_in _ e.needR _ (Own.pairs [] h (by simp)) x.pr) rfl rfl ?_
      refine tvg rfl (hs6_0) (fun w_ E_ => (o_not rfl)) rfl rfl ?_
      refine tv (fun w_ E_ => (o_pickF (hs6_0) rfl rfl)) rfl rfl ?_
      refine tw_nil rfl fun w7 E_ => ?_
      replace Bg1 := Bg1.mod0 E_
      replace Bg2 := Bg2.mod0 E_
      replace Bg3 := Bg3.mod0 E_
      replace E := E.then E_
      refine e_K (hK11 _ _ _ _ ?_)
      refine c_cond rfl (fun h34 => ?_) (fun h34 => ?_)
      · skip
        have hno : e.right es = false := EV.right_no (EV.gd_not hx_x (fun h => by have := h.2.1; rw [EV.need_eq] at this; simp [this] at h34))
        refine c_seq fun K12 hK12 => ?_
        refine c_region ?_
        refine sv (o_as rfl) rfl ?_
        refine l_nil ?_
        refine e_K (hK12 _ _ _ _ ?_)
        refine c_ret ?_
        refine e_then (by simp) ?_
        refine e_in (by simp) ?_
        refine e_then (by simp) ?_
        refine e_then (by simp) ?_
        refine e_in (by simp) ?_
        refine e_then (by simp) ?_
        exact ret1 rfl rfl ⟨by rw [hno], E⟩
      · skip
        have hin : x.pr ∈ e.need := by rw [EV.need_eq]; simpa using h34
        refine c_skip ?_
        refine e_K (hK10 _ _ _ _ ?_)
        refine c_seq fun K13 hK13 => ?_
        refine c_seq fun K14 hK14 => ?_
        refine c_region ?_
        refine sv (o_as rfl) rfl ?_
        refine l_nil ?_
        refine e_K (hK14 _ _ _ _ ?_)
        refine c_block ?_
        refine c_loop (σ := Nat) (fun j => [(1, .slice (some a_x) es.length c), (2, .pointer (some ⟨g1, 0, none⟩)), (5, .bool (e.crU (es.take k))), (6, .int .i64 (k : Int)), (7, .pointer (some ⟨g2, 0, none⟩)), (9, .int .i64 (j : Int)), (13, .slice (some a_x) es.length c), (14, .int .i64 es.length), (15, .int .i64 (k : Int))]) (fun j w1 => j ≤ k ∧ x.pr ∉ (es.take j).map EV.pr ∧ Blk w1 g1 29 [S e.room, S e.snd, S e.ty, .bool e.st, S e.key, .int .i64 e.con.kind, .bool e.con.is, .int .i64 e.con.num, S e.con.str, .slice al e.con.list.length cl, .slice am e.con.map.length cm, .slice ap e.prev.length cp, .slice aa e.auth.length ca, .int .i64 e.dep, .int .i64 e.time, S e.hash, .slice aS e.sigs.length cS] ∧ w.heap.size ≤ g1 ∧ Blk w1 g2 29 [S x.room, S x.snd, S x.ty, .bool x.st, S x.key, .int .i64 x.con.kind, .bool x.con.is, .int .i64 x.con.num, S x.con.str, .slice al_x x.con.list.length cl_x, .slice am_x x.con.map.length cm_x, .slice ap_x x.prev.length cp_x, .slice aa_x x.auth.length ca_x, .int .i64 x.dep, .int .i64 x.time, S x.hash, .slice aS_x x.sigs.length cS_x] ∧ w.heap.size ≤ g2 ∧ Mod [] w w1) (fun j => k - j) (0) ⟨rfl, rfl, rfl, rfl, rfl, rfl, rfl, rfl, rfl, trivial⟩ (⟨by omega, by simp, Bg1, Lg1_E, Bg2, Lg2_E, E⟩) ?_
        rintro j w8 ⟨hj, hnot, Bg1, Lg1_E, Bg2, Lg2_E, E⟩
        refine c_seq fun K15 hK15 => ?_
        refine c_seq fun K16 hK16 => ?_
        refine c_region ?_
        refine sv (o_mv rfl) rfl ?_
        refine sv (o_mv rfl) rfl ?_
        refine sv (o_lss rfl rfl) rfl ?_
        refine l_nil ?_
        refine e_K (hK16 _ _ _ _ ?_)
        refine c_if rfl (fun h37 => ?_) (fun h37 => ?_)
        · skip
          have hltj : j < es.length := by omega
          obtain ⟨y, hx_y⟩ : ∃ x, es[j]? = some x := ⟨_, List.getElem?_eq_getElem (by omega)⟩
          obtain ⟨a_y, us_y, ha_y, R_y, hcs0_y⟩ := EV.at_ R2 hx_y
          obtain ⟨al_y, cl_y, am_y, cm_y, ap_y, cp_y, aa_y, ca_y, aS_y, cS_y, rfl, Rc_y, Rp_y, Ra_y, Rs_y⟩ := EV.cells17 R_y
          have hcs_y := hcs0_y.mod0 E
          injection ha_y with ha_y
          subst ha_y
          refine c_skip ?_
          refine e_K (hK15 _ _ _ _ ?_)
          refine c_seq fun K17 hK17 => ?_
          refine c_block ?_
          refine c_seq fun K18 hK18 => ?_
          by_cases hs11_0 : y.ty = x.ty
          · skip
            by_cases hs11_1 : y.key = x.key
            · skip
              refine c_draw wide (by kernel_rfl) ?_
              refine tv (fun w_ E_ => (o_mv rfl)) rfl rfl ?_
              refine tv (fun w_ E_ => (o_mv rfl)) rfl rfl ?_
              refine tv (fun w_ E_ => (o_ix sl41 rfl rfl (by omega))) rfl rfl ?_
              refine tv (fun w_ E_ => (o_fad fd29_2 rfl)) rfl rfl ?_
              refine tv (fun w_ E_ => (o_ld sc9 rfl ((hcs_y.mod0 E_) 2 _ rfl))) rfl rfl ?_
              refine tv (fun w_ E_ => (o_fa0 fd29_2 rfl)) rfl rfl ?_
              refine tv (fun w_ E_ => (o_ld sc9 rfl ((Bg2.mod0 E_).cell rfl))) rfl rfl ?_
              refine tv (fun w_ E_ => (o_seq rfl rfl)) rfl rfl ?_
              refine tv (fun w_ E_ => (o_mv rfl)) rfl rfl ?_
              refine tvg rfl (decide_eq_true hs11_0) (fun w_ E_ => (o_mv rfl)) rfl rfl ?_
              refine tvg rfl (decide_eq_true hs11_0) (fun w_ E_ => (o_mv rfl)) rfl rfl ?_
              refine tvg rfl (decide_eq_true hs11_0) (fun w_ E_ => (o_ix sl41 rfl rfl (by omega))) rfl rfl ?_
              refine tvg rfl (decide_eq_true hs11_0) (fun w_ E_ => (o_fad fd29_4 rfl)) rfl rfl ?_
              refine tvg rfl (decide_eq_true hs11_0) (fun w_ E_ => (o_ld sc9 rfl ((hcs_y.mod0 E_) 4 _ rfl))) rfl rfl ?_
              refine tvg rfl (decide_eq_true hs11_0) (fun w_ E_ => (o_fa0 fd29_4 rfl)) rfl rfl ?_
              refine tvg rfl (decide_eq_true hs11_0) (fun w_ E_ => (o_ld sc9 rfl ((Bg2.mod0 E_).cell rfl))) rfl rfl ?_
              refine tvg rfl (decide_eq_true hs11_0) (fun w_ E_ => (o_seq rfl rfl)) rfl rfl ?_
              refine tv (fun w_ E_ => (o_pickT (decide_eq_true hs11_0) rfl rfl)) rfl rfl ?_
              refine tw_nil rfl fun w9 E_ => ?_
              replace Bg1 := Bg1.mod0 E_
              replace Bg2 := Bg2.mod0 E_
              replace E := E.then E_
              refine e_K (hK18 _ _ _ _ ?_)
              refine c_if rfl (fun h57 => ?_) (fun h57 => absurd hs11_1 h57)
              have hno : e.right es = false := EV.right_no (EV.gd_not hx_x (fun h => h.2.2 (List.mem_map.2 ⟨y, List.mem_of_getElem? (i := j) (by rw [List.getElem?_take, if_pos (by omega)]; exact hx_y), by show EV.pr y = EV.pr x; simp only [EV.pr, hs11_0, hs11_1]⟩)))
              refine c_seq fun K19 hK19 => ?_
              refine c_region ?_
              refine sv (o_as rfl) rfl ?_
              refine l_nil ?_
              refine e_K (hK19 _ _ _ _ ?_)
              refine c_ret ?_
              refine e_in (by simp) ?_
              refine e_then (by simp) ?_
              refine e_then (by simp) ?_
              refine e_in (by simp) ?_
              refine e_then (by simp) ?_
              refine e_in (by simp) ?_
              refine e_then (by simp) ?_
              refine e_then (by simp) ?_
              refine e_in (by simp) ?_
              refine e_then (by simp) ?_
              exact ret1 rfl rfl ⟨by rw [hno], E⟩
            · skip
              refine c_draw wide (by kernel_rfl) ?_
              refine tv (fun w_ E_ => (o_mv rfl)) rfl rfl ?_
              refine tv (fun w_ E_ => (o_mv rfl)) rfl rfl ?_
              refine tv (fun w_ E_ => (o_ix sl41 rfl rfl (by omega))) rfl rfl ?_
              refine tv (fun w_ E_ => (o_fad fd29_2 rfl)) rfl rfl ?_
              refine tv (fun w_ E_ => (o_ld sc9 rfl ((hcs_y.mod0 E_) 2 _ rfl))) rfl rfl ?_
              refine tv (fun w_ E_ => (o_fa0 fd29_2 rfl)) rfl rfl ?_
              refine tv (fun w_ E_ => (o_ld sc9 rfl ((Bg2.mod0 E_).cell rfl))) rfl rfl ?_
              refine tv (fun w_ E_ => (o_seq rfl rfl)) rfl rfl ?_
              refine tv (fun w_ E_ => (o_mv rfl)) rfl rfl ?_
              refine tvg rfl (decide_eq_true hs11_0) (fun w_ E_ => (o_mv rfl)) rfl rfl ?_
              refine tvg rfl (decide_eq_true hs11_0) (fun w_ E_ => (o_mv rfl)) rfl rfl ?_
              refine tvg rfl (decide_eq_true hs11_0) (fun w_ E_ => (o_ix sl41 rfl rfl (by omega))) rfl rfl ?_
              refine tvg rfl (decide_eq_true hs11_0) (fun w_ E_ => (o_fad fd29_4 rfl)) rfl rfl ?_
              refine tvg rfl (decide_eq_true hs11_0) (fun w_ E_ => (o_ld sc9 rfl ((hcs_y.mod0 E_) 4 _ rfl))) rfl rfl ?_
              refine tvg rfl (decide_eq_true hs11_0) (fun w_ E_ => (o_fa0 fd29_4 rfl)) rfl rfl ?_
              refine tvg rfl (decide_eq_true hs11_0) (fun w_ E_ => (o_ld sc9 rfl ((Bg2.mod0 E_).cell rfl))) rfl rfl ?_
              refine tvg rfl (decide_eq_true hs11_0) (fun w_ E_ => (o_seq rfl rfl)) rfl rfl ?_
              refine tv (fun w_ E_ => (o_pickT (decide_eq_true hs11_0) rfl rfl)) rfl rfl ?_
              refine tw_nil rfl fun w10 E_ => ?_
              replace Bg1 := Bg1.mod0 E_
              replace Bg2 := Bg2.mod0 E_
              replace E := E.then E_
              refine e_K (hK18 _ _ _ _ ?_)
              refine c_if rfl (fun h57 => absurd h57 hs11_1) (fun h57 => ?_)
              have hnot2 : x.pr ∉ (es.take (j + 1)).map EV.pr := by
                rw [EV.take_one hx_y, List.map_append]
                intro hm
                rcases List.mem_append.1 hm with hm | hm
                · exact hnot hm
                · simp at hm; exact hs11_1 hm.2.symm
              refine c_skip ?_
              refine e_in (by simp) ?_
              refine e_K (hK17 _ _ _ _ ?_)
              refine c_region ?_
              refine sv (o_mv rfl) rfl ?_
              refine sv (o_addN rfl rfl (by omega)) rfl ?_
              refine sv (o_as rfl) rfl ?_
              refine l_nil ?_
              exact e_round (σ := Nat) (s := j) (j + 1) ⟨rfl, rfl, rfl, rfl, rfl, rfl, rfl, rfl, rfl, trivial⟩ ⟨by omega, hnot2, Bg1, Lg1_E, Bg2, Lg2_E, E⟩ (by omega)
          · skip
            refine c_draw wide (by kernel_rfl) ?_
            refine tv (fun w_ E_ => (o_mv rfl)) rfl rfl ?_
            refine tv (fun w_ E_ => (o_mv rfl)) rfl rfl ?_
            refine tv (fun w_ E_ => (o_ix sl41 rfl rfl (by omega))) rfl rfl ?_
            refine tv (fun w_ E_ => (o_fad fd29_2 rfl)) rfl rfl ?_
            refine tv (fun w_ E_ => (o_ld sc9 rfl ((hcs_y.mod0 E_) 2 _ rfl))) rfl rfl ?_
            refine tv (fun w_ E_ => (o_fa0 fd29_2 rfl)) rfl rfl ?_
            refine tv (fun w_ E_ => (o_ld sc9 rfl ((Bg2.mod0 E_).cell rfl))) rfl rfl ?_
            refine tv (fun w_ E_ => (o_seq rfl rfl)) rfl rfl ?_
            refine tv (fun w_ E_ => (o_mv rfl)) rfl rfl ?_
            refine tn rfl (fun e_ => absurd ((decide_eq_false hs11_0).symm.trans e_) (by decide)) rfl ?_
            refine tn rfl (fun e_ => absurd ((decide_eq_false hs11_0).symm.trans e_) (by decide)) rfl ?_
            refine tn rfl (fun e_ => absurd ((decide_eq_false hs11_0).symm.trans e_) (by decide)) rfl ?_
            refine tn rfl (fun e_ => absurd ((decide_eq_false hs11_0).symm.trans e_) (by decide)) rfl ?_
            refine tn rfl (fun e_ => absurd ((decide_eq_false hs11_0).symm.trans e_) (by decide)) rfl ?_
            refine tn rfl (fun e_ => absurd ((decide_eq_false hs11_0).symm.trans e_) (by decide)) rfl ?_
            refine tn rfl (fun e_ => absurd ((decide_eq_false hs11_0).symm.trans e_) (by decide)) rfl ?_
            refine tn rfl (fun e_ => absurd ((decide_eq_false hs11_0).symm.trans e_) (by decide)) rfl ?_
            refine tv (fun w_ E_ => (o_pickF (decide_eq_false hs11_0) rfl rfl)) rfl rfl ?_
            refine tw_nil rfl fun w11 E_ => ?_
            replace Bg1 := Bg1.mod0 E_
            replace Bg2 := Bg2.mod0 E_
            replace E := E.then E_
            refine e_K (hK18 _ _ _ _ ?_)
            refine c_false rfl ?_
            have hnot2 : x.pr ∉ (es.take (j + 1)).map EV.pr := by
              rw [EV.take_one hx_y, List.map_append]
              intro hm
              rcases List.mem_append.1 hm with hm | hm
              · exact hnot hm
              · simp at hm; exact hs11_0 hm.1.symm
            refine c_skip ?_
            refine e_in (by simp) ?_
            refine e_K (hK17 _ _ _ _ ?_)
            refine c_region ?_
            refine sv (o_mv rfl) rfl ?_
            refine sv (o_addN rfl rfl (by omega)) rfl ?_
            refine sv (o_as rfl) rfl ?_
            refine l_nil ?_
            exact e_round (σ := Nat) (s := j) (j + 1) ⟨rfl, rfl, rfl, rfl, rfl, rfl, rfl, rfl, rfl, trivial⟩ ⟨by omega, hnot2, Bg1, Lg1_E, Bg2, Lg2_E, E⟩ (by omega)
        · skip
          have hjk : k = j := by omega
          subst hjk
          refine c_exit ?_
          refine e_then (by simp) ?_
          refine e_then (by simp) ?_
          refine e_hit ?_
          refine e_K (hK13 _ _ _ _ ?_)
          rcases hs13_0 : (e.crU (es.take k)) with _ | _
          · skip
            refine c_region ?_
            refine sv (o_mv rfl) rfl ?_
            refine sv (o_mv rfl) rfl ?_
            refine sg rfl (rfl) (o_fa0 fd29_2 rfl) rfl ?_
            refine sg rfl (rfl) (o_ld sc9 rfl (Bg2.cell rfl)) rfl ?_
            refine sg rfl (rfl) (o_seq rfl rfl) rfl ?_
            refine sv ((o_pickF rfl rfl rfl).to (v' := .bool (e.crU (es.take (k + 1)))) (by rw [EV.crU_succ hx_x, hs13_0]; rfl)) rfl ?_
            refine sv (o_as rfl) rfl ?_
            refine l_nil ?_
            refine e_in (by simp) ?_
            refine e_K (hK7 _ _ _ _ ?_)
            refine c_region ?_
            refine sv (o_addN rfl rfl (by omega)) rfl ?_
            refine sv (o_mv rfl) rfl ?_
            refine l_nil ?_
            exact e_round (σ := Nat) (s := k) (k + 1) ⟨rfl, rfl, rfl, rfl, rfl, rfl, trivial⟩ ⟨by omega, EV.gd_succ hx_x hgd (by simpa using hs6_0) hin hnot, Bg1, Lg1_E, E⟩ (by omega)
          · skip
            refine c_region ?_
            refine sv (o_mv rfl) rfl ?_
            refine sv (o_mv rfl) rfl ?_
            refine sn rfl (fun e_ => absurd ((rfl).symm.trans e_) (by decide)) rfl ?_
            refine sn rfl (fun e_ => absurd ((rfl).symm.trans e_) (by decide)) rfl ?_
            refine sn rfl (fun e_ => absurd ((rfl).symm.trans e_) (by decide)) rfl ?_
            refine sv ((o_pickT rfl rfl rfl).to (v' := .bool (e.crU (es.take (k + 1)))) (by rw [EV.crU_succ hx_x, hs13_0]; rfl)) rfl ?_
            refine sv (o_as rfl) rfl ?_
            refine l_nil ?_
            refine e_in (by simp) ?_
            refine e_K (hK7 _ _ _ _ ?_)
            refine c_region ?_
            refine sv (o_addN rfl rfl (by omega)) rfl ?_
            refine sv (o_mv rfl) rfl ?_
            refine l_nil ?_
            exact e_round (σ := Nat) (s := k) (k + 1) ⟨rfl, rfl, rfl, rfl, rfl, rfl, trivial⟩ ⟨by omega, EV.gd_succ hx_x hgd (by simpa using hs6_0) hin hnot, Bg1, Lg1_E, E⟩ (by omega)
    · skip
      refine c_draw wide (by kernel_rfl) ?_
      refine tv (fun w_ E_ => (o_fa0 fd29_3 rfl)) rfl rfl ?_
      refine tv (fun w_ E_ => (o_ld sc4 rfl ((Bg2.mod0 E_).cell rfl))) rfl rfl ?_
      refine tv (fun w_ E_ => (o_not rfl)) rfl rfl ?_
      refine tv (fun w_ E_ => (o_mv rfl)) rfl rfl ?_
      refine tn rfl (fun e_ => absurd ((hs6_0).symm.trans e_) (by decide)) rfl ?_
      refine tn rfl (fun e_ => absurd ((hs6_0).symm.trans e_) (by decide)) rfl ?_
      refine tn rfl (fun e_ => absurd ((hs6_0).symm.trans e_) (by decide)) rfl ?_
      refine tn rfl (fun e_ => absurd ((hs6_0).symm.trans e_) (by decide)) rfl ?_
      refine tn rfl (fun e_ => absurd ((hs6_0).symm.trans e_) (by decide)) rfl ?_
      refine tv (fun w_ E_ => (o_pickT (hs6_0) rfl rfl)) rfl rfl ?_
      refine tw_nil rfl fun w12 E_ => ?_
      replace Bg1 := Bg1.mod0 E_
      replace Bg2 := Bg2.mod0 E_
      replace Bg3 := Bg3.mod0 E_
      replace E := E.then E_
      refine e_K (hK11 _ _ _ _ ?_)
      refine c_true rfl ?_
      have hno : e.right es = false := EV.right_no (EV.gd_not hx_x (fun h => by rw [h.1] at hs6_0; cases hs6_0))
      refine c_seq fun K20 hK20 => ?_
      refine c_region ?_
      refine sv (o_as rfl) rfl ?_
      refine l_nil ?_
      refine e_K (hK20 _ _ _ _ ?_)
      refine c_ret ?_
      refine e_then (by simp) ?_
      refine e_in (by simp) ?_
      refine e_then (by simp) ?_
      refine e_then (by simp) ?_
      refine e_in (by simp) ?_
      refine e_then (by simp) ?_
      exact ret1 rfl rfl ⟨by rw [hno], E⟩
  · skip
    have hgd2 : EV.gd e.need es := by rwa [List.take_of_length_le (by omega)] at hgd
    have hse : es.take k = es := List.take_of_length_le (by omega)
    refine c_exit ?_
    refine e_then (by simp) ?_
    refine e_then (by simp) ?_
    refine e_hit ?_
    refine e_K (hK3 _ _ _ _ ?_)
    refine c_seq fun K21 hK21 => ?_
    refine c_region ?_
    refine sv (o_mv rfl) rfl ?_
    refine sv (o_as rfl) rfl ?_
    refine l_nil ?_
    refine e_K (hK21 _ _ _ _ ?_)
    refine c_ret ?_
    exact ret1 rfl rfl ⟨by rw [EV.right_crU hgd2, hse], E⟩
end Go.Proofs.YtebfihecdooneaaDoor.V
