/-
  A part of the proof: walks of functions. No condition of its own.
-/
import Derived.Test.YtebfihecdooneaaDoorM18
import Derived.Test.YtebfihecdooneaaDoorM4
import Derived.Lib.LaidTab
set_option linter.unusedVariables false
set_option linter.unusedSimpArgs false
set_option maxRecDepth 10000
namespace Go.Proofs.YtebfihecdooneaaDoor.V
open Go Go.Proofs
theorem ent6 : Ent Tryd.prog 6 := Ent.of Tryd.func6 (by kernel_rfl) (by kernel_rfl)
theorem ent7 : Ent Tryd.prog 7 := Ent.of Tryd.func7 (by kernel_rfl) (by kernel_rfl)
theorem ent10 : Ent Tryd.prog 10 := Ent.of Tryd.func10 (by kernel_rfl) (by kernel_rfl)
theorem ent11 : Ent Tryd.prog 11 := Ent.of Tryd.func11 (by kernel_rfl) (by kernel_rfl)
theorem ent12 : Ent Tryd.prog 12 := Ent.of Tryd.func12 (by kernel_rfl) (by kernel_rfl)
theorem ent13 : Ent Tryd.prog 13 := Ent.of Tryd.func13 (by kernel_rfl) (by kernel_rfl)
theorem ent14 : Ent Tryd.prog 14 := Ent.of Tryd.func14 (by kernel_rfl) (by kernel_rfl)
theorem ent15 : Ent Tryd.prog 15 := Ent.of Tryd.func15 (by kernel_rfl) (by kernel_rfl)
theorem c_PickNeeds (w : World) (e : EV) (us : List Value) (R : Reps [] w e.D us) (ho : e.ok) (hT : Tab w) : Calls Tryd.prog 3 [.agg us.toArray].toArray w (Ret fun u w' => u = .bool true ∧ Mod [] w w') := by
  refine enter Tryd.func3 rfl rfl rfl (l := [(0, _)]) ⟨rfl, trivial⟩ ?_
  have E := Mod.refl [] w
  obtain ⟨al, cl, am, cm, ap, cp, aa, ca, aS, cS, rfl, Rc, Rp, Ra, Rs⟩ := EV.cells17 R
  refine c_seq fun K1 hK1 => ?_
  refine c_region ?_
  refine s_box rfl rfl rfl fun g1 w1 N1 => ?_
  have Lg1_E := N1.le E
  replace E := E.then N1.mod
  have Bg1 := N1.blk
  refine sv (o_as rfl) rfl ?_
  refine l_nil ?_
  refine e_K (hK1 _ _ _ _ ?_)
  refine c_seq fun K2 hK2 => ?_
  refine c_seq fun K3 hK3 => ?_
  refine c_region ?_
  refine sc (o_call ent6 rfl) (c_alive _) rfl fun v_ w2 h_ => ?_
  obtain ⟨rfl, E_⟩ := h_
  replace Bg1 := Bg1.mod0 E_
  replace E := E.then E_
  refine sv (o_not rfl) rfl ?_
  refine l_nil ?_
  refine e_K (hK3 _ _ _ _ ?_)
  refine c_false rfl ?_
  refine c_skip ?_
  refine e_K (hK2 _ _ _ _ ?_)
  refine c_seq fun K4 hK4 => ?_
  refine c_seq fun K5 hK5 => ?_
  refine c_region ?_
  refine sv (o_lda (vs := [_, _, _, _, _, _, _, _, _, _, _, _, _, _, _, _, _]) ag29 rfl rfl (Bg1.cs rfl)) rfl ?_
  refine sc (o_call ent7 rfl) (c_great16 _ e _ (R.to0 E) ho [] _ (show Rep [] _ (.sl 17 (([] : List EV).map EV.D)) (.slice none 0 0) from Rep.sl_nil) (by simp) (hT.mod E (by simp))) rfl fun v_ w3 h_ => ?_
  obtain ⟨rfl, E_⟩ := h_
  replace Bg1 := Bg1.mod0 E_
  replace E := E.then E_
  refine l_nil ?_
  refine e_K (hK5 _ _ _ _ ?_)
  refine c_cond rfl (fun h9 => ?_) (fun h9 => ?_)
  · skip
    refine c_seq fun K6 hK6 => ?_
    refine c_region ?_
    refine sv (o_as rfl) rfl ?_
    refine l_nil ?_
    refine e_K (hK6 _ _ _ _ ?_)
    refine c_ret ?_
    refine e_then (by simp) ?_
    exact ret1 rfl rfl ⟨rfl, E⟩
  · skip
    have hgr : e.greatL [] = false := by simpa using h9
    have hr : e.con.Rise := EV.unfit_rise (EV.greatL_parts hgr).1
    refine c_skip ?_
    refine e_K (hK4 _ _ _ _ ?_)
    refine c_seq fun K7 hK7 => ?_
    refine c_draw wide (by kernel_rfl) ?_
    refine tv (fun w_ E_ => (o_lda (vs := [_, _, _, _, _, _, _, _, _, _, _, _, _, _, _, _, _]) ag29 rfl rfl ((Bg1.mod0 E_).cs rfl))) rfl rfl ?_
    refine tcr (fun u w2 => Own w2 35 2 u (e.need).length (((e.need).map Pair.cells).flatten)) (fun v w1 w2 k h => h.mod0 k) (fun w_ E_ => o_call ent8 rfl) (fun w_ E_ => Calls.imp (c_need _ e _ (R.to0 (E.then E_)) ho hr) fun u w' h => ⟨h.1, h.2.2⟩) rfl rfl rfl ?_
    refine tv (fun w_ E_ => (o_lda (vs := [_, _, _, _, _, _, _, _, _, _, _, _, _, _, _, _, _]) ag29 rfl rfl ((Bg1.mod0 E_).cs rfl))) rfl rfl ?_
    refine tcr (fun u w2 => Own w2 35 2 u (e.needR).length (((e.needR).map Pair.cells).flatten)) (fun v w1 w2 k h => h.mod0 k) (fun w_ E_ => o_call ent9 rfl) (fun w_ E_ => Calls.imp (c_needR _ e _ (R.to0 (E.then E_))) fun u w' h => ⟨h.1, h.2⟩) rfl rfl rfl ?_
    refine tr1 (fun u w2 => Own w2 35 2 u (e.need).length (((e.need).map Pair.cells).flatten)) (fun v w1 w2 k h => h.mod0 k) 11 rfl rfl ⟨_, (by simp [Op.operands]), rfl⟩ (fun w_ u E_ h => ⟨u, w_, o_as rfl, Mod.refl [] w_, h⟩) rfl rfl rfl ?_
    refine tr1 (fun u w2 => Own w2 35 2 u (e.needR).length (((e.needR).map Pair.cells).flatten)) (fun v w1 w2 k h => h.mod0 k) 13 rfl rfl ⟨_, (by simp [Op.operands]), rfl⟩ (fun w_ u E_ h => ⟨u, w_, o_as rfl, Mod.refl [] w_, h⟩) rfl rfl rfl ?_
    refine tw_nil2 (t := 3) (r := 4) rfl rfl rfl rfl rfl rfl rfl fun w4 va vb E_ O3 O4 => ?_
    replace E := E.then E_
    rw [← EV.need_eq] at O4
    obtain ⟨ad3, c3, rfl, hc31, hc32⟩ := O3.form
    obtain ⟨ad4, c4, rfl, hc41, hc42⟩ := O4.form
    have R3 := Own.pairs [] O3 (by simp)
    have R4 := Own.pairs [] O4 (by simp)
    have E3 := Mod.refl [] w4
    have hwE : True := trivial
    refine e_K (hK7 _ _ _ _ ?_)
    refine c_seq fun K8 hK8 => ?_
    refine c_seq fun K9 hK9 => ?_
    refine c_region ?_
    refine sv (o_mv rfl) rfl ?_
    refine sv (o_len Tryd.underlying32 rfl) rfl ?_
    refine sv (o_mv rfl) rfl ?_
    refine sv (o_len Tryd.underlying32 rfl) rfl ?_
    refine sv (o_neq rfl rfl) rfl ?_
    refine l_nil ?_
    refine e_K (hK9 _ _ _ _ ?_)
    refine c_if rfl (fun h18 => ?_) (fun h18 => ?_)
    · skip
      exact absurd rfl h18
    · skip
      refine c_skip ?_
      refine e_K (hK8 _ _ _ _ ?_)
      refine c_seq fun K10 hK10 => ?_
      refine c_seq fun K11 hK11 => ?_
      refine c_region ?_
      refine sv (o_mv rfl) rfl ?_
      refine sv (o_len Tryd.underlying32 rfl) rfl ?_
      refine sv (o_mv rfl) rfl ?_
      refine l_nil ?_
      refine e_K (hK11 _ _ _ _ ?_)
      refine c_block ?_
      refine c_loop (σ := Nat) (fun k => [(3, .slice ad3 (e.need).length c3), (4, .slice ad4 (e.need).length c4), (20, .int .i64 (e.need).length), (21, .int .i64 (k : Int))]) (fun k w1 => k ≤ (e.need).length ∧ Mod [] w4 w1 ∧ Mod [] w w1) (fun k => (e.need).length - k) (0) ⟨rfl, rfl, rfl, rfl, trivial⟩ (⟨by omega, E3, E⟩) ?_
      rintro k w5 ⟨hk, E3, E⟩
      refine c_seq fun K12 hK12 => ?_
      refine c_region ?_
      refine sv (o_lss rfl rfl) rfl ?_
      refine l_nil ?_
      refine e_K (hK12 _ _ _ _ ?_)
      refine c_seq fun K13 hK13 => ?_
      refine c_if rfl (fun h22 => ?_) (fun h22 => ?_)
      · skip
        have hlt : k < e.need.length := by omega
        obtain ⟨x, hx_x⟩ : ∃ x, (e.need)[k]? = some x := ⟨_, List.getElem?_eq_getElem (by omega)⟩
        obtain ⟨a_x, ha_x, hcs_x, _⟩ := flat_at (R3.to0 E3) hx_x
        obtain rfl := ha_x
        obtain ⟨a_y, ha_y, hcs_y, _⟩ := flat_at (R4.to0 E3) hx_x
        obtain rfl := ha_y
        refine c_skip ?_
        refine e_K (hK13 _ _ _ _ ?_)
        refine c_seq fun K14 hK14 => ?_
        refine c_block ?_
        refine c_seq fun K15 hK15 => ?_
        refine c_region ?_
        refine sv (o_mv rfl) rfl ?_
        refine sv (o_as rfl) rfl ?_
        refine l_nil ?_
        refine e_K (hK15 _ _ _ _ ?_)
        refine c_seq fun K16 hK16 => ?_
        refine c_draw wide (by kernel_rfl) ?_
        refine tv (fun w_ E_ => (o_mv rfl)) rfl rfl ?_
        refine tv (fun w_ E_ => (o_mv rfl)) rfl rfl ?_
        refine tv (fun w_ E_ => (o_ix sl32 rfl rfl (by omega))) rfl rfl ?_
        refine tv (fun w_ E_ => (o_lda ag35 rfl rfl (hcs_x.mod0 E_))) rfl rfl ?_
        refine tv (fun w_ E_ => (o_mv rfl)) rfl rfl ?_
        refine tv (fun w_ E_ => (o_mv rfl)) rfl rfl ?_
        refine tv (fun w_ E_ => (o_ix sl32 rfl rfl (by omega))) rfl rfl ?_
        refine tv (fun w_ E_ => (o_lda ag35 rfl rfl (hcs_y.mod0 E_))) rfl rfl ?_
        refine tv (fun w_ E_ => (o_stne (se35 ..) rfl rfl rfl)) rfl rfl ?_
        refine tw_nil rfl fun w6 E_ => ?_
        replace E := E.then E_
        replace E3 := E3.then E_
        refine e_K (hK16 _ _ _ _ ?_)
        refine c_cond rfl (fun h32 => ?_) (fun h32 => ?_)
        · skip
          simp at h32
        · skip
          refine c_skip ?_
          refine e_in (by simp) ?_
          refine e_K (hK14 _ _ _ _ ?_)
          refine c_region ?_
          refine sv (o_addN rfl rfl (by omega)) rfl ?_
          refine sv (o_mv rfl) rfl ?_
          refine l_nil ?_
          exact e_round (σ := Nat) (s := k) (k + 1) ⟨rfl, rfl, rfl, rfl, trivial⟩ ⟨by omega, E3, E⟩ (by omega)
      · skip
        refine c_exit ?_
        refine e_then (by simp) ?_
        refine e_then (by simp) ?_
        refine e_hit ?_
        refine e_K (hK10 _ _ _ _ ?_)
        refine c_seq fun K17 hK17 => ?_
        refine c_region ?_
        refine sv (o_as rfl) rfl ?_
        refine l_nil ?_
        refine e_K (hK17 _ _ _ _ ?_)
        refine c_ret ?_
        exact ret1 rfl rfl ⟨rfl, E⟩

theorem c_PickSelects (w : World) (e : EV) (us : List Value) (R : Reps [] w e.D us) (ho : e.ok) (ss : List Slot) (vs : Value) (R2 : Rep [] w (slotsD ss) vs) (hB : ∀ x ∈ ss, Slot.small x) (hT : Tab w) : Calls Tryd.prog 4 [.agg us.toArray, vs].toArray w (Ret fun u w' => u = .bool true ∧ Mod [] w w') := by
  refine enter Tryd.func4 rfl rfl rfl (l := [(0, _), (1, _)]) ⟨rfl, rfl, trivial⟩ ?_
  have E := Mod.refl [] w
  obtain ⟨al, cl, am, cm, ap, cp, aa, ca, aS, cS, rfl, Rc, Rp, Ra, Rs⟩ := EV.cells17 R
  refine c_seq fun K1 hK1 => ?_
  refine c_region ?_
  refine s_box rfl rfl rfl fun g1 w1 N1 => ?_
  have Lg1_E := N1.le E
  replace E := E.then N1.mod
  have Bg1 := N1.blk
  refine sv (o_as rfl) rfl ?_
  refine l_nil ?_
  refine e_K (hK1 _ _ _ _ ?_)
  refine c_seq fun K2 hK2 => ?_
  refine c_seq fun K3 hK3 => ?_
  refine c_region ?_
  refine sc (o_call ent6 rfl) (c_alive _) rfl fun v_ w2 h_ => ?_
  obtain ⟨rfl, E_⟩ := h_
  replace Bg1 := Bg1.mod0 E_
  replace E := E.then E_
  refine sv (o_not rfl) rfl ?_
  refine l_nil ?_
  refine e_K (hK3 _ _ _ _ ?_)
  refine c_false rfl ?_
  refine c_skip ?_
  refine e_K (hK2 _ _ _ _ ?_)
  refine c_seq fun K4 hK4 => ?_
  refine c_seq fun K5 hK5 => ?_
  by_cases hs3_0 : e.greatL [] = true
  · skip
    refine c_region ?_
    refine sv (o_lda (vs := [_, _, _, _, _, _, _, _, _, _, _, _, _, _, _, _, _]) ag29 rfl rfl (Bg1.cs rfl)) rfl ?_
    refine sc (o_call ent7 rfl) (c_great16 _ e _ (R.to0 E) ho [] _ (show Rep [] _ (.sl 17 (([] : List EV).map EV.D)) (.slice none 0 0) from Rep.sl_nil) (by simp) (hT.mod E (by simp))) rfl fun v_ w3 h_ => ?_
    obtain ⟨rfl, E_⟩ := h_
    replace Bg1 := Bg1.mod0 E_
    replace E := E.then E_
    refine sv (o_mv rfl) rfl ?_
    refine sn rfl (fun e_ => absurd ((hs3_0).symm.trans e_) (by decide)) rfl ?_
    refine sn rfl (fun e_ => absurd ((hs3_0).symm.trans e_) (by decide)) rfl ?_
    refine sv (o_pickT (hs3_0) rfl rfl) rfl ?_
    refine sv (o_mv rfl) rfl ?_
    refine sn rfl (fun e_ => absurd ((rfl).symm.trans e_) (by decide)) rfl ?_
    refine sn rfl (fun e_ => absurd ((rfl).symm.trans e_) (by decide)) rfl ?_
    refine sn rfl (fun e_ => absurd ((rfl).symm.trans e_) (by decide)) rfl ?_
    refine sv (o_pickT (rfl) rfl rfl) rfl ?_
    refine l_nil ?_
    refine e_K (hK5 _ _ _ _ ?_)
    refine c_true rfl ?_
    refine c_seq fun K6 hK6 => ?_
    refine c_region ?_
    refine sv (o_as rfl) rfl ?_
    refine l_nil ?_
    refine e_K (hK6 _ _ _ _ ?_)
    refine c_ret ?_
    refine e_then (by simp) ?_
    exact ret1 rfl rfl ⟨rfl, E⟩
  · skip
    have hr : e.con.Rise := EV.unfit_rise (EV.greatL_parts (Bool.eq_false_iff.2 hs3_0)).1
    by_cases hs3_1 : 8192 < (ss.map wt).sum
    · skip
      refine c_region ?_
      refine sv (o_lda (vs := [_, _, _, _, _, _, _, _, _, _, _, _, _, _, _, _, _]) ag29 rfl rfl (Bg1.cs rfl)) rfl ?_
      refine sc (o_call ent7 rfl) (c_great16 _ e _ (R.to0 E) ho [] _ (show Rep [] _ (.sl 17 (([] : List EV).map EV.D)) (.slice none 0 0) from Rep.sl_nil) (by simp) (hT.mod E (by simp))) rfl fun v_ w4 h_ => ?_
      obtain ⟨rfl, E_⟩ := h_
      replace Bg1 := Bg1.mod0 E_
      replace E := E.then E_
      refine sv (o_mv rfl) rfl ?_
      refine sg rfl (Bool.eq_false_iff.2 hs3_0) (o_mv rfl) rfl ?_
      refine sgc rfl (Bool.eq_false_iff.2 hs3_0) (o_call ent10 rfl) (c_long [] _ ss _ (R2.to0 E) hB) rfl fun v_ w5 h_ => ?_
      obtain ⟨rfl, E_⟩ := h_
      replace Bg1 := Bg1.mod0 E_
      replace E := E.then E_
      refine sv (o_pickF (Bool.eq_false_iff.2 hs3_0) rfl rfl) rfl ?_
      refine sv (o_mv rfl) rfl ?_
      refine sn rfl (fun e_ => absurd ((decide_eq_true hs3_1).symm.trans e_) (by decide)) rfl ?_
      refine sn rfl (fun e_ => absurd ((decide_eq_true hs3_1).symm.trans e_) (by decide)) rfl ?_
      refine sn rfl (fun e_ => absurd ((decide_eq_true hs3_1).symm.trans e_) (by decide)) rfl ?_
      refine sv (o_pickT (decide_eq_true hs3_1) rfl rfl) rfl ?_
      refine l_nil ?_
      refine e_K (hK5 _ _ _ _ ?_)
      refine c_true rfl ?_
      refine c_seq fun K7 hK7 => ?_
      refine c_region ?_
      refine sv (o_as rfl) rfl ?_
      refine l_nil ?_
      refine e_K (hK7 _ _ _ _ ?_)
      refine c_ret ?_
      refine e_then (by simp) ?_
      exact ret1 rfl rfl ⟨rfl, E⟩
    · skip
      have hn : ss.length ≤ 1000000 := by have := @sum_ge ss; omega
      by_cases hs3_2 : asc ss = false
      · skip
        refine c_region ?_
        refine sv (o_lda (vs := [_, _, _, _, _, _, _, _, _, _, _, _, _, _, _, _, _]) ag29 rfl rfl (Bg1.cs rfl)) rfl ?_
        refine sc (o_call ent7 rfl) (c_great16 _ e _ (R.to0 E) ho [] _ (show Rep [] _ (.sl 17 (([] : List EV).map EV.D)) (.slice none 0 0) from Rep.sl_nil) (by simp) (hT.mod E (by simp))) rfl fun v_ w6 h_ => ?_
        obtain ⟨rfl, E_⟩ := h_
        replace Bg1 := Bg1.mod0 E_
        replace E := E.then E_
        refine sv (o_mv rfl) rfl ?_
        refine sg rfl (Bool.eq_false_iff.2 hs3_0) (o_mv rfl) rfl ?_
        refine sgc rfl (Bool.eq_false_iff.2 hs3_0) (o_call ent10 rfl) (c_long [] _ ss _ (R2.to0 E) hB) rfl fun v_ w7 h_ => ?_
        obtain ⟨rfl, E_⟩ := h_
        replace Bg1 := Bg1.mod0 E_
        replace E := E.then E_
        refine sv (o_pickF (Bool.eq_false_iff.2 hs3_0) rfl rfl) rfl ?_
        refine sv (o_mv rfl) rfl ?_
        refine sg rfl (decide_eq_false hs3_1) (o_mv rfl) rfl ?_
        refine sgc rfl (decide_eq_false hs3_1) (o_call ent11 rfl) (c_goodR [] _ ss _ (R2.to0 E)) rfl fun v_ w8 h_ => ?_
        obtain ⟨rfl, E_⟩ := h_
        replace Bg1 := Bg1.mod0 E_
        replace E := E.then E_
        refine sg rfl (decide_eq_false hs3_1) (o_not rfl) rfl ?_
        refine sv (o_pickF (decide_eq_false hs3_1) rfl rfl) rfl ?_
        refine l_nil ?_
        refine e_K (hK5 _ _ _ _ ?_)
        refine c_cond rfl (fun h20 => ?_) (fun h20 => absurd ((show (!asc ss) = true by rw [hs3_2]; rfl).symm.trans h20) (by decide))
        refine c_seq fun K8 hK8 => ?_
        refine c_region ?_
        refine sv (o_as rfl) rfl ?_
        refine l_nil ?_
        refine e_K (hK8 _ _ _ _ ?_)
        refine c_ret ?_
        refine e_then (by simp) ?_
        exact ret1 rfl rfl ⟨rfl, E⟩
      · skip
        have ha : asc ss = true := by simpa using hs3_2
        refine c_region ?_
        refine sv (o_lda (vs := [_, _, _, _, _, _, _, _, _, _, _, _, _, _, _, _, _]) ag29 rfl rfl (Bg1.cs rfl)) rfl ?_
        refine sc (o_call ent7 rfl) (c_great16 _ e _ (R.to0 E) ho [] _ (show Rep [] _ (.sl 17 (([] : List EV).map EV.D)) (.slice none 0 0) from Rep.sl_nil) (by simp) (hT.mod E (by simp))) rfl fun v_ w9 h_ => ?_
        obtain ⟨rfl, E_⟩ := h_
        replace Bg1 := Bg1.mod0 E_
        replace E := E.then E_
        refine sv (o_mv rfl) rfl ?_
        refine sg rfl (Bool.eq_false_iff.2 hs3_0) (o_mv rfl) rfl ?_
        refine sgc rfl (Bool.eq_false_iff.2 hs3_0) (o_call ent10 rfl) (c_long [] _ ss _ (R2.to0 E) hB) rfl fun v_ w10 h_ => ?_
        obtain ⟨rfl, E_⟩ := h_
        replace Bg1 := Bg1.mod0 E_
        replace E := E.then E_
        refine sv (o_pickF (Bool.eq_false_iff.2 hs3_0) rfl rfl) rfl ?_
        refine sv (o_mv rfl) rfl ?_
        refine sg rfl (decide_eq_false hs3_1) (o_mv rfl) rfl ?_
        refine sgc rfl (decide_eq_false hs3_1) (o_call ent11 rfl) (c_goodR [] _ ss _ (R2.to0 E)) rfl fun v_ w11 h_ => ?_
        obtain ⟨rfl, E_⟩ := h_
        replace Bg1 := Bg1.mod0 E_
        replace E := E.then E_
        refine sg rfl (decide_eq_false hs3_1) (o_not rfl) rfl ?_
        refine sv (o_pickF (decide_eq_false hs3_1) rfl rfl) rfl ?_
        refine l_nil ?_
        refine e_K (hK5 _ _ _ _ ?_)
        refine c_cond rfl (fun h20 => absurd ((show (!asc ss) = false by simp at hs3_2; rw [hs3_2]; rfl).symm.trans h20) (by decide)) (fun h20 => ?_)
        refine c_skip ?_
        refine e_K (hK4 _ _ _ _ ?_)
        refine c_seq fun K9 hK9 => ?_
        refine c_draw wide (by kernel_rfl) ?_
        refine tv (fun w_ E_ => (o_lda (vs := [_, _, _, _, _, _, _, _, _, _, _, _, _, _, _, _, _]) ag29 rfl rfl ((Bg1.mod0 E_).cs rfl))) rfl rfl ?_
        refine tv (fun w_ E_ => (o_mv rfl)) rfl rfl ?_
        refine tcr (fun u w2 => Own w2 9 1 u (selS ss e.need).length (((selS ss e.need).map fun s => [S s]).flatten)) (fun v w1 w2 k h => h.mod0 k) (fun w_ E_ => o_call ent12 rfl) (fun w_ E_ => Calls.imp (c_select _ e _ (R.to0 (E.then E_)) ho hr ss _ (R2.to0 (E.then E_)) ha hn) fun u w' h => ⟨h.1, h.2⟩) rfl rfl rfl ?_
        refine tv (fun w_ E_ => (o_lda (vs := [_, _, _, _, _, _, _, _, _, _, _, _, _, _, _, _, _]) ag29 rfl rfl ((Bg1.mod0 E_).cs rfl))) rfl rfl ?_
        refine tv (fun w_ E_ => (o_mv rfl)) rfl rfl ?_
        refine tcr (fun u w2 => Own w2 9 1 u (selS ss e.needR).length (((selS ss e.needR).map fun s => [S s]).flatten)) (fun v w1 w2 k h => h.mod0 k) (fun w_ E_ => o_call ent13 rfl) (fun w_ E_ => Calls.imp (c_selectR _ e _ (R.to0 (E.then E_)) ss _ (R2.to0 (E.then E_))) fun u w' h => ⟨h.1, h.2⟩) rfl rfl rfl ?_
        refine tr1 (fun u w2 => Own w2 9 1 u (selS ss e.need).length (((selS ss e.need).map fun s => [S s]).flatten)) (fun v w1 w2 k h => h.mod0 k) 23 rfl rfl ⟨_, (by simp [Op.operands]), rfl⟩ (fun w_ u E_ h => ⟨u, w_, o_as rfl, Mod.refl [] w_, h⟩) rfl rfl rfl ?_
        refine tr1 (fun u w2 => Own w2 9 1 u (selS ss e.needR).length (((selS ss e.needR).map fun s => [S s]).flatten)) (fun v w1 w2 k h => h.mod0 k) 26 rfl rfl ⟨_, (by simp [Op.operands]), rfl⟩ (fun w_ u E_ h => ⟨u, w_, o_as rfl, Mod.refl [] w_, h⟩) rfl rfl rfl ?_
        refine tw_nil2 (t := 5) (r := 6) rfl rfl rfl rfl rfl rfl rfl fun w12 va vb E_ O3 O4 => ?_
        replace E := E.then E_
        rw [← EV.need_eq] at O4
        obtain ⟨ad3, c3, rfl, hc31, hc32⟩ := O3.form
        obtain ⟨ad4, c4, rfl, hc41, hc42⟩ := O4.form
        have R3 := Own.strs [] O3 (by simp)
        have R4 := Own.strs [] O4 (by simp)
        have E3 := Mod.refl [] w12
        have hwE : True := trivial
        refine e_K (hK9 _ _ _ _ ?_)
        refine c_seq fun K10 hK10 => ?_
        refine c_seq fun K11 hK11 => ?_
        refine c_region ?_
        refine sv (o_mv rfl) rfl ?_
        refine sv (o_len Tryd.underlying26 rfl) rfl ?_
        refine sv (o_mv rfl) rfl ?_
        refine sv (o_len Tryd.underlying26 rfl) rfl ?_
        refine sv (o_neq rfl rfl) rfl ?_
        refine l_nil ?_
        refine e_K (hK11 _ _ _ _ ?_)
        refine c_if rfl (fun h31 => ?_) (fun h31 => ?_)
        · skip
          exact absurd rfl h31
        · skip
          refine c_skip ?_
          refine e_K (hK10 _ _ _ _ ?_)
          refine c_seq fun K12 hK12 => ?_
          refine c_seq fun K13 hK13 => ?_
          refine c_region ?_
          refine sv (o_mv rfl) rfl ?_
          refine sv (o_len Tryd.underlying26 rfl) rfl ?_
          refine sv (o_mv rfl) rfl ?_
          refine l_nil ?_
          refine e_K (hK13 _ _ _ _ ?_)
          refine c_block ?_
          refine c_loop (σ := Nat) (fun k => [(5, .slice ad3 (selS ss e.need).length c3), (6, .slice ad4 (selS ss e.need).length c4), (33, .int .i64 (selS ss e.need).length), (34, .int .i64 (k : Int))]) (fun k w1 => k ≤ (selS ss e.need).length ∧ Mod [] w12 w1 ∧ Mod [] w w1) (fun k => (selS ss e.need).length - k) (0) ⟨rfl, rfl, rfl, rfl, trivial⟩ (⟨by omega, E3, E⟩) ?_
          rintro k w13 ⟨hk, E3, E⟩
          refine c_seq fun K14 hK14 => ?_
          refine c_region ?_
          refine sv (o_lss rfl rfl) rfl ?_
          refine l_nil ?_
          refine e_K (hK14 _ _ _ _ ?_)
          refine c_seq fun K15 hK15 => ?_
          refine c_if rfl (fun h35 => ?_) (fun h35 => ?_)
          · skip
            have hlt : k < (selS ss e.need).length := by omega
            obtain ⟨x, hx_x⟩ : ∃ x, (selS ss e.need)[k]? = some x := ⟨_, List.getElem?_eq_getElem (by omega)⟩
            obtain ⟨a_x, ha_x, hcs_x, _⟩ := flat_at (R3.to0 E3) hx_x
            obtain rfl := ha_x
            obtain ⟨a_y, ha_y, hcs_y, _⟩ := flat_at (R4.to0 E3) hx_x
            obtain rfl := ha_y
            refine c_skip ?_
            refine e_K (hK15 _ _ _ _ ?_)
            refine c_seq fun K16 hK16 => ?_
            refine c_block ?_
            refine c_seq fun K17 hK17 => ?_
            refine c_region ?_
            refine sv (o_mv rfl) rfl ?_
            refine sv (o_as rfl) rfl ?_
            refine l_nil ?_
            refine e_K (hK17 _ _ _ _ ?_)
            refine c_seq fun K18 hK18 => ?_
            refine c_draw wide (by kernel_rfl) ?_
            refine tv (fun w_ E_ => (o_mv rfl)) rfl rfl ?_
            refine tv (fun w_ E_ => (o_mv rfl)) rfl rfl ?_
            refine tv (fun w_ E_ => (o_ix sl26 rfl rfl (by omega))) rfl rfl ?_
            refine tv (fun w_ E_ => (o_ld sc9 rfl (hcs_x.mod0 E_).first)) rfl rfl ?_
            refine tv (fun w_ E_ => (o_mv rfl)) rfl rfl ?_
            refine tv (fun w_ E_ => (o_mv rfl)) rfl rfl ?_
            refine tv (fun w_ E_ => (o_ix sl26 rfl rfl (by omega))) rfl rfl ?_
            refine tv (fun w_ E_ => (o_ld sc9 rfl (hcs_y.mod0 E_).first)) rfl rfl ?_
            refine tv (fun w_ E_ => (o_sne rfl rfl)) rfl rfl ?_
            refine tw_nil rfl fun w14 E_ => ?_
            replace E := E.then E_
            replace E3 := E3.then E_
            refine e_K (hK18 _ _ _ _ ?_)
            refine c_if rfl (fun h45 => ?_) (fun h45 => ?_)
            · skip
              exact absurd rfl h45
            · skip
              refine c_skip ?_
              refine e_in (by simp) ?_
              refine e_K (hK16 _ _ _ _ ?_)
              refine c_region ?_
              refine sv (o_addN rfl rfl (by omega)) rfl ?_
              refine sv (o_mv rfl) rfl ?_
              refine l_nil ?_
              exact e_round (σ := Nat) (s := k) (k + 1) ⟨rfl, rfl, rfl, rfl, trivial⟩ ⟨by omega, E3, E⟩ (by omega)
          · skip
            refine c_exit ?_
            refine e_then (by simp) ?_
            refine e_then (by simp) ?_
            refine e_hit ?_
            refine e_K (hK12 _ _ _ _ ?_)
            refine c_seq fun K19 hK19 => ?_
            refine c_region ?_
            refine sv (o_as rfl) rfl ?_
            refine l_nil ?_
            refine e_K (hK19 _ _ _ _ ?_)
            refine c_ret ?_
            exact ret1 rfl rfl ⟨rfl, E⟩

theorem c_PickRights (w : World) (e : EV) (us : List Value) (R : Reps [] w e.D us) (ho : e.ok) (es : List EV) (vs : Value) (R2 : Rep [] w (.sl 17 (es.map EV.D)) vs) (hos : ∀ x ∈ es, x.ok) (hT : Tab w) : Calls Tryd.prog 5 [.agg us.toArray, vs].toArray w (Ret fun u w' => u = .bool true ∧ Mod [] w w') := by
  refine enter Tryd.func5 rfl rfl rfl (l := [(0, _), (1, _)]) ⟨rfl, rfl, trivial⟩ ?_
  have E := Mod.refl [] w
  obtain ⟨al, cl, am, cm, ap, cp, aa, ca, aS, cS, rfl, Rc, Rp, Ra, Rs⟩ := EV.cells17 R
  refine c_seq fun K1 hK1 => ?_
  refine c_region ?_
  refine s_box rfl rfl rfl fun g1 w1 N1 => ?_
  have Lg1_E := N1.le E
  replace E := E.then N1.mod
  have Bg1 := N1.blk
  refine sv (o_as rfl) rfl ?_
  refine l_nil ?_
  refine e_K (hK1 _ _ _ _ ?_)
  refine c_seq fun K2 hK2 => ?_
  refine c_seq fun K3 hK3 => ?_
  refine c_region ?_
  refine sc (o_call ent6 rfl) (c_alive _) rfl fun v_ w2 h_ => ?_
  obtain ⟨rfl, E_⟩ := h_
  replace Bg1 := Bg1.mod0 E_
  replace E := E.then E_
  refine sv (o_not rfl) rfl ?_
  refine l_nil ?_
  refine e_K (hK3 _ _ _ _ ?_)
  refine c_false rfl ?_
  refine c_skip ?_
  refine e_K (hK2 _ _ _ _ ?_)
  refine c_seq fun K4 hK4 => ?_
  by_cases hs3_0 : e.greatL es = true
  · skip
    refine c_draw wide (by kernel_rfl) ?_
    refine tv (fun w_ E_ => (o_lda (vs := [_, _, _, _, _, _, _, _, _, _, _, _, _, _, _, _, _]) ag29 rfl rfl ((Bg1.mod0 E_).cs rfl))) rfl rfl ?_
    refine tv (fun w_ E_ => (o_mv rfl)) rfl rfl ?_
    refine tc (fun w_ E_ => o_call ent7 rfl) (fun w_ E_ => c_great16 _ e _ (R.to0 (E.then E_)) ho es _ (R2.to0 (E.then E_)) hos (hT.mod (E.then E_) (by simp))) rfl rfl ?_
    refine tv (fun w_ E_ => (o_mv rfl)) rfl rfl ?_
    refine tn rfl (fun e_ => absurd ((hs3_0).symm.trans e_) (by decide)) rfl ?_
    refine tn rfl (fun e_ => absurd ((hs3_0).symm.trans e_) (by decide)) rfl ?_
    refine tn rfl (fun e_ => absurd ((hs3_0).symm.trans e_) (by decide)) rfl ?_
    refine tn rfl (fun e_ => absurd ((hs3_0).symm.trans e_) (by decide)) rfl ?_
    refine tn rfl (fun e_ => absurd ((hs3_0).symm.trans e_) (by decide)) rfl ?_
    refine tn rfl (fun e_ => absurd ((hs3_0).symm.trans e_) (by decide)) rfl ?_
    refine tn rfl (fun e_ => absurd ((hs3_0).symm.trans e_) (by decide)) rfl ?_
    refine tv (fun w_ E_ => (o_pickT (hs3_0) rfl rfl)) rfl rfl ?_
    refine tv (fun w_ E_ => (o_as rfl)) rfl rfl ?_
    refine tw_nil rfl fun w3 E_ => ?_
    replace Bg1 := Bg1.mod0 E_
    replace E := E.then E_
    refine e_K (hK4 _ _ _ _ ?_)
    refine c_ret ?_
    exact ret1 rfl rfl ⟨rfl, E⟩
  · skip
    have hgp := EV.greatL_parts (Bool.eq_false_iff.2 hs3_0)
    have hr : e.con.Rise := EV.unfit_rise hgp.1
    have hes : es.length ≤ 1000000 := by have := hgp.2.1; omega
    refine c_draw wide (by kernel_rfl) ?_
    refine tv (fun w_ E_ => (o_lda (vs := [_, _, _, _, _, _, _, _, _, _, _, _, _, _, _, _, _]) ag29 rfl rfl ((Bg1.mod0 E_).cs rfl))) rfl rfl ?_
    refine tv (fun w_ E_ => (o_mv rfl)) rfl rfl ?_
    refine tc (fun w_ E_ => o_call ent7 rfl) (fun w_ E_ => c_great16 _ e _ (R.to0 (E.then E_)) ho es _ (R2.to0 (E.then E_)) hos (hT.mod (E.then E_) (by simp))) rfl rfl ?_
    refine tv (fun w_ E_ => (o_mv rfl)) rfl rfl ?_
    refine tvg rfl (Bool.eq_false_iff.2 hs3_0) (fun w_ E_ => (o_lda (vs := [_, _, _, _, _, _, _, _, _, _, _, _, _, _, _, _, _]) ag29 rfl rfl ((Bg1.mod0 E_).cs rfl))) rfl rfl ?_
    refine tvg rfl (Bool.eq_false_iff.2 hs3_0) (fun w_ E_ => (o_mv rfl)) rfl rfl ?_
    refine tcg rfl (Bool.eq_false_iff.2 hs3_0) (fun w_ E_ => o_call ent14 rfl) (fun w_ E_ => c_right _ e _ (R.to0 (E.then E_)) ho hr es _ (R2.to0 (E.then E_)) hes) rfl rfl ?_
    refine tvg rfl (Bool.eq_false_iff.2 hs3_0) (fun w_ E_ => (o_lda (vs := [_, _, _, _, _, _, _, _, _, _, _, _, _, _, _, _, _]) ag29 rfl rfl ((Bg1.mod0 E_).cs rfl))) rfl rfl ?_
    refine tvg rfl (Bool.eq_false_iff.2 hs3_0) (fun w_ E_ => (o_mv rfl)) rfl rfl ?_
    refine tcg rfl (Bool.eq_false_iff.2 hs3_0) (fun w_ E_ => o_call ent15 rfl) (fun w_ E_ => c_rightR _ e _ (R.to0 (E.then E_)) es _ (R2.to0 (E.then E_)) hes) rfl rfl ?_
    refine tvg rfl (Bool.eq_false_iff.2 hs3_0) (fun w_ E_ => ((o_bseq Tryd.underlying4 rfl rfl).to (by rw [beq_self_eq_true]))) rfl rfl ?_
    refine tv (fun w_ E_ => (o_pickF (Bool.eq_false_iff.2 hs3_0) rfl rfl)) rfl rfl ?_
    refine tv (fun w_ E_ => (o_as rfl)) rfl rfl ?_
    refine tw_nil rfl fun w4 E_ => ?_
    replace Bg1 := Bg1.mod0 E_
    replace E := E.then E_
    refine e_K (hK4 _ _ _ _ ?_)
    refine c_ret ?_
    exact ret1 rfl rfl ⟨rfl, E⟩
end Go.Proofs.YtebfihecdooneaaDoor.V

set_option linter.unusedVariables false
set_option linter.unusedSimpArgs false
set_option maxRecDepth 10000
namespace Go.Proofs.YtebfihecdooneaaDoor.V
open Go Go.Proofs

section
variable {H : Type} {enc : TypeId × Value → H} {w : World}
theorem opn_jv (n : Nat) : OpnN enc Tryd.prog w n 25 JV.D JV.ok := by
  induction n using Nat.strongRecOn with
  | ind n ih =>
    cases n with
    | zero => exact OpnN.zero
    | succ n =>
      have hl : OpnN enc Tryd.prog w n 22 (fun xs : List JV => [.sl 6 (xs.map JV.D)]) (fun xs => (∀ x ∈ xs, x.ok) ∧ xs.length * 88 ≤ 140737488351232) := by
        cases n with
        | zero => exact OpnN.zero
        | succ n => exact opn_slice Tryd.underlying22 (by kernel_rfl) (by kernel_rfl) (by decide) (ih n (by omega))
      have hm : OpnN enc Tryd.prog w n 23 (fun xs : List (List UInt8 × JV) => [.sl 7 (xs.map JV.Dp)]) (fun xs => (∀ x ∈ xs, x.1.length ≤ 140737488351232 ∧ x.2.ok) ∧ xs.length * 104 ≤ 140737488351232) := by
        cases n with
        | zero => exact OpnN.zero
        | succ n =>
          refine opn_slice Tryd.underlying23 (by kernel_rfl) (by kernel_rfl) (by decide) ?_
          cases n with
          | zero => exact OpnN.zero
          | succ n =>
            exact OpnN.to (opn_struct (tot := 7) Tryd.underlying72 (by kernel_rfl) (opn_cons (k := 1) rfl (by kernel_rfl) (opn_str Tryd.underlying9) (opn_cons (k := 6) rfl (by kernel_rfl) (ih n (by omega)) opn_nil))) (fun p => (p.1, p.2.1)) (fun p => by simp [JV.Dp]) (fun p h => ⟨h.1, h.2.1⟩)
      refine OpnN.to (opn_struct (tot := 6) Tryd.underlying25 (by kernel_rfl) (opn_cons (k := 1) rfl (by kernel_rfl) (opn_int Tryd.underlying3) (opn_cons (k := 1) rfl (by kernel_rfl) (opn_bool Tryd.underlying4) (opn_cons (k := 1) rfl (by kernel_rfl) (opn_int Tryd.underlying3) (opn_cons (k := 1) rfl (by kernel_rfl) (opn_str Tryd.underlying9) (opn_cons (k := 1) rfl (by kernel_rfl) hl (opn_cons (k := 1) rfl (by kernel_rfl) hm opn_nil))))))) (fun p => JV.mk p.1 p.2.1 p.2.2.1 p.2.2.2.1 p.2.2.2.2.1 p.2.2.2.2.2.1) (fun p => by rw [JV.D_eq]; rfl) (fun p h => ?_)
      obtain ⟨h1, h2, h3, h4, h5, h6, _⟩ := h
      rw [JV.ok_eq]
      refine ⟨h4, ?_, ?_, h5.1, h6.1⟩
      · have := h5.2; show p.2.2.2.2.1.length ≤ _; omega
      · have := h6.2; show p.2.2.2.2.2.1.length ≤ _; omega
theorem opn_strs (n : Nat) : OpnN enc Tryd.prog w n 26 (fun xs : List Str => [strD xs]) (fun xs => (∀ x ∈ xs, x.length ≤ 140737488351232) ∧ xs.length * 16 ≤ 140737488351232) := by
  cases n with
  | zero => exact OpnN.zero
  | succ n => exact opn_slice Tryd.underlying26 (by kernel_rfl) (by kernel_rfl) (by decide) (opn_str Tryd.underlying9)
theorem opn_sig (n : Nat) : OpnN enc Tryd.prog w n 60 (fun x : Sig3 => (Sig3.cells x).map D.v) (fun x => x.srv.length ≤ 140737488351232 ∧ x.key.length ≤ 140737488351232 ∧ x.sig.length ≤ 140737488351232) := by
  cases n with
  | zero => exact OpnN.zero
  | succ n => exact OpnN.to (opn_struct (tot := 3) Tryd.underlying60 (by kernel_rfl) (opn_cons (k := 1) rfl (by kernel_rfl) (opn_str Tryd.underlying9) (opn_cons (k := 1) rfl (by kernel_rfl) (opn_str Tryd.underlying9) (opn_cons (k := 1) rfl (by kernel_rfl) (opn_str Tryd.underlying9) opn_nil)))) (fun p => ⟨p.1, p.2.1, p.2.2.1⟩) (fun _ => rfl) (fun p h => ⟨h.1, h.2.1, h.2.2.1⟩)
theorem opn_sigs (n : Nat) : OpnN enc Tryd.prog w n 27 (fun xs : List Sig3 => [flat 3 Sig3.cells xs]) (fun xs => (∀ x ∈ xs, x.srv.length ≤ 140737488351232 ∧ x.key.length ≤ 140737488351232 ∧ x.sig.length ≤ 140737488351232) ∧ xs.length * 48 ≤ 140737488351232) := by
  cases n with
  | zero => exact OpnN.zero
  | succ n => exact opn_slice Tryd.underlying27 (by kernel_rfl) (by kernel_rfl) (by decide) (opn_sig n)
theorem opn_ev (n : Nat) : OpnN enc Tryd.prog w n 29 EV.D EV.ok := by
  cases n with
  | zero => exact OpnN.zero
  | succ n =>
    refine OpnN.to (opn_struct (tot := 17) Tryd.underlying29 (by kernel_rfl) (opn_cons (k := 1) rfl (by kernel_rfl) (opn_str Tryd.underlying9) (opn_cons (k := 1) rfl (by kernel_rfl) (opn_str Tryd.underlying9) (opn_cons (k := 1) rfl (by kernel_rfl) (opn_str Tryd.underlying9) (opn_cons (k := 1) rfl (by kernel_rfl) (opn_bool Tryd.underlying4) (opn_cons (k := 1) rfl (by kernel_rfl) (opn_str Tryd.underlying9) (opn_cons (k := 6) rfl (by kernel_rfl) (opn_jv n) (opn_cons (k := 1) rfl (by kernel_rfl) (opn_strs n) (opn_cons (k := 1) rfl (by kernel_rfl) (opn_strs n) (opn_cons (k := 1) rfl (by kernel_rfl) (opn_int Tryd.underlying3) (opn_cons (k := 1) rfl (by kernel_rfl) (opn_int Tryd.underlying3) (opn_cons (k := 1) rfl (by kernel_rfl) (opn_str Tryd.underlying9) (opn_cons (k := 1) rfl (by kernel_rfl) (opn_sigs n) opn_nil))))))))))))) (fun p => EV.mk p.1 p.2.1 p.2.2.1 p.2.2.2.1 p.2.2.2.2.1 p.2.2.2.2.2.1 p.2.2.2.2.2.2.1 p.2.2.2.2.2.2.2.1 p.2.2.2.2.2.2.2.2.1 p.2.2.2.2.2.2.2.2.2.1 p.2.2.2.2.2.2.2.2.2.2.1 p.2.2.2.2.2.2.2.2.2.2.2.1) (fun p => ?_) (fun p h => ?_)
    · simp only [EV.D, List.cons_append, List.nil_append, List.append_nil, List.append_assoc]
    · obtain ⟨h1, h2, h3, _, h5, h6, h7, h8, _, _, h11, h12, _⟩ := h
      exact ⟨h1, h2, h3, h5, h6, h7.1, by have := h7.2; dsimp only; omega, h8.1, by have := h8.2; dsimp only; omega, h11, h12.1, by have := h12.2; dsimp only; omega⟩

theorem opn_evs (n : Nat) : OpnN enc Tryd.prog w n 41 (fun xs : List EV => [.sl 17 (xs.map EV.D)]) (fun xs => (∀ x ∈ xs, x.ok) ∧ xs.length * 264 ≤ 140737488351232) := by
  cases n with
  | zero => exact OpnN.zero
  | succ n => exact opn_slice Tryd.underlying41 (by kernel_rfl) (by kernel_rfl) (by decide) (opn_ev n)

theorem opn_slot (n : Nat) : OpnN enc Tryd.prog w n 53 (fun x : Slot => (Slot.cells x).map D.v) Slot.small := by
  cases n with
  | zero => exact OpnN.zero
  | succ n =>
    refine OpnN.to (opn_struct (tot := 3) Tryd.underlying53 (by kernel_rfl) (opn_cons (k := 1) rfl (by kernel_rfl) (opn_str Tryd.underlying9) (opn_cons (k := 1) rfl (by kernel_rfl) (opn_str Tryd.underlying9) (opn_cons (k := 1) rfl (by kernel_rfl) (opn_str Tryd.underlying9) opn_nil)))) (fun p => ⟨p.1, p.2.1, p.2.2.1⟩) (fun _ => rfl) (fun p h => ⟨?_, ?_, ?_⟩)
    · have := h.1; dsimp only; omega
    · have := h.2.1; dsimp only; omega
    · have := h.2.2.1; dsimp only; omega
theorem opn_slots (n : Nat) : OpnN enc Tryd.prog w n 37 (fun xs : List Slot => [slotsD xs]) (fun xs => (∀ x ∈ xs, x.small) ∧ xs.length * 48 ≤ 140737488351232) := by
  cases n with
  | zero => exact OpnN.zero
  | succ n => exact opn_slice Tryd.underlying37 (by kernel_rfl) (by kernel_rfl) (by decide) (opn_slot n)

end
theorem tab_third {P : Program} {W : World} {name n1 n2 : String} {d1 d2 : DataW Unit} {k : IntKind} {zs : List Int} {rest : List (String × DataW Unit)} {g : Nat} {t e : TypeId} {n : Nat}
    (hg : P.globalNamed name = some g) (hty : (P.globals[g]?).map (·.type) = some t) (ht : P.underlying t = some (.array n e)) (he : P.underlying e = some (.int k)) (hce : P.cellsOf e = 1) (hct : P.cellsOf t = n)
    (h : laidMet P ((n1, d1) :: (n2, d2) :: (name, Lib.tabData k zs) :: rest) W) : Lib.TabIs P W name k zs := by
  obtain ⟨ps, ⟨_, _, _, _, _, _, _, _, _, _, ⟨_, _, _, _, _, _, _, _, _, _, ⟨g', t', cs, fuel, p, q, hg', ht', hvar, hd, _, _⟩, _⟩, _⟩, _⟩ := h
  obtain rfl := Option.some.inj (hg.symm.trans hg')
  obtain rfl := Option.some.inj (hty.symm.trans ht')
  unfold Lib.TabIs
  rw [hvar, ← Lib.cells_of_tab ht he hce hct hd]
theorem tabOf {W : World} {n1 n2 : String} {d1 d2 : DataW Unit} (h : laidMet Tryd.prog [(n1, d1), (n2, d2), ("internal/strconv.uint64pow10", Lib.tabData .u64 Lib.pow10Tab)] W) : Tab W :=
  tab_third (t := 118) (n := 20) (e := 90) gPow (by kernel_rfl) Tryd.underlying118 Tryd.underlying90 (by kernel_rfl) (by kernel_rfl) h
end Go.Proofs.YtebfihecdooneaaDoor.V
