/-
  A part of the proof: walks of functions, and the plain laws of what they compute. No condition of its own.
-/
import Derived.Test.YtccjjkdogljmpaaP6
import Derived.Test.YtccjjkdogljmpaaTB
set_option linter.unusedVariables false
set_option linter.unusedSimpArgs false
set_option maxRecDepth 10000
namespace Go.Proofs.Ytccjjkdogljmpaa.V
open Go Go.Proofs

theorem c_PickFills (A : List Nat) (w : World) (xs : List Slot) (v : Value) (R : Rep A w (slotsD xs) v) (m : Int) (hB : ∀ x ∈ xs, Slot.small x) : Calls Try.prog 4 [v, .int .i64 m].toArray w (Ret fun u w' => u = .bool true ∧ Mod [] w w') := by
  refine enter Try.func4 rfl rfl rfl (l := [(0, _), (1, _)]) ⟨rfl, rfl, trivial⟩ ?_
  have E := Mod.refl [] w
  obtain ⟨ad, c, rfl, hc1, hc2⟩ := flat_len R
  refine c_seq fun K1 hK1 => ?_
  refine c_region ?_
  refine sv (o_as rfl) rfl ?_
  refine l_nil ?_
  refine e_K (hK1 _ _ _ _ ?_)
  refine c_seq fun K2 hK2 => ?_
  refine c_seq fun K3 hK3 => ?_
  refine c_region ?_
  refine sv (o_build (cs := [_, _, _]) pl24 zv24 rfl rfl) rfl ?_
  refine sc (o_call ent8 rfl) (c_put [] _ [] _ (Rep.nilf _ _) ⟨[], [], []⟩ rfl (by decide)) rfl fun v_ w1 h_ => ?_
  obtain ⟨Ox, Lx, E_⟩ := h_
  replace E := E.then E_
  replace Ox := Ox.same (m := 1) (us := [S [], S [], S []]) rfl rfl
  obtain ⟨adx, cx, rfl, hcx1, hcx2⟩ := Ox.form
  refine sv (o_len Try.underlying22 rfl) rfl ?_
  refine sv (o_neq rfl rfl) rfl ?_
  refine l_nil ?_
  refine e_K (hK3 _ _ _ _ ?_)
  refine c_false rfl ?_
  refine c_skip ?_
  refine e_K (hK2 _ _ _ _ ?_)
  refine c_seq fun K4 hK4 => ?_
  refine c_seq fun K5 hK5 => ?_
  by_cases hs3_0 : 8192 < (xs.map wt).sum
  · skip
    refine c_region ?_
    refine sv (o_mv rfl) rfl ?_
    refine sc (o_call ent9 rfl) (c_long A _ xs _ (R.to0 E) hB) rfl fun v_ w2 h_ => ?_
    obtain ⟨rfl, E_⟩ := h_
    replace E := E.then E_
    refine sv (o_mv rfl) rfl ?_
    refine sn rfl (fun e_ => absurd ((decide_eq_true hs3_0).symm.trans e_) (by decide)) rfl ?_
    refine sn rfl (fun e_ => absurd ((decide_eq_true hs3_0).symm.trans e_) (by decide)) rfl ?_
    refine sn rfl (fun e_ => absurd ((decide_eq_true hs3_0).symm.trans e_) (by decide)) rfl ?_
    refine sv (o_pickT (decide_eq_true hs3_0) rfl rfl) rfl ?_
    refine sv (o_mv rfl) rfl ?_
    refine sn rfl (fun e_ => absurd ((rfl).symm.trans e_) (by decide)) rfl ?_
    refine sn rfl (fun e_ => absurd ((rfl).symm.trans e_) (by decide)) rfl ?_
    refine sv (o_pickT (rfl) rfl rfl) rfl ?_
    refine sv (o_mv rfl) rfl ?_
    refine sn rfl (fun e_ => absurd ((rfl).symm.trans e_) (by decide)) rfl ?_
    refine sn rfl (fun e_ => absurd ((rfl).symm.trans e_) (by decide)) rfl ?_
    refine sn rfl (fun e_ => absurd ((rfl).symm.trans e_) (by decide)) rfl ?_
    refine sn rfl (fun e_ => absurd ((rfl).symm.trans e_) (by decide)) rfl ?_
    refine sv (o_pickT (rfl) rfl rfl) rfl ?_
    refine l_nil ?_
    refine e_K (hK5 _ _ _ _ ?_)
    refine c_true rfl ?_
    refine c_seq fun K6 hK6 => ?_
    refine c_region ?_
    refine sv (o_as rfl) rfl ?_
    refine l_nil ?_
    refine e_K (hK6 _ _ _ _ ?_)
    refine c_ret ?_
    refine e_then (by simp) ?_
    exact ret1 rfl rfl ⟨rfl, E⟩
  · skip
    by_cases hs3_1 : (xs.length : Int) > 60
    · skip
      refine c_region ?_
      refine sv (o_mv rfl) rfl ?_
      refine sc (o_call ent9 rfl) (c_long A _ xs _ (R.to0 E) hB) rfl fun v_ w3 h_ => ?_
      obtain ⟨rfl, E_⟩ := h_
      replace E := E.then E_
      refine sv (o_mv rfl) rfl ?_
      refine sg rfl (decide_eq_false hs3_0) (o_mv rfl) rfl ?_
      refine sg rfl (decide_eq_false hs3_0) (o_len Try.underlying22 rfl) rfl ?_
      refine sg rfl (decide_eq_false hs3_0) (o_gtr rfl rfl) rfl ?_
      refine sv (o_pickF (decide_eq_false hs3_0) rfl rfl) rfl ?_
      refine sv (o_mv rfl) rfl ?_
      refine sn rfl (fun e_ => absurd ((decide_eq_true hs3_1).symm.trans e_) (by decide)) rfl ?_
      refine sn rfl (fun e_ => absurd ((decide_eq_true hs3_1).symm.trans e_) (by decide)) rfl ?_
      refine sv (o_pickT (decide_eq_true hs3_1) rfl rfl) rfl ?_
      refine sv (o_mv rfl) rfl ?_
      refine sn rfl (fun e_ => absurd ((rfl).symm.trans e_) (by decide)) rfl ?_
      refine sn rfl (fun e_ => absurd ((rfl).symm.trans e_) (by decide)) rfl ?_
      refine sn rfl (fun e_ => absurd ((rfl).symm.trans e_) (by decide)) rfl ?_
      refine sn rfl (fun e_ => absurd ((rfl).symm.trans e_) (by decide)) rfl ?_
      refine sv (o_pickT (rfl) rfl rfl) rfl ?_
      refine l_nil ?_
      refine e_K (hK5 _ _ _ _ ?_)
      refine c_true rfl ?_
      refine c_seq fun K7 hK7 => ?_
      refine c_region ?_
      refine sv (o_as rfl) rfl ?_
      refine l_nil ?_
      refine e_K (hK7 _ _ _ _ ?_)
      refine c_ret ?_
      refine e_then (by simp) ?_
      exact ret1 rfl rfl ⟨rfl, E⟩
    · skip
      by_cases hs3_2 : m < 0
      · skip
        refine c_region ?_
        refine sv (o_mv rfl) rfl ?_
        refine sc (o_call ent9 rfl) (c_long A _ xs _ (R.to0 E) hB) rfl fun v_ w4 h_ => ?_
        obtain ⟨rfl, E_⟩ := h_
        replace E := E.then E_
        refine sv (o_mv rfl) rfl ?_
        refine sg rfl (decide_eq_false hs3_0) (o_mv rfl) rfl ?_
        refine sg rfl (decide_eq_false hs3_0) (o_len Try.underlying22 rfl) rfl ?_
        refine sg rfl (decide_eq_false hs3_0) (o_gtr rfl rfl) rfl ?_
        refine sv (o_pickF (decide_eq_false hs3_0) rfl rfl) rfl ?_
        refine sv (o_mv rfl) rfl ?_
        refine sg rfl (decide_eq_false hs3_1) (o_mv rfl) rfl ?_
        refine sg rfl (decide_eq_false hs3_1) (o_lss rfl rfl) rfl ?_
        refine sv (o_pickF (decide_eq_false hs3_1) rfl rfl) rfl ?_
        refine sv (o_mv rfl) rfl ?_
        refine sn rfl (fun e_ => absurd ((decide_eq_true hs3_2).symm.trans e_) (by decide)) rfl ?_
        refine sn rfl (fun e_ => absurd ((decide_eq_true hs3_2).symm.trans e_) (by decide)) rfl ?_
        refine sn rfl (fun e_ => absurd ((decide_eq_true hs3_2).symm.trans e_) (by decide)) rfl ?_
        refine sn rfl (fun e_ => absurd ((decide_eq_true hs3_2).symm.trans e_) (by decide)) rfl ?_
        refine sv (o_pickT (decide_eq_true hs3_2) rfl rfl) rfl ?_
        refine l_nil ?_
        refine e_K (hK5 _ _ _ _ ?_)
        refine c_true rfl ?_
        refine c_seq fun K8 hK8 => ?_
        refine c_region ?_
        refine sv (o_as rfl) rfl ?_
        refine l_nil ?_
        refine e_K (hK8 _ _ _ _ ?_)
        refine c_ret ?_
        refine e_then (by simp) ?_
        exact ret1 rfl rfl ⟨rfl, E⟩
      · skip
        refine c_region ?_
        refine sv (o_mv rfl) rfl ?_
        refine sc (o_call ent9 rfl) (c_long A _ xs _ (R.to0 E) hB) rfl fun v_ w5 h_ => ?_
        obtain ⟨rfl, E_⟩ := h_
        replace E := E.then E_
        refine sv (o_mv rfl) rfl ?_
        refine sg rfl (decide_eq_false hs3_0) (o_mv rfl) rfl ?_
        refine sg rfl (decide_eq_false hs3_0) (o_len Try.underlying22 rfl) rfl ?_
        refine sg rfl (decide_eq_false hs3_0) (o_gtr rfl rfl) rfl ?_
        refine sv (o_pickF (decide_eq_false hs3_0) rfl rfl) rfl ?_
        refine sv (o_mv rfl) rfl ?_
        refine sg rfl (decide_eq_false hs3_1) (o_mv rfl) rfl ?_
        refine sg rfl (decide_eq_false hs3_1) (o_lss rfl rfl) rfl ?_
        refine sv (o_pickF (decide_eq_false hs3_1) rfl rfl) rfl ?_
        refine sv (o_mv rfl) rfl ?_
        refine sg rfl (decide_eq_false hs3_2) (o_mv rfl) rfl ?_
        refine sg rfl (decide_eq_false hs3_2) (o_mv rfl) rfl ?_
        refine sg rfl (decide_eq_false hs3_2) (o_len Try.underlying22 rfl) rfl ?_
        refine sg rfl (decide_eq_false hs3_2) (o_geq rfl rfl) rfl ?_
        refine sv (o_pickF (decide_eq_false hs3_2) rfl rfl) rfl ?_
        refine l_nil ?_
        refine e_K (hK5 _ _ _ _ ?_)
        refine c_if rfl (fun h33 => ?_) (fun h33 => ?_)
        · skip
          refine c_seq fun K9 hK9 => ?_
          refine c_region ?_
          refine sv (o_as rfl) rfl ?_
          refine l_nil ?_
          refine e_K (hK9 _ _ _ _ ?_)
          refine c_ret ?_
          refine e_then (by simp) ?_
          exact ret1 rfl rfl ⟨rfl, E⟩
        · skip
          refine c_skip ?_
          refine e_K (hK4 _ _ _ _ ?_)
          refine c_seq fun K10 hK10 => ?_
          refine c_region ?_
          refine sv (o_as rfl) rfl ?_
          refine l_nil ?_
          refine e_K (hK10 _ _ _ _ ?_)
          refine c_seq fun K11 hK11 => ?_
          refine c_seq fun K12 hK12 => ?_
          refine c_region ?_
          refine sv (o_mv rfl) rfl ?_
          refine sv (o_len Try.underlying22 rfl) rfl ?_
          refine sv (o_mv rfl) rfl ?_
          refine l_nil ?_
          refine e_K (hK12 _ _ _ _ ?_)
          refine c_block ?_
          refine c_loop (σ := Nat × Value) (fun ⟨k, v⟩ => [(0, .slice ad xs.length c), (1, .int .i64 m), (5, v), (34, .slice ad xs.length c), (35, .int .i64 xs.length), (36, .int .i64 (k : Int))]) (fun ⟨k, v⟩ w1 => k ≤ xs.length ∧ Own w1 24 3 v (stS xs k).length (((stS xs k).map Slot.cells).flatten) ∧ (∀ x ∈ ob v, w.heap.size ≤ x) ∧ Mod [] w w1) (fun ⟨k, v⟩ => xs.length - k) (⟨0, .slice none 0 0⟩) ⟨rfl, rfl, rfl, rfl, rfl, rfl, trivial⟩ (⟨by omega, Own.nil _ 24 3, by simp [ob], E⟩) ?_
          rintro ⟨k, v⟩ w6 ⟨hk, Oa0, L0, E⟩
          refine c_seq fun K13 hK13 => ?_
          refine c_region ?_
          refine sv (o_lss rfl rfl) rfl ?_
          refine l_nil ?_
          refine e_K (hK13 _ _ _ _ ?_)
          refine c_seq fun K14 hK14 => ?_
          refine c_if rfl (fun h37 => ?_) (fun h37 => ?_)
          · skip
            have hlt : k < xs.length := by omega
            obtain ⟨x, hx_x⟩ : ∃ x, xs[k]? = some x := ⟨_, List.getElem?_eq_getElem (by omega)⟩
            obtain ⟨a_x, ha_x, hcs_x, _⟩ := flat_at (R.to0 E) hx_x
            subst ha_x
            refine c_skip ?_
            refine e_K (hK14 _ _ _ _ ?_)
            refine c_seq fun K15 hK15 => ?_
            refine c_block ?_
            refine c_seq fun K16 hK16 => ?_
            refine c_region ?_
            refine sv (o_ix sl22 rfl rfl (by omega)) rfl ?_
            refine sv (o_lda ag24 rfl rfl hcs_x) rfl ?_
            refine s_alloc zv24 rfl fun g1 w7 N1 => ?_
            have Lg1_E := N1.le E
            have Da0_g1 := N1.own_ne Oa0
            replace E := E.then N1.mod
            replace Oa0 := Oa0.mod0 N1.mod
            have Bg1 := N1.blk
            refine s_sta (vs := [_, _, _]) ag24 Bg1 rfl rfl rfl (by simp [Value.oneCell']) (by simp) fun w8 P8 => ?_
            replace E := E.own P8.mod Lg1_E
            replace Oa0 := Oa0.put P8.mod Da0_g1
            replace Bg1 : Blk w8 g1 _ [_, _, _] := P8.blk
            refine l_nil ?_
            refine e_K (hK16 _ _ _ _ ?_)
            refine c_region ?_
            refine sv (o_mv rfl) rfl ?_
            refine sv (o_lda (vs := [_, _, _]) ag24 rfl rfl (Bg1.cs rfl)) rfl ?_
            have RO := Own.slots [] Oa0 (by simp)
            have hsz := E.size
            refine sc (o_call ent8 rfl) (c_put [] _ (stS xs k) _ RO x (stS_asc xs k) (by have := stS_len xs k; omega)) rfl fun v_ w9 h_ => ?_
            obtain ⟨Oc, Lc, E_⟩ := h_
            replace Bg1 := Bg1.mod0 E_
            replace E := E.then E_
            replace Oa0 := Oa0.mod0 E_
            have L1 : ∀ x ∈ ob v_, w.heap.size ≤ x := fun x hx => by have := Lc x hx; omega
            refine sv (o_as rfl) rfl ?_
            refine l_nil ?_
            refine e_in (by simp) ?_
            refine e_K (hK15 _ _ _ _ ?_)
            refine c_region ?_
            refine sv (o_addN rfl rfl (by omega)) rfl ?_
            refine sv (o_mv rfl) rfl ?_
            refine l_nil ?_
            exact e_round (σ := Nat × Value) (s := ⟨k, v⟩) (⟨k + 1, v_⟩) ⟨rfl, rfl, rfl, rfl, rfl, rfl, trivial⟩ ⟨by omega, by rw [stS_succ hx_x]; exact Oc, L1, E⟩ (by dsimp only; omega)
          · skip
            have hk2 : k = xs.length := by omega
            subst hk2
            obtain ⟨y, hx_y⟩ : ∃ x, xs[m.toNat]? = some x := ⟨_, List.getElem?_eq_getElem (by omega)⟩
            obtain ⟨a_y, ha_y, hcs_y, _⟩ := flat_at (R.to0 E) hx_y
            subst ha_y
            refine c_exit ?_
            refine e_then (by simp) ?_
            refine e_then (by simp) ?_
            refine e_hit ?_
            refine e_K (hK11 _ _ _ _ ?_)
            refine c_seq fun K17 hK17 => ?_
            refine c_region ?_
            refine sv (o_mv rfl) rfl ?_
            refine sv (o_mv rfl) rfl ?_
            refine sv (o_ix sl22 rfl rfl (by omega)) rfl ?_
            refine sv (o_lda ag24 rfl rfl hcs_y) rfl ?_
            refine s_alloc zv24 rfl fun g2 w10 N2 => ?_
            have Lg2_E := N2.le E
            have Da0_g2 := N2.own_ne Oa0
            replace E := E.then N2.mod
            replace Oa0 := Oa0.mod0 N2.mod
            have Bg2 := N2.blk
            refine s_sta (vs := [_, _, _]) ag24 Bg2 rfl rfl rfl (by simp [Value.oneCell']) (by simp) fun w11 P11 => ?_
            replace E := E.own P11.mod Lg2_E
            replace Oa0 := Oa0.put P11.mod Da0_g2
            replace Bg2 : Blk w11 g2 _ [_, _, _] := P11.blk
            refine l_nil ?_
            refine e_K (hK17 _ _ _ _ ?_)
            refine c_seq fun K18 hK18 => ?_
            refine c_seq fun K19 hK19 => ?_
            refine c_region ?_
            refine sv (o_mv rfl) rfl ?_
            refine sv (o_len Try.underlying22 rfl) rfl ?_
            refine sv (o_mv rfl) rfl ?_
            refine l_nil ?_
            refine e_K (hK19 _ _ _ _ ?_)
            refine c_block ?_
            refine c_loop (σ := Nat) (fun k => [(0, .slice (some a_y) xs.length c), (5, v), (8, .pointer (some ⟨g2, 0, none⟩)), (48, .slice (some a_y) xs.length c), (49, .int .i64 xs.length), (50, .int .i64 (k : Int))]) (fun k w1 => k ≤ xs.length ∧ Blk w1 g2 24 (lastS xs y k).cells ∧ Own w1 24 3 v (stS xs xs.length).length (((stS xs xs.length).map Slot.cells).flatten) ∧ Mod [] w w1) (fun k => xs.length - k) (0) ⟨rfl, rfl, rfl, rfl, rfl, rfl, trivial⟩ (⟨by omega, Bg2, Oa0, E⟩) ?_
            rintro k w12 ⟨hk, Bg2, Oa0, E⟩
            refine c_seq fun K20 hK20 => ?_
            refine c_region ?_
            refine sv (o_lss rfl rfl) rfl ?_
            refine l_nil ?_
            refine e_K (hK20 _ _ _ _ ?_)
            refine c_seq fun K21 hK21 => ?_
            refine c_if rfl (fun h51 => ?_) (fun h51 => ?_)
            · skip
              have hlt : k < xs.length := by omega
              obtain ⟨x, hx_x⟩ : ∃ x, xs[k]? = some x := ⟨_, List.getElem?_eq_getElem (by omega)⟩
              obtain ⟨a_x, ha_x, hcs_x, _⟩ := flat_at (R.to0 E) hx_x
              injection ha_x with ha_x
              subst ha_x
              refine c_skip ?_
              refine e_K (hK21 _ _ _ _ ?_)
              refine c_seq fun K22 hK22 => ?_
              refine c_block ?_
              refine c_seq fun K23 hK23 => ?_
              refine c_region ?_
              refine sv (o_ix sl22 rfl rfl (by omega)) rfl ?_
              refine sv (o_lda ag24 rfl rfl hcs_x) rfl ?_
              refine s_alloc zv24 rfl fun g3 w13 N3 => ?_
              have Lg3_E := N3.le E
              have Dg2_g3 := N3.ne Bg2
              have Da0_g3 := N3.own_ne Oa0
              replace Bg2 := Bg2.mod0 N3.mod
              replace E := E.then N3.mod
              replace Oa0 := Oa0.mod0 N3.mod
              have Bg3 := N3.blk
              refine s_sta (vs := [_, _, _]) ag24 Bg3 rfl rfl rfl (by simp [Value.oneCell']) (by simp) fun w14 P14 => ?_
              replace Bg2 := Bg2.ne P14.mod (Ne.symm (Ne.symm Dg2_g3))
              replace E := E.own P14.mod Lg3_E
              replace Oa0 := Oa0.put P14.mod Da0_g3
              replace Bg3 : Blk w14 g3 _ [_, _, _] := P14.blk
              refine l_nil ?_
              refine e_K (hK23 _ _ _ _ ?_)
              refine c_seq fun K24 hK24 => ?_
              refine c_draw wide (by kernel_rfl) ?_
              refine tv (fun w_ E_ => (o_lda (vs := [_, _, _]) ag24 rfl rfl ((Bg3.mod0 E_).cs rfl))) rfl rfl ?_
              refine tc (fun w_ E_ => o_call ent12 rfl) (fun w_ E_ => c_Of _ x) rfl rfl ?_
              refine tv (fun w_ E_ => (o_lda (vs := [_, _, _]) ag24 rfl rfl ((Bg2.mod0 E_).cs rfl))) rfl rfl ?_
              refine tc (fun w_ E_ => o_call ent12 rfl) (fun w_ E_ => c_Of _ (lastS xs y k)) rfl rfl ?_
              refine tv (fun w_ E_ => (o_steq (se28 ..) rfl rfl rfl)) rfl rfl ?_
              refine tw_nil rfl fun w15 E_ => ?_
              replace Bg2 := Bg2.mod0 E_
              replace Bg3 := Bg3.mod0 E_
              replace E := E.then E_
              replace Oa0 := Oa0.mod0 E_
              refine e_K (hK24 _ _ _ _ ?_)
              refine c_cond rfl (fun h58 => ?_) (fun h58 => ?_)
              · skip
                have heq : x.pair = (lastS xs y k).pair := by simp at h58; simp [Slot.pair, h58]
                refine c_region ?_
                refine sv (o_lda (vs := [_, _, _]) ag24 rfl rfl (Bg3.cs rfl)) rfl ?_
                refine s_sta (vs := [_, _, _]) ag24 Bg2 rfl rfl rfl (by simp [Value.oneCell']) (by simp) fun w16 P16 => ?_
                replace Bg3 := Bg3.ne P16.mod (Ne.symm Dg2_g3)
                replace E := E.own P16.mod Lg2_E
                replace Oa0 := Oa0.put P16.mod Da0_g2
                replace Bg2 : Blk w16 g2 _ [_, _, _] := P16.blk
                refine l_nil ?_
                refine e_in (by simp) ?_
                refine e_K (hK22 _ _ _ _ ?_)
                refine c_region ?_
                refine sv (o_addN rfl rfl (by omega)) rfl ?_
                refine sv (o_mv rfl) rfl ?_
                refine l_nil ?_
                exact e_round (σ := Nat) (s := k) (k + 1) ⟨rfl, rfl, rfl, rfl, rfl, rfl, trivial⟩ ⟨by omega, by rw [lastS_succ hx_x, if_pos heq]; exact Bg2, Oa0, E⟩ (by omega)
              · skip
                have heq : ¬ x.pair = (lastS xs y k).pair := by intro e; simp [Slot.pair] at e; simp [e] at h58
                refine c_skip ?_
                refine e_in (by simp) ?_
                refine e_K (hK22 _ _ _ _ ?_)
                refine c_region ?_
                refine sv (o_addN rfl rfl (by omega)) rfl ?_
                refine sv (o_mv rfl) rfl ?_
                refine l_nil ?_
                exact e_round (σ := Nat) (s := k) (k + 1) ⟨rfl, rfl, rfl, rfl, rfl, rfl, trivial⟩ ⟨by omega, by rw [lastS_succ hx_x, if_neg heq]; exact Bg2, Oa0, E⟩ (by omega)
            · skip
              have hk3 : k = xs.length := by omega
              subst hk3
              have hlst := stS_last hx_y
              refine c_exit ?_
              refine e_then (by simp) ?_
              refine e_then (by simp) ?_
              refine e_hit ?_
              refine e_K (hK18 _ _ _ _ ?_)
              refine c_seq fun K25 hK25 => ?_
              refine c_region ?_
              refine sv (o_mv rfl) rfl ?_
              refine sv (o_lda (vs := [_, _, _]) ag24 rfl rfl (Bg2.cs rfl)) rfl ?_
              refine sc (o_call ent12 rfl) (c_Of _ (lastS xs y xs.length)) rfl fun v_ w17 h_ => ?_
              obtain ⟨rfl, E_⟩ := h_
              replace Bg2 := Bg2.mod0 E_
              replace E := E.then E_
              replace Oa0 := Oa0.mod0 E_
              have RO := Own.slots [] Oa0 (by simp)
              refine sc (o_call ent13 rfl) (c_get [] _ (stS xs xs.length) _ RO (lastS xs y xs.length).pair (stS_asc _ _) (by have := stS_len xs xs.length; omega)) rfl fun v_ w18 h_ => ?_
              obtain ⟨rfl, E_⟩ := h_
              replace Bg2 := Bg2.mod0 E_
              replace E := E.then E_
              replace Oa0 := Oa0.mod0 E_
              refine sv (o_mv rfl) rfl ?_
              refine sv ((o_ext rfl rfl).to (v' := S (lastS xs y xs.length).id) (by rw [hlst]; rfl)) rfl ?_
              refine sv ((o_ext rfl rfl).to (v' := .bool true) (by rw [hlst]; rfl)) rfl ?_
              refine sv (o_as rfl) rfl ?_
              refine sv (o_as rfl) rfl ?_
              refine l_nil ?_
              refine e_K (hK25 _ _ _ _ ?_)
              refine c_seq fun K26 hK26 => ?_
              refine c_region ?_
              refine sv (o_mv rfl) rfl ?_
              have RO := Own.slots [] Oa0 (by simp)
              refine sc (o_call ent10 rfl) (Calls.imp (ψ := fun u w' => u = .bool true ∧ Mod [] _ w') (c_good [] _ _ _ RO) fun u w' h => ⟨h.1.trans (by rw [stS_asc]), h.2⟩) rfl fun v_ w19 h_ => ?_
              obtain ⟨rfl, E_⟩ := h_
              replace Bg2 := Bg2.mod0 E_
              replace E := E.then E_
              replace Oa0 := Oa0.mod0 E_
              refine sv (o_mv rfl) rfl ?_
              refine sg rfl (rfl) (o_mv rfl) rfl ?_
              refine sv (o_pickT (rfl) rfl rfl) rfl ?_
              refine sv (o_mv rfl) rfl ?_
              refine sg rfl (rfl) (o_mv rfl) rfl ?_
              refine sg rfl (rfl) (o_fa0 fd24_2 rfl) rfl ?_
              refine sg rfl (rfl) (o_ld sc9 rfl (Bg2.cell rfl)) rfl ?_
              refine sg rfl (rfl) ((o_seq rfl rfl).to (by rw [decide_eq_true rfl])) rfl ?_
              refine sv (o_pickT (rfl) rfl rfl) rfl ?_
              refine sv (o_as rfl) rfl ?_
              refine l_nil ?_
              refine e_K (hK26 _ _ _ _ ?_)
              refine c_ret ?_
              exact ret1 rfl rfl ⟨rfl, E⟩

end Go.Proofs.Ytccjjkdogljmpaa.V
