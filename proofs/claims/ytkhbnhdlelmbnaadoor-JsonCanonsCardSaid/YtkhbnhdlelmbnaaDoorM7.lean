/-
  A part of the proof: walks of functions. No condition of its own.
-/
import Derived.Test.YtkhbnhdlelmbnaaDoorM6
import Derived.Test.YtkhbnhdlelmbnaaDoorM5
set_option linter.unusedVariables false
set_option linter.unusedSimpArgs false
set_option maxRecDepth 10000
namespace Go.Proofs.YtkhbnhdlelmbnaaDoor.V
open Go Go.Proofs
theorem cmp80 : CmpX Tryd.prog 125 := fun args w => run_callFunc_extern Tryd.func125 (by kernel_rfl) (by kernel_rfl) (by kernel_rfl) (by kernel_rfl) args w
theorem ent120 : Ent Tryd.prog 120 := Ent.of Tryd.func120 (by kernel_rfl) (by kernel_rfl)
theorem ent111 : Ent Tryd.prog 111 := Ent.of Tryd.func111 (by kernel_rfl) (by kernel_rfl)
theorem ent101 : Ent Tryd.prog 101 := Ent.of Tryd.func101 (by kernel_rfl) (by kernel_rfl)
theorem pl62 : plB Tryd.prog 62 [(0, 1), (1, 6)] = true := by kernel_rfl
theorem ent100 : Ent Tryd.prog 100 := Ent.of Tryd.func100 (by kernel_rfl) (by kernel_rfl)
theorem c_cmpS (w : World) (a b : Str) : Calls Tryd.prog 120 [S a, S b].toArray w (Ret fun u w' => u = .int .i64 (scmp a b) ∧ Mod [] w w') := by
  refine enter Tryd.func120 rfl rfl rfl (l := [(0, _), (1, _)]) ⟨rfl, rfl, trivial⟩ ?_
  have E := Mod.refl [] w
  refine c_seq fun K1 hK1 => ?_
  refine c_region ?_
  refine sv (o_as rfl) rfl ?_
  refine l_nil ?_
  refine e_K (hK1 _ _ _ _ ?_)
  refine c_seq fun K2 hK2 => ?_
  refine c_region ?_
  refine sv (o_mv rfl) rfl ?_
  refine sv (o_mv rfl) rfl ?_
  refine sv ((o_cmpstr cmp80 rfl rfl).to (by rw [cmp_scmp])) rfl ?_
  refine sv (o_as rfl) rfl ?_
  refine l_nil ?_
  refine e_K (hK2 _ _ _ _ ?_)
  refine c_ret ?_
  exact ret1 rfl rfl ⟨rfl, E⟩

theorem c_sCmp (w : World) (a b : Str) : Calls Tryd.prog 111 [S a, S b].toArray w (Ret fun u w' => u = .int .i64 (scmp a b) ∧ Mod [] w w') := by
  refine enter Tryd.func111 rfl rfl rfl (l := [(0, _), (1, _)]) ⟨rfl, rfl, trivial⟩ ?_
  have E := Mod.refl [] w
  refine c_seq fun K1 hK1 => ?_
  refine c_region ?_
  refine sv (o_as rfl) rfl ?_
  refine l_nil ?_
  refine e_K (hK1 _ _ _ _ ?_)
  refine c_seq fun K2 hK2 => ?_
  refine c_region ?_
  refine sv (o_mv rfl) rfl ?_
  refine sv (o_mv rfl) rfl ?_
  refine sc (o_call ent120 rfl) (c_cmpS _ _ _) rfl fun v_ w1 h_ => ?_
  obtain ⟨rfl, E_⟩ := h_
  replace E := E.then E_
  refine sv (o_as rfl) rfl ?_
  refine l_nil ?_
  refine e_K (hK2 _ _ _ _ ?_)
  refine c_ret ?_
  exact ret1 rfl rfl ⟨rfl, E⟩

theorem c_byKey (w : World) (a b : Str) (us vs : List Value) : Calls Tryd.prog 101 [.agg (S a :: us).toArray, .agg (S b :: vs).toArray].toArray w (Ret fun u w' => u = .int .i64 (scmp a b) ∧ Mod [] w w') := by
  refine enter Tryd.func101 rfl rfl rfl (l := [(0, _), (1, _)]) ⟨rfl, rfl, trivial⟩ ?_
  have E := Mod.refl [] w
  refine c_seq fun K1 hK1 => ?_
  refine c_region ?_
  refine s_box rfl rfl rfl fun g1 w1 N1 => ?_
  have Lg1_E := N1.le E
  replace E := E.then N1.mod
  have Bg1 := N1.blk
  refine s_box rfl rfl rfl fun g2 w2 N2 => ?_
  have Lg2_E := N2.le E
  have Dg1_g2 := N2.ne Bg1
  replace Bg1 := Bg1.mod0 N2.mod
  replace E := E.then N2.mod
  have Bg2 := N2.blk
  refine sv (o_as rfl) rfl ?_
  refine l_nil ?_
  refine e_K (hK1 _ _ _ _ ?_)
  refine c_seq fun K2 hK2 => ?_
  refine c_region ?_
  refine sv (o_fa0 fd62_0 rfl) rfl ?_
  refine sv (o_ld sc9 rfl (Bg1.cell rfl)) rfl ?_
  refine sv (o_fa0 fd62_0 rfl) rfl ?_
  refine sv (o_ld sc9 rfl (Bg2.cell rfl)) rfl ?_
  refine sc (o_call ent111 rfl) (c_sCmp _ _ _) rfl fun v_ w3 h_ => ?_
  obtain ⟨rfl, E_⟩ := h_
  replace Bg1 := Bg1.mod0 E_
  replace Bg2 := Bg2.mod0 E_
  replace E := E.then E_
  refine sv (o_as rfl) rfl ?_
  refine l_nil ?_
  refine e_K (hK2 _ _ _ _ ?_)
  refine c_ret ?_
  exact ret1 rfl rfl ⟨rfl, E⟩

theorem c_bsM (w : World) (m : List (Str × JV)) (v : Value) (R : Rep [] w (.sl 7 (m.map JV.Dp)) v) (k : Str) (z1 z2 z3 z4 z5 z6 : Value) (ha : ascM m) (hn : m.length ≤ 1353245080310) : Calls Tryd.prog 100 [v, .agg [S k, z1, z2, z3, z4, z5, z6].toArray, .func (.func 101) #[] #[]].toArray w (Ret fun u w' => u = .tuple #[.int .i64 (posM m k), .bool (look m k).isSome] ∧ Mod [] w w') := by
  refine enter Tryd.func100 rfl rfl rfl (l := [(0, _), (1, _), (2, _)]) ⟨rfl, rfl, rfl, trivial⟩ ?_
  have E := Mod.refl [] w
  obtain ⟨ad, c, rfl, hc1, hc2⟩ : ∃ ad c, v = .slice ad m.length c ∧ m.length ≤ c ∧ c ≤ 9223372036854775807 := by
    obtain ⟨ad, c, h1, h2, h3⟩ := R.sl_
    rw [List.length_map] at h1 h2
    exact ⟨ad, c, h1, h2, h3⟩
  refine c_seq fun K1 hK1 => ?_
  refine c_region ?_
  refine s_box rfl rfl rfl fun g1 w1 N1 => ?_
  have Lg1_E := N1.le E
  replace E := E.then N1.mod
  have Bg1 := N1.blk
  refine sv (o_as rfl) rfl ?_
  refine sv (o_as rfl) rfl ?_
  refine l_nil ?_
  refine e_K (hK1 _ _ _ _ ?_)
  refine c_seq fun K2 hK2 => ?_
  refine c_region ?_
  refine sv (o_mv rfl) rfl ?_
  refine sv (o_len Tryd.underlying23 rfl) rfl ?_
  refine sv (o_as rfl) rfl ?_
  refine l_nil ?_
  refine e_K (hK2 _ _ _ _ ?_)
  refine c_seq fun K3 hK3 => ?_
  refine c_region ?_
  refine sv (o_mv rfl) rfl ?_
  refine sv (o_as rfl) rfl ?_
  refine sv (o_as rfl) rfl ?_
  refine l_nil ?_
  refine e_K (hK3 _ _ _ _ ?_)
  refine c_seq fun K4 hK4 => ?_
  refine c_block ?_
  refine c_loop (σ := Nat × Nat) (fun ⟨i, j⟩ => [(0, .slice ad m.length c), (2, .func (.func 101) #[] #[]), (4, .pointer (some ⟨g1, 0, none⟩)), (8, .int .i64 m.length), (9, .int .i64 (i : Int)), (10, .int .i64 (j : Int))]) (fun ⟨i, j⟩ w1 => i ≤ j ∧ j ≤ m.length ∧ (∀ (a : Nat) (y : Str × JV), a < i → m[a]? = some y → bl y.1 k = true) ∧ (∀ (a : Nat) (y : Str × JV), j ≤ a → m[a]? = some y → bl y.1 k = false) ∧ Blk w1 g1 62 [S k, z1, z2, z3, z4, z5, z6] ∧ Mod [] w w1) (fun ⟨i, j⟩ => j - i) (⟨0, m.length⟩) ⟨rfl, rfl, rfl, rfl, rfl, rfl, trivial⟩ (⟨by omega, by omega, fun a y h => by omega, fun a y h hy => (by rw [List.getElem?_eq_none h] at hy; cases hy), Bg1, E⟩) ?_
  rintro ⟨i, j⟩ w2 ⟨hij, hj, h1, h2, Bg1, E⟩
  refine c_seq fun K5 hK5 => ?_
  refine c_seq fun K6 hK6 => ?_
  refine c_region ?_
  refine sv (o_mv rfl) rfl ?_
  refine sv (o_mv rfl) rfl ?_
  refine sv (o_lss rfl rfl) rfl ?_
  refine l_nil ?_
  refine e_K (hK6 _ _ _ _ ?_)
  refine c_if rfl (fun h17 => ?_) (fun h17 => ?_)
  · skip
    have hlt : (i + j) / 2 < m.length := by omega
    obtain ⟨x, hx_x⟩ : ∃ x, m[((i + j) / 2)]? = some x := ⟨_, List.getElem?_eq_getElem (by omega)⟩
    obtain ⟨a_x, us_x, ha_x, R_x, hcs0_x⟩ := JV.at_m R hx_x
    obtain ⟨al_x, cl_x, am_x, cm_x, rfl, Rl_x, Rm_x⟩ := JV.cells_ R_x
    have hcs_x := hcs0_x.mod0 E
    have hcap_x := JV.cap_m R
    obtain rfl := ha_x
    refine c_skip ?_
    refine e_K (hK5 _ _ _ _ ?_)
    refine c_block ?_
    refine c_seq fun K7 hK7 => ?_
    refine c_region ?_
    refine sv (o_mv rfl) rfl ?_
    refine sv (o_mv rfl) rfl ?_
    refine sv (o_addN rfl rfl (by omega)) rfl ?_
    refine sv (o_convE (r := ((i : Int) + j)) Tryd.underlying3 Tryd.underlying96 rfl (wrapu64_in _ (by omega))) rfl ?_
    refine sv (o_shrE (r := (((i + j) / 2 : Nat) : Int)) rfl rfl (by omega) (by rw [← half_cast]; exact fdiv_two _)) rfl ?_
    refine sv (o_convE (r := (((i + j) / 2 : Nat) : Int)) Tryd.underlying96 Tryd.underlying3 rfl (wrap64_in _ (by omega))) rfl ?_
    refine sv (o_as rfl) rfl ?_
    refine l_nil ?_
    refine e_K (hK7 _ _ _ _ ?_)
    refine c_seq fun K8 hK8 => ?_
    refine c_draw wide (by kernel_rfl) ?_
    refine tv (fun w_ E_ => (o_mv rfl)) rfl rfl ?_
    refine tv (fun w_ E_ => (o_mv rfl)) rfl rfl ?_
    refine tv (fun w_ E_ => (o_mv rfl)) rfl rfl ?_
    refine tv (fun w_ E_ => (o_ix sl23 rfl rfl (by omega))) rfl rfl ?_
    refine tv (fun w_ E_ => (o_lda ag62 rfl rfl (hcs_x.mod0 E_))) rfl rfl ?_
    refine tv (fun w_ E_ => (o_lda (vs := [_, _, _, _, _, _, _]) ag62 rfl rfl ((Bg1.mod0 E_).cs rfl))) rfl rfl ?_
    refine tc (fun w_ E_ => o_callv ent101 rfl rfl) (fun w_ E_ => c_byKey _ x.1 k _ _) rfl rfl ?_
    refine tv (fun w_ E_ => (o_lss rfl rfl)) rfl rfl ?_
    refine tw_nil rfl fun w3 E_ => ?_
    replace Bg1 := Bg1.mod0 E_
    replace E := E.then E_
    refine e_K (hK8 _ _ _ _ ?_)
    refine c_if rfl (fun h31 => ?_) (fun h31 => ?_)
    · skip
      have hlow : ∀ (a : Nat) (y : Str × JV), a < (i + j) / 2 + 1 → m[a]? = some y → bl y.1 k = true := fun a y hal hy => by
        rcases Nat.lt_succ_iff_lt_or_eq.1 hal with h | h
        · exact bl_trans (ascM_lt ha hy hx_x h) (scmp_lt.1 h31)
        · subst h; rw [hx_x] at hy; injection hy with hy; subst hy; exact scmp_lt.1 h31
      refine c_region ?_
      refine sv (o_mv rfl) rfl ?_
      refine sv (o_addE (r := (((i + j) / 2 + 1 : Nat) : Int)) rfl rfl (by rw [wrap64_in _ (by omega)]; omega)) rfl ?_
      refine sv (o_as rfl) rfl ?_
      refine l_nil ?_
      refine e_in (by simp) ?_
      exact e_round (σ := Nat × Nat) (s := ⟨i, j⟩) (⟨(i + j) / 2 + 1, j⟩) ⟨rfl, rfl, rfl, rfl, rfl, rfl, trivial⟩ ⟨by omega, by omega, hlow, h2, Bg1, E⟩ (by dsimp only; omega)
    · skip
      have hhi : ∀ (a : Nat) (y : Str × JV), (i + j) / 2 ≤ a → m[a]? = some y → bl y.1 k = false := fun a y hal hy => by
        cases hpy : bl y.1 k with
        | false => rfl
        | true =>
          rcases Nat.lt_or_ge ((i + j) / 2) a with h | h
          · exact absurd (scmp_lt.2 (bl_trans (ascM_lt ha hx_x hy h) hpy)) h31
          · have : a = (i + j) / 2 := by omega
            subst this
            rw [hx_x] at hy; injection hy with hy; subst hy; exact absurd (scmp_lt.2 hpy) h31
      refine c_region ?_
      refine sv (o_mv rfl) rfl ?_
      refine sv (o_as rfl) rfl ?_
      refine l_nil ?_
      refine e_in (by simp) ?_
      exact e_round (σ := Nat × Nat) (s := ⟨i, j⟩) (⟨i, (i + j) / 2⟩) ⟨rfl, rfl, rfl, rfl, rfl, rfl, trivial⟩ ⟨by omega, by omega, h1, hhi, Bg1, E⟩ (by dsimp only; omega)
  · skip
    refine c_exit ?_
    refine e_then (by simp) ?_
    refine e_then (by simp) ?_
    refine e_hit ?_
    refine e_K (hK4 _ _ _ _ ?_)
    refine c_seq fun K9 hK9 => ?_
    by_cases hs8_0 : (i : Int) < (m.length : Int)
    · skip
      have hij2 : i = j := by omega
      subst hij2
      have hpos := posM_eq (by omega) h1 h2
      obtain ⟨x, hx_x⟩ : ∃ x, m[i]? = some x := ⟨_, List.getElem?_eq_getElem (by omega)⟩
      obtain ⟨a_x, us_x, ha_x, R_x, hcs0_x⟩ := JV.at_m R hx_x
      obtain ⟨al_x, cl_x, am_x, cm_x, rfl, Rl_x, Rm_x⟩ := JV.cells_ R_x
      have hcs_x := hcs0_x.mod0 E
      have hcap_x := JV.cap_m R
      obtain rfl := ha_x
      have hE2 : decide (scmp x.1 k = 0) = (look m k).isSome := (isM ha hpos hx_x).symm
      refine c_draw wide (by kernel_rfl) ?_
      refine tv (fun w_ E_ => (o_mv rfl)) rfl rfl ?_
      refine tv (fun w_ E_ => (o_mv rfl)) rfl rfl ?_
      refine tv (fun w_ E_ => (o_mv rfl)) rfl rfl ?_
      refine tv (fun w_ E_ => (o_lss rfl rfl)) rfl rfl ?_
      refine tv (fun w_ E_ => (o_mv rfl)) rfl rfl ?_
      refine tvg rfl (decide_eq_true hs8_0) (fun w_ E_ => (o_mv rfl)) rfl rfl ?_
      refine tvg rfl (decide_eq_true hs8_0) (fun w_ E_ => (o_mv rfl)) rfl rfl ?_
      refine tvg rfl (decide_eq_true hs8_0) (fun w_ E_ => (o_mv rfl)) rfl rfl ?_
      refine tvg rfl (decide_eq_true hs8_0) (fun w_ E_ => (o_ix sl23 rfl rfl (by omega))) rfl rfl ?_
      refine tvg rfl (decide_eq_true hs8_0) (fun w_ E_ => (o_lda ag62 rfl rfl (hcs_x.mod0 E_))) rfl rfl ?_
      refine tvg rfl (decide_eq_true hs8_0) (fun w_ E_ => (o_lda (vs := [_, _, _, _, _, _, _]) ag62 rfl rfl ((Bg1.mod0 E_).cs rfl))) rfl rfl ?_
      refine tcg rfl (decide_eq_true hs8_0) (fun w_ E_ => o_callv ent101 rfl rfl) (fun w_ E_ => c_byKey _ x.1 k _ _) rfl rfl ?_
      refine tvg rfl (decide_eq_true hs8_0) (fun w_ E_ => (o_eql rfl rfl)) rfl rfl ?_
      refine tv (fun w_ E_ => (o_pickT (decide_eq_true hs8_0) rfl rfl)) rfl rfl ?_
      refine tv (fun w_ E_ => (o_as rfl)) rfl rfl ?_
      refine tv (fun w_ E_ => (o_as rfl)) rfl rfl ?_
      refine tw_nil rfl fun w4 E_ => ?_
      replace Bg1 := Bg1.mod0 E_
      replace E := E.then E_
      refine e_K (hK9 _ _ _ _ ?_)
      refine c_ret ?_
      exact ret2 rfl rfl rfl ⟨by rw [hpos, ← hE2], E⟩
    · skip
      have hij2 : i = j := by omega
      subst hij2
      have hpos := posM_eq (by omega) h1 h2
      have hE2 : false = (look m k).isSome := (isM_end ha (by omega)).symm
      refine c_draw wide (by kernel_rfl) ?_
      refine tv (fun w_ E_ => (o_mv rfl)) rfl rfl ?_
      refine tv (fun w_ E_ => (o_mv rfl)) rfl rfl ?_
      refine tv (fun w_ E_ => (o_mv rfl)) rfl rfl ?_
      refine tv (fun w_ E_ => (o_lss rfl rfl)) rfl rfl ?_
      refine tv (fun w_ E_ => (o_mv rfl)) rfl rfl ?_
      refine tn rfl (fun e_ => absurd ((decide_eq_false hs8_0).symm.trans e_) (by decide)) rfl ?_
      refine tn rfl (fun e_ => absurd ((decide_eq_false hs8_0).symm.trans e_) (by decide)) rfl ?_
      refine tn rfl (fun e_ => absurd ((decide_eq_false hs8_0).symm.trans e_) (by decide)) rfl ?_
      refine tn rfl (fun e_ => absurd ((decide_eq_false hs8_0).symm.trans e_) (by decide)) rfl ?_
      refine tn rfl (fun e_ => absurd ((decide_eq_false hs8_0).symm.trans e_) (by decide)) rfl ?_
      refine tn rfl (fun e_ => absurd ((decide_eq_false hs8_0).symm.trans e_) (by decide)) rfl ?_
      refine tn rfl (fun e_ => absurd ((decide_eq_false hs8_0).symm.trans e_) (by decide)) rfl ?_
      refine tn rfl (fun e_ => absurd ((decide_eq_false hs8_0).symm.trans e_) (by decide)) rfl ?_
      refine tv (fun w_ E_ => (o_pickF (decide_eq_false hs8_0) rfl rfl)) rfl rfl ?_
      refine tv (fun w_ E_ => (o_as rfl)) rfl rfl ?_
      refine tv (fun w_ E_ => (o_as rfl)) rfl rfl ?_
      refine tw_nil rfl fun w5 E_ => ?_
      replace Bg1 := Bg1.mod0 E_
      replace E := E.then E_
      refine e_K (hK9 _ _ _ _ ?_)
      refine c_ret ?_
      exact ret2 rfl rfl rfl ⟨by rw [hpos, ← hE2], E⟩

theorem c_jfind (w : World) (m : List (Str × JV)) (v : Value) (R : Rep [] w (.sl 7 (m.map JV.Dp)) v) (k : Str) (ha : ascM m) (hn : m.length ≤ 1353245080310) : Calls Tryd.prog 86 [v, S k].toArray w (Ret fun u w' => u = .tuple #[.int .i64 (posM m k), .bool (look m k).isSome] ∧ Mod [] w w') := by
  refine enter Tryd.func86 rfl rfl rfl (l := [(0, _), (1, _)]) ⟨rfl, rfl, trivial⟩ ?_
  have E := Mod.refl [] w
  refine c_seq fun K1 hK1 => ?_
  refine c_region ?_
  refine sv (o_as rfl) rfl ?_
  refine sv (o_as rfl) rfl ?_
  refine l_nil ?_
  refine e_K (hK1 _ _ _ _ ?_)
  refine c_seq fun K2 hK2 => ?_
  refine c_region ?_
  refine sv (o_mv rfl) rfl ?_
  refine sv (o_mv rfl) rfl ?_
  refine sv (o_build (cs := [_, _, _, _, _, _, _]) pl62 zv62 rfl rfl) rfl ?_
  refine sc (o_call ent100 rfl) (c_bsM _ m _ (R.to0 E) k _ _ _ _ _ _ ha hn) rfl fun v_ w1 h_ => ?_
  obtain ⟨rfl, E_⟩ := h_
  replace E := E.then E_
  refine sv (o_ext rfl rfl) rfl ?_
  refine sv (o_ext rfl rfl) rfl ?_
  refine sv (o_as rfl) rfl ?_
  refine sv (o_as rfl) rfl ?_
  refine l_nil ?_
  refine e_K (hK2 _ _ _ _ ?_)
  refine c_ret ?_
  exact ret2 rfl rfl rfl ⟨rfl, E⟩
end Go.Proofs.YtkhbnhdlelmbnaaDoor.V

set_option linter.unusedVariables false
set_option linter.unusedSimpArgs false
set_option maxRecDepth 10000
namespace Go.Proofs.YtkhbnhdlelmbnaaDoor.V
open Go Go.Proofs
theorem ent86 : Ent Tryd.prog 86 := Ent.of Tryd.func86 (by kernel_rfl) (by kernel_rfl)
theorem pl25 : plB Tryd.prog 25 [(0, 1), (1, 1), (2, 1), (3, 1), (4, 1), (5, 1)] = true := by kernel_rfl
theorem c_jget (A : List Nat) (w0 w : World) (E0 : Mod [] w0 w) (v : JV) (us : List Value) (R : Reps A w0 v.D us) (k : Str) (ha : ascM v.map) (hn : v.map.length ≤ 1353245080310) : Calls Tryd.prog 71 [.agg us.toArray, S k].toArray w (Ret fun u w' => ∃ us', u = .tuple #[.agg us'.toArray, .bool (v.get k).isSome] ∧ Reps A w0 ((v.get k).getD JV.nul).D us' ∧ Mod [] w w') := by
  refine enter Tryd.func71 rfl rfl rfl (l := [(0, _), (1, _)]) ⟨rfl, rfl, trivial⟩ ?_
  have E := Mod.refl [] w
  obtain ⟨al, cl, am, cm, rfl, Rl, Rm⟩ := JV.cells_ R
  refine c_seq fun K1 hK1 => ?_
  refine c_region ?_
  refine s_box rfl rfl rfl fun g1 w1 N1 => ?_
  have Lg1_E := N1.le E
  replace E := E.then N1.mod
  have Bg1 := N1.blk
  refine s_alloc zv25 rfl fun g2 w2 N2 => ?_
  have Lg2_E := N2.le E
  have Dg1_g2 := N2.ne Bg1
  replace Bg1 := Bg1.mod0 N2.mod
  replace E := E.then N2.mod
  have Bg2 := N2.blk
  refine sv (o_as rfl) rfl ?_
  refine l_nil ?_
  refine e_K (hK1 _ _ _ _ ?_)
  refine c_seq fun K2 hK2 => ?_
  refine c_region ?_
  refine sv (o_fa0 fd25_5 rfl) rfl ?_
  refine sv (o_ld sc23 rfl (Bg1.cell rfl)) rfl ?_
  refine sv (o_mv rfl) rfl ?_
  refine sc (o_call ent86 rfl) (c_jfind _ v.map _ ((Rm.anti (by simp)).to0 (E0.then E)) k ha hn) rfl fun v_ w3 h_ => ?_
  obtain ⟨rfl, E_⟩ := h_
  replace Bg1 := Bg1.mod0 E_
  replace Bg2 := Bg2.mod0 E_
  replace E := E.then E_
  refine sv (o_mv rfl) rfl ?_
  refine sv (o_ext rfl rfl) rfl ?_
  refine sv (o_ext rfl rfl) rfl ?_
  refine sv (o_as rfl) rfl ?_
  refine sv (o_as rfl) rfl ?_
  refine l_nil ?_
  refine e_K (hK2 _ _ _ _ ?_)
  refine c_seq fun K3 hK3 => ?_
  refine c_seq fun K4 hK4 => ?_
  by_cases hs2_0 : v.kind ≠ 5
  · skip
    refine c_region ?_
    refine sv (o_fa0 fd25_0 rfl) rfl ?_
    refine sv (o_ld sc3 rfl (Bg1.cell rfl)) rfl ?_
    refine sv (o_neq rfl rfl) rfl ?_
    refine sv (o_mv rfl) rfl ?_
    refine sn rfl (fun e_ => absurd ((decide_eq_true hs2_0).symm.trans e_) (by decide)) rfl ?_
    refine sn rfl (fun e_ => absurd ((decide_eq_true hs2_0).symm.trans e_) (by decide)) rfl ?_
    refine sv (o_pickT (decide_eq_true hs2_0) rfl rfl) rfl ?_
    refine l_nil ?_
    refine e_K (hK4 _ _ _ _ ?_)
    refine c_true rfl ?_
    have hno : v.get k = none := by simp [JV.get, hs2_0]
    refine c_seq fun K5 hK5 => ?_
    refine c_region ?_
    refine sv (o_build (cs := [_, _, _, _, _, _]) pl25 zv25 rfl rfl) rfl ?_
    refine s_sta (vs := [_, _, _, _, _, _]) ag25 Bg2 rfl rfl rfl (by simp [Value.oneCell']) (by simp) fun w4 P4 => ?_
    replace Bg1 := Bg1.ne P4.mod (Ne.symm (Ne.symm Dg1_g2))
    replace E := E.own P4.mod Lg2_E
    replace Bg2 : Blk w4 g2 _ [_, _, _, _, _, _] := P4.blk
    refine sv (o_as rfl) rfl ?_
    refine l_nil ?_
    refine e_K (hK5 _ _ _ _ ?_)
    refine c_ret ?_
    refine e_then (by simp) ?_
    exact retct (vs := [_, _, _, _, _, _]) rfl ag25 rfl rfl (Bg2.cs rfl) rfl ⟨_, by rw [hno]; rfl, by rw [hno]; exact JV.nul_reps, E⟩
  · skip
    refine c_region ?_
    refine sv (o_fa0 fd25_0 rfl) rfl ?_
    refine sv (o_ld sc3 rfl (Bg1.cell rfl)) rfl ?_
    refine sv (o_neq rfl rfl) rfl ?_
    refine sv (o_mv rfl) rfl ?_
    refine sg rfl (decide_eq_false hs2_0) (o_mv rfl) rfl ?_
    refine sg rfl (decide_eq_false hs2_0) (o_not rfl) rfl ?_
    refine sv (o_pickF (decide_eq_false hs2_0) rfl rfl) rfl ?_
    refine l_nil ?_
    refine e_K (hK4 _ _ _ _ ?_)
    refine c_cond rfl (fun h21 => ?_) (fun h21 => ?_)
    · skip
      have hno : v.get k = none := by
        have h : look v.map k = none := by simpa using h21
        simp [JV.get, h]
      refine c_seq fun K6 hK6 => ?_
      refine c_region ?_
      refine sv (o_build (cs := [_, _, _, _, _, _]) pl25 zv25 rfl rfl) rfl ?_
      refine s_sta (vs := [_, _, _, _, _, _]) ag25 Bg2 rfl rfl rfl (by simp [Value.oneCell']) (by simp) fun w5 P5 => ?_
      replace Bg1 := Bg1.ne P5.mod (Ne.symm (Ne.symm Dg1_g2))
      replace E := E.own P5.mod Lg2_E
      replace Bg2 : Blk w5 g2 _ [_, _, _, _, _, _] := P5.blk
      refine sv (o_as rfl) rfl ?_
      refine l_nil ?_
      refine e_K (hK6 _ _ _ _ ?_)
      refine c_ret ?_
      refine e_then (by simp) ?_
      exact retct (vs := [_, _, _, _, _, _]) rfl ag25 rfl rfl (Bg2.cs rfl) rfl ⟨_, by rw [hno]; rfl, by rw [hno]; exact JV.nul_reps, E⟩
    · skip
      have hk5 : v.kind = 5 := Classical.byContradiction hs2_0
      obtain ⟨x, hx_x, hxk, hxl⟩ := isM_some ha (by simpa using h21)
      have hget : v.get k = some x.2 := by simp [JV.get, hk5, hxl]
      have hpl := (List.getElem?_eq_some_iff.1 hx_x).1
      obtain ⟨a_x, us_x, ha_x, R_x, hcs0_x⟩ := JV.at_m Rm hx_x
      obtain ⟨al_x, cl_x, am_x, cm_x, rfl, Rl_x, Rm_x⟩ := JV.cells_ R_x
      have hcs_x := hcs0_x.mod0 (E0.then E)
      obtain rfl := ha_x
      refine c_skip ?_
      refine e_K (hK3 _ _ _ _ ?_)
      refine c_seq fun K7 hK7 => ?_
      refine c_region ?_
      refine sv (o_fa0 fd25_5 rfl) rfl ?_
      refine sv (o_ld sc23 rfl (Bg1.cell rfl)) rfl ?_
      refine sv (o_mv rfl) rfl ?_
      refine sv (o_ix sl23 rfl rfl (by omega)) rfl ?_
      refine sv (o_fad fd62_1 rfl) rfl ?_
      refine sv (o_lda ag25 rfl rfl hcs_x.tail_) rfl ?_
      refine s_sta (vs := [_, _, _, _, _, _]) ag25 Bg2 rfl rfl rfl (by simp [Value.oneCell']) (by simp) fun w6 P6 => ?_
      replace Bg1 := Bg1.ne P6.mod (Ne.symm (Ne.symm Dg1_g2))
      replace E := E.own P6.mod Lg2_E
      replace Bg2 : Blk w6 g2 _ [_, _, _, _, _, _] := P6.blk
      refine sv (o_as rfl) rfl ?_
      refine l_nil ?_
      refine e_K (hK7 _ _ _ _ ?_)
      refine c_ret ?_
      exact retct (vs := [_, _, _, _, _, _]) rfl ag25 rfl rfl (Bg2.cs rfl) rfl ⟨_, by rw [hget]; rfl, by rw [hget]; exact R_x, E⟩

theorem c_jtable (A : List Nat) (w0 w : World) (v : JV) (us : List Value) (R : Reps A w0 v.D us) : Calls Tryd.prog 88 [.agg us.toArray].toArray w (Ret fun u w' => Rep A w0 (.sl 7 (v.tbl.map JV.Dp)) u ∧ Mod [] w w') := by
  refine enter Tryd.func88 rfl rfl rfl (l := [(0, _)]) ⟨rfl, trivial⟩ ?_
  have E := Mod.refl [] w
  obtain ⟨al, cl, am, cm, rfl, Rl, Rm⟩ := JV.cells_ R
  refine c_seq fun K1 hK1 => ?_
  refine c_region ?_
  refine s_box rfl rfl rfl fun g1 w1 N1 => ?_
  have Lg1_E := N1.le E
  replace E := E.then N1.mod
  have Bg1 := N1.blk
  refine sv (o_as rfl) rfl ?_
  refine l_nil ?_
  refine e_K (hK1 _ _ _ _ ?_)
  refine c_seq fun K2 hK2 => ?_
  refine c_seq fun K3 hK3 => ?_
  refine c_region ?_
  refine sv (o_fa0 fd25_0 rfl) rfl ?_
  refine sv (o_ld sc3 rfl (Bg1.cell rfl)) rfl ?_
  refine sv (o_neq rfl rfl) rfl ?_
  refine l_nil ?_
  refine e_K (hK3 _ _ _ _ ?_)
  refine c_if rfl (fun h5 => ?_) (fun h5 => ?_)
  · skip
    have ht : v.tbl = [] := by simp [JV.tbl, h5]
    refine c_seq fun K4 hK4 => ?_
    refine c_region ?_
    refine sv (o_as rfl) rfl ?_
    refine l_nil ?_
    refine e_K (hK4 _ _ _ _ ?_)
    refine c_ret ?_
    refine e_then (by simp) ?_
    exact ret1 rfl rfl ⟨by rw [ht]; exact Rep.sl_nil, E⟩
  · skip
    have ht : v.tbl = v.map := by simp [JV.tbl]; intro h; exact absurd h h5
    refine c_skip ?_
    refine e_K (hK2 _ _ _ _ ?_)
    refine c_seq fun K5 hK5 => ?_
    refine c_region ?_
    refine sv (o_fa0 fd25_5 rfl) rfl ?_
    refine sv (o_ld sc23 rfl (Bg1.cell rfl)) rfl ?_
    refine sv (o_as rfl) rfl ?_
    refine l_nil ?_
    refine e_K (hK5 _ _ _ _ ?_)
    refine c_ret ?_
    exact ret1 rfl rfl ⟨by rw [ht]; exact Rm, E⟩
end Go.Proofs.YtkhbnhdlelmbnaaDoor.V
