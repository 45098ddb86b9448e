/-
  A part of the proof: a text between quotes, byte by byte; errors' numbers; bytes that grow behind one another while a JSON value is read: what is kept from step to step; events: what they stand for in memory; whether one is greater than is played. No condition of its own.
-/
import Derived.Test.YtkhbnhdlelmbnaaDoorM6
import Derived.Test.YtkhbnhdlelmbnaaDoorM4
import Derived.Test.YtkhbnhdlelmbnaaDoorProg
import Derived.Test.YtkhbnhdlelmbnaaDoorM3
import Derived.Lib.AppendIntMem
import Derived.Lib.LaidTab
import Derived.Shelf.Small.Utf8
import Derived.Shelf.Small.Strs
import Derived.Shelf.Strconv.Itoa0
import Derived.Shelf.Strconv.Itoa1
import Derived.Shelf.LaysM
import Derived.Shelf.Strconv.Itoa2
import Derived.Shelf.Strconv.Itoa3
import Derived.Shelf.Strings.Search1
set_option linter.unusedVariables false
set_option linter.unusedSimpArgs false
set_option maxRecDepth 10000
namespace Go.Proofs.YtkhbnhdlelmbnaaDoor.V
open Go Go.Proofs
theorem cmp80 : CmpX Tryd.prog 125 := fun args w => run_callFunc_extern Tryd.func125 (by kernel_rfl) (by kernel_rfl) (by kernel_rfl) (by kernel_rfl) args w
theorem ent120 : Ent Tryd.prog 120 := Ent.of Tryd.func120 (by kernel_rfl) (by kernel_rfl)
theorem ent111 : Ent Tryd.prog 111 := Ent.of Tryd.func111 (by kernel_rfl) (by kernel_rfl)
theorem ent101 : Ent Tryd.prog 101 := Ent.of Tryd.func101 (by kernel_rfl) (by kernel_rfl)
theorem pl62 : plB Tryd.prog 62 [(0, 1), (1, 6)] = true := by kernel_rfl
theorem ent100 : Ent Tryd.prog 100 := Ent.of Tryd.func100 (by kernel_rfl) (by kernel_rfl)
theorem c_cmpS (w : World) (a b : Str) : Calls Tryd.prog 120 [S a, S b].toArray w (Ret fun u w' => u = .int .i64 (scmp a b) ∧ Mod [] w w') := by
  refine enter Tryd.func120 rfl rfl rfl (l := [(0, _), (1, _)]) ⟨rfl, rfl, trivial⟩ ?_
  have E := Mod.refl [] w
  refine c_seq fun K1 hK1 => ?_
  refine c_region ?_
  refine sv (o_as rfl) rfl ?_
  refine l_nil ?_
  refine e_K (hK1 _ _ _ _ ?_)
  refine c_seq fun K2 hK2 => ?_
  refine c_region ?_
  refine sv (o_mv rfl) rfl ?_
  refine sv (o_mv rfl) rfl ?_
  refine sv ((o_cmpstr cmp80 rfl rfl).to (by rw [cmp_scmp])) rfl ?_
  refine sv (o_as rfl) rfl ?_
  refine l_nil ?_
  refine e_K (hK2 _ _ _ _ ?_)
  refine c_ret ?_
  exact ret1 rfl rfl ⟨rfl, E⟩

theorem c_sCmp (w : World) (a b : Str) : Calls Tryd.prog 111 [S a, S b].toArray w (Ret fun u w' => u = .int .i64 (scmp a b) ∧ Mod [] w w') := by
  refine enter Tryd.func111 rfl rfl rfl (l := [(0, _), (1, _)]) ⟨rfl, rfl, trivial⟩ ?_
  have E := Mod.refl [] w
  refine c_seq fun K1 hK1 => ?_
  refine c_region ?_
  refine sv (o_as rfl) rfl ?_
  refine l_nil ?_
  refine e_K (hK1 _ _ _ _ ?_)
  refine c_seq fun K2 hK2 => ?_
  refine c_region ?_
  refine sv (o_mv rfl) rfl ?_
  refine sv (o_mv rfl) rfl ?_
  refine sc (o_call ent120 rfl) (c_cmpS _ _ _) rfl fun v_ w1 h_ => ?_
  obtain ⟨rfl, E_⟩ := h_
  replace E := E.then E_
  refine sv (o_as rfl) rfl ?_
  refine l_nil ?_
  refine e_K (hK2 _ _ _ _ ?_)
  refine c_ret ?_
  exact ret1 rfl rfl ⟨rfl, E⟩

theorem c_byKey (w : World) (a b : Str) (us vs : List Value) : Calls Tryd.prog 101 [.agg (S a :: us).toArray, .agg (S b :: vs).toArray].toArray w (Ret fun u w' => u = .int .i64 (scmp a b) ∧ Mod [] w w') := by
  refine enter Tryd.func101 rfl rfl rfl (l := [(0, _), (1, _)]) ⟨rfl, rfl, trivial⟩ ?_
  have E := Mod.refl [] w
  refine c_seq fun K1 hK1 => ?_
  refine c_region ?_
  refine s_box rfl rfl rfl fun g1 w1 N1 => ?_
  have Lg1_E := N1.le E
  replace E := E.then N1.mod
  have Bg1 := N1.blk
  refine s_box rfl rfl rfl fun g2 w2 N2 => ?_
  have Lg2_E := N2.le E
  have Dg1_g2 := N2.ne Bg1
  replace Bg1 := Bg1.mod0 N2.mod
  replace E := E.then N2.mod
  have Bg2 := N2.blk
  refine sv (o_as rfl) rfl ?_
  refine l_nil ?_
  refine e_K (hK1 _ _ _ _ ?_)
  refine c_seq fun K2 hK2 => ?_
  refine c_region ?_
  refine sv (o_fa0 fd62_0 rfl) rfl ?_
  refine sv (o_ld sc9 rfl (Bg1.cell rfl)) rfl ?_
  refine sv (o_fa0 fd62_0 rfl) rfl ?_
  refine sv (o_ld sc9 rfl (Bg2.cell rfl)) rfl ?_
  refine sc (o_call ent111 rfl) (c_sCmp _ _ _) rfl fun v_ w3 h_ => ?_
  obtain ⟨rfl, E_⟩ := h_
  replace Bg1 := Bg1.mod0 E_
  replace Bg2 := Bg2.mod0 E_
  replace E := E.then E_
  refine sv (o_as rfl) rfl ?_
  refine l_nil ?_
  refine e_K (hK2 _ _ _ _ ?_)
  refine c_ret ?_
  exact ret1 rfl rfl ⟨rfl, E⟩

theorem c_bsM (w : World) (m : List (Str × JV)) (v : Value) (R : Rep [] w (.sl 7 (m.map JV.Dp)) v) (k : Str) (z1 z2 z3 z4 z5 z6 : Value) (ha : ascM m) (hn : m.length ≤ 1353245080310) : Calls Tryd.prog 100 [v, .agg [S k, z1, z2, z3, z4, z5, z6].toArray, .func (.func 101) #[] #[]].toArray w (Ret fun u w' => u = .tuple #[.int .i64 (posM m k), .bool (look m k).isSome] ∧ Mod [] w w') := by
  refine enter Tryd.func100 rfl rfl rfl (l := [(0, _), (1, _), (2, _)]) ⟨rfl, rfl, rfl, trivial⟩ ?_
  have E := Mod.refl [] w
  obtain ⟨ad, c, rfl, hc1, hc2⟩ : ∃ ad c, v = .slice ad m.length c ∧ m.length ≤ c ∧ c ≤ 9223372036854775807 := by
    obtain ⟨ad, c, h1, h2, h3⟩ := R.sl_
    rw [List.length_map] at h1 h2
    exact ⟨ad, c, h1, h2, h3⟩
  refine c_seq fun K1 hK1 => ?_
  refine c_region ?_
  refine s_box rfl rfl rfl fun g1 w1 N1 => ?_
  have Lg1_E := N1.le E
  replace E := E.then N1.mod
  have Bg1 := N1.blk
  refine sv (o_as rfl) rfl ?_
  refine sv (o_as rfl) rfl ?_
  refine l_nil ?_
  refine e_K (hK1 _ _ _ _ ?_)
  refine c_seq fun K2 hK2 => ?_
  refine c_region ?_
  refine sv (o_mv rfl) rfl ?_
  refine sv (o_len Tryd.underlying23 rfl) rfl ?_
  refine sv (o_as rfl) rfl ?_
  refine l_nil ?_
  refine e_K (hK2 _ _ _ _ ?_)
  refine c_seq fun K3 hK3 => ?_
  refine c_region ?_
  refine sv (o_mv rfl) rfl ?_
  refine sv (o_as rfl) rfl ?_
  refine sv (o_as rfl) rfl ?_
  refine l_nil ?_
  refine e_K (hK3 _ _ _ _ ?_)
  refine c_seq fun K4 hK4 => ?_
  refine c_block ?_
  refine c_loop (σ := Nat × Nat) (fun ⟨i, j⟩ => [(0, .slice ad m.length c), (2, .func (.func 101) #[] #[]), (4, .pointer (some ⟨g1, 0, none⟩)), (8, .int .i64 m.length), (9, .int .i64 (i : Int)), (10, .int .i64 (j : Int))]) (fun ⟨i, j⟩ w1 => i ≤ j ∧ j ≤ m.length ∧ (∀ (a : Nat) (y : Str × JV), a < i → m[a]? = some y → bl y.1 k = true) ∧ (∀ (a : Nat) (y : Str × JV), j ≤ a → m[a]? = some y → bl y.1 k = false) ∧ Blk w1 g1 62 [S k, z1, z2, z3, z4, z5, z6] ∧ Mod [] w w1) (fun ⟨i, j⟩ => j - i) (⟨0, m.length⟩) ⟨rfl, rfl, rfl, rfl, rfl, rfl, trivial⟩ (⟨by omega, by omega, fun a y h => by omega, fun a y h hy => (by rw [List.getElem?_eq_none h] at hy; cases hy), Bg1, E⟩) ?_
  rintro ⟨i, j⟩ w2 ⟨hij, hj, h1, h2, Bg1, E⟩
  refine c_seq fun K5 hK5 => ?_
  refine c_seq fun K6 hK6 => ?_
  refine c_region ?_
  refine sv (o_mv rfl) rfl ?_
  refine sv (o_mv rfl) rfl ?_
  refine sv (o_lss rfl rfl) rfl ?_
  refine l_nil ?_
  refine e_K (hK6 _ _ _ _ ?_)
  refine c_if rfl (fun h17 => ?_) (fun h17 => ?_)
  · skip
    have hlt : (i + j) / 2 < m.length := by omega
    obtain ⟨x, hx_x⟩ : ∃ x, m[((i + j) / 2)]? = some x := ⟨_, List.getElem?_eq_getElem (by omega)⟩
    obtain ⟨a_x, us_x, ha_x, R_x, hcs0_x⟩ := JV.at_m R hx_x
    obtain ⟨al_x, cl_x, am_x, cm_x, rfl, Rl_x, Rm_x⟩ := JV.cells_ R_x
    have hcs_x := hcs0_x.mod0 E
    have hcap_x := JV.cap_m R
    obtain rfl := ha_x
    refine c_skip ?_
    refine e_K (hK5 _ _ _ _ ?_)
    refine c_block ?_
    refine c_seq fun K7 hK7 => ?_
    refine c_region ?_
    refine sv (o_mv rfl) rfl ?_
    refine sv (o_mv rfl) rfl ?_
    refine sv (o_addN rfl rfl (by omega)) rfl ?_
    refine sv (o_convE (r := ((i : Int) + j)) Tryd.underlying3 Tryd.underlying96 rfl (wrapu64_in _ (by omega))) rfl ?_
    refine sv (o_shrE (r := (((i + j) / 2 : Nat) : Int)) rfl rfl (by omega) (by rw [← half_cast]; exact fdiv_two _)) rfl ?_
    refine sv (o_convE (r := (((i + j) / 2 : Nat) : Int)) Tryd.underlying96 Tryd.underlying3 rfl (wrap64_in _ (by omega))) rfl ?_
    refine sv (o_as rfl) rfl ?_
    refine l_nil ?_
    refine e_K (hK7 _ _ _ _ ?_)
    refine c_seq fun K8 hK8 => ?_
    refine c_draw wide (by kernel_rfl) ?_
    refine tv (fun w_ E_ => (o_mv rfl)) rfl rfl ?_
    refine tv (fun w_ E_ => (o_mv rfl)) rfl rfl ?_
    refine tv (fun w_ E_ => (o_mv rfl)) rfl rfl ?_
    refine tv (fun w_ E_ => (o_ix sl23 rfl rfl (by omega))) rfl rfl ?_
    refine tv (fun w_ E_ => (o_lda ag62 rfl rfl (hcs_x.mod0 E_))) rfl rfl ?_
    refine tv (fun w_ E_ => (o_lda (vs := [_, _, _, _, _, _, _]) ag62 rfl rfl ((Bg1.mod0 E_).cs rfl))) rfl rfl ?_
    refine tc (fun w_ E_ => o_callv ent101 rfl rfl) (fun w_ E_ => c_byKey _ x.1 k _ _) rfl rfl ?_
    refine tv (fun w_ E_ => (o_lss rfl rfl)) rfl rfl ?_
    refine tw_nil rfl fun w3 E_ => ?_
    replace Bg1 := Bg1.mod0 E_
    replace E := E.then E_
    refine e_K (hK8 _ _ _ _ ?_)
    refine c_if rfl (fun h31 => ?_) (fun h31 => ?_)
    · skip
      have hlow : ∀ (a : Nat) (y : Str × JV), a < (i + j) / 2 + 1 → m[a]? = some y → bl y.1 k = true := fun a y hal hy => by
        rcases Nat.lt_succ_iff_lt_or_eq.1 hal with h | h
        · exact bl_trans (ascM_lt ha hy hx_x h) (scmp_lt.1 h31)
        · subst h; rw [hx_x] at hy; injection hy with hy; subst hy; exact scmp_lt.1 h31
      refine c_region ?_
      refine sv (o_mv rfl) rfl ?_
      refine sv (o_addE (r := (((i + j) / 2 + 1 : Nat) : Int)) rfl rfl (by rw [wrap64_in _ (by omega)]; omega)) rfl ?_
      refine sv (o_as rfl) rfl ?_
      refine l_nil ?_
      refine e_in (by simp) ?_
      exact e_round (σ := Nat × Nat) (s := ⟨i, j⟩) (⟨(i + j) / 2 + 1, j⟩) ⟨rfl, rfl, rfl, rfl, rfl, rfl, trivial⟩ ⟨by omega, by omega, hlow, h2, Bg1, E⟩ (by dsimp only; omega)
    · skip
      have hhi : ∀ (a : Nat) (y : Str × JV), (i + j) / 2 ≤ a → m[a]? = some y → bl y.1 k = false := fun a y hal hy => by
        cases hpy : bl y.1 k with
        | false => rfl
        | true =>
          rcases Nat.lt_or_ge ((i + j) / 2) a with h | h
          · exact absurd (scmp_lt.2 (bl_trans (ascM_lt ha hx_x hy h) hpy)) h31
          · have : a = (i + j) / 2 := by omega
            subst this
            rw [hx_x] at hy; injection hy with hy; subst hy; exact absurd (scmp_lt.2 hpy) h31
      refine c_region ?_
      refine sv (o_mv rfl) rfl ?_
      refine sv (o_as rfl) rfl ?_
      refine l_nil ?_
      refine e_in (by simp) ?_
      exact e_round (σ := Nat × Nat) (s := ⟨i, j⟩) (⟨i, (i + j) / 2⟩) ⟨rfl, rfl, rfl, rfl, rfl, rfl, trivial⟩ ⟨by omega, by omega, h1, hhi, Bg1, E⟩ (by dsimp only; omega)
  · skip
    refine c_exit ?_
    refine e_then (by simp) ?_
    refine e_then (by simp) ?_
    refine e_hit ?_
    refine e_K (hK4 _ _ _ _ ?_)
    refine c_seq fun K9 hK9 => ?_
    by_cases hs8_0 : (i : Int) < (m.length : Int)
    · skip
      have hij2 : i = j := by omega
      subst hij2
      have hpos := posM_eq (by omega) h1 h2
      obtain ⟨x, hx_x⟩ : ∃ x, m[i]? = some x := ⟨_, List.getElem?_eq_getElem (by omega)⟩
      obtain ⟨a_x, us_x, ha_x, R_x, hcs0_x⟩ := JV.at_m R hx_x
      obtain ⟨al_x, cl_x, am_x, cm_x, rfl, Rl_x, Rm_x⟩ := JV.cells_ R_x
      have hcs_x := hcs0_x.mod0 E
      have hcap_x := JV.cap_m R
      obtain rfl := ha_x
      have hE2 : decide (scmp x.1 k = 0) = (look m k).isSome := (isM ha hpos hx_x).symm
      refine c_draw wide (by kernel_rfl) ?_
      refine tv (fun w_ E_ => (o_mv rfl)) rfl rfl ?_
      refine tv (fun w_ E_ => (o_mv rfl)) rfl rfl ?_
      refine tv (fun w_ E_ => (o_mv rfl)) rfl rfl ?_
      refine tv (fun w_ E_ => (o_lss rfl rfl)) rfl rfl ?_
      refine tv (fun w_ E_ => (o_mv rfl)) rfl rfl ?_
      refine tvg rfl (decide_eq_true hs8_0) (fun w_ E_ => (o_mv rfl)) rfl rfl ?_
      refine tvg rfl (decide_eq_true hs8_0) (fun w_ E_ => (o_mv rfl)) rfl rfl ?_
      refine tvg rfl (decide_eq_true hs8_0) (fun w_ E_ => (o_mv rfl)) rfl rfl ?_
      refine tvg rfl (decide_eq_true hs8_0) (fun w_ E_ => (o_ix sl23 rfl rfl (by omega))) rfl rfl ?_
      refine tvg rfl (decide_eq_true hs8_0) (fun w_ E_ => (o_lda ag62 rfl rfl (hcs_x.mod0 E_))) rfl rfl ?_
      refine tvg rfl (decide_eq_true hs8_0) (fun w_ E_ => (o_lda (vs := [_, _, _, _, _, _, _]) ag62 rfl rfl ((Bg1.mod0 E_).cs rfl))) rfl rfl ?_
      refine tcg rfl (decide_eq_true hs8_0) (fun w_ E_ => o_callv ent101 rfl rfl) (fun w_ E_ => c_byKey _ x.1 k _ _) rfl rfl ?_
      refine tvg rfl (decide_eq_true hs8_0) (fun w_ E_ => (o_eql rfl rfl)) rfl rfl ?_
      refine tv (fun w_ E_ => (o_pickT (decide_eq_true hs8_0) rfl rfl)) rfl rfl ?_
      refine tv (fun w_ E_ => (o_as rfl)) rfl rfl ?_
      refine tv (fun w_ E_ => (o_as rfl)) rfl rfl ?_
      refine tw_nil rfl fun w4 E_ => ?_
      replace Bg1 := Bg1.mod0 E_
      replace E := E.then E_
      refine e_K (hK9 _ _ _ _ ?_)
      refine c_ret ?_
      exact ret2 rfl rfl rfl ⟨by rw [hpos, ← hE2], E⟩
    · skip
      have hij2 : i = j := by omega
      subst hij2
      have hpos := posM_eq (by omega) h1 h2
      have hE2 : false = (look m k).isSome := (isM_end ha (by omega)).symm
      refine c_draw wide (by kernel_rfl) ?_
      refine tv (fun w_ E_ => (o_mv rfl)) rfl rfl ?_
      refine tv (fun w_ E_ => (o_mv rfl)) rfl rfl ?_
      refine tv (fun w_ E_ => (o_mv rfl)) rfl rfl ?_
      refine tv (fun w_ E_ => (o_lss rfl rfl)) rfl rfl ?_
      refine tv (fun w_ E_ => (o_mv rfl)) rfl rfl ?_
      refine tn rfl (fun e_ => absurd ((decide_eq_false hs8_0).symm.trans e_) (by decide)) rfl ?_
      refine tn rfl (fun e_ => absurd ((decide_eq_false hs8_0).symm.trans e_) (by decide)) rfl ?_
      refine tn rfl (fun e_ => absurd ((decide_eq_false hs8_0).symm.trans e_) (by decide)) rfl ?_
      refine tn rfl (fun e_ => absurd ((decide_eq_false hs8_0).symm.trans e_) (by decide)) rfl ?_
      refine tn rfl (fun e_ => absurd ((decide_eq_false hs8_0).symm.trans e_) (by decide)) rfl ?_
      refine tn rfl (fun e_ => absurd ((decide_eq_false hs8_0).symm.trans e_) (by decide)) rfl ?_
      refine tn rfl (fun e_ => absurd ((decide_eq_false hs8_0).symm.trans e_) (by decide)) rfl ?_
      refine tn rfl (fun e_ => absurd ((decide_eq_false hs8_0).symm.trans e_) (by decide)) rfl ?_
      refine tv (fun w_ E_ => (o_pickF (decide_eq_false hs8_0) rfl rfl)) rfl rfl ?_
      refine tv (fun w_ E_ => (o_as rfl)) rfl rfl ?_
      refine tv (fun w_ E_ => (o_as rfl)) rfl rfl ?_
      refine tw_nil rfl fun w5 E_ => ?_
      replace Bg1 := Bg1.mod0 E_
      replace E := E.then E_
      refine e_K (hK9 _ _ _ _ ?_)
      refine c_ret ?_
      exact ret2 rfl rfl rfl ⟨by rw [hpos, ← hE2], E⟩

theorem c_jfind (w : World) (m : List (Str × JV)) (v : Value) (R : Rep [] w (.sl 7 (m.map JV.Dp)) v) (k : Str) (ha : ascM m) (hn : m.length ≤ 1353245080310) : Calls Tryd.prog 86 [v, S k].toArray w (Ret fun u w' => u = .tuple #[.int .i64 (posM m k), .bool (look m k).isSome] ∧ Mod [] w w') := by
  refine enter Tryd.func86 rfl rfl rfl (l := [(0, _), (1, _)]) ⟨rfl, rfl, trivial⟩ ?_
  have E := Mod.refl [] w
  refine c_seq fun K1 hK1 => ?_
  refine c_region ?_
  refine sv (o_as rfl) rfl ?_
  refine sv (o_as rfl) rfl ?_
  refine l_nil ?_
  refine e_K (hK1 _ _ _ _ ?_)
  refine c_seq fun K2 hK2 => ?_
  refine c_region ?_
  refine sv (o_mv rfl) rfl ?_
  refine sv (o_mv rfl) rfl ?_
  refine sv (o_build (cs := [_, _, _, _, _, _, _]) pl62 zv62 rfl rfl) rfl ?_
  refine sc (o_call ent100 rfl) (c_bsM _ m _ (R.to0 E) k _ _ _ _ _ _ ha hn) rfl fun v_ w1 h_ => ?_
  obtain ⟨rfl, E_⟩ := h_
  replace E := E.then E_
  refine sv (o_ext rfl rfl) rfl ?_
  refine sv (o_ext rfl rfl) rfl ?_
  refine sv (o_as rfl) rfl ?_
  refine sv (o_as rfl) rfl ?_
  refine l_nil ?_
  refine e_K (hK2 _ _ _ _ ?_)
  refine c_ret ?_
  exact ret2 rfl rfl rfl ⟨rfl, E⟩
end Go.Proofs.YtkhbnhdlelmbnaaDoor.V

set_option linter.unusedVariables false
set_option linter.unusedSimpArgs false
set_option maxRecDepth 10000
namespace Go.Proofs.YtkhbnhdlelmbnaaDoor.V
open Go Go.Proofs
theorem ent86 : Ent Tryd.prog 86 := Ent.of Tryd.func86 (by kernel_rfl) (by kernel_rfl)
theorem pl25 : plB Tryd.prog 25 [(0, 1), (1, 1), (2, 1), (3, 1), (4, 1), (5, 1)] = true := by kernel_rfl
theorem c_jget (A : List Nat) (w0 w : World) (E0 : Mod [] w0 w) (v : JV) (us : List Value) (R : Reps A w0 v.D us) (k : Str) (ha : ascM v.map) (hn : v.map.length ≤ 1353245080310) : Calls Tryd.prog 71 [.agg us.toArray, S k].toArray w (Ret fun u w' => ∃ us', u = .tuple #[.agg us'.toArray, .bool (v.get k).isSome] ∧ Reps A w0 ((v.get k).getD JV.nul).D us' ∧ Mod [] w w') := by
  refine enter Tryd.func71 rfl rfl rfl (l := [(0, _), (1, _)]) ⟨rfl, rfl, trivial⟩ ?_
  have E := Mod.refl [] w
  obtain ⟨al, cl, am, cm, rfl, Rl, Rm⟩ := JV.cells_ R
  refine c_seq fun K1 hK1 => ?_
  refine c_region ?_
  refine s_box rfl rfl rfl fun g1 w1 N1 => ?_
  have Lg1_E := N1.le E
  replace E := E.then N1.mod
  have Bg1 := N1.blk
  refine s_alloc zv25 rfl fun g2 w2 N2 => ?_
  have Lg2_E := N2.le E
  have Dg1_g2 := N2.ne Bg1
  replace Bg1 := Bg1.mod0 N2.mod
  replace E := E.then N2.mod
  have Bg2 := N2.blk
  refine sv (o_as rfl) rfl ?_
  refine l_nil ?_
  refine e_K (hK1 _ _ _ _ ?_)
  refine c_seq fun K2 hK2 => ?_
  refine c_region ?_
  refine sv (o_fa0 fd25_5 rfl) rfl ?_
  refine sv (o_ld sc23 rfl (Bg1.cell rfl)) rfl ?_
  refine sv (o_mv rfl) rfl ?_
  refine sc (o_call ent86 rfl) (c_jfind _ v.map _ ((Rm.anti (by simp)).to0 (E0.then E)) k ha hn) rfl fun v_ w3 h_ => ?_
  obtain ⟨rfl, E_⟩ := h_
  replace Bg1 := Bg1.mod0 E_
  replace Bg2 := Bg2.mod0 E_
  replace E := E.then E_
  refine sv (o_mv rfl) rfl ?_
  refine sv (o_ext rfl rfl) rfl ?_
  refine sv (o_ext rfl rfl) rfl ?_
  refine sv (o_as rfl) rfl ?_
  refine sv (o_as rfl) rfl ?_
  refine l_nil ?_
  refine e_K (hK2 _ _ _ _ ?_)
  refine c_seq fun K3 hK3 => ?_
  refine c_seq fun K4 hK4 => ?_
  by_cases hs2_0 : v.kind ≠ 5
  · skip
    refine c_region ?_
    refine sv (o_fa0 fd25_0 rfl) rfl ?_
    refine sv (o_ld sc3 rfl (Bg1.cell rfl)) rfl ?_
    refine sv (o_neq rfl rfl) rfl ?_
    refine sv (o_mv rfl) rfl ?_
    refine sn rfl (fun e_ => absurd ((decide_eq_true hs2_0).symm.trans e_) (by decide)) rfl ?_
    refine sn rfl (fun e_ => absurd ((decide_eq_true hs2_0).symm.trans e_) (by decide)) rfl ?_
    refine sv (o_pickT (decide_eq_true hs2_0) rfl rfl) rfl ?_
    refine l_nil ?_
    refine e_K (hK4 _ _ _ _ ?_)
    refine c_true rfl ?_
    have hno : v.get k = none := by simp [JV.get, hs2_0]
    refine c_seq fun K5 hK5 => ?_
    refine c_region ?_
    refine sv (o_build (cs := [_, _, _, _, _, _]) pl25 zv25 rfl rfl) rfl ?_
    refine s_sta (vs := [_, _, _, _, _, _]) ag25 Bg2 rfl rfl rfl (by simp [Value.oneCell']) (by simp) fun w4 P4 => ?_
    replace Bg1 := Bg1.ne P4.mod (Ne.symm (Ne.symm Dg1_g2))
    replace E := E.own P4.mod Lg2_E
    replace Bg2 : Blk w4 g2 _ [_, _, _, _, _, _] := P4.blk
    refine sv (o_as rfl) rfl ?_
    refine l_nil ?_
    refine e_K (hK5 _ _ _ _ ?_)
    refine c_ret ?_
    refine e_then (by simp) ?_
    exact retct (vs := [_, _, _, _, _, _]) rfl ag25 rfl rfl (Bg2.cs rfl) rfl ⟨_, by rw [hno]; rfl, by rw [hno]; exact JV.nul_reps, E⟩
  · skip
    refine c_region ?_
    refine sv (o_fa0 fd25_0 rfl) rfl ?_
    refine sv (o_ld sc3 rfl (Bg1.cell rfl)) rfl ?_
    refine sv (o_neq rfl rfl) rfl ?_
    refine sv (o_mv rfl) rfl ?_
    refine sg rfl (decide_eq_false hs2_0) (o_mv rfl) rfl ?_
    refine sg rfl (decide_eq_false hs2_0) (o_not rfl) rfl ?_
    refine sv (o_pickF (decide_eq_false hs2_0) rfl rfl) rfl ?_
    refine l_nil ?_
    refine e_K (hK4 _ _ _ _ ?_)
    refine c_cond rfl (fun h21 => ?_) (fun h21 => ?_)
    · skip
      have hno : v.get k = none := by
        have h : look v.map k = none := by simpa using h21
        simp [JV.get, h]
      refine c_seq fun K6 hK6 => ?_
      refine c_region ?_
      refine sv (o_build (cs := [_, _, _, _, _, _]) pl25 zv25 rfl rfl) rfl ?_
      refine s_sta (vs := [_, _, _, _, _, _]) ag25 Bg2 rfl rfl rfl (by simp [Value.oneCell']) (by simp) fun w5 P5 => ?_
      replace Bg1 := Bg1.ne P5.mod (Ne.symm (Ne.symm Dg1_g2))
      replace E := E.own P5.mod Lg2_E
      replace Bg2 : Blk w5 g2 _ [_, _, _, _, _, _] := P5.blk
      refine sv (o_as rfl) rfl ?_
      refine l_nil ?_
      refine e_K (hK6 _ _ _ _ ?_)
      refine c_ret ?_
      refine e_then (by simp) ?_
      exact retct (vs := [_, _, _, _, _, _]) rfl ag25 rfl rfl (Bg2.cs rfl) rfl ⟨_, by rw [hno]; rfl, by rw [hno]; exact JV.nul_reps, E⟩
    · skip
      have hk5 : v.kind = 5 := Classical.byContradiction hs2_0
      obtain ⟨x, hx_x, hxk, hxl⟩ := isM_some ha (by simpa using h21)
      have hget : v.get k = some x.2 := by simp [JV.get, hk5, hxl]
      have hpl := (List.getElem?_eq_some_iff.1 hx_x).1
      obtain ⟨a_x, us_x, ha_x, R_x, hcs0_x⟩ := JV.at_m Rm hx_x
      obtain ⟨al_x, cl_x, am_x, cm_x, rfl, Rl_x, Rm_x⟩ := JV.cells_ R_x
      have hcs_x := hcs0_x.mod0 (E0.then E)
      obtain rfl := ha_x
      refine c_skip ?_
      refine e_K (hK3 _ _ _ _ ?_)
      refine c_seq fun K7 hK7 => ?_
      refine c_region ?_
      refine sv (o_fa0 fd25_5 rfl) rfl ?_
      refine sv (o_ld sc23 rfl (Bg1.cell rfl)) rfl ?_
      refine sv (o_mv rfl) rfl ?_
      refine sv (o_ix sl23 rfl rfl (by omega)) rfl ?_
      refine sv (o_fad fd62_1 rfl) rfl ?_
      refine sv (o_lda ag25 rfl rfl hcs_x.tail_) rfl ?_
      refine s_sta (vs := [_, _, _, _, _, _]) ag25 Bg2 rfl rfl rfl (by simp [Value.oneCell']) (by simp) fun w6 P6 => ?_
      replace Bg1 := Bg1.ne P6.mod (Ne.symm (Ne.symm Dg1_g2))
      replace E := E.own P6.mod Lg2_E
      replace Bg2 : Blk w6 g2 _ [_, _, _, _, _, _] := P6.blk
      refine sv (o_as rfl) rfl ?_
      refine l_nil ?_
      refine e_K (hK7 _ _ _ _ ?_)
      refine c_ret ?_
      exact retct (vs := [_, _, _, _, _, _]) rfl ag25 rfl rfl (Bg2.cs rfl) rfl ⟨_, by rw [hget]; rfl, by rw [hget]; exact R_x, E⟩

theorem c_jtable (A : List Nat) (w0 w : World) (v : JV) (us : List Value) (R : Reps A w0 v.D us) : Calls Tryd.prog 88 [.agg us.toArray].toArray w (Ret fun u w' => Rep A w0 (.sl 7 (v.tbl.map JV.Dp)) u ∧ Mod [] w w') := by
  refine enter Tryd.func88 rfl rfl rfl (l := [(0, _)]) ⟨rfl, trivial⟩ ?_
  have E := Mod.refl [] w
  obtain ⟨al, cl, am, cm, rfl, Rl, Rm⟩ := JV.cells_ R
  refine c_seq fun K1 hK1 => ?_
  refine c_region ?_
  refine s_box rfl rfl rfl fun g1 w1 N1 => ?_
  have Lg1_E := N1.le E
  replace E := E.then N1.mod
  have Bg1 := N1.blk
  refine sv (o_as rfl) rfl ?_
  refine l_nil ?_
  refine e_K (hK1 _ _ _ _ ?_)
  refine c_seq fun K2 hK2 => ?_
  refine c_seq fun K3 hK3 => ?_
  refine c_region ?_
  refine sv (o_fa0 fd25_0 rfl) rfl ?_
  refine sv (o_ld sc3 rfl (Bg1.cell rfl)) rfl ?_
  refine sv (o_neq rfl rfl) rfl ?_
  refine l_nil ?_
  refine e_K (hK3 _ _ _ _ ?_)
  refine c_if rfl (fun h5 => ?_) (fun h5 => ?_)
  · skip
    have ht : v.tbl = [] := by simp [JV.tbl, h5]
    refine c_seq fun K4 hK4 => ?_
    refine c_region ?_
    refine sv (o_as rfl) rfl ?_
    refine l_nil ?_
    refine e_K (hK4 _ _ _ _ ?_)
    refine c_ret ?_
    refine e_then (by simp) ?_
    exact ret1 rfl rfl ⟨by rw [ht]; exact Rep.sl_nil, E⟩
  · skip
    have ht : v.tbl = v.map := by simp [JV.tbl]; intro h; exact absurd h h5
    refine c_skip ?_
    refine e_K (hK2 _ _ _ _ ?_)
    refine c_seq fun K5 hK5 => ?_
    refine c_region ?_
    refine sv (o_fa0 fd25_5 rfl) rfl ?_
    refine sv (o_ld sc23 rfl (Bg1.cell rfl)) rfl ?_
    refine sv (o_as rfl) rfl ?_
    refine l_nil ?_
    refine e_K (hK5 _ _ _ _ ?_)
    refine c_ret ?_
    exact ret1 rfl rfl ⟨by rw [ht]; exact Rm, E⟩
end Go.Proofs.YtkhbnhdlelmbnaaDoor.V

set_option linter.unusedVariables false
set_option linter.unusedSimpArgs false
set_option maxRecDepth 10000
namespace Go.Proofs.YtkhbnhdlelmbnaaDoor.V
open Go Go.Proofs

end Go.Proofs.YtkhbnhdlelmbnaaDoor.V

set_option linter.unusedVariables false
set_option linter.unusedSimpArgs false
set_option maxRecDepth 10000
namespace Go.Proofs.YtkhbnhdlelmbnaaDoor.V
open Go Go.Proofs
end Go.Proofs.YtkhbnhdlelmbnaaDoor.V

set_option linter.unusedVariables false
set_option linter.unusedSimpArgs false
namespace Go.Proofs.YtkhbnhdlelmbnaaDoor.V
open Go
abbrev b8c (c : UInt8) : List Value := [B8 c]
theorem cells_b8 (b : List UInt8) : (b.map b8c).flatten = b.map B8 := by
  induction b with
  | nil => rfl
  | cons c b ih => simp [ih]
theorem u8_eq {c d : UInt8} (h : (c.toNat : Int) = d.toNat) : c = d := UInt8.toNat_inj.1 (by omega)
theorem escQ1 {c : UInt8} (h : (c.toNat : Int) = 34 ∨ (c.toNat : Int) = 92) : escQ c = [92, c] := by
  unfold escQ
  rw [if_pos (h.imp (fun h => u8_eq h) (fun h => u8_eq h))]
theorem escQ2 {c : UInt8} (h : (c.toNat : Int) = 8) : escQ c = [92, 98] := by obtain rfl : c = 8 := u8_eq h; rfl
theorem escQ3 {c : UInt8} (h : (c.toNat : Int) = 9) : escQ c = [92, 116] := by obtain rfl : c = 9 := u8_eq h; rfl
theorem escQ4 {c : UInt8} (h : (c.toNat : Int) = 10) : escQ c = [92, 110] := by obtain rfl : c = 10 := u8_eq h; rfl
theorem escQ5 {c : UInt8} (h : (c.toNat : Int) = 12) : escQ c = [92, 102] := by obtain rfl : c = 12 := u8_eq h; rfl
theorem escQ6 {c : UInt8} (h : (c.toNat : Int) = 13) : escQ c = [92, 114] := by obtain rfl : c = 13 := u8_eq h; rfl
theorem u8_ne {c d : UInt8} (h : ¬ (c.toNat : Int) = d.toNat) : c ≠ d := fun e => h (by rw [e])
theorem escQ7 {c : UInt8} (h1 : ¬ (c.toNat : Int) = 34) (h2 : ¬ (c.toNat : Int) = 92) (h3 : ¬ (c.toNat : Int) = 8) (h4 : ¬ (c.toNat : Int) = 9) (h5 : ¬ (c.toNat : Int) = 10) (h6 : ¬ (c.toNat : Int) = 12) (h7 : ¬ (c.toNat : Int) = 13) :
    escQ c = if c.toNat < 32 then [92, 117, 48, 48, hexD.getD (c.toNat / 16) 0, hexD.getD (c.toNat % 16) 0] else [c] := by
  unfold escQ
  rw [if_neg (fun h => h.elim (u8_ne (d := 34) h1) (u8_ne (d := 92) h2)), if_neg (u8_ne (d := 8) h3), if_neg (u8_ne (d := 9) h4), if_neg (u8_ne (d := 10) h5), if_neg (u8_ne (d := 12) h6), if_neg (u8_ne (d := 13) h7)]
theorem hex_at {i : Nat} (h : i < 16) : hexD[i]? = some (hexD.getD i 0) := by
  have : ∀ j : Fin 16, hexD[j.val]? = some (hexD.getD j.val 0) := by decide
  exact this ⟨i, h⟩
/-- the bytes that a result has; an error's number -/
def bts : Except Int Str → Str
  | .ok b => b
  | .error _ => []
def ern : Except Int Str → Int
  | .ok _ => 0
  | .error e => if e = 0 then 1 else e
theorem ern_ok {r : Except Int Str} (h : ern r = 0) : ∃ b, r = .ok b := by
  cases r with
  | ok b => exact ⟨b, rfl⟩
  | error e =>
    exfalso
    by_cases h0 : e = 0 <;> simp [ern, h0] at h
theorem lng_bts (b : Str) : (lng b = .ok b ∧ b.length ≤ 65536) ∨ (lng b = .error 3 ∧ 65536 < b.length) := by
  unfold lng
  by_cases h : 65536 < b.length
  · exact .inr ⟨if_pos h, h⟩
  · exact .inl ⟨if_neg h, by omega⟩
theorem lng_len (b : Str) : (bts (lng b)).length ≤ 65536 := by
  rcases lng_bts b with ⟨h, h2⟩ | ⟨h, _⟩
  · rw [h]; exact h2
  · rw [h]; simp [bts]
end Go.Proofs.YtkhbnhdlelmbnaaDoor.V

set_option linter.unusedVariables false
set_option linter.unusedSimpArgs false
set_option maxRecDepth 10000
namespace Go.Proofs.YtkhbnhdlelmbnaaDoor.V
open Go Go.Proofs
theorem sl45 : slB Tryd.prog 45 5 1 1 = true := by kernel_rfl
theorem zv5 : zvB Tryd.prog 5 ([.int .u8 0]) := by unfold zvB; kernel_rfl
end Go.Proofs.YtkhbnhdlelmbnaaDoor.V

set_option linter.unusedVariables false
set_option linter.unusedSimpArgs false
namespace Go.Proofs.YtkhbnhdlelmbnaaDoor.V
open Go
section
variable {w0 w wA w' : World} {u0 u u1 u2 res : Value} {b t : Str} {r : Except Int Str}
abbrev OwB (w : World) (u : Value) (b : Str) : Prop := Own w 5 1 u b.length ((b.map b8c).flatten)
/-- what a writing function answers -/
def WR (w0 w : World) (u0 : Value) (r : Except Int Str) (res : Value) : Prop :=
  ∃ u, res = .tuple #[u, .int .i64 (ern r)] ∧ OwB w u (bts r) ∧ (∀ x ∈ ob u, x ∈ ob u0 ∨ w0.heap.size ≤ x) ∧ Mod (ob u0) w0 w ∧ (bts r).length ≤ 65536
theorem long_own (h : u2 = u1 ∧ bts (lng b) = b ∨ u2 = .slice none 0 0 ∧ bts (lng b) = []) (O : OwB w u1 b) : OwB w u2 (bts (lng b)) ∧ ∀ x ∈ ob u2, x ∈ ob u1 := by
  rcases h with ⟨rfl, h⟩ | ⟨rfl, h⟩
  · rw [h]; exact ⟨O, fun x hx => hx⟩
  · rw [h]; exact ⟨Own.nil w 5 1, by simp [ob]⟩
theorem WR.applong {n : Nat} {vs : List Value} (E : Mod [] w0 w) (AA : App w wA 5 1 u0 u1 n vs) (O1 : OwB wA u1 (b ++ t)) (h : u2 = u1 ∧ bts (lng (b ++ t)) = b ++ t ∨ u2 = .slice none 0 0 ∧ bts (lng (b ++ t)) = []) (E_ : Mod [] wA w') (hr : r = lng (b ++ t)) :
    WR w0 w' u0 r (.tuple #[u2, .int .i64 (ern (lng (b ++ t)))]) := by
  subst hr
  obtain ⟨h1, h2⟩ := long_own h (O1.mod0 E_)
  exact ⟨u2, rfl, h1, fun x hx => (AA.ob_ x (h2 x hx)).imp id (fun h => Nat.le_trans E.size h), ((E.mono (by simp)).trans AA.mod).trans (E_.mono (by simp)), lng_len _⟩
/-- the writing of a list or a map under way -/
structure WS (w0 w : World) (u0 : Value) (g V : Nat) (cells : List Value) (v : JV) (al am : Option Addr) (cl cm : Nat) (u : Value) (b : Str) : Prop where
  own : OwB w u b
  len : b.length ≤ 65536
  hob : ∀ x ∈ ob u, x ∈ ob u0 ∨ w0.heap.size ≤ x
  mod : Mod (ob u0) w0 w
  blk : Blk w g V cells
  dis : ∀ x ∈ ob u, x ≠ g
  rl : Rep (ob u) w (.sl 6 (v.list.map JV.D)) (.slice al v.list.length cl)
  rm : Rep (ob u) w (.sl 7 (v.map.map JV.Dp)) (.slice am v.map.length cm)
variable {g V : Nat} {cells : List Value} {v : JV} {al am : Option Addr} {cl cm : Nat}
theorem WS.step (H : WS w0 w u0 g V cells v al am cl cm u b) {b' : Str} {u' : Value} (k : Mod (ob u) w w') (O : OwB w' u' b') (ho : ∀ x ∈ ob u', x ∈ ob u ∨ w.heap.size ≤ x) (hl : b'.length ≤ 65536) : WS w0 w' u0 g V cells v al am cl cm u' b' where
  own := O
  len := hl
  hob := fun x hx => (ho x hx).elim (H.hob x) (fun h => .inr (Nat.le_trans H.mod.size h))
  mod := H.mod.trans' k H.hob
  blk := H.blk.mod k (fun hx => H.dis _ hx rfl)
  dis := fun x hx => (ho x hx).elim (H.dis x) (fun h e => by have := H.blk.lt; omega)
  rl := Rep.to k (fun x hx => hx) ho _ _ H.rl
  rm := Rep.to k (fun x hx => hx) ho _ _ H.rm
theorem WS.mod0 (H : WS w0 w u0 g V cells v al am cl cm u b) (k : Mod [] w w') : WS w0 w' u0 g V cells v al am cl cm u b :=
  H.step (k.mono (by simp)) (H.own.mod0 k) (fun x hx => .inl hx) H.len
theorem WS.applong {n : Nat} {vs : List Value} (H : WS w0 w u0 g V cells v al am cl cm u b) (AA : App w wA 5 1 u u1 n vs) (O1 : OwB wA u1 (b ++ t)) (h : u2 = u1 ∧ bts (lng (b ++ t)) = b ++ t ∨ u2 = .slice none 0 0 ∧ bts (lng (b ++ t)) = []) (E_ : Mod [] wA w') :
    WS w0 w' u0 g V cells v al am cl cm u2 (bts (lng (b ++ t))) := by
  obtain ⟨h1, h2⟩ := long_own h (O1.mod0 E_)
  exact H.step (AA.mod.trans (E_.mono (by simp))) h1 (fun x hx => AA.ob_ x (h2 x hx)) (lng_len _)
theorem WS.wr (H : WS w0 w u0 g V cells v al am cl cm u b) (h : WR w w' u r res) : ∃ u', res = .tuple #[u', .int .i64 (ern r)] ∧ WS w0 w' u0 g V cells v al am cl cm u' (bts r) := by
  obtain ⟨u', h1, h2, h3, h4, h5⟩ := h
  exact ⟨u', h1, H.step h4 h2 h3 h5⟩
theorem WS.fin {n : Nat} {vs : List Value} (H : WS w0 w u0 g V cells v al am cl cm u b) (AA : App w wA 5 1 u u1 n vs) (O1 : OwB wA u1 (b ++ t)) (h : u2 = u1 ∧ bts (lng (b ++ t)) = b ++ t ∨ u2 = .slice none 0 0 ∧ bts (lng (b ++ t)) = []) (E_ : Mod [] wA w') (hr : r = lng (b ++ t)) :
    WR w0 w' u0 r (.tuple #[u2, .int .i64 (ern (lng (b ++ t)))]) := by
  subst hr
  have H' := H.applong AA O1 h E_
  exact ⟨u2, rfl, H'.own, H'.hob, H'.mod, H'.len⟩
theorem WS.ok (H : WS w0 w u0 g V cells v al am cl cm u (bts (.ok b))) : WS w0 w u0 g V cells v al am cl cm u b := H
end
theorem WS.init {w0 w : World} {u0 : Value} {b : Str} {g V : Nat} {cells : List Value} {v : JV} {al am : Option Addr} {cl cm : Nat} (E : Mod [] w0 w) (O : OwB w0 u0 b) (hb : b.length ≤ 65536) (B : Blk w g V cells) (hg : w0.heap.size ≤ g)
    (Rl : Rep (ob u0) w0 (.sl 6 (v.list.map JV.D)) (.slice al v.list.length cl)) (Rm : Rep (ob u0) w0 (.sl 7 (v.map.map JV.Dp)) (.slice am v.map.length cm)) : WS w0 w u0 g V cells v al am cl cm u0 b where
  own := O.mod0 E
  len := hb
  hob := fun x hx => .inl hx
  mod := E.mono (by simp)
  blk := B
  dis := fun x hx e => by have := O.lt x hx; omega
  rl := Rl.to0 E
  rm := Rm.to0 E
theorem bare_num {v : JV} (h : v.bare = true) (h2 : v.kind = 2) : -9007199254740991 ≤ v.num ∧ v.num ≤ 9007199254740991 := by
  simp only [JV.bare, h2] at h
  simp at h
  omega
theorem okb {f : Str → Except Int Str} {b : Str} {W : Except Int Str} (h : (Except.ok b : Except Int Str).bind f = W) : f b = W := h
def prevK (m : List (Str × JV)) (k : Nat) : Option Str := if k = 0 then none else (m[k - 1]?).map (·.1)
theorem wrl_at {l : List JV} {k : Nat} {x : JV} {deep : Nat} {fst : Bool} {b : Str} (h : l[k]? = some x) : JV.wrl (l.drop k) deep fst b = (if fst then Except.ok b else lng (b ++ [44])).bind fun b => (JV.wr x (deep + 1) b).bind fun b => JV.wrl (l.drop (k + 1)) deep false b := by
  obtain ⟨hk, rfl⟩ := List.getElem?_eq_some_iff.1 h
  rw [List.drop_eq_getElem_cons hk, JV.wrl]
theorem wrl_end {l : List JV} {k deep : Nat} {fst : Bool} {b : Str} (h : l.length ≤ k) : JV.wrl (l.drop k) deep fst b = .ok b := by
  rw [List.drop_eq_nil_of_le h, JV.wrl]
theorem wrm_none (p : List UInt8 × JV) (r : List (List UInt8 × JV)) (deep : Nat) (b : Str) : JV.wrm (p :: r) deep none b = (txtW b p.1).bind fun b => (lng (b ++ [58])).bind fun b => (JV.wr p.2 (deep + 1) b).bind fun b => JV.wrm r deep (some p.1) b := by
  rw [JV.wrm.eq_def]
  rfl
theorem wrm_some (p : List UInt8 × JV) (q : Str) (r : List (List UInt8 × JV)) (deep : Nat) (b : Str) : JV.wrm (p :: r) deep (some q) b = ((lng (b ++ [44])).bind fun b => if bl q p.1 then .ok b else .error 1).bind fun b => (txtW b p.1).bind fun b => (lng (b ++ [58])).bind fun b => (JV.wr p.2 (deep + 1) b).bind fun b => JV.wrm r deep (some p.1) b := by
  rw [JV.wrm.eq_def]
theorem wrm_end {m : List (Str × JV)} {k deep : Nat} {p : Option Str} {b : Str} (h : m.length ≤ k) : JV.wrm (m.drop k) deep p b = .ok b := by
  rw [List.drop_eq_nil_of_le h, JV.wrm]
theorem prevK_succ {m : List (Str × JV)} {k : Nat} {p : Str × JV} (h : m[k]? = some p) : prevK m (k + 1) = some p.1 := by
  simp [prevK, h]
theorem wrm_at0 {m : List (Str × JV)} {p : Str × JV} {deep : Nat} {b : Str} (h : m[0]? = some p) : JV.wrm (m.drop 0) deep (prevK m 0) b = (txtW b p.1).bind fun b => (lng (b ++ [58])).bind fun b => (JV.wr p.2 (deep + 1) b).bind fun b => JV.wrm (m.drop (0 + 1)) deep (prevK m (0 + 1)) b := by
  rw [prevK_succ h]
  obtain ⟨hk, rfl⟩ := List.getElem?_eq_some_iff.1 h
  rw [List.drop_eq_getElem_cons hk]
  exact wrm_none _ _ _ _
theorem wrm_at {m : List (Str × JV)} {k : Nat} {p q : Str × JV} {deep : Nat} {b : Str} (h : m[k]? = some p) (hq : m[k - 1]? = some q) (h0 : 0 < k) : JV.wrm (m.drop k) deep (prevK m k) b = ((lng (b ++ [44])).bind fun b => if bl q.1 p.1 then .ok b else .error 1).bind fun b => (txtW b p.1).bind fun b => (lng (b ++ [58])).bind fun b => (JV.wr p.2 (deep + 1) b).bind fun b => JV.wrm (m.drop (k + 1)) deep (prevK m (k + 1)) b := by
  rw [prevK_succ h]
  have hp : prevK m k = some q.1 := by simp [prevK, hq]; omega
  obtain ⟨hk, rfl⟩ := List.getElem?_eq_some_iff.1 h
  rw [List.drop_eq_getElem_cons hk, hp]
  exact wrm_some _ _ _ _ _
theorem wrm_step0 {m : List (Str × JV)} {k deep : Nat} {x : Str × JV} {b1 : Str} {W : Except Int Str} (hx : m[k]? = some x) (h0 : k = 0) (hinv : ((Except.ok b1 : Except Int Str).bind fun b => JV.wrm (m.drop k) deep (prevK m k) b) = W) :
    ((txtW b1 x.1).bind fun b => (lng (b ++ [58])).bind fun b => (JV.wr x.2 (deep + 1) b).bind fun b => JV.wrm (m.drop (k + 1)) deep (prevK m (k + 1)) b) = W := by
  subst h0
  have h2 : JV.wrm (m.drop 0) deep (prevK m 0) b1 = W := hinv
  rwa [wrm_at0 hx] at h2
theorem wrm_step {m : List (Str × JV)} {k deep : Nat} {x q : Str × JV} {b1 : Str} {W : Except Int Str} (hx : m[k]? = some x) (hq : m[k - 1]? = some q) (h0 : 0 < k) (hinv : ((Except.ok b1 : Except Int Str).bind fun b => JV.wrm (m.drop k) deep (prevK m k) b) = W) :
    (((lng (b1 ++ [44])).bind fun b => if bl q.1 x.1 then .ok b else .error 1).bind fun b => (txtW b x.1).bind fun b => (lng (b ++ [58])).bind fun b => (JV.wr x.2 (deep + 1) b).bind fun b => JV.wrm (m.drop (k + 1)) deep (prevK m (k + 1)) b) = W := by
  have h2 : JV.wrm (m.drop k) deep (prevK m k) b1 = W := hinv
  rwa [wrm_at hx hq h0] at h2
end Go.Proofs.YtkhbnhdlelmbnaaDoor.V

set_option linter.unusedVariables false
set_option linter.unusedSimpArgs false
set_option maxRecDepth 10000
namespace Go.Proofs.YtkhbnhdlelmbnaaDoor.V
open Go Go.Proofs
end Go.Proofs.YtkhbnhdlelmbnaaDoor.V

namespace Go.Proofs
open Go.Shelf
def Tryd.laysM171_ren : Go.Shelf.Ren := ⟨fun | 171 => 46 | 243 => 74 | 246 => 90 | 283 => 104 | 284 => 105 | 285 => 106 | 286 => 107 | 129 => 114 | 317 => 113 | 318 => 115 | 319 => 116 | 320 => 117 | 337 => 122 | 338 => 123 | n => n, fun | 3 => 3 | 9 => 9 | 2 => 2 | 4 => 4 | 171 => 118 | 0 => 0 | 53 => 119 | 37 => 45 | 5 => 5 | 173 => 122 | 212 => 126 | 51 => 124 | 20 => 20 | 213 => 127 | 46 => 96 | 232 => 133 | 233 => 134 | n => n, fun | 17 => 1 | 18 => 2 | 19 => 3 | n => n⟩
theorem Tryd.laysM171 : Go.Proofs.LaysM.n171 Tryd.prog Tryd.laysM171_ren := {
  mixed := by kernel_rfl
  f129 := Tryd.func114.trans (congrArg some (by kernel_rfl))
  f171 := Tryd.func46.trans (congrArg some (by kernel_rfl))
  f243 := Tryd.func74.trans (congrArg some (by kernel_rfl))
  f246 := Tryd.func90.trans (congrArg some (by kernel_rfl))
  f283 := Tryd.func104.trans (congrArg some (by kernel_rfl))
  f284 := Tryd.func105.trans (congrArg some (by kernel_rfl))
  f285 := Tryd.func106.trans (congrArg some (by kernel_rfl))
  f286 := Tryd.func107.trans (congrArg some (by kernel_rfl))
  f317 := Tryd.func113.trans (congrArg some (by kernel_rfl))
  f318 := Tryd.func115.trans (congrArg some (by kernel_rfl))
  f319 := Tryd.func116.trans (congrArg some (by kernel_rfl))
  f320 := Tryd.func117.trans (congrArg some (by kernel_rfl))
  f337 := Tryd.func122.trans (congrArg some (by kernel_rfl))
  f338 := Tryd.func123.trans (congrArg some (by kernel_rfl))
  t0 := Tryd.underlying0
  a0 := Tryd.isAgg0
  z0 := Tryd.sizeOf0
  v0 := Tryd.zeroValue0
  t2 := Tryd.underlying2
  a2 := Tryd.isAgg2
  z2 := Tryd.sizeOf2
  v2 := Tryd.zeroValue2
  t3 := Tryd.underlying3
  a3 := Tryd.isAgg3
  z3 := Tryd.sizeOf3
  v3 := Tryd.zeroValue3
  t4 := Tryd.underlying4
  a4 := Tryd.isAgg4
  z4 := Tryd.sizeOf4
  v4 := Tryd.zeroValue4
  t5 := Tryd.underlying5
  a5 := Tryd.isAgg5
  z5 := Tryd.sizeOf5
  v5 := Tryd.zeroValue5
  t9 := Tryd.underlying9
  a9 := Tryd.isAgg9
  z9 := Tryd.sizeOf9
  v9 := Tryd.zeroValue9
  t20 := Tryd.underlying20
  a20 := Tryd.isAgg20
  z20 := Tryd.sizeOf20
  v20 := Tryd.zeroValue20
  t37 := Tryd.underlying45
  a37 := Tryd.isAgg45
  z37 := Tryd.sizeOf45
  v37 := Tryd.zeroValue45
  t46 := Tryd.underlying96
  a46 := Tryd.isAgg96
  z46 := Tryd.sizeOf96
  v46 := Tryd.zeroValue96
  t51 := Tryd.underlying124
  a51 := Tryd.isAgg124
  z51 := Tryd.sizeOf124
  v51 := Tryd.zeroValue124
  t53 := Tryd.underlying119
  a53 := Tryd.isAgg119
  z53 := Tryd.sizeOf119
  v53 := Tryd.zeroValue119
  t171 := Tryd.underlying118
  a171 := Tryd.isAgg118
  z171 := Tryd.sizeOf118
  v171 := Tryd.zeroValue118
  t173 := Tryd.underlying122
  a173 := Tryd.isAgg122
  z173 := Tryd.sizeOf122
  v173 := Tryd.zeroValue122
  t212 := Tryd.underlying126
  a212 := Tryd.isAgg126
  z212 := Tryd.sizeOf126
  v212 := Tryd.zeroValue126
  t213 := Tryd.underlying127
  a213 := Tryd.isAgg127
  z213 := Tryd.sizeOf127
  t232 := Tryd.underlying133
  a232 := Tryd.isAgg133
  z232 := Tryd.sizeOf133
  v232 := Tryd.zeroValue133
  t233 := Tryd.underlying134
  a233 := Tryd.isAgg134
  z233 := Tryd.sizeOf134
  v233 := Tryd.zeroValue134
  g17 := by kernel_rfl
  g18 := by kernel_rfl
  g19 := by kernel_rfl
  i0 := by kernel_rfl
  i2 := by kernel_rfl
  i3 := by kernel_rfl
  i4 := by kernel_rfl
  i5 := by kernel_rfl
  i9 := by kernel_rfl
  i20 := by kernel_rfl
  i37 := by kernel_rfl
  i46 := by kernel_rfl
  i51 := by kernel_rfl
  i53 := by kernel_rfl
  i171 := by kernel_rfl
  i173 := by kernel_rfl
  i212 := by kernel_rfl
  i232 := by kernel_rfl
  i233 := by kernel_rfl
  m17 := by kernel_rfl
  m18 := by kernel_rfl
  m19 := by kernel_rfl }
open Go.RowKit Go.Sort Go.Lib in
/-- strconv.Itoa: "Itoa is equivalent to FormatInt(int64(i), 10).": i's DECIMAL NUMERAL ('Lib.itoa': a '-' where i is negative, then the digits), FOR EVERY int. The world behind the call: the world before it, new blocks behind the heap (the library's 'var a [24]byte'), draws. (LAID: no walk: one application.) -/
theorem Tryd.strconv_Itoa (n : Int) (h0 : -9223372036854775808 ≤ n) (h1 : n ≤ 9223372036854775807) (w : World) (htab : Lib.TabIs Tryd.prog w "internal/strconv.uint64pow10" .u64 Lib.pow10Tab) :
    Calls Tryd.prog 46 #[.int .i64 n] w fun e w' => e = .returned (.string ⟨(Lib.itoa n).toArray⟩) ∧ ∃ k os, w' = grow (w.drewN k) os := Any.strconv_Itoa Tryd.laysM171 n h0 h1 w htab
end Go.Proofs

namespace Go.Proofs.YtkhbnhdlelmbnaaDoor.V
open Go Go.Proofs
abbrev Tab (w : World) : Prop := Lib.TabIs Tryd.prog w "internal/strconv.uint64pow10" .u64 Lib.pow10Tab
abbrev gT : Nat := 1
theorem gPow : Tryd.prog.globalNamed "internal/strconv.uint64pow10" = some gT := by kernel_rfl
theorem Tab.mod {M : List Nat} {w w' : World} (h : Tab w) (k : Mod M w w') (hM : gT ∉ M) : Tab w' := by
  unfold Tab Lib.TabIs World.var? at h ⊢
  simp only [gPow, Option.bind_some] at h ⊢
  have hlt : gT < w.heap.size := by
    rcases Nat.lt_or_ge gT w.heap.size with hl | hl
    · exact hl
    · rw [Array.getElem?_eq_none hl] at h
      cases h
  rw [k.block gT hlt hM]
  exact h
theorem Tab.lt {w : World} (h : Tab w) : gT < w.heap.size := by
  unfold Tab Lib.TabIs World.var? at h
  simp only [gPow, Option.bind_some] at h
  rcases Nat.lt_or_ge gT w.heap.size with hl | hl
  · exact hl
  · rw [Array.getElem?_eq_none hl] at h
    cases h
theorem mod_grow (w : World) (k : Nat) (os : Array Obj) : Mod [] w (Sort.grow (w.drewN k) os) := by
  have h := Lib.below_grow w.heap.size w (Nat.le_refl _) k os
  exact ⟨h.os, h.tape, h.output, h.size, fun i hi _ => h.block i hi⟩
theorem c_itoa (w : World) (n : Int) (h0 : -9223372036854775808 ≤ n) (h1 : n ≤ 9223372036854775807) (hT : Tab w) : Calls Tryd.prog 46 [.int .i64 n].toArray w (Ret fun u w' => u = S (Lib.itoa n) ∧ Mod [] w w') :=
  (Tryd.strconv_Itoa n h0 h1 w hT).mono fun e w' he => by
    obtain ⟨rfl, k, os, rfl⟩ := he
    exact ⟨rfl, mod_grow w k os⟩
end Go.Proofs.YtkhbnhdlelmbnaaDoor.V

set_option linter.unusedVariables false
set_option linter.unusedSimpArgs false
set_option maxRecDepth 10000
namespace Go.Proofs.YtkhbnhdlelmbnaaDoor.V
open Go Go.Proofs
theorem ent46 : Ent Tryd.prog 46 := Ent.of Tryd.func46 (by kernel_rfl) (by kernel_rfl)
end Go.Proofs.YtkhbnhdlelmbnaaDoor.V

set_option linter.unusedVariables false
set_option linter.unusedSimpArgs false
namespace Go.Proofs.YtkhbnhdlelmbnaaDoor.V
open Go
structure Sig3 where
  srv : Str
  key : Str
  sig : Str
abbrev Sig3.cells (s : Sig3) : List Value := [S s.srv, S s.key, S s.sig]
structure EV where
  room : Str
  snd : Str
  ty : Str
  st : Bool
  key : Str
  con : JV
  prev : List Str
  auth : List Str
  dep : Int
  time : Int
  hash : Str
  sigs : List Sig3
namespace EV
def D (e : EV) : List Go.Proofs.YtkhbnhdlelmbnaaDoor.V.D := [.v (S e.room), .v (S e.snd), .v (S e.ty), .v (.bool e.st), .v (S e.key)] ++ (e.con.D ++ [strD e.prev, strD e.auth, .v (.int .i64 e.dep), .v (.int .i64 e.time), .v (S e.hash), flat 3 Sig3.cells e.sigs])
theorem D_len (e : EV) : e.D.length = 17 := by simp [D, JV.D_len]
theorem cells_ {A : List Nat} {w : World} {e : EV} {us : List Value} (R : Reps A w e.D us) : ∃ cs ap cp aa ca aS cS, us = [S e.room, S e.snd, S e.ty, .bool e.st, S e.key] ++ (cs ++ [.slice ap e.prev.length cp, .slice aa e.auth.length ca, .int .i64 e.dep, .int .i64 e.time, S e.hash, .slice aS e.sigs.length cS]) ∧
    Reps A w e.con.D cs ∧ Rep A w (strD e.prev) (.slice ap e.prev.length cp) ∧ Rep A w (strD e.auth) (.slice aa e.auth.length ca) ∧ Rep A w (flat 3 Sig3.cells e.sigs) (.slice aS e.sigs.length cS) := by
  unfold D at R
  obtain ⟨h1, h2⟩ := R.cut
  simp only [List.length_cons, List.length_nil] at h1 h2
  obtain ⟨h3, h4⟩ := h2.cut
  have hus : us = us.take (0 + 1 + 1 + 1 + 1 + 1) ++ ((us.drop (0 + 1 + 1 + 1 + 1 + 1)).take e.con.D.length ++ (us.drop (0 + 1 + 1 + 1 + 1 + 1)).drop e.con.D.length) := by rw [List.take_append_drop, List.take_append_drop]
  obtain ⟨_, _, e1, g1, h1⟩ := h1
  obtain ⟨_, _, rfl, g2, h1⟩ := h1
  obtain ⟨_, _, rfl, g3, h1⟩ := h1
  obtain ⟨_, _, rfl, g4, h1⟩ := h1
  obtain ⟨_, _, rfl, g5, h1⟩ := h1
  obtain rfl := h1
  obtain ⟨_, _, e2, k1, h4⟩ := h4
  obtain ⟨_, _, rfl, k2, h4⟩ := h4
  obtain ⟨_, _, rfl, k3, h4⟩ := h4
  obtain ⟨_, _, rfl, k4, h4⟩ := h4
  obtain ⟨_, _, rfl, k5, h4⟩ := h4
  obtain ⟨_, _, rfl, k6, h4⟩ := h4
  obtain rfl := h4
  obtain rfl := g1.v_eq; obtain rfl := g2.v_eq; obtain rfl := g3.v_eq; obtain rfl := g4.v_eq; obtain rfl := g5.v_eq
  obtain rfl := k3.v_eq; obtain rfl := k4.v_eq; obtain rfl := k5.v_eq
  obtain ⟨ap, cp, rfl, _⟩ := flat_len k1
  obtain ⟨aa, ca, rfl, _⟩ := flat_len k2
  obtain ⟨aS, cS, rfl, _⟩ := flat_len k6
  rw [e1, e2] at hus
  exact ⟨_, ap, cp, aa, ca, aS, cS, hus, h3, k1, k2, k6⟩
theorem cells17 {A : List Nat} {w : World} {e : EV} {us : List Value} (R : Reps A w e.D us) : ∃ al cl am cm ap cp aa ca aS cS, us = [S e.room, S e.snd, S e.ty, .bool e.st, S e.key, .int .i64 e.con.kind, .bool e.con.is, .int .i64 e.con.num, S e.con.str, .slice al e.con.list.length cl, .slice am e.con.map.length cm, .slice ap e.prev.length cp, .slice aa e.auth.length ca, .int .i64 e.dep, .int .i64 e.time, S e.hash, .slice aS e.sigs.length cS] ∧
    Reps A w e.con.D [.int .i64 e.con.kind, .bool e.con.is, .int .i64 e.con.num, S e.con.str, .slice al e.con.list.length cl, .slice am e.con.map.length cm] ∧ Rep A w (strD e.prev) (.slice ap e.prev.length cp) ∧ Rep A w (strD e.auth) (.slice aa e.auth.length ca) ∧ Rep A w (flat 3 Sig3.cells e.sigs) (.slice aS e.sigs.length cS) := by
  obtain ⟨cs, ap, cp, aa, ca, aS, cS, rfl, h1, h2, h3, h4⟩ := cells_ R
  obtain ⟨al, cl, am, cm, rfl, _, _⟩ := JV.cells_ h1
  exact ⟨al, cl, am, cm, ap, cp, aa, ca, aS, cS, rfl, h1, h2, h3, h4⟩
theorem at_ {A : List Nat} {w : World} {es : List EV} {e : EV} {ad : Option Addr} {n c i : Nat} (R : Rep A w (.sl 17 (es.map EV.D)) (.slice ad n c)) (h : es[i]? = some e) : ∃ a us, ad = some a ∧ Reps A w e.D us ∧ Cs w (a.add (i * 17)) us := by
  obtain ⟨a, us, h1, h2, _, h3, _⟩ := Rep.at_ (i := i) (r := e.D) R (by simp [h])
  exact ⟨a, us, h1, h2, h3⟩
/-- all texts and lists in it are no longer than memory -/
def ok (e : EV) : Prop := e.room.length ≤ 140737488351232 ∧ e.snd.length ≤ 140737488351232 ∧ e.ty.length ≤ 140737488351232 ∧ e.key.length ≤ 140737488351232 ∧ e.con.ok ∧ (∀ s ∈ e.prev, s.length ≤ 140737488351232) ∧ e.prev.length ≤ 140737488351232 ∧ (∀ s ∈ e.auth, s.length ≤ 140737488351232) ∧ e.auth.length ≤ 140737488351232 ∧ e.hash.length ≤ 140737488351232 ∧ (∀ s ∈ e.sigs, s.srv.length ≤ 140737488351232 ∧ s.key.length ≤ 140737488351232 ∧ s.sig.length ≤ 140737488351232) ∧ e.sigs.length ≤ 140737488351232
end EV
/-- how much there is, counted on while it isn't more than so much -/
def addW : List Nat → Nat → Nat → Nat
  | [], n, _ => n
  | x :: r, n, most => if n ≤ most then addW r (n + x) most else n
theorem addW_at {l : List Nat} {k n most x : Nat} (h : l[k]? = some x) (hn : n ≤ most) : addW (l.drop k) n most = addW (l.drop (k + 1)) (n + x) most := by
  obtain ⟨hk, rfl⟩ := List.getElem?_eq_some_iff.1 h
  rw [List.drop_eq_getElem_cons hk, addW, if_pos hn]
theorem addW_end {l : List Nat} {k n most : Nat} (h : l.length ≤ k) : addW (l.drop k) n most = n := by
  rw [List.drop_eq_nil_of_le h, addW]
theorem addW_big {l : List Nat} {n most : Nat} (h : ¬ n ≤ most) : addW l n most = n := by cases l <;> simp [addW, h]
namespace EV
def n0 (e : EV) : Nat := e.room.length + e.snd.length + e.ty.length + e.key.length + e.hash.length + e.prev.length + e.auth.length + e.sigs.length
def n1 (e : EV) (most : Nat) : Nat := addW (e.prev.map List.length) e.n0 most
def n2 (e : EV) (most : Nat) : Nat := addW (e.auth.map List.length) (e.n1 most) most
def n3 (e : EV) (most : Nat) : Nat := addW (e.sigs.map fun s => s.srv.length + s.key.length + s.sig.length) (e.n2 most) most
/-- has it more than so many parts and bytes? -/
def great (e : EV) (most : Nat) : Bool := decide (e.n3 most > most) || decide (e.con.weigh ((most : Int) - e.n3 most) 60 < 0)
end EV
end Go.Proofs.YtkhbnhdlelmbnaaDoor.V

set_option linter.unusedVariables false
set_option linter.unusedSimpArgs false
set_option maxRecDepth 10000
namespace Go.Proofs.YtkhbnhdlelmbnaaDoor.V
open Go Go.Proofs

end Go.Proofs.YtkhbnhdlelmbnaaDoor.V
