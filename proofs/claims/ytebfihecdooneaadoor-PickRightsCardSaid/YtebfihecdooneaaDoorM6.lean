/-
  A part of the proof: states put together slot by slot; pairs in order; insertion; doubled neighbours left out. No condition of its own.
-/
import Derived.Test.YtebfihecdooneaaDoorM5
import Derived.Test.YtebfihecdooneaaDoorM4
set_option linter.unusedVariables false
set_option linter.unusedSimpArgs false
set_option maxRecDepth 10000
namespace Go.Proofs.YtebfihecdooneaaDoor.V
open Go Go.Proofs
theorem ent56 : Ent Tryd.prog 56 := Ent.of Tryd.func56 (by kernel_rfl) (by kernel_rfl)
theorem ent20 : Ent Tryd.prog 20 := Ent.of Tryd.func20 (by kernel_rfl) (by kernel_rfl)
theorem ent55 : Ent Tryd.prog 55 := Ent.of Tryd.func55 (by kernel_rfl) (by kernel_rfl)
theorem ent54 : Ent Tryd.prog 54 := Ent.of Tryd.func54 (by kernel_rfl) (by kernel_rfl)
theorem ent39 : Ent Tryd.prog 39 := Ent.of Tryd.func39 (by kernel_rfl) (by kernel_rfl)
theorem c_long (A : List Nat) (w : World) (xs : List Slot) (v : Value) (R : Rep A w (slotsD xs) v) (hB : ∀ x ∈ xs, Slot.small x) : Calls Tryd.prog 10 [v].toArray w (Ret fun u w' => u = .bool (decide (8192 < (xs.map wt).sum)) ∧ Mod [] w w') := by
  refine enter Tryd.func10 rfl rfl rfl (l := [(0, _)]) ⟨rfl, trivial⟩ ?_
  have E := Mod.refl [] w
  obtain ⟨ad, c, rfl, hc1, hc2⟩ := flat_len R
  refine c_seq fun K1 hK1 => ?_
  refine c_region ?_
  refine sv (o_as rfl) rfl ?_
  refine l_nil ?_
  refine e_K (hK1 _ _ _ _ ?_)
  refine c_seq fun K2 hK2 => ?_
  refine c_region ?_
  refine sv (o_as rfl) rfl ?_
  refine l_nil ?_
  refine e_K (hK2 _ _ _ _ ?_)
  refine c_seq fun K3 hK3 => ?_
  refine c_seq fun K4 hK4 => ?_
  refine c_region ?_
  refine sv (o_mv rfl) rfl ?_
  refine sv (o_len Tryd.underlying37 rfl) rfl ?_
  refine sv (o_mv rfl) rfl ?_
  refine l_nil ?_
  refine e_K (hK4 _ _ _ _ ?_)
  refine c_block ?_
  refine c_loop (σ := Nat) (fun k => [(0, .slice ad xs.length c), (3, .int .i64 (sumT xs k : Int)), (6, .slice ad xs.length c), (7, .int .i64 xs.length), (8, .int .i64 (k : Int))]) (fun k w1 => k ≤ xs.length ∧ sumT xs k ≤ 8192 ∧ Mod [] w w1) (fun k => xs.length - k) (0) ⟨rfl, rfl, rfl, rfl, rfl, trivial⟩ (⟨by omega, by simp [sumT], E⟩) ?_
  rintro k w1 ⟨hk, ho, E⟩
  refine c_seq fun K5 hK5 => ?_
  refine c_region ?_
  refine sv (o_lss rfl rfl) rfl ?_
  refine l_nil ?_
  refine e_K (hK5 _ _ _ _ ?_)
  refine c_seq fun K6 hK6 => ?_
  refine c_if rfl (fun h9 => ?_) (fun h9 => ?_)
  · skip
    have hlt : k < xs.length := by omega
    obtain ⟨x, hx_x⟩ : ∃ x, xs[k]? = some x := ⟨_, List.getElem?_eq_getElem (by omega)⟩
    obtain ⟨a_x, ha_x, hcs_x, _⟩ := flat_at (R.to0 E) hx_x
    subst ha_x
    have hBx := hB x (List.mem_of_getElem? hx_x)
    obtain ⟨hb1, hb2, hb3⟩ := hBx
    have hS := sumT_succ hx_x
    refine c_skip ?_
    refine e_K (hK6 _ _ _ _ ?_)
    refine c_seq fun K7 hK7 => ?_
    refine c_block ?_
    refine c_seq fun K8 hK8 => ?_
    refine c_region ?_
    refine sv (o_ix sl37 rfl rfl (by omega)) rfl ?_
    refine sv (o_lda ag53 rfl rfl hcs_x) rfl ?_
    refine s_alloc zv53 rfl fun g1 w2 N1 => ?_
    have Lg1_E := N1.le E
    replace E := E.then N1.mod
    have Bg1 := N1.blk
    refine s_sta (vs := [_, _, _]) ag53 Bg1 rfl rfl rfl (by simp [Value.oneCell']) (by simp) fun w3 P3 => ?_
    replace E := E.own P3.mod Lg1_E
    replace Bg1 : Blk w3 g1 _ [_, _, _] := P3.blk
    refine l_nil ?_
    refine e_K (hK8 _ _ _ _ ?_)
    refine c_seq fun K9 hK9 => ?_
    refine c_region ?_
    refine sv (o_mv rfl) rfl ?_
    refine sv (o_fa0 fd53_0 rfl) rfl ?_
    refine sv (o_ld sc9 rfl (Bg1.cell rfl)) rfl ?_
    refine sv (o_slen Tryd.underlying9 rfl) rfl ?_
    refine sv (o_addN rfl rfl (by omega)) rfl ?_
    refine sv (o_fa0 fd53_1 rfl) rfl ?_
    refine sv (o_ld sc9 rfl (Bg1.cell rfl)) rfl ?_
    refine sv (o_slen Tryd.underlying9 rfl) rfl ?_
    refine sv (o_addN rfl rfl (by omega)) rfl ?_
    refine sv (o_fa0 fd53_2 rfl) rfl ?_
    refine sv (o_ld sc9 rfl (Bg1.cell rfl)) rfl ?_
    refine sv (o_slen Tryd.underlying9 rfl) rfl ?_
    refine sv (o_addN rfl rfl (by omega)) rfl ?_
    refine sv (o_addE (r := ((sumT xs (k + 1) : Nat) : Int)) rfl rfl (by rw [wrap64_in _ (by omega)]; omega)) rfl ?_
    refine sv (o_as rfl) rfl ?_
    refine l_nil ?_
    refine e_K (hK9 _ _ _ _ ?_)
    refine c_seq fun K10 hK10 => ?_
    refine c_region ?_
    refine sv (o_mv rfl) rfl ?_
    refine sv (o_gtr rfl rfl) rfl ?_
    refine l_nil ?_
    refine e_K (hK10 _ _ _ _ ?_)
    refine c_if rfl (fun h27 => ?_) (fun h27 => ?_)
    · skip
      refine c_seq fun K11 hK11 => ?_
      refine c_region ?_
      refine sv (o_as rfl) rfl ?_
      refine l_nil ?_
      refine e_K (hK11 _ _ _ _ ?_)
      refine c_ret ?_
      refine e_in (by simp) ?_
      refine e_then (by simp) ?_
      refine e_then (by simp) ?_
      refine e_in (by simp) ?_
      refine e_then (by simp) ?_
      exact ret1 rfl rfl ⟨by rw [decide_eq_true]; have := @sumT_mono xs (k + 1); omega, E⟩
    · skip
      refine c_skip ?_
      refine e_in (by simp) ?_
      refine e_K (hK7 _ _ _ _ ?_)
      refine c_region ?_
      refine sv (o_addN rfl rfl (by omega)) rfl ?_
      refine sv (o_mv rfl) rfl ?_
      refine l_nil ?_
      exact e_round (σ := Nat) (s := k) (k + 1) ⟨rfl, rfl, rfl, rfl, rfl, trivial⟩ ⟨by omega, by omega, E⟩ (by omega)
  · skip
    refine c_exit ?_
    refine e_then (by simp) ?_
    refine e_then (by simp) ?_
    refine e_hit ?_
    refine e_K (hK3 _ _ _ _ ?_)
    refine c_seq fun K12 hK12 => ?_
    refine c_region ?_
    refine sv (o_as rfl) rfl ?_
    refine l_nil ?_
    refine e_K (hK12 _ _ _ _ ?_)
    refine c_ret ?_
    exact ret1 rfl rfl ⟨by rw [decide_eq_false]; rw [← sumT_all (xs := xs) (k := k) (by omega)]; omega, E⟩

theorem c_find1 (w : World) (x : Slot) (p : Pair) : Calls Tryd.prog 55 [x.agg, p.agg].toArray w (Ret fun v w' => v = .int .i64 (pcmp x.pair p) ∧ Mod [] w w') := by
  refine enter Tryd.func55 rfl rfl rfl (l := [(0, _), (1, _)]) ⟨rfl, rfl, trivial⟩ ?_
  have E := Mod.refl [] w
  refine c_seq fun K1 hK1 => ?_
  refine c_region ?_
  refine s_box rfl rfl rfl fun g1 w1 N1 => ?_
  have Lg1_E := N1.le E
  replace E := E.then N1.mod
  have Bg1 := N1.blk
  refine s_box rfl rfl rfl fun g2 w2 N2 => ?_
  have Lg2_E := N2.le E
  have Dg1_g2 := N2.ne Bg1
  replace Bg1 := Bg1.mod0 N2.mod
  replace E := E.then N2.mod
  have Bg2 := N2.blk
  refine sv (o_as rfl) rfl ?_
  refine l_nil ?_
  refine e_K (hK1 _ _ _ _ ?_)
  refine c_seq fun K2 hK2 => ?_
  refine c_draw wide (by kernel_rfl) ?_
  refine tv (fun w_ E_ => (o_lda (vs := [_, _, _]) ag53 rfl rfl ((Bg1.mod0 E_).cs rfl))) rfl rfl ?_
  refine tc (fun w_ E_ => o_call ent56 rfl) (fun w_ E_ => c_pair _ _) rfl rfl ?_
  refine tv (fun w_ E_ => (o_lda (vs := [_, _]) ag35 rfl rfl ((Bg2.mod0 E_).cs rfl))) rfl rfl ?_
  refine tc (fun w_ E_ => o_call ent20 rfl) (fun w_ E_ => c_pcmp _ _ _) rfl rfl ?_
  refine tv (fun w_ E_ => (o_as rfl)) rfl rfl ?_
  refine tw_nil rfl fun w3 E_ => ?_
  replace Bg1 := Bg1.mod0 E_
  replace Bg2 := Bg2.mod0 E_
  replace E := E.then E_
  refine e_K (hK2 _ _ _ _ ?_)
  refine c_ret ?_
  exact ret1 rfl rfl ⟨rfl, E⟩

theorem c_bs (A : List Nat) (w : World) (xs : List Slot) (v : Value) (R : Rep A w (slotsD xs) v) (p : Pair) (ha : asc xs = true) (hn : xs.length ≤ 1000000) : Calls Tryd.prog 54 [v, p.agg, .func (.func 55) #[] #[]].toArray w (Ret fun u w' => u = .tuple #[.int .i64 (posS xs p), .bool (getS xs p).isSome] ∧ Mod [] w w') := by
  refine enter Tryd.func54 rfl rfl rfl (l := [(0, _), (1, _), (2, _)]) ⟨rfl, rfl, rfl, trivial⟩ ?_
  have E := Mod.refl [] w
  obtain ⟨ad, c, rfl, hc1, hc2⟩ := flat_len R
  refine c_seq fun K1 hK1 => ?_
  refine c_region ?_
  refine s_box rfl rfl rfl fun g1 w1 N1 => ?_
  have Lg1_E := N1.le E
  replace E := E.then N1.mod
  have Bg1 := N1.blk
  refine sv (o_as rfl) rfl ?_
  refine sv (o_as rfl) rfl ?_
  refine l_nil ?_
  refine e_K (hK1 _ _ _ _ ?_)
  refine c_seq fun K2 hK2 => ?_
  refine c_region ?_
  refine sv (o_mv rfl) rfl ?_
  refine sv (o_len Tryd.underlying37 rfl) rfl ?_
  refine sv (o_as rfl) rfl ?_
  refine l_nil ?_
  refine e_K (hK2 _ _ _ _ ?_)
  refine c_seq fun K3 hK3 => ?_
  refine c_region ?_
  refine sv (o_mv rfl) rfl ?_
  refine sv (o_as rfl) rfl ?_
  refine sv (o_as rfl) rfl ?_
  refine l_nil ?_
  refine e_K (hK3 _ _ _ _ ?_)
  refine c_seq fun K4 hK4 => ?_
  refine c_block ?_
  refine c_loop (σ := Nat × Nat) (fun ⟨i, j⟩ => [(0, .slice ad xs.length c), (2, .func (.func 55) #[] #[]), (4, .pointer (some ⟨g1, 0, none⟩)), (8, .int .i64 xs.length), (9, .int .i64 (i : Int)), (10, .int .i64 (j : Int))]) (fun ⟨i, j⟩ w1 => i ≤ j ∧ j ≤ xs.length ∧ (∀ (a : Nat) (y : Slot), a < i → xs[a]? = some y → plt y.pair p = true) ∧ (∀ (a : Nat) (y : Slot), j ≤ a → xs[a]? = some y → plt y.pair p = false) ∧ Blk w1 g1 35 p.cells ∧ Mod [] w w1) (fun ⟨i, j⟩ => j - i) (⟨0, xs.length⟩) ⟨rfl, rfl, rfl, rfl, rfl, rfl, trivial⟩ (⟨by omega, by omega, fun a y h => by omega, fun a y h hy => (by rw [List.getElem?_eq_none h] at hy; cases hy), Bg1, E⟩) ?_
  rintro ⟨i, j⟩ w2 ⟨hij, hj, h1, h2, Bg1, E⟩
  refine c_seq fun K5 hK5 => ?_
  refine c_seq fun K6 hK6 => ?_
  refine c_region ?_
  refine sv (o_mv rfl) rfl ?_
  refine sv (o_mv rfl) rfl ?_
  refine sv (o_lss rfl rfl) rfl ?_
  refine l_nil ?_
  refine e_K (hK6 _ _ _ _ ?_)
  refine c_if rfl (fun h17 => ?_) (fun h17 => ?_)
  · skip
    have hlt : (i + j) / 2 < xs.length := by omega
    obtain ⟨x, hx_x⟩ : ∃ x, xs[(i + j) / 2]? = some x := ⟨_, List.getElem?_eq_getElem (by omega)⟩
    obtain ⟨a_x, ha_x, hcs_x, _⟩ := flat_at (R.to0 E) hx_x
    subst ha_x
    refine c_skip ?_
    refine e_K (hK5 _ _ _ _ ?_)
    refine c_block ?_
    refine c_seq fun K7 hK7 => ?_
    refine c_region ?_
    refine sv (o_mv rfl) rfl ?_
    refine sv (o_mv rfl) rfl ?_
    refine sv (o_addN rfl rfl (by omega)) rfl ?_
    refine sv (o_convE (r := ((i : Int) + j)) Tryd.underlying3 Tryd.underlying68 rfl (wrapu64_in _ (by omega))) rfl ?_
    refine sv (o_shrE (r := (((i + j) / 2 : Nat) : Int)) rfl rfl (by omega) (by rw [← half_cast]; exact fdiv_two _)) rfl ?_
    refine sv (o_convE (r := (((i + j) / 2 : Nat) : Int)) Tryd.underlying68 Tryd.underlying3 rfl (wrap64_in _ (by omega))) rfl ?_
    refine sv (o_as rfl) rfl ?_
    refine l_nil ?_
    refine e_K (hK7 _ _ _ _ ?_)
    refine c_seq fun K8 hK8 => ?_
    refine c_draw wide (by kernel_rfl) ?_
    refine tv (fun w_ E_ => (o_mv rfl)) rfl rfl ?_
    refine tv (fun w_ E_ => (o_mv rfl)) rfl rfl ?_
    refine tv (fun w_ E_ => (o_mv rfl)) rfl rfl ?_
    refine tv (fun w_ E_ => (o_ix sl37 rfl rfl (by omega))) rfl rfl ?_
    refine tv (fun w_ E_ => (o_lda ag53 rfl rfl (hcs_x.mod0 E_))) rfl rfl ?_
    refine tv (fun w_ E_ => (o_lda (vs := [_, _]) ag35 rfl rfl ((Bg1.mod0 E_).cs rfl))) rfl rfl ?_
    refine tc (fun w_ E_ => o_callv ent55 rfl rfl) (fun w_ E_ => c_find1 _ x _) rfl rfl ?_
    refine tv (fun w_ E_ => (o_lss rfl rfl)) rfl rfl ?_
    refine tw_nil rfl fun w3 E_ => ?_
    replace Bg1 := Bg1.mod0 E_
    replace E := E.then E_
    refine e_K (hK8 _ _ _ _ ?_)
    refine c_if rfl (fun h31 => ?_) (fun h31 => ?_)
    · skip
      have hlow : ∀ (a : Nat) (y : Slot), a < (i + j) / 2 + 1 → xs[a]? = some y → plt y.pair p = true := fun a y hal hy => by
        rcases Nat.lt_succ_iff_lt_or_eq.1 hal with h | h
        · exact plt_trans (asc_lt ha hy hx_x h) (pcmp_lt.1 h31)
        · subst h; rw [hx_x] at hy; injection hy with hy; subst hy; exact pcmp_lt.1 h31
      refine c_region ?_
      refine sv (o_mv rfl) rfl ?_
      refine sv (o_addE (r := (((i + j) / 2 + 1 : Nat) : Int)) rfl rfl (by rw [wrap64_in _ (by omega)]; omega)) rfl ?_
      refine sv (o_as rfl) rfl ?_
      refine l_nil ?_
      refine e_in (by simp) ?_
      exact e_round (σ := Nat × Nat) (s := ⟨i, j⟩) (⟨(i + j) / 2 + 1, j⟩) ⟨rfl, rfl, rfl, rfl, rfl, rfl, trivial⟩ ⟨by omega, by omega, hlow, h2, Bg1, E⟩ (by dsimp only; omega)
    · skip
      have hhi : ∀ (a : Nat) (y : Slot), (i + j) / 2 ≤ a → xs[a]? = some y → plt y.pair p = false := fun a y hal hy => by
        cases hpy : plt y.pair p with
        | false => rfl
        | true =>
          rcases Nat.lt_or_ge ((i + j) / 2) a with h | h
          · exact absurd (pcmp_lt.2 (plt_trans (asc_lt ha hx_x hy h) hpy)) h31
          · have : a = (i + j) / 2 := by omega
            subst this
            rw [hx_x] at hy; injection hy with hy; subst hy; exact absurd (pcmp_lt.2 hpy) h31
      refine c_region ?_
      refine sv (o_mv rfl) rfl ?_
      refine sv (o_as rfl) rfl ?_
      refine l_nil ?_
      refine e_in (by simp) ?_
      exact e_round (σ := Nat × Nat) (s := ⟨i, j⟩) (⟨i, (i + j) / 2⟩) ⟨rfl, rfl, rfl, rfl, rfl, rfl, trivial⟩ ⟨by omega, by omega, h1, hhi, Bg1, E⟩ (by dsimp only; omega)
  · skip
    refine c_exit ?_
    refine e_then (by simp) ?_
    refine e_then (by simp) ?_
    refine e_hit ?_
    refine e_K (hK4 _ _ _ _ ?_)
    refine c_seq fun K9 hK9 => ?_
    by_cases hs8_0 : (i : Int) < (xs.length : Int)
    · skip
      have hij2 : i = j := by omega
      subst hij2
      have hpos := posS_eq (by omega) h1 h2
      obtain ⟨x, hx_x⟩ : ∃ x, xs[i]? = some x := ⟨_, List.getElem?_eq_getElem (by omega)⟩
      obtain ⟨a_x, ha_x, hcs_x, _⟩ := flat_at (R.to0 E) hx_x
      subst ha_x
      have hE2 : decide (pcmp x.pair p = 0) = (getS xs p).isSome := (isS ha hpos hx_x).symm
      refine c_draw wide (by kernel_rfl) ?_
      refine tv (fun w_ E_ => (o_mv rfl)) rfl rfl ?_
      refine tv (fun w_ E_ => (o_mv rfl)) rfl rfl ?_
      refine tv (fun w_ E_ => (o_mv rfl)) rfl rfl ?_
      refine tv (fun w_ E_ => (o_lss rfl rfl)) rfl rfl ?_
      refine tv (fun w_ E_ => (o_mv rfl)) rfl rfl ?_
      refine tvg rfl (decide_eq_true hs8_0) (fun w_ E_ => (o_mv rfl)) rfl rfl ?_
      refine tvg rfl (decide_eq_true hs8_0) (fun w_ E_ => (o_mv rfl)) rfl rfl ?_
      refine tvg rfl (decide_eq_true hs8_0) (fun w_ E_ => (o_mv rfl)) rfl rfl ?_
      refine tvg rfl (decide_eq_true hs8_0) (fun w_ E_ => (o_ix sl37 rfl rfl (by omega))) rfl rfl ?_
      refine tvg rfl (decide_eq_true hs8_0) (fun w_ E_ => (o_lda ag53 rfl rfl (hcs_x.mod0 E_))) rfl rfl ?_
      refine tvg rfl (decide_eq_true hs8_0) (fun w_ E_ => (o_lda (vs := [_, _]) ag35 rfl rfl ((Bg1.mod0 E_).cs rfl))) rfl rfl ?_
      refine tcg rfl (decide_eq_true hs8_0) (fun w_ E_ => o_callv ent55 rfl rfl) (fun w_ E_ => c_find1 _ x _) rfl rfl ?_
      refine tvg rfl (decide_eq_true hs8_0) (fun w_ E_ => (o_eql rfl rfl)) rfl rfl ?_
      refine tv (fun w_ E_ => (o_pickT (decide_eq_true hs8_0) rfl rfl)) rfl rfl ?_
      refine tv (fun w_ E_ => (o_as rfl)) rfl rfl ?_
      refine tv (fun w_ E_ => (o_as rfl)) rfl rfl ?_
      refine tw_nil rfl fun w4 E_ => ?_
      replace Bg1 := Bg1.mod0 E_
      replace E := E.then E_
      refine e_K (hK9 _ _ _ _ ?_)
      refine c_ret ?_
      exact ret2 rfl rfl rfl ⟨by rw [hpos, ← hE2], E⟩
    · skip
      have hij2 : i = j := by omega
      subst hij2
      have hpos := posS_eq (by omega) h1 h2
      have hE2 : false = (getS xs p).isSome := (isS_end ha (by omega)).symm
      refine c_draw wide (by kernel_rfl) ?_
      refine tv (fun w_ E_ => (o_mv rfl)) rfl rfl ?_
      refine tv (fun w_ E_ => (o_mv rfl)) rfl rfl ?_
      refine tv (fun w_ E_ => (o_mv rfl)) rfl rfl ?_
      refine tv (fun w_ E_ => (o_lss rfl rfl)) rfl rfl ?_
      refine tv (fun w_ E_ => (o_mv rfl)) rfl rfl ?_
      refine tn rfl (fun e_ => absurd ((decide_eq_false hs8_0).symm.trans e_) (by decide)) rfl ?_
      refine tn rfl (fun e_ => absurd ((decide_eq_false hs8_0).symm.trans e_) (by decide)) rfl ?_
      refine tn rfl (fun e_ => absurd ((decide_eq_false hs8_0).symm.trans e_) (by decide)) rfl ?_
      refine tn rfl (fun e_ => absurd ((decide_eq_false hs8_0).symm.trans e_) (by decide)) rfl ?_
      refine tn rfl (fun e_ => absurd ((decide_eq_false hs8_0).symm.trans e_) (by decide)) rfl ?_
      refine tn rfl (fun e_ => absurd ((decide_eq_false hs8_0).symm.trans e_) (by decide)) rfl ?_
      refine tn rfl (fun e_ => absurd ((decide_eq_false hs8_0).symm.trans e_) (by decide)) rfl ?_
      refine tn rfl (fun e_ => absurd ((decide_eq_false hs8_0).symm.trans e_) (by decide)) rfl ?_
      refine tv (fun w_ E_ => (o_pickF (decide_eq_false hs8_0) rfl rfl)) rfl rfl ?_
      refine tv (fun w_ E_ => (o_as rfl)) rfl rfl ?_
      refine tv (fun w_ E_ => (o_as rfl)) rfl rfl ?_
      refine tw_nil rfl fun w5 E_ => ?_
      replace Bg1 := Bg1.mod0 E_
      replace E := E.then E_
      refine e_K (hK9 _ _ _ _ ?_)
      refine c_ret ?_
      exact ret2 rfl rfl rfl ⟨by rw [hpos, ← hE2], E⟩

theorem c_find (A : List Nat) (w : World) (xs : List Slot) (v : Value) (R : Rep A w (slotsD xs) v) (p : Pair) (ha : asc xs = true) (hn : xs.length ≤ 1000000) : Calls Tryd.prog 39 [v, p.agg].toArray w (Ret fun u w' => u = .tuple #[.int .i64 (posS xs p), .bool (getS xs p).isSome] ∧ Mod [] w w') := by
  refine enter Tryd.func39 rfl rfl rfl (l := [(0, _), (1, _)]) ⟨rfl, rfl, trivial⟩ ?_
  have E := Mod.refl [] w
  refine c_seq fun K1 hK1 => ?_
  refine c_region ?_
  refine s_box rfl rfl rfl fun g1 w1 N1 => ?_
  have Lg1_E := N1.le E
  replace E := E.then N1.mod
  have Bg1 := N1.blk
  refine sv (o_as rfl) rfl ?_
  refine sv (o_as rfl) rfl ?_
  refine l_nil ?_
  refine e_K (hK1 _ _ _ _ ?_)
  refine c_seq fun K2 hK2 => ?_
  refine c_region ?_
  refine sv (o_mv rfl) rfl ?_
  refine sv (o_lda (vs := [_, _]) ag35 rfl rfl (Bg1.cs rfl)) rfl ?_
  refine sc (o_call ent54 rfl) (c_bs A _ xs _ (R.to0 E) p ha hn) rfl fun v_ w2 h_ => ?_
  obtain ⟨rfl, E_⟩ := h_
  replace Bg1 := Bg1.mod0 E_
  replace E := E.then E_
  refine sv (o_ext rfl rfl) rfl ?_
  refine sv (o_ext rfl rfl) rfl ?_
  refine sv (o_as rfl) rfl ?_
  refine sv (o_as rfl) rfl ?_
  refine l_nil ?_
  refine e_K (hK2 _ _ _ _ ?_)
  refine c_ret ?_
  exact ret2 rfl rfl rfl ⟨rfl, E⟩

theorem c_get (A : List Nat) (w : World) (xs : List Slot) (v : Value) (R : Rep A w (slotsD xs) v) (p : Pair) (ha : asc xs = true) (hn : xs.length ≤ 1000000) : Calls Tryd.prog 27 [v, p.agg].toArray w (Ret fun u w' => u = .tuple #[S ((getS xs p).getD []), .bool (getS xs p).isSome] ∧ Mod [] w w') := by
  refine enter Tryd.func27 rfl rfl rfl (l := [(0, _), (1, _)]) ⟨rfl, rfl, trivial⟩ ?_
  have E := Mod.refl [] w
  obtain ⟨ad, c, rfl, hc1, hc2⟩ := flat_len R
  refine c_seq fun K1 hK1 => ?_
  refine c_region ?_
  refine s_box rfl rfl rfl fun g1 w1 N1 => ?_
  have Lg1_E := N1.le E
  replace E := E.then N1.mod
  have Bg1 := N1.blk
  refine sv (o_as rfl) rfl ?_
  refine sv (o_as rfl) rfl ?_
  refine l_nil ?_
  refine e_K (hK1 _ _ _ _ ?_)
  refine c_seq fun K2 hK2 => ?_
  refine c_region ?_
  refine sv (o_mv rfl) rfl ?_
  refine sv (o_lda (vs := [_, _]) ag35 rfl rfl (Bg1.cs rfl)) rfl ?_
  refine sc (o_call ent39 rfl) (c_find A _ xs _ (R.to0 E) p ha hn) rfl fun v_ w2 h_ => ?_
  obtain ⟨rfl, E_⟩ := h_
  replace Bg1 := Bg1.mod0 E_
  replace E := E.then E_
  refine sv (o_mv rfl) rfl ?_
  refine sv (o_ext rfl rfl) rfl ?_
  refine sv (o_ext rfl rfl) rfl ?_
  refine sv (o_as rfl) rfl ?_
  refine sv (o_as rfl) rfl ?_
  refine l_nil ?_
  refine e_K (hK2 _ _ _ _ ?_)
  refine c_seq fun K3 hK3 => ?_
  refine c_seq fun K4 hK4 => ?_
  refine c_region ?_
  refine sv (o_mv rfl) rfl ?_
  refine sv (o_not rfl) rfl ?_
  refine l_nil ?_
  refine e_K (hK4 _ _ _ _ ?_)
  refine c_cond rfl (fun h15 => ?_) (fun h15 => ?_)
  · skip
    have hno : getS xs p = none := by simpa using h15
    refine c_seq fun K5 hK5 => ?_
    refine c_region ?_
    refine sv (o_as rfl) rfl ?_
    refine sv (o_as rfl) rfl ?_
    refine l_nil ?_
    refine e_K (hK5 _ _ _ _ ?_)
    refine c_ret ?_
    refine e_then (by simp) ?_
    exact ret2 rfl rfl rfl ⟨by rw [hno]; rfl, E⟩
  · skip
    obtain ⟨x, hx_x, hxp, hxg⟩ := isS_some ha (by simpa using h15)
    have hpl := (List.getElem?_eq_some_iff.1 hx_x).1
    obtain ⟨a_x, ha_x, hcs_x, _⟩ := flat_at (R.to0 E) hx_x
    subst ha_x
    refine c_skip ?_
    refine e_K (hK3 _ _ _ _ ?_)
    refine c_seq fun K6 hK6 => ?_
    refine c_region ?_
    refine sv (o_mv rfl) rfl ?_
    refine sv (o_mv rfl) rfl ?_
    refine sv (o_ix sl37 rfl rfl (by omega)) rfl ?_
    refine sv (o_fad fd53_2 rfl) rfl ?_
    refine sv (o_ld sc9 rfl (hcs_x 2 _ rfl)) rfl ?_
    refine sv (o_as rfl) rfl ?_
    refine sv (o_as rfl) rfl ?_
    refine l_nil ?_
    refine e_K (hK6 _ _ _ _ ?_)
    refine c_ret ?_
    exact ret2 rfl rfl rfl ⟨by rw [hxg]; rfl, E⟩
end Go.Proofs.YtebfihecdooneaaDoor.V

set_option linter.unusedVariables false
set_option linter.unusedSimpArgs false
set_option maxRecDepth 10000
namespace Go.Proofs.YtebfihecdooneaaDoor.V
open Go Go.Proofs

end Go.Proofs.YtebfihecdooneaaDoor.V

set_option linter.unusedVariables false
set_option linter.unusedSimpArgs false
set_option maxRecDepth 10000
namespace Go.Proofs.YtebfihecdooneaaDoor.V
open Go Go.Proofs

end Go.Proofs.YtebfihecdooneaaDoor.V

set_option linter.unusedVariables false
set_option linter.unusedSimpArgs false
set_option maxRecDepth 10000
namespace Go.Proofs.YtebfihecdooneaaDoor.V
open Go Go.Proofs

end Go.Proofs.YtebfihecdooneaaDoor.V

set_option linter.unusedVariables false
set_option linter.unusedSimpArgs false
namespace Go.Proofs.YtebfihecdooneaaDoor.V
open Go
theorem asc_iff : ∀ {xs : List Slot}, asc xs = true ↔ xs.Pairwise (fun a b => plt a.pair b.pair = true)
  | [] => by simp [asc]
  | x :: xs => by
    rw [List.pairwise_cons]
    refine ⟨fun h => ⟨fun b hb => asc_head h hb, asc_iff.1 (asc_tail h)⟩, fun h => ?_⟩
    have ih := (asc_iff (xs := xs)).2 h.2
    cases xs with
    | nil => rfl
    | cons b r =>
      simp only [asc, Bool.and_eq_true]
      exact ⟨h.1 b (List.mem_cons_self ..), ih⟩
theorem putS_asc {xs : List Slot} {s : Slot} (h : asc xs = true) : asc (putS xs s) = true := by
  rw [asc_iff] at h ⊢
  rw [putS, List.pairwise_append, List.pairwise_append]
  refine ⟨⟨h.filter _, List.pairwise_singleton .., fun a ha b hb => ?_⟩, h.filter _, fun a ha b hb => ?_⟩
  · simp at ha hb
    subst hb
    exact ha.2
  · simp only [List.mem_append, List.mem_singleton, List.mem_filter] at ha hb
    rcases ha with ha | rfl
    · exact plt_trans ha.2 hb.2
    · exact hb.2
theorem getS_put {xs : List Slot} {s : Slot} {p : Pair} : getS (putS xs s) p = if s.pair = p then some s.id else getS xs p := by
  unfold getS putS
  rw [List.find?_append, List.find?_append, List.find?_filter, List.find?_filter]
  simp only [Bool.decide_and, Bool.decide_eq_true]
  by_cases hs : s.pair = p
  · have h1 : xs.find? (fun x => plt x.pair s.pair && decide (x.pair = p)) = none := by
      rw [List.find?_eq_none]
      intro x _ h
      simp at h
      rw [h.2, hs, plt_irrefl] at h
      exact absurd h.1 (by simp)
    rw [if_pos hs, h1]
    simp [hs]
  · rw [if_neg hs]
    have h0 : [s].find? (fun x => decide (x.pair = p)) = none := by simp [hs]
    rw [h0]
    rcases plt_total p s.pair with h | h | h
    · have h1 : (fun x : Slot => plt x.pair s.pair && decide (x.pair = p)) = fun x => decide (x.pair = p) := by
        funext x
        by_cases hx : x.pair = p <;> simp [hx, h]
      have h2 : xs.find? (fun x => plt s.pair x.pair && decide (x.pair = p)) = none := by
        rw [List.find?_eq_none]
        intro x _ h'
        simp at h'
        rw [h'.2, plt_asymm h] at h'
        exact absurd h'.1 (by simp)
      rw [h1, h2]
      simp
    · exact absurd h.symm hs
    · have h1 : (fun x : Slot => plt s.pair x.pair && decide (x.pair = p)) = fun x => decide (x.pair = p) := by
        funext x
        by_cases hx : x.pair = p <;> simp [hx, h]
      have h2 : xs.find? (fun x => plt x.pair s.pair && decide (x.pair = p)) = none := by
        rw [List.find?_eq_none]
        intro x _ h'
        simp at h'
        rw [h'.2, plt_asymm h] at h'
        exact absurd h'.1 (by simp)
      rw [h1, h2]
      simp
def stS (xs : List Slot) (k : Nat) : List Slot := (xs.take k).foldl putS []
theorem stS_succ {xs : List Slot} {k : Nat} {x : Slot} (h : xs[k]? = some x) : stS xs (k + 1) = putS (stS xs k) x := by
  have hlt := (List.getElem?_eq_some_iff.1 h).1
  rw [stS, List.take_succ_eq_append_getElem hlt, (List.getElem?_eq_some_iff.1 h).2, List.foldl_append]
  rfl
theorem foldl_asc : ∀ {l st : List Slot}, asc st = true → asc (l.foldl putS st) = true
  | [], _, h => h
  | x :: l, _, h => foldl_asc (l := l) (putS_asc h)
theorem stS_asc (xs : List Slot) (k : Nat) : asc (stS xs k) = true := foldl_asc rfl
theorem putS_len {xs : List Slot} {s : Slot} : (putS xs s).length ≤ xs.length + 1 := by
  have h : ∀ xs : List Slot, (xs.filter fun x => plt x.pair s.pair).length + (xs.filter fun x => plt s.pair x.pair).length ≤ xs.length := by
    intro xs
    induction xs with
    | nil => simp
    | cons x xs ih =>
      by_cases h : plt x.pair s.pair = true
      · have h' := plt_asymm h
        simp only [List.filter_cons, h, h', if_true, List.length_cons]
        simp
        omega
      · simp only [List.filter_cons, h]
        by_cases h' : plt s.pair x.pair = true
        · simp [h']
          omega
        · simp [h']
          omega
  have := h xs
  simp only [putS, List.length_append, List.length_singleton]
  omega
theorem foldl_len : ∀ {l st : List Slot}, (l.foldl putS st).length ≤ st.length + l.length
  | [], _ => by simp
  | x :: l, st => by
    have := foldl_len (l := l) (st := putS st x)
    have h2 := putS_len (xs := st) (s := x)
    simp only [List.foldl_cons, List.length_cons]
    omega
theorem stS_len (xs : List Slot) (k : Nat) : (stS xs k).length ≤ xs.length := by
  have := foldl_len (l := xs.take k) (st := [])
  simp only [List.length_take, List.length_nil] at this
  unfold stS
  omega
/-- the last of a pair -/
def lastS (xs : List Slot) (y : Slot) (k : Nat) : Slot := (xs.take k).foldl (fun y x => if x.pair = y.pair then x else y) y
theorem lastS_succ {xs : List Slot} {y : Slot} {k : Nat} {x : Slot} (h : xs[k]? = some x) : lastS xs y (k + 1) = if x.pair = (lastS xs y k).pair then x else lastS xs y k := by
  have hlt := (List.getElem?_eq_some_iff.1 h).1
  rw [lastS, List.take_succ_eq_append_getElem hlt, (List.getElem?_eq_some_iff.1 h).2, List.foldl_append]
  rfl
theorem fold_last {p : Pair} : ∀ {l st : List Slot} {y : Slot}, y.pair = p → (getS st p = some y.id ∨ ∃ x ∈ l, x.pair = p) →
    getS (l.foldl putS st) p = some (l.foldl (fun y x => if x.pair = y.pair then x else y) y).id ∧ (l.foldl (fun y x => if x.pair = y.pair then x else y) y).pair = p
  | [], st, y, hy, h => by
    rcases h with h | ⟨x, hx, _⟩
    · exact ⟨h, hy⟩
    · cases hx
  | x :: l, st, y, hy, h => by
    simp only [List.foldl_cons]
    by_cases hx : x.pair = y.pair
    · rw [if_pos hx]
      exact fold_last (hx.trans hy) (.inl (by rw [getS_put, if_pos (hx.trans hy)]))
    · rw [if_neg hx]
      have hxp : ¬ x.pair = p := fun e => hx (e.trans hy.symm)
      refine fold_last hy ?_
      rcases h with h | ⟨z, hz, hzp⟩
      · exact .inl (by rw [getS_put, if_neg hxp]; exact h)
      · rcases List.mem_cons.1 hz with rfl | hz
        · exact absurd hzp hxp
        · exact .inr ⟨z, hz, hzp⟩
theorem stS_last {xs : List Slot} {y : Slot} {i : Nat} (h : xs[i]? = some y) : getS (stS xs xs.length) (lastS xs y xs.length).pair = some (lastS xs y xs.length).id := by
  obtain ⟨h1, h2⟩ := fold_last (p := y.pair) (l := xs) (st := []) (y := y) rfl (.inr ⟨y, List.mem_of_getElem? h, rfl⟩)
  unfold stS lastS
  rw [List.take_length, h2]
  exact h1
end Go.Proofs.YtebfihecdooneaaDoor.V

set_option linter.unusedVariables false
set_option linter.unusedSimpArgs false
set_option maxRecDepth 10000
namespace Go.Proofs.YtebfihecdooneaaDoor.V
open Go Go.Proofs

end Go.Proofs.YtebfihecdooneaaDoor.V

set_option linter.unusedVariables false
set_option linter.unusedSimpArgs false
namespace Go.Proofs.YtebfihecdooneaaDoor.V
open Go
theorem flat_setg {α : Type} {sz : Nat} {cells : α → List Value} {xs : List α} {i : Nat} {s : α} (hl : ∀ x, (cells x).length = sz) (hi : i < xs.length) : ((xs.map cells).flatten).take (i * sz) ++ cells s ++ ((xs.map cells).flatten).drop ((i + 1) * sz) = ((xs.set i s).map cells).flatten := by
  rw [flat_take_ hl, flat_drop_ hl, List.set_eq_take_append_cons_drop, if_pos hi]
  simp
theorem pairs_one {xs : List Pair} : ∀ x ∈ xs, ∀ c ∈ Pair.cells x, c.oneCell' = true := by
  intro x _ c hc
  simp at hc
  rcases hc with rfl | rfl <;> rfl
theorem Own.pairs {w : World} {e : Nat} {v : Value} {xs : List Pair} (A : List Nat) (h : Own w e 2 v xs.length ((xs.map Pair.cells).flatten)) (hA : ∀ x ∈ ob v, x ∉ A) : Rep A w (pairsD xs) v := Own.flat h (fun _ _ => rfl) pairs_one rfl hA
theorem Own.pairsN {w : World} {e n : Nat} {v : Value} {xs : List Pair} (A : List Nat) (h : Own w e 2 v n ((xs.map Pair.cells).flatten)) (hn : xs.length = n) (hA : ∀ x ∈ ob v, x ∉ A) : Rep A w (pairsD xs) v := Own.flat h (fun _ _ => rfl) pairs_one hn hA
/-- insertion behind all that don't stand above -/
def insP (x : Pair) (S : List Pair) : List Pair := S.filter (fun y => !plt x y) ++ [x] ++ S.filter (fun y => plt x y)
def isortP (xs : List Pair) (k : Nat) : List Pair := (xs.take k).foldl (fun S x => insP x S) []
theorem isortP_succ {xs : List Pair} {k : Nat} {x : Pair} (h : xs[k]? = some x) : isortP xs (k + 1) = insP x (isortP xs k) := by
  have hlt := (List.getElem?_eq_some_iff.1 h).1
  rw [isortP, List.take_succ_eq_append_getElem hlt, (List.getElem?_eq_some_iff.1 h).2, List.foldl_append]
  rfl
theorem insP_len {x : Pair} {S : List Pair} : (insP x S).length = S.length + 1 := by
  have : (S.filter (fun y => !plt x y)).length + (S.filter (fun y => plt x y)).length = S.length := by
    induction S with
    | nil => rfl
    | cons y S ih =>
      by_cases h : plt x y = true
      · simp [h]; omega
      · simp [h]; omega
  simp only [insP, List.length_append, List.length_singleton]
  omega
theorem foldl_insP_len : ∀ {l S : List Pair}, (l.foldl (fun S x => insP x S) S).length = S.length + l.length
  | [], _ => by simp
  | x :: l, S => by
    have := foldl_insP_len (l := l) (S := insP x S)
    have h2 := @insP_len x S
    simp only [List.foldl_cons, List.length_cons]
    omega
theorem isortP_len {xs : List Pair} {k : Nat} (h : k ≤ xs.length) : (isortP xs k).length = k := by
  have := foldl_insP_len (l := xs.take k) (S := [])
  simp only [List.length_take, List.length_nil] at this
  unfold isortP
  omega
/-- not falling -/
def srt (S : List Pair) : Prop := ∀ (i j : Nat) (a b : Pair), i ≤ j → S[i]? = some a → S[j]? = some b → plt b a = false
theorem plt_neg_trans {a b c : Pair} (h : plt b a = false) (h' : plt c b = false) : plt c a = false := by
  cases hca : plt c a with
  | false => rfl
  | true =>
    rcases plt_total a b with h1 | h1 | h1
    · rw [plt_trans hca h1] at h'; cases h'
    · subst h1; rw [hca] at h'; cases h'
    · rw [h1] at h; cases h
theorem insP_at {x : Pair} {S : List Pair} {j : Nat} (hs : srt S) (h1 : ∀ (i : Nat) (y : Pair), j ≤ i → S[i]? = some y → plt x y = true) (h2 : j = 0 ∨ ∃ y, S[j - 1]? = some y ∧ plt x y = false) : insP x S = S.take j ++ [x] ++ S.drop j := by
  have h3 : ∀ (i : Nat) (y : Pair), i < j → S[i]? = some y → plt x y = false := fun i y hi hy => by
    rcases h2 with h2 | ⟨z, hz, hzx⟩
    · omega
    · exact plt_neg_trans (hs i (j - 1) y z (by omega) hy hz) hzx
  rw [insP, filter_take (i := j) (fun i y hi hy => by rw [h3 i y hi hy]; rfl) (fun i y hi hy => by rw [h1 i y hi hy]; rfl), filter_drop (i := j) h3 h1]
theorem srt_iff {S : List Pair} : srt S ↔ S.Pairwise (fun a b => plt b a = false) := by
  rw [List.pairwise_iff_getElem]
  constructor
  · intro h i j hi hj hij
    exact h i j _ _ (by omega) (List.getElem?_eq_getElem hi) (List.getElem?_eq_getElem hj)
  · intro h i j a b hij ha hb
    obtain ⟨hi, rfl⟩ := List.getElem?_eq_some_iff.1 ha
    obtain ⟨hj, rfl⟩ := List.getElem?_eq_some_iff.1 hb
    rcases Nat.lt_or_eq_of_le hij with h' | h'
    · exact h i j hi hj h'
    · subst h'; exact plt_irrefl _
theorem insP_srt {x : Pair} {S : List Pair} (h : srt S) : srt (insP x S) := by
  rw [srt_iff] at h ⊢
  rw [insP, List.pairwise_append, List.pairwise_append]
  refine ⟨⟨h.filter _, List.pairwise_singleton .., fun a ha b hb => ?_⟩, h.filter _, fun a ha b hb => ?_⟩
  · simp at ha hb
    subst hb
    exact ha.2
  · simp only [List.mem_append, List.mem_singleton, List.mem_filter] at ha hb
    rcases ha with ha | rfl
    · have : plt x a = false := by simpa using ha.2
      cases hba : plt b a with
      | false => rfl
      | true => rw [plt_trans hb.2 hba] at this; cases this
    · exact plt_asymm hb.2
theorem foldl_srt : ∀ {l S : List Pair}, srt S → srt (l.foldl (fun S x => insP x S) S)
  | [], _, h => h
  | x :: l, _, h => foldl_srt (l := l) (insP_srt h)
theorem isortP_srt (xs : List Pair) (k : Nat) : srt (isortP xs k) := foldl_srt (by intro i j a b _ h; simp at h)
theorem swap_at {S B : List Pair} {x y : Pair} {j : Nat} (hj : j < S.length) (hy : S[j]? = some y) :
    ((S.take (j + 1) ++ [x] ++ S.drop (j + 1) ++ B).set (j + 1) y).set j x = S.take j ++ [x] ++ S.drop j ++ B := by
  have h1 : S.drop j = y :: S.drop (j + 1) := by rw [List.drop_eq_getElem_cons hj, (List.getElem?_eq_some_iff.1 hy).2]
  have h2 : S.take (j + 1) = S.take j ++ [y] := by rw [List.take_succ_eq_append_getElem hj, (List.getElem?_eq_some_iff.1 hy).2]
  have hl : (S.take j).length = j := by rw [List.length_take]; omega
  rw [h1, h2]
  have e1 : S.take j ++ [y] ++ [x] ++ S.drop (j + 1) ++ B = S.take j ++ (y :: x :: (S.drop (j + 1) ++ B)) := by simp
  have e2 : S.take j ++ [x] ++ y :: S.drop (j + 1) ++ B = S.take j ++ (x :: y :: (S.drop (j + 1) ++ B)) := by simp
  rw [e1, e2, List.set_append_right _ _ (by omega), List.set_append_right _ _ (by omega), hl]
  simp
theorem get_ins {S B : List Pair} {x : Pair} {j : Nat} (hj : j ≤ S.length) : (S.take j ++ [x] ++ S.drop j ++ B)[j]? = some x := by
  have hl : (S.take j).length = j := by rw [List.length_take]; omega
  rw [List.append_assoc, List.append_assoc, List.getElem?_append_right (by omega), hl]
  simp
theorem get_ins_pred {S B : List Pair} {x : Pair} {j : Nat} (hj : j + 1 ≤ S.length) : (S.take (j + 1) ++ [x] ++ S.drop (j + 1) ++ B)[j]? = S[j]? := by
  have hl : (S.take (j + 1)).length = j + 1 := by rw [List.length_take]; omega
  rw [List.append_assoc, List.append_assoc, List.getElem?_append_left (by omega), List.getElem?_take, if_pos (by omega)]
theorem len_ins {S B : List Pair} {x : Pair} {j : Nat} : (S.take j ++ [x] ++ S.drop j ++ B).length = S.length + 1 + B.length := by
  simp only [List.length_append, List.length_take, List.length_drop, List.length_singleton]
  omega
theorem ins_start {S : List Pair} {xs : List Pair} {k : Nat} {x : Pair} (hk : S.length = k) (hx : xs[k]? = some x) : S ++ xs.drop k = S.take k ++ [x] ++ S.drop k ++ xs.drop (k + 1) := by
  have hlt := (List.getElem?_eq_some_iff.1 hx).1
  have h1 : xs.drop k = x :: xs.drop (k + 1) := by rw [List.drop_eq_getElem_cons hlt, (List.getElem?_eq_some_iff.1 hx).2]
  have h2 : S.take k = S := List.take_of_length_le (by omega)
  have h3 : S.drop k = [] := List.drop_eq_nil_of_le (by omega)
  rw [h1, h2, h3]
  simp
/-- no neighbour is its neighbour's double -/
def apartP (S : List Pair) : Prop := ∀ (i : Nat) (a b : Pair), S[i]? = some a → S[i + 1]? = some b → a ≠ b
theorem isortP_one (xs : List Pair) : xs = isortP xs 1 ++ xs.drop 1 := by cases xs <;> rfl
theorem isortP_all {xs : List Pair} {k : Nat} (h : xs.length ≤ k) : isortP xs k ++ xs.drop k = isortP xs xs.length := by
  rw [isortP, isortP, List.take_of_length_le h, List.drop_eq_nil_of_le h, List.take_length, List.append_nil]
end Go.Proofs.YtebfihecdooneaaDoor.V

set_option linter.unusedVariables false
set_option linter.unusedSimpArgs false
set_option maxRecDepth 10000
namespace Go.Proofs.YtebfihecdooneaaDoor.V
open Go Go.Proofs
theorem sl32 : slB Tryd.prog 32 35 2 32 = true := by kernel_rfl
theorem c_isort (w : World) (xs : List Pair) (v : Value) (O : Own w 35 2 v xs.length ((xs.map Pair.cells).flatten)) (hn : xs.length ≤ 1000000) : Calls Tryd.prog 43 [v, .int .i64 0, .int .i64 xs.length, .func (.func 20) #[] #[]].toArray w (Ret fun _ w' => Own w' 35 2 v xs.length (((isortP xs xs.length).map Pair.cells).flatten) ∧ Mod (ob v) w w') := by
  refine enter Tryd.func43 rfl rfl rfl (l := [(0, _), (1, _), (2, _), (3, _)]) ⟨rfl, rfl, rfl, rfl, trivial⟩ ?_
  have E := Mod.refl [] w
  obtain ⟨ad, c, rfl, hc1, hc2⟩ := O.form
  replace E := Mod.refl (ob (.slice ad xs.length c)) w
  refine c_seq fun K1 hK1 => ?_
  refine c_region ?_
  refine sv (o_mv rfl) rfl ?_
  refine sv (o_addN rfl rfl (by omega)) rfl ?_
  refine sv (o_as rfl) rfl ?_
  refine l_nil ?_
  refine e_K (hK1 _ _ _ _ ?_)
  refine c_block ?_
  refine c_loop (σ := Nat) (fun k => [(0, .slice ad xs.length c), (1, .int .i64 0), (2, .int .i64 xs.length), (3, .func (.func 20) #[] #[]), (8, .int .i64 (k : Int))]) (fun k w1 => 1 ≤ k ∧ k ≤ xs.length + 1 ∧ Own w1 35 2 (.slice ad xs.length c) xs.length (((isortP xs k ++ xs.drop k).map Pair.cells).flatten) ∧ Mod (ob (.slice ad xs.length c)) w w1) (fun k => xs.length + 1 - k) (1) ⟨rfl, rfl, rfl, rfl, rfl, trivial⟩ (⟨by omega, by omega, by rw [← isortP_one]; exact O, E⟩) ?_
  rintro k w1 ⟨hk1, hk, Ov, E⟩
  refine c_seq fun K2 hK2 => ?_
  refine c_seq fun K3 hK3 => ?_
  refine c_region ?_
  refine sv (o_mv rfl) rfl ?_
  refine sv (o_mv rfl) rfl ?_
  refine sv (o_lss rfl rfl) rfl ?_
  refine l_nil ?_
  refine e_K (hK3 _ _ _ _ ?_)
  refine c_if rfl (fun h14 => ?_) (fun h14 => ?_)
  · skip
    have hlt : k < xs.length := by omega
    obtain ⟨S, hS⟩ : ∃ S, S = isortP xs k := ⟨_, rfl⟩
    have hSl : S.length = k := by rw [hS]; exact isortP_len (by omega)
    have hSs : srt S := by rw [hS]; exact isortP_srt xs k
    rw [← hS] at Ov
    obtain ⟨x, hx_x⟩ : ∃ x, xs[k]? = some x := ⟨_, List.getElem?_eq_getElem (by omega)⟩
    obtain ⟨ad3, rfl⟩ : ∃ a, ad = some a := by
      cases ad with
      | some a => exact ⟨a, rfl⟩
      | none => rcases Ov.2 with ⟨h0, h1⟩ | ⟨_, _, _, _, h0, _⟩; omega; cases h0
    refine c_skip ?_
    refine e_K (hK2 _ _ _ _ ?_)
    refine c_seq fun K4 hK4 => ?_
    refine c_block ?_
    refine c_seq fun K5 hK5 => ?_
    refine c_region ?_
    refine sv (o_mv rfl) rfl ?_
    refine sv (o_as rfl) rfl ?_
    refine l_nil ?_
    refine e_K (hK5 _ _ _ _ ?_)
    refine c_block ?_
    refine c_loop (σ := Nat) (fun j => [(0, .slice (some ad3) xs.length c), (1, .int .i64 0), (2, .int .i64 xs.length), (3, .func (.func 20) #[] #[]), (8, .int .i64 (k : Int)), (9, .int .i64 (j : Int))]) (fun j w1 => j ≤ S.length ∧ (∀ (i : Nat) (y : Pair), j ≤ i → S[i]? = some y → plt x y = true) ∧ Own w1 35 2 (.slice (some ad3) xs.length c) xs.length (((S.take j ++ [x] ++ S.drop j ++ xs.drop (k + 1)).map Pair.cells).flatten) ∧ Mod (ob (.slice (some ad3) xs.length c)) w w1) (fun j => j) (k) ⟨rfl, rfl, rfl, rfl, rfl, rfl, trivial⟩ (⟨by omega, fun i y hi hy => (by rw [List.getElem?_eq_none (by omega)] at hy; cases hy), by rw [← ins_start hSl hx_x]; exact Ov, E⟩) ?_
    rintro j w2 ⟨hj, hup, Ov, E⟩
    refine c_seq fun K6 hK6 => ?_
    refine c_seq fun K7 hK7 => ?_
    by_cases hs4_0 : (j : Int) > 0
    · skip
      obtain ⟨j, rfl⟩ : ∃ i, j = i + 1 := ⟨j - 1, by omega⟩
      obtain ⟨y, hy⟩ : ∃ y, S[j]? = some y := ⟨_, List.getElem?_eq_getElem (by omega)⟩
      have hlen_x : ((S.take (j + 1) ++ [x] ++ S.drop (j + 1) ++ xs.drop (k + 1))).length = xs.length := by simp only [len_ins]; rw [hSl]; simp only [List.length_drop]; omega
      have RO_x := Own.pairsN [] Ov hlen_x (by simp)
      obtain ⟨a_x, ha_x, hcs_x, _⟩ := flat_at (cells := Pair.cells) (xs := (S.take (j + 1) ++ [x] ++ S.drop (j + 1) ++ xs.drop (k + 1))) (i := j + 1) RO_x (get_ins (by omega))
      injection ha_x with ha_x
      subst ha_x
      have hlen_y : ((S.take (j + 1) ++ [x] ++ S.drop (j + 1) ++ xs.drop (k + 1))).length = xs.length := by simp only [len_ins]; rw [hSl]; simp only [List.length_drop]; omega
      have RO_y := Own.pairsN [] Ov hlen_y (by simp)
      obtain ⟨a_y, ha_y, hcs_y, _⟩ := flat_at (cells := Pair.cells) (xs := (S.take (j + 1) ++ [x] ++ S.drop (j + 1) ++ xs.drop (k + 1))) (i := j) RO_y ((get_ins_pred (by omega)).trans hy)
      injection ha_y with ha_y
      subst ha_y
      refine c_draw wide (by kernel_rfl) ?_
      refine tv (fun w_ E_ => (o_mv rfl)) rfl rfl ?_
      refine tv (fun w_ E_ => (o_mv rfl)) rfl rfl ?_
      refine tv (fun w_ E_ => (o_gtr rfl rfl)) rfl rfl ?_
      refine tv (fun w_ E_ => (o_mv rfl)) rfl rfl ?_
      refine tvg rfl (decide_eq_true hs4_0) (fun w_ E_ => (o_mv rfl)) rfl rfl ?_
      refine tvg rfl (decide_eq_true hs4_0) (fun w_ E_ => (o_mv rfl)) rfl rfl ?_
      refine tvg rfl (decide_eq_true hs4_0) (fun w_ E_ => (o_mv rfl)) rfl rfl ?_
      refine tvg rfl (decide_eq_true hs4_0) (fun w_ E_ => (o_ix sl32 rfl rfl (by omega))) rfl rfl ?_
      refine tvg rfl (decide_eq_true hs4_0) (fun w_ E_ => (o_lda ag35 rfl rfl (hcs_x.mod0 E_))) rfl rfl ?_
      refine tvg rfl (decide_eq_true hs4_0) (fun w_ E_ => (o_mv rfl)) rfl rfl ?_
      refine tvg rfl (decide_eq_true hs4_0) (fun w_ E_ => (o_mv rfl)) rfl rfl ?_
      refine tvg rfl (decide_eq_true hs4_0) (fun w_ E_ => (o_subE (r := (j : Int)) rfl rfl (by rw [wrap64_in _ (by omega)]; omega))) rfl rfl ?_
      refine tvg rfl (decide_eq_true hs4_0) (fun w_ E_ => (o_ix sl32 rfl rfl (by omega))) rfl rfl ?_
      refine tvg rfl (decide_eq_true hs4_0) (fun w_ E_ => (o_lda ag35 rfl rfl (hcs_y.mod0 E_))) rfl rfl ?_
      refine tcg rfl (decide_eq_true hs4_0) (fun w_ E_ => o_callv ent20 rfl rfl) (fun w_ E_ => c_pcmp _ x y) rfl rfl ?_
      refine tvg rfl (decide_eq_true hs4_0) (fun w_ E_ => (o_lss rfl rfl)) rfl rfl ?_
      refine tv (fun w_ E_ => (o_pickT (decide_eq_true hs4_0) rfl rfl)) rfl rfl ?_
      refine tw_nil rfl fun w3 E_ => ?_
      replace E := E.then E_
      replace Ov := Ov.mod0 E_
      replace hcs_x := hcs_x.mod0 E_
      replace hcs_y := hcs_y.mod0 E_
      refine e_K (hK7 _ _ _ _ ?_)
      refine c_if rfl (fun h34 => ?_) (fun h34 => ?_)
      · skip
        have hpl := pcmp_lt.1 h34
        have hup2 : ∀ (i : Nat) (z : Pair), j ≤ i → S[i]? = some z → plt x z = true := fun i z hi hz => by
          rcases Nat.lt_or_eq_of_le hi with h | h
          · exact hup i z (by omega) hz
          · subst h; rw [hy] at hz; injection hz with hz; subst hz; exact hpl
        have hL : j + 1 < (S.take (j + 1) ++ [x] ++ S.drop (j + 1) ++ xs.drop (k + 1)).length := by omega
        refine c_skip ?_
        refine e_K (hK6 _ _ _ _ ?_)
        refine c_seq fun K8 hK8 => ?_
        refine c_block ?_
        refine c_drawp [2, 3, 4] [0, 1, 5, 6, 7, 8, 9, 10, 11, 12, 13, 14] 15 [16, 17] wide (by kernel_rfl) (fun _ _ _ h => h.2) ?_
        refine pw (fun _ => (o_mv rfl)) rfl rfl ?_
        refine pw (fun _ => (o_mv rfl)) rfl rfl ?_
        refine pw (fun _ => (o_subE (r := (j : Int)) rfl rfl (by rw [wrap64_in _ (by omega)]; omega))) rfl rfl ?_
        refine pw_nil ?_
        refine tv (fun w_ E_ => (o_mv rfl)) rfl rfl ?_
        refine tv (fun w_ E_ => (o_mv rfl)) rfl rfl ?_
        refine tv (fun w_ E_ => (o_mv rfl)) rfl rfl ?_
        refine tv (fun w_ E_ => (o_mv rfl)) rfl rfl ?_
        refine tv (fun w_ E_ => (o_subE (r := (j : Int)) rfl rfl (by rw [wrap64_in _ (by omega)]; omega))) rfl rfl ?_
        refine tv (fun w_ E_ => (o_ix sl32 rfl rfl (by omega))) rfl rfl ?_
        refine tv (fun w_ E_ => (o_lda ag35 rfl rfl (hcs_y.mod0 E_))) rfl rfl ?_
        refine tv (fun w_ E_ => (o_mv rfl)) rfl rfl ?_
        refine tv (fun w_ E_ => (o_mv rfl)) rfl rfl ?_
        refine tv (fun w_ E_ => (o_ix sl32 rfl rfl (by omega))) rfl rfl ?_
        refine tv (fun w_ E_ => (o_lda ag35 rfl rfl (hcs_x.mod0 E_))) rfl rfl ?_
        refine tv (fun w_ E_ => (o_ix sl32 rfl rfl (by omega))) rfl rfl ?_
        refine tw_tail rfl fun w4 E_ => ?_
        replace E := E.then E_
        replace Ov := Ov.mod0 E_
        refine s_stown (us := [_, _]) ag35 Ov rfl rfl rfl (by simp [Value.oneCell']) (by omega) fun wS1 Ov2 ES hzS => ?_
        replace E := E.trans' ES (fun x hx => .inl (by simpa [ob] using hx))
        clear Ov
        have Ov := Ov2.same rfl (flat_setg (cells := Pair.cells) (s := y) (fun _ => rfl) hL)
        refine sv (o_ix sl32 rfl rfl (by omega)) rfl ?_
        refine s_stown (us := [_, _]) ag35 Ov rfl rfl rfl (by simp [Value.oneCell']) (by omega) fun wS2 Ov2 ES hzS => ?_
        replace E := E.trans' ES (fun x hx => .inl (by simpa [ob] using hx))
        clear Ov
        have Ov := Ov2.same rfl (flat_setg (cells := Pair.cells) (s := x) (fun _ => rfl) (by rw [List.length_set]; omega))
        refine l_nil ?_
        refine e_in (by simp) ?_
        refine e_K (hK8 _ _ _ _ ?_)
        refine c_region ?_
        refine sv (o_mv rfl) rfl ?_
        refine sv (o_subE (r := (j : Int)) rfl rfl (by rw [wrap64_in _ (by omega)]; omega)) rfl ?_
        refine sv (o_as rfl) rfl ?_
        refine l_nil ?_
        exact e_round (σ := Nat) (s := j + 1) (j) ⟨rfl, rfl, rfl, rfl, rfl, rfl, trivial⟩ ⟨by omega, hup2, by rw [← swap_at (by omega) hy]; exact Ov, E⟩ (by omega)
      · skip
        have hnx : Own w3 35 2 (.slice (some ad3) xs.length c) xs.length (((isortP xs (k + 1) ++ xs.drop (k + 1)).map Pair.cells).flatten) := by
          rw [isortP_succ hx_x, ← hS, insP_at hSs hup (.inr ⟨y, hy, by cases hb : plt x y with
            | false => rfl
            | true => exact absurd (pcmp_lt.2 hb) h34⟩)]
          exact Ov
        refine c_exit ?_
        refine e_then (by simp) ?_
        refine e_then (by simp) ?_
        refine e_hit ?_
        refine e_in (by simp) ?_
        refine e_K (hK4 _ _ _ _ ?_)
        refine c_region ?_
        refine sv (o_mv rfl) rfl ?_
        refine sv (o_addN rfl rfl (by omega)) rfl ?_
        refine sv (o_as rfl) rfl ?_
        refine l_nil ?_
        exact e_round (σ := Nat) (s := k) (k + 1) ⟨rfl, rfl, rfl, rfl, rfl, trivial⟩ ⟨by omega, by omega, hnx, E⟩ (by omega)
    · skip
      refine c_draw wide (by kernel_rfl) ?_
      refine tv (fun w_ E_ => (o_mv rfl)) rfl rfl ?_
      refine tv (fun w_ E_ => (o_mv rfl)) rfl rfl ?_
      refine tv (fun w_ E_ => (o_gtr rfl rfl)) rfl rfl ?_
      refine tv (fun w_ E_ => (o_mv rfl)) rfl rfl ?_
      refine tn rfl (fun e_ => absurd ((decide_eq_false hs4_0).symm.trans e_) (by decide)) rfl ?_
      refine tn rfl (fun e_ => absurd ((decide_eq_false hs4_0).symm.trans e_) (by decide)) rfl ?_
      refine tn rfl (fun e_ => absurd ((decide_eq_false hs4_0).symm.trans e_) (by decide)) rfl ?_
      refine tn rfl (fun e_ => absurd ((decide_eq_false hs4_0).symm.trans e_) (by decide)) rfl ?_
      refine tn rfl (fun e_ => absurd ((decide_eq_false hs4_0).symm.trans e_) (by decide)) rfl ?_
      refine tn rfl (fun e_ => absurd ((decide_eq_false hs4_0).symm.trans e_) (by decide)) rfl ?_
      refine tn rfl (fun e_ => absurd ((decide_eq_false hs4_0).symm.trans e_) (by decide)) rfl ?_
      refine tn rfl (fun e_ => absurd ((decide_eq_false hs4_0).symm.trans e_) (by decide)) rfl ?_
      refine tn rfl (fun e_ => absurd ((decide_eq_false hs4_0).symm.trans e_) (by decide)) rfl ?_
      refine tn rfl (fun e_ => absurd ((decide_eq_false hs4_0).symm.trans e_) (by decide)) rfl ?_
      refine tn rfl (fun e_ => absurd ((decide_eq_false hs4_0).symm.trans e_) (by decide)) rfl ?_
      refine tn rfl (fun e_ => absurd ((decide_eq_false hs4_0).symm.trans e_) (by decide)) rfl ?_
      refine tv (fun w_ E_ => (o_pickF (decide_eq_false hs4_0) rfl rfl)) rfl rfl ?_
      refine tw_nil rfl fun w5 E_ => ?_
      replace E := E.then E_
      replace Ov := Ov.mod0 E_
      skip
      refine e_K (hK7 _ _ _ _ ?_)
      refine c_false rfl ?_
      have hnx : Own w5 35 2 (.slice (some ad3) xs.length c) xs.length (((isortP xs (k + 1) ++ xs.drop (k + 1)).map Pair.cells).flatten) := by
        rw [isortP_succ hx_x, ← hS, insP_at hSs hup (.inl (by omega))]
        exact Ov
      refine c_exit ?_
      refine e_then (by simp) ?_
      refine e_then (by simp) ?_
      refine e_hit ?_
      refine e_in (by simp) ?_
      refine e_K (hK4 _ _ _ _ ?_)
      refine c_region ?_
      refine sv (o_mv rfl) rfl ?_
      refine sv (o_addN rfl rfl (by omega)) rfl ?_
      refine sv (o_as rfl) rfl ?_
      refine l_nil ?_
      exact e_round (σ := Nat) (s := k) (k + 1) ⟨rfl, rfl, rfl, rfl, rfl, trivial⟩ ⟨by omega, by omega, hnx, E⟩ (by omega)
  · skip
    refine c_exit ?_
    refine e_then (by simp) ?_
    refine e_then (by simp) ?_
    refine e_hit ?_
    exact end0 rfl ⟨by rw [← isortP_all (k := k) (by omega)]; exact Ov, E⟩
end Go.Proofs.YtebfihecdooneaaDoor.V

set_option linter.unusedVariables false
set_option linter.unusedSimpArgs false
set_option maxRecDepth 10000
namespace Go.Proofs.YtebfihecdooneaaDoor.V
open Go Go.Proofs
theorem ent52 : Ent Tryd.prog 52 := Ent.of Tryd.func52 (by kernel_rfl) (by kernel_rfl)
theorem ent43 : Ent Tryd.prog 43 := Ent.of Tryd.func43 (by kernel_rfl) (by kernel_rfl)
theorem ent36 : Ent Tryd.prog 36 := Ent.of Tryd.func36 (by kernel_rfl) (by kernel_rfl)
theorem ent35 : Ent Tryd.prog 35 := Ent.of Tryd.func35 (by kernel_rfl) (by kernel_rfl)
theorem c_len64 (w : World) (m : Int) (hm : 0 ≤ m ∧ m ≤ 12) : Calls Tryd.prog 52 [.int .u64 m].toArray w (Ret fun u w' => (∃ r : Int, u = .int .i64 r) ∧ Mod [] w w') := by
  refine enter Tryd.func52 rfl rfl rfl (l := [(0, _)]) ⟨rfl, trivial⟩ ?_
  have E := Mod.refl [] w
  refine c_seq fun K1 hK1 => ?_
  refine c_region ?_
  refine sv (o_as rfl) rfl ?_
  refine l_nil ?_
  refine e_K (hK1 _ _ _ _ ?_)
  refine c_seq fun K2 hK2 => ?_
  refine c_seq fun K3 hK3 => ?_
  refine c_region ?_
  refine sv (o_mv rfl) rfl ?_
  refine sv (o_geq rfl rfl) rfl ?_
  refine l_nil ?_
  refine e_K (hK3 _ _ _ _ ?_)
  refine c_if rfl (fun h4 => ?_) (fun h4 => ?_)
  · skip
    exact absurd h4 (by omega)
  · skip
    refine c_skip ?_
    refine e_K (hK2 _ _ _ _ ?_)
    refine c_seq fun K4 hK4 => ?_
    refine c_seq fun K5 hK5 => ?_
    refine c_region ?_
    refine sv (o_mv rfl) rfl ?_
    refine sv (o_geq rfl rfl) rfl ?_
    refine l_nil ?_
    refine e_K (hK5 _ _ _ _ ?_)
    refine c_if rfl (fun h8 => ?_) (fun h8 => ?_)
    · skip
      exact absurd h8 (by omega)
    · skip
      refine c_skip ?_
      refine e_K (hK4 _ _ _ _ ?_)
      refine c_seq fun K6 hK6 => ?_
      refine c_seq fun K7 hK7 => ?_
      refine c_region ?_
      refine sv (o_mv rfl) rfl ?_
      refine sv (o_geq rfl rfl) rfl ?_
      refine l_nil ?_
      refine e_K (hK7 _ _ _ _ ?_)
      refine c_if rfl (fun h14 => ?_) (fun h14 => ?_)
      · skip
        exact absurd h14 (by omega)
      · skip
        refine c_skip ?_
        refine e_K (hK6 _ _ _ _ ?_)
        refine c_seq fun K8 hK8 => ?_
        refine c_region ?_
        refine sv (o_mv rfl) rfl ?_
        refine sv (o_mv rfl) rfl ?_
        refine sv (o_convE (r := m) Tryd.underlying90 Tryd.underlying5 rfl (wrapu8_in _ (by omega))) rfl ?_
        refine s_sidx Tryd.underlying9 rfl rfl (by omega) (Nat.lt_of_le_of_lt (show m.toNat ≤ 12 by omega) (by decide)) rfl fun c8 hc8 => ?_
        refine sv (o_conv Tryd.underlying5 Tryd.underlying3 rfl) rfl ?_
        refine sv (o_add rfl rfl) rfl ?_
        refine sv (o_as rfl) rfl ?_
        refine l_nil ?_
        refine e_K (hK8 _ _ _ _ ?_)
        refine c_ret ?_
        exact ret1 rfl rfl ⟨⟨_, rfl⟩, E⟩

theorem c_len (w : World) (m : Int) (hm : 0 ≤ m ∧ m ≤ 12) : Calls Tryd.prog 36 [.int .u64 m].toArray w (Ret fun u w' => (∃ r : Int, u = .int .i64 r) ∧ Mod [] w w') := by
  refine enter Tryd.func36 rfl rfl rfl (l := [(0, _)]) ⟨rfl, trivial⟩ ?_
  have E := Mod.refl [] w
  refine c_seq fun K1 hK1 => ?_
  refine c_region ?_
  refine sv (o_as rfl) rfl ?_
  refine l_nil ?_
  refine e_K (hK1 _ _ _ _ ?_)
  refine c_seq fun K2 hK2 => ?_
  refine c_false rfl ?_
  refine c_skip ?_
  refine e_K (hK2 _ _ _ _ ?_)
  refine c_seq fun K3 hK3 => ?_
  refine c_region ?_
  refine sv (o_mv rfl) rfl ?_
  refine sc (o_call ent52 rfl) (c_len64 _ m hm) rfl fun v_ w1 h_ => ?_
  obtain ⟨⟨r, rfl⟩, E_⟩ := h_
  replace E := E.then E_
  refine sv (o_as rfl) rfl ?_
  refine l_nil ?_
  refine e_K (hK3 _ _ _ _ ?_)
  refine c_ret ?_
  exact ret1 rfl rfl ⟨⟨_, rfl⟩, E⟩

theorem c_pdq (w : World) (xs : List Pair) (v : Value) (O : Own w 35 2 v xs.length ((xs.map Pair.cells).flatten)) (hn : xs.length ≤ 12) (r : Int) : Calls Tryd.prog 35 [v, .int .i64 0, .int .i64 xs.length, .int .i64 r, .func (.func 20) #[] #[]].toArray w (Ret fun _ w' => Own w' 35 2 v xs.length (((isortP xs xs.length).map Pair.cells).flatten) ∧ Mod (ob v) w w') := by
  refine enter Tryd.func35 rfl rfl rfl (l := [(0, _), (1, _), (2, _), (3, _), (4, _)]) ⟨rfl, rfl, rfl, rfl, rfl, trivial⟩ ?_
  have E := Mod.refl [] w
  refine c_seq fun K1 hK1 => ?_
  refine c_region ?_
  refine sv (o_as rfl) rfl ?_
  refine l_nil ?_
  refine e_K (hK1 _ _ _ _ ?_)
  refine c_seq fun K2 hK2 => ?_
  refine c_region ?_
  refine sv (o_as rfl) rfl ?_
  refine l_nil ?_
  refine e_K (hK2 _ _ _ _ ?_)
  refine c_block ?_
  refine c_loop (σ := Unit) (fun _u => [(0, v), (1, .int .i64 0), (2, .int .i64 xs.length), (4, .func (.func 20) #[] #[])]) (fun _u w1 => Mod [] w w1) (fun _u => 0) (()) ⟨rfl, rfl, rfl, rfl, trivial⟩ (E) ?_
  rintro _u w1 E
  refine c_block ?_
  refine c_seq fun K3 hK3 => ?_
  refine c_region ?_
  refine sv (o_mv rfl) rfl ?_
  refine sv (o_mv rfl) rfl ?_
  refine sv (o_subN rfl rfl (by omega)) rfl ?_
  refine sv (o_as rfl) rfl ?_
  refine l_nil ?_
  refine e_K (hK3 _ _ _ _ ?_)
  refine c_seq fun K4 hK4 => ?_
  refine c_seq fun K5 hK5 => ?_
  refine c_region ?_
  refine sv (o_mv rfl) rfl ?_
  refine sv (o_leq rfl rfl) rfl ?_
  refine l_nil ?_
  refine e_K (hK5 _ _ _ _ ?_)
  refine c_if rfl (fun h25 => ?_) (fun h25 => ?_)
  · skip
    refine c_seq fun K6 hK6 => ?_
    refine c_region ?_
    refine sv (o_mv rfl) rfl ?_
    refine sv (o_mv rfl) rfl ?_
    refine sv (o_mv rfl) rfl ?_
    refine sv (o_mv rfl) rfl ?_
    refine sc (o_call ent43 rfl) (c_isort _ xs v (O.mod0 E) (by omega)) rfl fun v_ w2 h_ => ?_
    obtain ⟨Os, Es⟩ := h_
    replace E := (E.mono (by simp) : Mod (ob v) w _).trans Es
    refine l_nil ?_
    refine e_K (hK6 _ _ _ _ ?_)
    refine c_ret ?_
    refine e_then (by simp) ?_
    refine e_in (by simp) ?_
    refine e_then (by simp) ?_
    refine e_in (by simp) ?_
    exact ret0 rfl ⟨Os, E⟩
  · skip
    exact absurd (by omega) h25

theorem c_sort (w : World) (xs : List Pair) (v : Value) (O : Own w 35 2 v xs.length ((xs.map Pair.cells).flatten)) (hn : xs.length ≤ 12) : Calls Tryd.prog 19 [v, .func (.func 20) #[] #[]].toArray w (Ret fun _ w' => Own w' 35 2 v xs.length (((isortP xs xs.length).map Pair.cells).flatten) ∧ Mod (ob v) w w') := by
  refine enter Tryd.func19 rfl rfl rfl (l := [(0, _), (1, _)]) ⟨rfl, rfl, trivial⟩ ?_
  have E := Mod.refl [] w
  obtain ⟨ad, c, rfl, hc1, hc2⟩ := O.form
  refine c_seq fun K1 hK1 => ?_
  refine c_region ?_
  refine sv (o_mv rfl) rfl ?_
  refine sv (o_len Tryd.underlying32 rfl) rfl ?_
  refine sv (o_as rfl) rfl ?_
  refine l_nil ?_
  refine e_K (hK1 _ _ _ _ ?_)
  refine c_region ?_
  refine sv (o_mv rfl) rfl ?_
  refine sv (o_mv rfl) rfl ?_
  refine sv (o_mv rfl) rfl ?_
  refine sv (o_convE (r := (xs.length : Int)) Tryd.underlying3 Tryd.underlying68 rfl (wrapu64_in _ (by omega))) rfl ?_
  refine sc (o_call ent36 rfl) (c_len _ (xs.length : Int) (by omega)) rfl fun v_ w1 h_ => ?_
  obtain ⟨⟨r, rfl⟩, E_⟩ := h_
  replace E := E.then E_
  refine sv (o_mv rfl) rfl ?_
  refine sc (o_call ent35 rfl) (c_pdq _ xs _ (O.mod0 E) hn r) rfl fun v_ w2 h_ => ?_
  obtain ⟨Os, Es⟩ := h_
  replace E := (E.mono (by simp) : Mod (ob (.slice ad xs.length c)) w _).trans Es
  refine l_nil ?_
  exact end0 rfl ⟨Os, E⟩

theorem c_compact0 (w : World) (xs : List Pair) (v : Value) (R : Rep [] w (pairsD xs) v) (hap : apartP xs) : Calls Tryd.prog 21 [v].toArray w (Ret fun u w' => u = v ∧ Mod [] w w') := by
  refine enter Tryd.func21 rfl rfl rfl (l := [(0, _)]) ⟨rfl, trivial⟩ ?_
  have E := Mod.refl [] w
  obtain ⟨ad, c, rfl, hc1, hc2⟩ := flat_len R
  refine c_seq fun K1 hK1 => ?_
  refine c_region ?_
  refine sv (o_as rfl) rfl ?_
  refine l_nil ?_
  refine e_K (hK1 _ _ _ _ ?_)
  refine c_seq fun K2 hK2 => ?_
  refine c_seq fun K3 hK3 => ?_
  refine c_region ?_
  refine sv (o_mv rfl) rfl ?_
  refine sv (o_len Tryd.underlying32 rfl) rfl ?_
  refine sv (o_lss rfl rfl) rfl ?_
  refine l_nil ?_
  refine e_K (hK3 _ _ _ _ ?_)
  refine c_if rfl (fun h8 => ?_) (fun h8 => ?_)
  · skip
    refine c_seq fun K4 hK4 => ?_
    refine c_region ?_
    refine sv (o_mv rfl) rfl ?_
    refine sv (o_as rfl) rfl ?_
    refine l_nil ?_
    refine e_K (hK4 _ _ _ _ ?_)
    refine c_ret ?_
    refine e_then (by simp) ?_
    exact ret1 rfl rfl ⟨rfl, E⟩
  · skip
    refine c_skip ?_
    refine e_K (hK2 _ _ _ _ ?_)
    refine c_seq fun K5 hK5 => ?_
    refine c_seq fun K6 hK6 => ?_
    refine c_region ?_
    refine sv (o_as rfl) rfl ?_
    refine l_nil ?_
    refine e_K (hK6 _ _ _ _ ?_)
    refine c_block ?_
    refine c_loop (σ := Nat) (fun k => [(0, .slice ad xs.length c), (3, .int .i64 ((k + 1 : Nat) : Int))]) (fun k w1 => (k = 0 ∨ k < xs.length) ∧ Mod [] w w1) (fun k => xs.length - k) (0) ⟨rfl, rfl, trivial⟩ (⟨.inl rfl, E⟩) ?_
    rintro k w1 ⟨hk, E⟩
    refine c_seq fun K7 hK7 => ?_
    refine c_seq fun K8 hK8 => ?_
    refine c_region ?_
    refine sv (o_mv rfl) rfl ?_
    refine sv (o_mv rfl) rfl ?_
    refine sv (o_len Tryd.underlying32 rfl) rfl ?_
    refine sv (o_lss rfl rfl) rfl ?_
    refine l_nil ?_
    refine e_K (hK8 _ _ _ _ ?_)
    refine c_if rfl (fun h13 => ?_) (fun h13 => ?_)
    · skip
      have hlt : k + 1 < xs.length := by omega
      obtain ⟨x, hx_x⟩ : ∃ x, xs[k]? = some x := ⟨_, List.getElem?_eq_getElem (by omega)⟩
      obtain ⟨a_x, ha_x, hcs_x, _⟩ := flat_at (R.to0 E) hx_x
      subst ha_x
      obtain ⟨y, hx_y⟩ : ∃ x, xs[k + 1]? = some x := ⟨_, List.getElem?_eq_getElem (by omega)⟩
      obtain ⟨a_y, ha_y, hcs_y, _⟩ := flat_at (R.to0 E) hx_y
      injection ha_y with ha_y
      subst ha_y
      have hxy := hap k x y hx_x hx_y
      refine c_skip ?_
      refine e_K (hK7 _ _ _ _ ?_)
      refine c_seq fun K9 hK9 => ?_
      refine c_block ?_
      refine c_seq fun K10 hK10 => ?_
      refine c_draw wide (by kernel_rfl) ?_
      refine tv (fun w_ E_ => (o_mv rfl)) rfl rfl ?_
      refine tv (fun w_ E_ => (o_mv rfl)) rfl rfl ?_
      refine tv (fun w_ E_ => (o_ix sl32 rfl rfl (by omega))) rfl rfl ?_
      refine tv (fun w_ E_ => (o_lda ag35 rfl rfl (hcs_y.mod0 E_))) rfl rfl ?_
      refine tv (fun w_ E_ => (o_mv rfl)) rfl rfl ?_
      refine tv (fun w_ E_ => (o_mv rfl)) rfl rfl ?_
      refine tv (fun w_ E_ => (o_subE (r := (k : Int)) rfl rfl (by rw [wrap64_in _ (by omega)]; omega))) rfl rfl ?_
      refine tv (fun w_ E_ => (o_ix sl32 rfl rfl (by omega))) rfl rfl ?_
      refine tv (fun w_ E_ => (o_lda ag35 rfl rfl (hcs_x.mod0 E_))) rfl rfl ?_
      refine tv (fun w_ E_ => (o_steq (se35 ..) rfl rfl rfl)) rfl rfl ?_
      refine tw_nil rfl fun w2 E_ => ?_
      replace E := E.then E_
      refine e_K (hK10 _ _ _ _ ?_)
      refine c_cond rfl (fun h25 => ?_) (fun h25 => ?_)
      · skip
        exact absurd (by obtain ⟨x1, x2⟩ := x; obtain ⟨y1, y2⟩ := y; simp at h25; simp [h25]) hxy
      · skip
        refine c_skip ?_
        refine e_in (by simp) ?_
        refine e_K (hK9 _ _ _ _ ?_)
        refine c_region ?_
        refine sv (o_mv rfl) rfl ?_
        refine sv (o_addN rfl rfl (by omega)) rfl ?_
        refine sv (o_as rfl) rfl ?_
        refine l_nil ?_
        exact e_round (σ := Nat) (s := k) (k + 1) ⟨rfl, rfl, trivial⟩ ⟨by omega, E⟩ (by omega)
    · skip
      refine c_exit ?_
      refine e_then (by simp) ?_
      refine e_then (by simp) ?_
      refine e_hit ?_
      refine e_K (hK5 _ _ _ _ ?_)
      refine c_seq fun K11 hK11 => ?_
      refine c_region ?_
      refine sv (o_mv rfl) rfl ?_
      refine sv (o_as rfl) rfl ?_
      refine l_nil ?_
      refine e_K (hK11 _ _ _ _ ?_)
      refine c_ret ?_
      exact ret1 rfl rfl ⟨rfl, E⟩
end Go.Proofs.YtebfihecdooneaaDoor.V
