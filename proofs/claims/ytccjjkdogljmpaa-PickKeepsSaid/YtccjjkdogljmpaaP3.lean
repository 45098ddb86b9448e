/-
  A part of the proof: walks of functions, and the plain laws of what they compute. No condition of its own.
-/
import Derived.Test.YtccjjkdogljmpaaP2
set_option linter.unusedVariables false
set_option linter.unusedSimpArgs false
set_option maxRecDepth 10000
namespace Go.Proofs.Ytccjjkdogljmpaa.V
open Go Go.Proofs
theorem ent40 : Ent Try.prog 40 := Ent.of Try.func40 (by kernel_rfl) (by kernel_rfl)
theorem ent39 : Ent Try.prog 39 := Ent.of Try.func39 (by kernel_rfl) (by kernel_rfl)
theorem ent27 : Ent Try.prog 27 := Ent.of Try.func27 (by kernel_rfl) (by kernel_rfl)
theorem c_long (A : List Nat) (w : World) (xs : List Slot) (v : Value) (R : Rep A w (slotsD xs) v) (hB : ∀ x ∈ xs, Slot.small x) : Calls Try.prog 9 [v].toArray w (Ret fun u w' => u = .bool (decide (8192 < (xs.map wt).sum)) ∧ Mod [] w w') := by
  refine enter Try.func9 rfl rfl rfl (l := [(0, _)]) ⟨rfl, trivial⟩ ?_
  have E := Mod.refl [] w
  obtain ⟨ad, c, rfl, hc1, hc2⟩ := flat_len R
  refine c_seq fun K1 hK1 => ?_
  refine c_region ?_
  refine sv (o_as rfl) rfl ?_
  refine l_nil ?_
  refine e_K (hK1 _ _ _ _ ?_)
  refine c_seq fun K2 hK2 => ?_
  refine c_region ?_
  refine sv (o_as rfl) rfl ?_
  refine l_nil ?_
  refine e_K (hK2 _ _ _ _ ?_)
  refine c_seq fun K3 hK3 => ?_
  refine c_seq fun K4 hK4 => ?_
  refine c_region ?_
  refine sv (o_mv rfl) rfl ?_
  refine sv (o_len Try.underlying22 rfl) rfl ?_
  refine sv (o_mv rfl) rfl ?_
  refine l_nil ?_
  refine e_K (hK4 _ _ _ _ ?_)
  refine c_block ?_
  refine c_loop (σ := Nat) (fun k => [(0, .slice ad xs.length c), (3, .int .i64 (sumT xs k : Int)), (6, .slice ad xs.length c), (7, .int .i64 xs.length), (8, .int .i64 (k : Int))]) (fun k w1 => k ≤ xs.length ∧ sumT xs k ≤ 8192 ∧ Mod [] w w1) (fun k => xs.length - k) (0) ⟨rfl, rfl, rfl, rfl, rfl, trivial⟩ (⟨by omega, by simp [sumT], E⟩) ?_
  rintro k w1 ⟨hk, ho, E⟩
  refine c_seq fun K5 hK5 => ?_
  refine c_region ?_
  refine sv (o_lss rfl rfl) rfl ?_
  refine l_nil ?_
  refine e_K (hK5 _ _ _ _ ?_)
  refine c_seq fun K6 hK6 => ?_
  refine c_if rfl (fun h9 => ?_) (fun h9 => ?_)
  · skip
    have hlt : k < xs.length := by omega
    obtain ⟨x, hx_x⟩ : ∃ x, xs[k]? = some x := ⟨_, List.getElem?_eq_getElem (by omega)⟩
    obtain ⟨a_x, ha_x, hcs_x, _⟩ := flat_at (R.to0 E) hx_x
    subst ha_x
    have hBx := hB x (List.mem_of_getElem? hx_x)
    obtain ⟨hb1, hb2, hb3⟩ := hBx
    have hS := sumT_succ hx_x
    refine c_skip ?_
    refine e_K (hK6 _ _ _ _ ?_)
    refine c_seq fun K7 hK7 => ?_
    refine c_block ?_
    refine c_seq fun K8 hK8 => ?_
    refine c_region ?_
    refine sv (o_ix sl22 rfl rfl (by omega)) rfl ?_
    refine sv (o_lda ag24 rfl rfl hcs_x) rfl ?_
    refine s_alloc zv24 rfl fun g1 w2 N1 => ?_
    have Lg1_E := N1.le E
    replace E := E.then N1.mod
    have Bg1 := N1.blk
    refine s_sta (vs := [_, _, _]) ag24 Bg1 rfl rfl rfl (by simp [Value.oneCell']) (by simp) fun w3 P3 => ?_
    replace E := E.own P3.mod Lg1_E
    replace Bg1 : Blk w3 g1 _ [_, _, _] := P3.blk
    refine l_nil ?_
    refine e_K (hK8 _ _ _ _ ?_)
    refine c_seq fun K9 hK9 => ?_
    refine c_region ?_
    refine sv (o_mv rfl) rfl ?_
    refine sv (o_fa0 fd24_0 rfl) rfl ?_
    refine sv (o_ld sc9 rfl (Bg1.cell rfl)) rfl ?_
    refine sv (o_slen Try.underlying9 rfl) rfl ?_
    refine sv (o_addN rfl rfl (by omega)) rfl ?_
    refine sv (o_fa0 fd24_1 rfl) rfl ?_
    refine sv (o_ld sc9 rfl (Bg1.cell rfl)) rfl ?_
    refine sv (o_slen Try.underlying9 rfl) rfl ?_
    refine sv (o_addN rfl rfl (by omega)) rfl ?_
    refine sv (o_fa0 fd24_2 rfl) rfl ?_
    refine sv (o_ld sc9 rfl (Bg1.cell rfl)) rfl ?_
    refine sv (o_slen Try.underlying9 rfl) rfl ?_
    refine sv (o_addN rfl rfl (by omega)) rfl ?_
    refine sv (o_addE (r := ((sumT xs (k + 1) : Nat) : Int)) rfl rfl (by rw [wrap64_in _ (by omega)]; omega)) rfl ?_
    refine sv (o_as rfl) rfl ?_
    refine l_nil ?_
    refine e_K (hK9 _ _ _ _ ?_)
    refine c_seq fun K10 hK10 => ?_
    refine c_region ?_
    refine sv (o_mv rfl) rfl ?_
    refine sv (o_gtr rfl rfl) rfl ?_
    refine l_nil ?_
    refine e_K (hK10 _ _ _ _ ?_)
    refine c_if rfl (fun h27 => ?_) (fun h27 => ?_)
    · skip
      refine c_seq fun K11 hK11 => ?_
      refine c_region ?_
      refine sv (o_as rfl) rfl ?_
      refine l_nil ?_
      refine e_K (hK11 _ _ _ _ ?_)
      refine c_ret ?_
      refine e_in (by simp) ?_
      refine e_then (by simp) ?_
      refine e_then (by simp) ?_
      refine e_in (by simp) ?_
      refine e_then (by simp) ?_
      exact ret1 rfl rfl ⟨by rw [decide_eq_true]; have := @sumT_mono xs (k + 1); omega, E⟩
    · skip
      refine c_skip ?_
      refine e_in (by simp) ?_
      refine e_K (hK7 _ _ _ _ ?_)
      refine c_region ?_
      refine sv (o_addN rfl rfl (by omega)) rfl ?_
      refine sv (o_mv rfl) rfl ?_
      refine l_nil ?_
      exact e_round (σ := Nat) (s := k) (k + 1) ⟨rfl, rfl, rfl, rfl, rfl, trivial⟩ ⟨by omega, by omega, E⟩ (by omega)
  · skip
    refine c_exit ?_
    refine e_then (by simp) ?_
    refine e_then (by simp) ?_
    refine e_hit ?_
    refine e_K (hK3 _ _ _ _ ?_)
    refine c_seq fun K12 hK12 => ?_
    refine c_region ?_
    refine sv (o_as rfl) rfl ?_
    refine l_nil ?_
    refine e_K (hK12 _ _ _ _ ?_)
    refine c_ret ?_
    exact ret1 rfl rfl ⟨by rw [decide_eq_false]; rw [← sumT_all (xs := xs) (k := k) (by omega)]; omega, E⟩

theorem c_find1 (w : World) (x : Slot) (p : Pair) : Calls Try.prog 40 [x.agg, p.agg].toArray w (Ret fun v w' => v = .int .i64 (pcmp x.pair p) ∧ Mod [] w w') := by
  refine enter Try.func40 rfl rfl rfl (l := [(0, _), (1, _)]) ⟨rfl, rfl, trivial⟩ ?_
  have E := Mod.refl [] w
  refine c_seq fun K1 hK1 => ?_
  refine c_region ?_
  refine s_box rfl rfl rfl fun g1 w1 N1 => ?_
  have Lg1_E := N1.le E
  replace E := E.then N1.mod
  have Bg1 := N1.blk
  refine s_box rfl rfl rfl fun g2 w2 N2 => ?_
  have Lg2_E := N2.le E
  have Dg1_g2 := N2.ne Bg1
  replace Bg1 := Bg1.mod0 N2.mod
  replace E := E.then N2.mod
  have Bg2 := N2.blk
  refine sv (o_as rfl) rfl ?_
  refine l_nil ?_
  refine e_K (hK1 _ _ _ _ ?_)
  refine c_seq fun K2 hK2 => ?_
  refine c_draw wide (by kernel_rfl) ?_
  refine tv (fun w_ E_ => (o_lda (vs := [_, _, _]) ag24 rfl rfl ((Bg1.mod0 E_).cs rfl))) rfl rfl ?_
  refine tc (fun w_ E_ => o_call ent28 rfl) (fun w_ E_ => c_pair _ _) rfl rfl ?_
  refine tv (fun w_ E_ => (o_lda (vs := [_, _]) ag28 rfl rfl ((Bg2.mod0 E_).cs rfl))) rfl rfl ?_
  refine tc (fun w_ E_ => o_call ent30 rfl) (fun w_ E_ => c_pcmp _ _ _) rfl rfl ?_
  refine tv (fun w_ E_ => (o_as rfl)) rfl rfl ?_
  refine tw_nil rfl fun w3 E_ => ?_
  replace Bg1 := Bg1.mod0 E_
  replace Bg2 := Bg2.mod0 E_
  replace E := E.then E_
  refine e_K (hK2 _ _ _ _ ?_)
  refine c_ret ?_
  exact ret1 rfl rfl ⟨rfl, E⟩

theorem c_bs (A : List Nat) (w : World) (xs : List Slot) (v : Value) (R : Rep A w (slotsD xs) v) (p : Pair) (ha : asc xs = true) (hn : xs.length ≤ 1000000) : Calls Try.prog 39 [v, p.agg, .func (.func 40) #[] #[]].toArray w (Ret fun u w' => u = .tuple #[.int .i64 (posS xs p), .bool (getS xs p).isSome] ∧ Mod [] w w') := by
  refine enter Try.func39 rfl rfl rfl (l := [(0, _), (1, _), (2, _)]) ⟨rfl, rfl, rfl, trivial⟩ ?_
  have E := Mod.refl [] w
  obtain ⟨ad, c, rfl, hc1, hc2⟩ := flat_len R
  refine c_seq fun K1 hK1 => ?_
  refine c_region ?_
  refine s_box rfl rfl rfl fun g1 w1 N1 => ?_
  have Lg1_E := N1.le E
  replace E := E.then N1.mod
  have Bg1 := N1.blk
  refine sv (o_as rfl) rfl ?_
  refine sv (o_as rfl) rfl ?_
  refine l_nil ?_
  refine e_K (hK1 _ _ _ _ ?_)
  refine c_seq fun K2 hK2 => ?_
  refine c_region ?_
  refine sv (o_mv rfl) rfl ?_
  refine sv (o_len Try.underlying22 rfl) rfl ?_
  refine sv (o_as rfl) rfl ?_
  refine l_nil ?_
  refine e_K (hK2 _ _ _ _ ?_)
  refine c_seq fun K3 hK3 => ?_
  refine c_region ?_
  refine sv (o_mv rfl) rfl ?_
  refine sv (o_as rfl) rfl ?_
  refine sv (o_as rfl) rfl ?_
  refine l_nil ?_
  refine e_K (hK3 _ _ _ _ ?_)
  refine c_seq fun K4 hK4 => ?_
  refine c_block ?_
  refine c_loop (σ := Nat × Nat) (fun ⟨i, j⟩ => [(0, .slice ad xs.length c), (2, .func (.func 40) #[] #[]), (4, .pointer (some ⟨g1, 0, none⟩)), (8, .int .i64 xs.length), (9, .int .i64 (i : Int)), (10, .int .i64 (j : Int))]) (fun ⟨i, j⟩ w1 => i ≤ j ∧ j ≤ xs.length ∧ (∀ (a : Nat) (y : Slot), a < i → xs[a]? = some y → plt y.pair p = true) ∧ (∀ (a : Nat) (y : Slot), j ≤ a → xs[a]? = some y → plt y.pair p = false) ∧ Blk w1 g1 28 p.cells ∧ Mod [] w w1) (fun ⟨i, j⟩ => j - i) (⟨0, xs.length⟩) ⟨rfl, rfl, rfl, rfl, rfl, rfl, trivial⟩ (⟨by omega, by omega, fun a y h => by omega, fun a y h hy => (by rw [List.getElem?_eq_none h] at hy; cases hy), Bg1, E⟩) ?_
  rintro ⟨i, j⟩ w2 ⟨hij, hj, h1, h2, Bg1, E⟩
  refine c_seq fun K5 hK5 => ?_
  refine c_seq fun K6 hK6 => ?_
  refine c_region ?_
  refine sv (o_mv rfl) rfl ?_
  refine sv (o_mv rfl) rfl ?_
  refine sv (o_lss rfl rfl) rfl ?_
  refine l_nil ?_
  refine e_K (hK6 _ _ _ _ ?_)
  refine c_if rfl (fun h17 => ?_) (fun h17 => ?_)
  · skip
    have hlt : (i + j) / 2 < xs.length := by omega
    obtain ⟨x, hx_x⟩ : ∃ x, xs[(i + j) / 2]? = some x := ⟨_, List.getElem?_eq_getElem (by omega)⟩
    obtain ⟨a_x, ha_x, hcs_x, _⟩ := flat_at (R.to0 E) hx_x
    subst ha_x
    refine c_skip ?_
    refine e_K (hK5 _ _ _ _ ?_)
    refine c_block ?_
    refine c_seq fun K7 hK7 => ?_
    refine c_region ?_
    refine sv (o_mv rfl) rfl ?_
    refine sv (o_mv rfl) rfl ?_
    refine sv (o_addN rfl rfl (by omega)) rfl ?_
    refine sv (o_convE (r := ((i : Int) + j)) Try.underlying3 Try.underlying82 rfl (wrapu64_in _ (by omega))) rfl ?_
    refine sv (o_shrE (r := (((i + j) / 2 : Nat) : Int)) rfl rfl (by omega) (by rw [← half_cast]; exact fdiv_two _)) rfl ?_
    refine sv (o_convE (r := (((i + j) / 2 : Nat) : Int)) Try.underlying82 Try.underlying3 rfl (wrap64_in _ (by omega))) rfl ?_
    refine sv (o_as rfl) rfl ?_
    refine l_nil ?_
    refine e_K (hK7 _ _ _ _ ?_)
    refine c_seq fun K8 hK8 => ?_
    refine c_draw wide (by kernel_rfl) ?_
    refine tv (fun w_ E_ => (o_mv rfl)) rfl rfl ?_
    refine tv (fun w_ E_ => (o_mv rfl)) rfl rfl ?_
    refine tv (fun w_ E_ => (o_mv rfl)) rfl rfl ?_
    refine tv (fun w_ E_ => (o_ix sl22 rfl rfl (by omega))) rfl rfl ?_
    refine tv (fun w_ E_ => (o_lda ag24 rfl rfl (hcs_x.mod0 E_))) rfl rfl ?_
    refine tv (fun w_ E_ => (o_lda (vs := [_, _]) ag28 rfl rfl ((Bg1.mod0 E_).cs rfl))) rfl rfl ?_
    refine tc (fun w_ E_ => o_callv ent40 rfl rfl) (fun w_ E_ => c_find1 _ x _) rfl rfl ?_
    refine tv (fun w_ E_ => (o_lss rfl rfl)) rfl rfl ?_
    refine tw_nil rfl fun w3 E_ => ?_
    replace Bg1 := Bg1.mod0 E_
    replace E := E.then E_
    refine e_K (hK8 _ _ _ _ ?_)
    refine c_if rfl (fun h31 => ?_) (fun h31 => ?_)
    · skip
      have hlow : ∀ (a : Nat) (y : Slot), a < (i + j) / 2 + 1 → xs[a]? = some y → plt y.pair p = true := fun a y hal hy => by
        rcases Nat.lt_succ_iff_lt_or_eq.1 hal with h | h
        · exact plt_trans (asc_lt ha hy hx_x h) (pcmp_lt.1 h31)
        · subst h; rw [hx_x] at hy; injection hy with hy; subst hy; exact pcmp_lt.1 h31
      refine c_region ?_
      refine sv (o_mv rfl) rfl ?_
      refine sv (o_addE (r := (((i + j) / 2 + 1 : Nat) : Int)) rfl rfl (by rw [wrap64_in _ (by omega)]; omega)) rfl ?_
      refine sv (o_as rfl) rfl ?_
      refine l_nil ?_
      refine e_in (by simp) ?_
      exact e_round (σ := Nat × Nat) (s := ⟨i, j⟩) (⟨(i + j) / 2 + 1, j⟩) ⟨rfl, rfl, rfl, rfl, rfl, rfl, trivial⟩ ⟨by omega, by omega, hlow, h2, Bg1, E⟩ (by dsimp only; omega)
    · skip
      have hhi : ∀ (a : Nat) (y : Slot), (i + j) / 2 ≤ a → xs[a]? = some y → plt y.pair p = false := fun a y hal hy => by
        cases hpy : plt y.pair p with
        | false => rfl
        | true =>
          rcases Nat.lt_or_ge ((i + j) / 2) a with h | h
          · exact absurd (pcmp_lt.2 (plt_trans (asc_lt ha hx_x hy h) hpy)) h31
          · have : a = (i + j) / 2 := by omega
            subst this
            rw [hx_x] at hy; injection hy with hy; subst hy; exact absurd (pcmp_lt.2 hpy) h31
      refine c_region ?_
      refine sv (o_mv rfl) rfl ?_
      refine sv (o_as rfl) rfl ?_
      refine l_nil ?_
      refine e_in (by simp) ?_
      exact e_round (σ := Nat × Nat) (s := ⟨i, j⟩) (⟨i, (i + j) / 2⟩) ⟨rfl, rfl, rfl, rfl, rfl, rfl, trivial⟩ ⟨by omega, by omega, h1, hhi, Bg1, E⟩ (by dsimp only; omega)
  · skip
    refine c_exit ?_
    refine e_then (by simp) ?_
    refine e_then (by simp) ?_
    refine e_hit ?_
    refine e_K (hK4 _ _ _ _ ?_)
    refine c_seq fun K9 hK9 => ?_
    by_cases hs8_0 : (i : Int) < (xs.length : Int)
    · skip
      have hij2 : i = j := by omega
      subst hij2
      have hpos := posS_eq (by omega) h1 h2
      obtain ⟨x, hx_x⟩ : ∃ x, xs[i]? = some x := ⟨_, List.getElem?_eq_getElem (by omega)⟩
      obtain ⟨a_x, ha_x, hcs_x, _⟩ := flat_at (R.to0 E) hx_x
      subst ha_x
      have hE2 : decide (pcmp x.pair p = 0) = (getS xs p).isSome := (isS ha hpos hx_x).symm
      refine c_draw wide (by kernel_rfl) ?_
      refine tv (fun w_ E_ => (o_mv rfl)) rfl rfl ?_
      refine tv (fun w_ E_ => (o_mv rfl)) rfl rfl ?_
      refine tv (fun w_ E_ => (o_mv rfl)) rfl rfl ?_
      refine tv (fun w_ E_ => (o_lss rfl rfl)) rfl rfl ?_
      refine tv (fun w_ E_ => (o_mv rfl)) rfl rfl ?_
      refine tvg rfl (decide_eq_true hs8_0) (fun w_ E_ => (o_mv rfl)) rfl rfl ?_
      refine tvg rfl (decide_eq_true hs8_0) (fun w_ E_ => (o_mv rfl)) rfl rfl ?_
      refine tvg rfl (decide_eq_true hs8_0) (fun w_ E_ => (o_mv rfl)) rfl rfl ?_
      refine tvg rfl (decide_eq_true hs8_0) (fun w_ E_ => (o_ix sl22 rfl rfl (by omega))) rfl rfl ?_
      refine tvg rfl (decide_eq_true hs8_0) (fun w_ E_ => (o_lda ag24 rfl rfl (hcs_x.mod0 E_))) rfl rfl ?_
      refine tvg rfl (decide_eq_true hs8_0) (fun w_ E_ => (o_lda (vs := [_, _]) ag28 rfl rfl ((Bg1.mod0 E_).cs rfl))) rfl rfl ?_
      refine tcg rfl (decide_eq_true hs8_0) (fun w_ E_ => o_callv ent40 rfl rfl) (fun w_ E_ => c_find1 _ x _) rfl rfl ?_
      refine tvg rfl (decide_eq_true hs8_0) (fun w_ E_ => (o_eql rfl rfl)) rfl rfl ?_
      refine tv (fun w_ E_ => (o_pickT (decide_eq_true hs8_0) rfl rfl)) rfl rfl ?_
      refine tv (fun w_ E_ => (o_as rfl)) rfl rfl ?_
      refine tv (fun w_ E_ => (o_as rfl)) rfl rfl ?_
      refine tw_nil rfl fun w4 E_ => ?_
      replace Bg1 := Bg1.mod0 E_
      replace E := E.then E_
      refine e_K (hK9 _ _ _ _ ?_)
      refine c_ret ?_
      exact ret2 rfl rfl rfl ⟨by rw [hpos, ← hE2], E⟩
    · skip
      have hij2 : i = j := by omega
      subst hij2
      have hpos := posS_eq (by omega) h1 h2
      have hE2 : false = (getS xs p).isSome := (isS_end ha (by omega)).symm
      refine c_draw wide (by kernel_rfl) ?_
      refine tv (fun w_ E_ => (o_mv rfl)) rfl rfl ?_
      refine tv (fun w_ E_ => (o_mv rfl)) rfl rfl ?_
      refine tv (fun w_ E_ => (o_mv rfl)) rfl rfl ?_
      refine tv (fun w_ E_ => (o_lss rfl rfl)) rfl rfl ?_
      refine tv (fun w_ E_ => (o_mv rfl)) rfl rfl ?_
      refine tn rfl (fun e_ => absurd ((decide_eq_false hs8_0).symm.trans e_) (by decide)) rfl ?_
      refine tn rfl (fun e_ => absurd ((decide_eq_false hs8_0).symm.trans e_) (by decide)) rfl ?_
      refine tn rfl (fun e_ => absurd ((decide_eq_false hs8_0).symm.trans e_) (by decide)) rfl ?_
      refine tn rfl (fun e_ => absurd ((decide_eq_false hs8_0).symm.trans e_) (by decide)) rfl ?_
      refine tn rfl (fun e_ => absurd ((decide_eq_false hs8_0).symm.trans e_) (by decide)) rfl ?_
      refine tn rfl (fun e_ => absurd ((decide_eq_false hs8_0).symm.trans e_) (by decide)) rfl ?_
      refine tn rfl (fun e_ => absurd ((decide_eq_false hs8_0).symm.trans e_) (by decide)) rfl ?_
      refine tn rfl (fun e_ => absurd ((decide_eq_false hs8_0).symm.trans e_) (by decide)) rfl ?_
      refine tv (fun w_ E_ => (o_pickF (decide_eq_false hs8_0) rfl rfl)) rfl rfl ?_
      refine tv (fun w_ E_ => (o_as rfl)) rfl rfl ?_
      refine tv (fun w_ E_ => (o_as rfl)) rfl rfl ?_
      refine tw_nil rfl fun w5 E_ => ?_
      replace Bg1 := Bg1.mod0 E_
      replace E := E.then E_
      refine e_K (hK9 _ _ _ _ ?_)
      refine c_ret ?_
      exact ret2 rfl rfl rfl ⟨by rw [hpos, ← hE2], E⟩

theorem c_find (A : List Nat) (w : World) (xs : List Slot) (v : Value) (R : Rep A w (slotsD xs) v) (p : Pair) (ha : asc xs = true) (hn : xs.length ≤ 1000000) : Calls Try.prog 27 [v, p.agg].toArray w (Ret fun u w' => u = .tuple #[.int .i64 (posS xs p), .bool (getS xs p).isSome] ∧ Mod [] w w') := by
  refine enter Try.func27 rfl rfl rfl (l := [(0, _), (1, _)]) ⟨rfl, rfl, trivial⟩ ?_
  have E := Mod.refl [] w
  refine c_seq fun K1 hK1 => ?_
  refine c_region ?_
  refine s_box rfl rfl rfl fun g1 w1 N1 => ?_
  have Lg1_E := N1.le E
  replace E := E.then N1.mod
  have Bg1 := N1.blk
  refine sv (o_as rfl) rfl ?_
  refine sv (o_as rfl) rfl ?_
  refine l_nil ?_
  refine e_K (hK1 _ _ _ _ ?_)
  refine c_seq fun K2 hK2 => ?_
  refine c_region ?_
  refine sv (o_mv rfl) rfl ?_
  refine sv (o_lda (vs := [_, _]) ag28 rfl rfl (Bg1.cs rfl)) rfl ?_
  refine sc (o_call ent39 rfl) (c_bs A _ xs _ (R.to0 E) p ha hn) rfl fun v_ w2 h_ => ?_
  obtain ⟨rfl, E_⟩ := h_
  replace Bg1 := Bg1.mod0 E_
  replace E := E.then E_
  refine sv (o_ext rfl rfl) rfl ?_
  refine sv (o_ext rfl rfl) rfl ?_
  refine sv (o_as rfl) rfl ?_
  refine sv (o_as rfl) rfl ?_
  refine l_nil ?_
  refine e_K (hK2 _ _ _ _ ?_)
  refine c_ret ?_
  exact ret2 rfl rfl rfl ⟨rfl, E⟩

theorem c_get (A : List Nat) (w : World) (xs : List Slot) (v : Value) (R : Rep A w (slotsD xs) v) (p : Pair) (ha : asc xs = true) (hn : xs.length ≤ 1000000) : Calls Try.prog 13 [v, p.agg].toArray w (Ret fun u w' => u = .tuple #[S ((getS xs p).getD []), .bool (getS xs p).isSome] ∧ Mod [] w w') := by
  refine enter Try.func13 rfl rfl rfl (l := [(0, _), (1, _)]) ⟨rfl, rfl, trivial⟩ ?_
  have E := Mod.refl [] w
  obtain ⟨ad, c, rfl, hc1, hc2⟩ := flat_len R
  refine c_seq fun K1 hK1 => ?_
  refine c_region ?_
  refine s_box rfl rfl rfl fun g1 w1 N1 => ?_
  have Lg1_E := N1.le E
  replace E := E.then N1.mod
  have Bg1 := N1.blk
  refine sv (o_as rfl) rfl ?_
  refine sv (o_as rfl) rfl ?_
  refine l_nil ?_
  refine e_K (hK1 _ _ _ _ ?_)
  refine c_seq fun K2 hK2 => ?_
  refine c_region ?_
  refine sv (o_mv rfl) rfl ?_
  refine sv (o_lda (vs := [_, _]) ag28 rfl rfl (Bg1.cs rfl)) rfl ?_
  refine sc (o_call ent27 rfl) (c_find A _ xs _ (R.to0 E) p ha hn) rfl fun v_ w2 h_ => ?_
  obtain ⟨rfl, E_⟩ := h_
  replace Bg1 := Bg1.mod0 E_
  replace E := E.then E_
  refine sv (o_mv rfl) rfl ?_
  refine sv (o_ext rfl rfl) rfl ?_
  refine sv (o_ext rfl rfl) rfl ?_
  refine sv (o_as rfl) rfl ?_
  refine sv (o_as rfl) rfl ?_
  refine l_nil ?_
  refine e_K (hK2 _ _ _ _ ?_)
  refine c_seq fun K3 hK3 => ?_
  refine c_seq fun K4 hK4 => ?_
  refine c_region ?_
  refine sv (o_mv rfl) rfl ?_
  refine sv (o_not rfl) rfl ?_
  refine l_nil ?_
  refine e_K (hK4 _ _ _ _ ?_)
  refine c_cond rfl (fun h15 => ?_) (fun h15 => ?_)
  · skip
    have hno : getS xs p = none := by simpa using h15
    refine c_seq fun K5 hK5 => ?_
    refine c_region ?_
    refine sv (o_as rfl) rfl ?_
    refine sv (o_as rfl) rfl ?_
    refine l_nil ?_
    refine e_K (hK5 _ _ _ _ ?_)
    refine c_ret ?_
    refine e_then (by simp) ?_
    exact ret2 rfl rfl rfl ⟨by rw [hno]; rfl, E⟩
  · skip
    obtain ⟨x, hx_x, hxp, hxg⟩ := isS_some ha (by simpa using h15)
    have hpl := (List.getElem?_eq_some_iff.1 hx_x).1
    obtain ⟨a_x, ha_x, hcs_x, _⟩ := flat_at (R.to0 E) hx_x
    subst ha_x
    refine c_skip ?_
    refine e_K (hK3 _ _ _ _ ?_)
    refine c_seq fun K6 hK6 => ?_
    refine c_region ?_
    refine sv (o_mv rfl) rfl ?_
    refine sv (o_mv rfl) rfl ?_
    refine sv (o_ix sl22 rfl rfl (by omega)) rfl ?_
    refine sv (o_fad fd24_2 rfl) rfl ?_
    refine sv (o_ld sc9 rfl (hcs_x 2 _ rfl)) rfl ?_
    refine sv (o_as rfl) rfl ?_
    refine sv (o_as rfl) rfl ?_
    refine l_nil ?_
    refine e_K (hK6 _ _ _ _ ?_)
    refine c_ret ?_
    exact ret2 rfl rfl rfl ⟨by rw [hxg]; rfl, E⟩

end Go.Proofs.Ytccjjkdogljmpaa.V
