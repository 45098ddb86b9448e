/-
  A part of the proof: walks of functions, and the plain laws of what they compute. No condition of its own.
-/
import Derived.Test.YtccjjkdogljmpaaP7
import Derived.Test.YtccjjkdogljmpaaTC
set_option linter.unusedVariables false
set_option linter.unusedSimpArgs false
set_option maxRecDepth 10000
namespace Go.Proofs.Ytccjjkdogljmpaa.V
open Go Go.Proofs
theorem sl65 : slB Try.prog 65 28 2 32 = true := by kernel_rfl
theorem c_isort (w : World) (xs : List Pair) (v : Value) (O : Own w 28 2 v xs.length ((xs.map Pair.cells).flatten)) (hn : xs.length ≤ 1000000) : Calls Try.prog 63 [v, .int .i64 0, .int .i64 xs.length, .func (.func 30) #[] #[]].toArray w (Ret fun _ w' => Own w' 28 2 v xs.length (((isortP xs xs.length).map Pair.cells).flatten) ∧ Mod (ob v) w w') := by
  refine enter Try.func63 rfl rfl rfl (l := [(0, _), (1, _), (2, _), (3, _)]) ⟨rfl, rfl, rfl, rfl, trivial⟩ ?_
  have E := Mod.refl [] w
  obtain ⟨ad, c, rfl, hc1, hc2⟩ := O.form
  replace E := Mod.refl (ob (.slice ad xs.length c)) w
  refine c_seq fun K1 hK1 => ?_
  refine c_region ?_
  refine sv (o_mv rfl) rfl ?_
  refine sv (o_addN rfl rfl (by omega)) rfl ?_
  refine sv (o_as rfl) rfl ?_
  refine l_nil ?_
  refine e_K (hK1 _ _ _ _ ?_)
  refine c_block ?_
  refine c_loop (σ := Nat) (fun k => [(0, .slice ad xs.length c), (1, .int .i64 0), (2, .int .i64 xs.length), (3, .func (.func 30) #[] #[]), (8, .int .i64 (k : Int))]) (fun k w1 => 1 ≤ k ∧ k ≤ xs.length + 1 ∧ Own w1 28 2 (.slice ad xs.length c) xs.length (((isortP xs k ++ xs.drop k).map Pair.cells).flatten) ∧ Mod (ob (.slice ad xs.length c)) w w1) (fun k => xs.length + 1 - k) (1) ⟨rfl, rfl, rfl, rfl, rfl, trivial⟩ (⟨by omega, by omega, by rw [← isortP_one]; exact O, E⟩) ?_
  rintro k w1 ⟨hk1, hk, Ov, E⟩
  refine c_seq fun K2 hK2 => ?_
  refine c_seq fun K3 hK3 => ?_
  refine c_region ?_
  refine sv (o_mv rfl) rfl ?_
  refine sv (o_mv rfl) rfl ?_
  refine sv (o_lss rfl rfl) rfl ?_
  refine l_nil ?_
  refine e_K (hK3 _ _ _ _ ?_)
  refine c_if rfl (fun h14 => ?_) (fun h14 => ?_)
  · skip
    have hlt : k < xs.length := by omega
    obtain ⟨S, hS⟩ : ∃ S, S = isortP xs k := ⟨_, rfl⟩
    have hSl : S.length = k := by rw [hS]; exact isortP_len (by omega)
    have hSs : srt S := by rw [hS]; exact isortP_srt xs k
    rw [← hS] at Ov
    obtain ⟨x, hx_x⟩ : ∃ x, xs[k]? = some x := ⟨_, List.getElem?_eq_getElem (by omega)⟩
    obtain ⟨ad3, rfl⟩ : ∃ a, ad = some a := by
      cases ad with
      | some a => exact ⟨a, rfl⟩
      | none => rcases Ov.2 with ⟨h0, h1⟩ | ⟨_, _, _, _, h0, _⟩; omega; cases h0
    refine c_skip ?_
    refine e_K (hK2 _ _ _ _ ?_)
    refine c_seq fun K4 hK4 => ?_
    refine c_block ?_
    refine c_seq fun K5 hK5 => ?_
    refine c_region ?_
    refine sv (o_mv rfl) rfl ?_
    refine sv (o_as rfl) rfl ?_
    refine l_nil ?_
    refine e_K (hK5 _ _ _ _ ?_)
    refine c_block ?_
    refine c_loop (σ := Nat) (fun j => [(0, .slice (some ad3) xs.length c), (1, .int .i64 0), (2, .int .i64 xs.length), (3, .func (.func 30) #[] #[]), (8, .int .i64 (k : Int)), (9, .int .i64 (j : Int))]) (fun j w1 => j ≤ S.length ∧ (∀ (i : Nat) (y : Pair), j ≤ i → S[i]? = some y → plt x y = true) ∧ Own w1 28 2 (.slice (some ad3) xs.length c) xs.length (((S.take j ++ [x] ++ S.drop j ++ xs.drop (k + 1)).map Pair.cells).flatten) ∧ Mod (ob (.slice (some ad3) xs.length c)) w w1) (fun j => j) (k) ⟨rfl, rfl, rfl, rfl, rfl, rfl, trivial⟩ (⟨by omega, fun i y hi hy => (by rw [List.getElem?_eq_none (by omega)] at hy; cases hy), by rw [← ins_start hSl hx_x]; exact Ov, E⟩) ?_
    rintro j w2 ⟨hj, hup, Ov, E⟩
    refine c_seq fun K6 hK6 => ?_
    refine c_seq fun K7 hK7 => ?_
    by_cases hs4_0 : (j : Int) > 0
    · skip
      obtain ⟨j, rfl⟩ : ∃ i, j = i + 1 := ⟨j - 1, by omega⟩
      obtain ⟨y, hy⟩ : ∃ y, S[j]? = some y := ⟨_, List.getElem?_eq_getElem (by omega)⟩
      have hlen_x : ((S.take (j + 1) ++ [x] ++ S.drop (j + 1) ++ xs.drop (k + 1))).length = xs.length := by simp only [len_ins]; rw [hSl]; simp only [List.length_drop]; omega
      have RO_x := Own.pairsN [] Ov hlen_x (by simp)
      obtain ⟨a_x, ha_x, hcs_x, _⟩ := flat_at (cells := Pair.cells) (xs := (S.take (j + 1) ++ [x] ++ S.drop (j + 1) ++ xs.drop (k + 1))) (i := j + 1) RO_x (get_ins (by omega))
      injection ha_x with ha_x
      subst ha_x
      have hlen_y : ((S.take (j + 1) ++ [x] ++ S.drop (j + 1) ++ xs.drop (k + 1))).length = xs.length := by simp only [len_ins]; rw [hSl]; simp only [List.length_drop]; omega
      have RO_y := Own.pairsN [] Ov hlen_y (by simp)
      obtain ⟨a_y, ha_y, hcs_y, _⟩ := flat_at (cells := Pair.cells) (xs := (S.take (j + 1) ++ [x] ++ S.drop (j + 1) ++ xs.drop (k + 1))) (i := j) RO_y ((get_ins_pred (by omega)).trans hy)
      injection ha_y with ha_y
      subst ha_y
      refine c_draw wide (by kernel_rfl) ?_
      refine tv (fun w_ E_ => (o_mv rfl)) rfl rfl ?_
      refine tv (fun w_ E_ => (o_mv rfl)) rfl rfl ?_
      refine tv (fun w_ E_ => (o_gtr rfl rfl)) rfl rfl ?_
      refine tv (fun w_ E_ => (o_mv rfl)) rfl rfl ?_
      refine tvg rfl (decide_eq_true hs4_0) (fun w_ E_ => (o_mv rfl)) rfl rfl ?_
      refine tvg rfl (decide_eq_true hs4_0) (fun w_ E_ => (o_mv rfl)) rfl rfl ?_
      refine tvg rfl (decide_eq_true hs4_0) (fun w_ E_ => (o_mv rfl)) rfl rfl ?_
      refine tvg rfl (decide_eq_true hs4_0) (fun w_ E_ => (o_ix sl65 rfl rfl (by omega))) rfl rfl ?_
      refine tvg rfl (decide_eq_true hs4_0) (fun w_ E_ => (o_lda ag28 rfl rfl (hcs_x.mod0 E_))) rfl rfl ?_
      refine tvg rfl (decide_eq_true hs4_0) (fun w_ E_ => (o_mv rfl)) rfl rfl ?_
      refine tvg rfl (decide_eq_true hs4_0) (fun w_ E_ => (o_mv rfl)) rfl rfl ?_
      refine tvg rfl (decide_eq_true hs4_0) (fun w_ E_ => (o_subE (r := (j : Int)) rfl rfl (by rw [wrap64_in _ (by omega)]; omega))) rfl rfl ?_
      refine tvg rfl (decide_eq_true hs4_0) (fun w_ E_ => (o_ix sl65 rfl rfl (by omega))) rfl rfl ?_
      refine tvg rfl (decide_eq_true hs4_0) (fun w_ E_ => (o_lda ag28 rfl rfl (hcs_y.mod0 E_))) rfl rfl ?_
      refine tcg rfl (decide_eq_true hs4_0) (fun w_ E_ => o_callv ent30 rfl rfl) (fun w_ E_ => c_pcmp _ x y) rfl rfl ?_
      refine tvg rfl (decide_eq_true hs4_0) (fun w_ E_ => (o_lss rfl rfl)) rfl rfl ?_
      refine tv (fun w_ E_ => (o_pickT (decide_eq_true hs4_0) rfl rfl)) rfl rfl ?_
      refine tw_nil rfl fun w3 E_ => ?_
      replace E := E.then E_
      replace Ov := Ov.mod0 E_
      replace hcs_x := hcs_x.mod0 E_
      replace hcs_y := hcs_y.mod0 E_
      refine e_K (hK7 _ _ _ _ ?_)
      refine c_if rfl (fun h34 => ?_) (fun h34 => ?_)
      · skip
        have hpl := pcmp_lt.1 h34
        have hup2 : ∀ (i : Nat) (z : Pair), j ≤ i → S[i]? = some z → plt x z = true := fun i z hi hz => by
          rcases Nat.lt_or_eq_of_le hi with h | h
          · exact hup i z (by omega) hz
          · subst h; rw [hy] at hz; injection hz with hz; subst hz; exact hpl
        have hL : j + 1 < (S.take (j + 1) ++ [x] ++ S.drop (j + 1) ++ xs.drop (k + 1)).length := by omega
        refine c_skip ?_
        refine e_K (hK6 _ _ _ _ ?_)
        refine c_seq fun K8 hK8 => ?_
        refine c_block ?_
        refine c_drawp [2, 3, 4] [0, 1, 5, 6, 7, 8, 9, 10, 11, 12, 13, 14] 15 [16, 17] wide (by kernel_rfl) (fun _ _ _ h => h.2) ?_
        refine pw (fun _ => (o_mv rfl)) rfl rfl ?_
        refine pw (fun _ => (o_mv rfl)) rfl rfl ?_
        refine pw (fun _ => (o_subE (r := (j : Int)) rfl rfl (by rw [wrap64_in _ (by omega)]; omega))) rfl rfl ?_
        refine pw_nil ?_
        refine tv (fun w_ E_ => (o_mv rfl)) rfl rfl ?_
        refine tv (fun w_ E_ => (o_mv rfl)) rfl rfl ?_
        refine tv (fun w_ E_ => (o_mv rfl)) rfl rfl ?_
        refine tv (fun w_ E_ => (o_mv rfl)) rfl rfl ?_
        refine tv (fun w_ E_ => (o_subE (r := (j : Int)) rfl rfl (by rw [wrap64_in _ (by omega)]; omega))) rfl rfl ?_
        refine tv (fun w_ E_ => (o_ix sl65 rfl rfl (by omega))) rfl rfl ?_
        refine tv (fun w_ E_ => (o_lda ag28 rfl rfl (hcs_y.mod0 E_))) rfl rfl ?_
        refine tv (fun w_ E_ => (o_mv rfl)) rfl rfl ?_
        refine tv (fun w_ E_ => (o_mv rfl)) rfl rfl ?_
        refine tv (fun w_ E_ => (o_ix sl65 rfl rfl (by omega))) rfl rfl ?_
        refine tv (fun w_ E_ => (o_lda ag28 rfl rfl (hcs_x.mod0 E_))) rfl rfl ?_
        refine tv (fun w_ E_ => (o_ix sl65 rfl rfl (by omega))) rfl rfl ?_
        refine tw_tail rfl fun w4 E_ => ?_
        replace E := E.then E_
        replace Ov := Ov.mod0 E_
        refine s_stown (us := [_, _]) ag28 Ov rfl rfl rfl (by simp [Value.oneCell']) (by omega) fun wS1 Ov2 ES hzS => ?_
        replace E := E.trans' ES (fun x hx => .inl (by simpa [ob] using hx))
        clear Ov
        have Ov := Ov2.same rfl (flat_setg (cells := Pair.cells) (s := y) (fun _ => rfl) hL)
        refine sv (o_ix sl65 rfl rfl (by omega)) rfl ?_
        refine s_stown (us := [_, _]) ag28 Ov rfl rfl rfl (by simp [Value.oneCell']) (by omega) fun wS2 Ov2 ES hzS => ?_
        replace E := E.trans' ES (fun x hx => .inl (by simpa [ob] using hx))
        clear Ov
        have Ov := Ov2.same rfl (flat_setg (cells := Pair.cells) (s := x) (fun _ => rfl) (by rw [List.length_set]; omega))
        refine l_nil ?_
        refine e_in (by simp) ?_
        refine e_K (hK8 _ _ _ _ ?_)
        refine c_region ?_
        refine sv (o_mv rfl) rfl ?_
        refine sv (o_subE (r := (j : Int)) rfl rfl (by rw [wrap64_in _ (by omega)]; omega)) rfl ?_
        refine sv (o_as rfl) rfl ?_
        refine l_nil ?_
        exact e_round (σ := Nat) (s := j + 1) (j) ⟨rfl, rfl, rfl, rfl, rfl, rfl, trivial⟩ ⟨by omega, hup2, by rw [← swap_at (by omega) hy]; exact Ov, E⟩ (by omega)
      · skip
        have hnx : Own w3 28 2 (.slice (some ad3) xs.length c) xs.length (((isortP xs (k + 1) ++ xs.drop (k + 1)).map Pair.cells).flatten) := by
          rw [isortP_succ hx_x, ← hS, insP_at hSs hup (.inr ⟨y, hy, by cases hb : plt x y with
            | false => rfl
            | true => exact absurd (pcmp_lt.2 hb) h34⟩)]
          exact Ov
        refine c_exit ?_
        refine e_then (by simp) ?_
        refine e_then (by simp) ?_
        refine e_hit ?_
        refine e_in (by simp) ?_
        refine e_K (hK4 _ _ _ _ ?_)
        refine c_region ?_
        refine sv (o_mv rfl) rfl ?_
        refine sv (o_addN rfl rfl (by omega)) rfl ?_
        refine sv (o_as rfl) rfl ?_
        refine l_nil ?_
        exact e_round (σ := Nat) (s := k) (k + 1) ⟨rfl, rfl, rfl, rfl, rfl, trivial⟩ ⟨by omega, by omega, hnx, E⟩ (by omega)
    · skip
      refine c_draw wide (by kernel_rfl) ?_
      refine tv (fun w_ E_ => (o_mv rfl)) rfl rfl ?_
      refine tv (fun w_ E_ => (o_mv rfl)) rfl rfl ?_
      refine tv (fun w_ E_ => (o_gtr rfl rfl)) rfl rfl ?_
      refine tv (fun w_ E_ => (o_mv rfl)) rfl rfl ?_
      refine tn rfl (fun e_ => absurd ((decide_eq_false hs4_0).symm.trans e_) (by decide)) rfl ?_
      refine tn rfl (fun e_ => absurd ((decide_eq_false hs4_0).symm.trans e_) (by decide)) rfl ?_
      refine tn rfl (fun e_ => absurd ((decide_eq_false hs4_0).symm.trans e_) (by decide)) rfl ?_
      refine tn rfl (fun e_ => absurd ((decide_eq_false hs4_0).symm.trans e_) (by decide)) rfl ?_
      refine tn rfl (fun e_ => absurd ((decide_eq_false hs4_0).symm.trans e_) (by decide)) rfl ?_
      refine tn rfl (fun e_ => absurd ((decide_eq_false hs4_0).symm.trans e_) (by decide)) rfl ?_
      refine tn rfl (fun e_ => absurd ((decide_eq_false hs4_0).symm.trans e_) (by decide)) rfl ?_
      refine tn rfl (fun e_ => absurd ((decide_eq_false hs4_0).symm.trans e_) (by decide)) rfl ?_
      refine tn rfl (fun e_ => absurd ((decide_eq_false hs4_0).symm.trans e_) (by decide)) rfl ?_
      refine tn rfl (fun e_ => absurd ((decide_eq_false hs4_0).symm.trans e_) (by decide)) rfl ?_
      refine tn rfl (fun e_ => absurd ((decide_eq_false hs4_0).symm.trans e_) (by decide)) rfl ?_
      refine tn rfl (fun e_ => absurd ((decide_eq_false hs4_0).symm.trans e_) (by decide)) rfl ?_
      refine tv (fun w_ E_ => (o_pickF (decide_eq_false hs4_0) rfl rfl)) rfl rfl ?_
      refine tw_nil rfl fun w5 E_ => ?_
      replace E := E.then E_
      replace Ov := Ov.mod0 E_
      skip
      refine e_K (hK7 _ _ _ _ ?_)
      refine c_false rfl ?_
      have hnx : Own w5 28 2 (.slice (some ad3) xs.length c) xs.length (((isortP xs (k + 1) ++ xs.drop (k + 1)).map Pair.cells).flatten) := by
        rw [isortP_succ hx_x, ← hS, insP_at hSs hup (.inl (by omega))]
        exact Ov
      refine c_exit ?_
      refine e_then (by simp) ?_
      refine e_then (by simp) ?_
      refine e_hit ?_
      refine e_in (by simp) ?_
      refine e_K (hK4 _ _ _ _ ?_)
      refine c_region ?_
      refine sv (o_mv rfl) rfl ?_
      refine sv (o_addN rfl rfl (by omega)) rfl ?_
      refine sv (o_as rfl) rfl ?_
      refine l_nil ?_
      exact e_round (σ := Nat) (s := k) (k + 1) ⟨rfl, rfl, rfl, rfl, rfl, trivial⟩ ⟨by omega, by omega, hnx, E⟩ (by omega)
  · skip
    refine c_exit ?_
    refine e_then (by simp) ?_
    refine e_then (by simp) ?_
    refine e_hit ?_
    exact end0 rfl ⟨by rw [← isortP_all (k := k) (by omega)]; exact Ov, E⟩

end Go.Proofs.Ytccjjkdogljmpaa.V
