/-
  A part of the proof: walks of functions, and the plain laws of what they compute. No condition of its own.
-/
import Derived.Test.YtccjjkdogljmpaaP8
set_option linter.unusedVariables false
set_option linter.unusedSimpArgs false
set_option maxRecDepth 10000
namespace Go.Proofs.Ytccjjkdogljmpaa.V
open Go Go.Proofs
theorem ent72 : Ent Try.prog 72 := Ent.of Try.func72 (by kernel_rfl) (by kernel_rfl)
theorem ent63 : Ent Try.prog 63 := Ent.of Try.func63 (by kernel_rfl) (by kernel_rfl)
theorem ent59 : Ent Try.prog 59 := Ent.of Try.func59 (by kernel_rfl) (by kernel_rfl)
theorem ent58 : Ent Try.prog 58 := Ent.of Try.func58 (by kernel_rfl) (by kernel_rfl)
theorem c_len64 (w : World) (m : Int) (hm : 0 ≤ m ∧ m ≤ 12) : Calls Try.prog 72 [.int .u64 m].toArray w (Ret fun u w' => (∃ r : Int, u = .int .i64 r) ∧ Mod [] w w') := by
  refine enter Try.func72 rfl rfl rfl (l := [(0, _)]) ⟨rfl, trivial⟩ ?_
  have E := Mod.refl [] w
  refine c_seq fun K1 hK1 => ?_
  refine c_region ?_
  refine sv (o_as rfl) rfl ?_
  refine l_nil ?_
  refine e_K (hK1 _ _ _ _ ?_)
  refine c_seq fun K2 hK2 => ?_
  refine c_seq fun K3 hK3 => ?_
  refine c_region ?_
  refine sv (o_mv rfl) rfl ?_
  refine sv (o_geq rfl rfl) rfl ?_
  refine l_nil ?_
  refine e_K (hK3 _ _ _ _ ?_)
  refine c_if rfl (fun h4 => ?_) (fun h4 => ?_)
  · skip
    exact absurd h4 (by omega)
  · skip
    refine c_skip ?_
    refine e_K (hK2 _ _ _ _ ?_)
    refine c_seq fun K4 hK4 => ?_
    refine c_seq fun K5 hK5 => ?_
    refine c_region ?_
    refine sv (o_mv rfl) rfl ?_
    refine sv (o_geq rfl rfl) rfl ?_
    refine l_nil ?_
    refine e_K (hK5 _ _ _ _ ?_)
    refine c_if rfl (fun h8 => ?_) (fun h8 => ?_)
    · skip
      exact absurd h8 (by omega)
    · skip
      refine c_skip ?_
      refine e_K (hK4 _ _ _ _ ?_)
      refine c_seq fun K6 hK6 => ?_
      refine c_seq fun K7 hK7 => ?_
      refine c_region ?_
      refine sv (o_mv rfl) rfl ?_
      refine sv (o_geq rfl rfl) rfl ?_
      refine l_nil ?_
      refine e_K (hK7 _ _ _ _ ?_)
      refine c_if rfl (fun h14 => ?_) (fun h14 => ?_)
      · skip
        exact absurd h14 (by omega)
      · skip
        refine c_skip ?_
        refine e_K (hK6 _ _ _ _ ?_)
        refine c_seq fun K8 hK8 => ?_
        refine c_region ?_
        refine sv (o_mv rfl) rfl ?_
        refine sv (o_mv rfl) rfl ?_
        refine sv (o_convE (r := m) Try.underlying102 Try.underlying5 rfl (wrapu8_in _ (by omega))) rfl ?_
        refine s_sidx Try.underlying9 rfl rfl (by omega) (Nat.lt_of_le_of_lt (show m.toNat ≤ 12 by omega) (by decide)) rfl fun c8 hc8 => ?_
        refine sv (o_conv Try.underlying5 Try.underlying3 rfl) rfl ?_
        refine sv (o_add rfl rfl) rfl ?_
        refine sv (o_as rfl) rfl ?_
        refine l_nil ?_
        refine e_K (hK8 _ _ _ _ ?_)
        refine c_ret ?_
        exact ret1 rfl rfl ⟨⟨_, rfl⟩, E⟩

theorem c_len (w : World) (m : Int) (hm : 0 ≤ m ∧ m ≤ 12) : Calls Try.prog 59 [.int .u64 m].toArray w (Ret fun u w' => (∃ r : Int, u = .int .i64 r) ∧ Mod [] w w') := by
  refine enter Try.func59 rfl rfl rfl (l := [(0, _)]) ⟨rfl, trivial⟩ ?_
  have E := Mod.refl [] w
  refine c_seq fun K1 hK1 => ?_
  refine c_region ?_
  refine sv (o_as rfl) rfl ?_
  refine l_nil ?_
  refine e_K (hK1 _ _ _ _ ?_)
  refine c_seq fun K2 hK2 => ?_
  refine c_false rfl ?_
  refine c_skip ?_
  refine e_K (hK2 _ _ _ _ ?_)
  refine c_seq fun K3 hK3 => ?_
  refine c_region ?_
  refine sv (o_mv rfl) rfl ?_
  refine sc (o_call ent72 rfl) (c_len64 _ m hm) rfl fun v_ w1 h_ => ?_
  obtain ⟨⟨r, rfl⟩, E_⟩ := h_
  replace E := E.then E_
  refine sv (o_as rfl) rfl ?_
  refine l_nil ?_
  refine e_K (hK3 _ _ _ _ ?_)
  refine c_ret ?_
  exact ret1 rfl rfl ⟨⟨_, rfl⟩, E⟩

theorem c_pdq (w : World) (xs : List Pair) (v : Value) (O : Own w 28 2 v xs.length ((xs.map Pair.cells).flatten)) (hn : xs.length ≤ 12) (r : Int) : Calls Try.prog 58 [v, .int .i64 0, .int .i64 xs.length, .int .i64 r, .func (.func 30) #[] #[]].toArray w (Ret fun _ w' => Own w' 28 2 v xs.length (((isortP xs xs.length).map Pair.cells).flatten) ∧ Mod (ob v) w w') := by
  refine enter Try.func58 rfl rfl rfl (l := [(0, _), (1, _), (2, _), (3, _), (4, _)]) ⟨rfl, rfl, rfl, rfl, rfl, trivial⟩ ?_
  have E := Mod.refl [] w
  refine c_seq fun K1 hK1 => ?_
  refine c_region ?_
  refine sv (o_as rfl) rfl ?_
  refine l_nil ?_
  refine e_K (hK1 _ _ _ _ ?_)
  refine c_seq fun K2 hK2 => ?_
  refine c_region ?_
  refine sv (o_as rfl) rfl ?_
  refine l_nil ?_
  refine e_K (hK2 _ _ _ _ ?_)
  refine c_block ?_
  refine c_loop (σ := Unit) (fun _u => [(0, v), (1, .int .i64 0), (2, .int .i64 xs.length), (4, .func (.func 30) #[] #[])]) (fun _u w1 => Mod [] w w1) (fun _u => 0) (()) ⟨rfl, rfl, rfl, rfl, trivial⟩ (E) ?_
  rintro _u w1 E
  refine c_block ?_
  refine c_seq fun K3 hK3 => ?_
  refine c_region ?_
  refine sv (o_mv rfl) rfl ?_
  refine sv (o_mv rfl) rfl ?_
  refine sv (o_subN rfl rfl (by omega)) rfl ?_
  refine sv (o_as rfl) rfl ?_
  refine l_nil ?_
  refine e_K (hK3 _ _ _ _ ?_)
  refine c_seq fun K4 hK4 => ?_
  refine c_seq fun K5 hK5 => ?_
  refine c_region ?_
  refine sv (o_mv rfl) rfl ?_
  refine sv (o_leq rfl rfl) rfl ?_
  refine l_nil ?_
  refine e_K (hK5 _ _ _ _ ?_)
  refine c_if rfl (fun h25 => ?_) (fun h25 => ?_)
  · skip
    refine c_seq fun K6 hK6 => ?_
    refine c_region ?_
    refine sv (o_mv rfl) rfl ?_
    refine sv (o_mv rfl) rfl ?_
    refine sv (o_mv rfl) rfl ?_
    refine sv (o_mv rfl) rfl ?_
    refine sc (o_call ent63 rfl) (c_isort _ xs v (O.mod0 E) (by omega)) rfl fun v_ w2 h_ => ?_
    obtain ⟨Os, Es⟩ := h_
    replace E := (E.mono (by simp) : Mod (ob v) w _).trans Es
    refine l_nil ?_
    refine e_K (hK6 _ _ _ _ ?_)
    refine c_ret ?_
    refine e_then (by simp) ?_
    refine e_in (by simp) ?_
    refine e_then (by simp) ?_
    refine e_in (by simp) ?_
    exact ret0 rfl ⟨Os, E⟩
  · skip
    exact absurd (by omega) h25

theorem c_sort (w : World) (xs : List Pair) (v : Value) (O : Own w 28 2 v xs.length ((xs.map Pair.cells).flatten)) (hn : xs.length ≤ 12) : Calls Try.prog 50 [v, .func (.func 30) #[] #[]].toArray w (Ret fun _ w' => Own w' 28 2 v xs.length (((isortP xs xs.length).map Pair.cells).flatten) ∧ Mod (ob v) w w') := by
  refine enter Try.func50 rfl rfl rfl (l := [(0, _), (1, _)]) ⟨rfl, rfl, trivial⟩ ?_
  have E := Mod.refl [] w
  obtain ⟨ad, c, rfl, hc1, hc2⟩ := O.form
  refine c_seq fun K1 hK1 => ?_
  refine c_region ?_
  refine sv (o_mv rfl) rfl ?_
  refine sv (o_len Try.underlying65 rfl) rfl ?_
  refine sv (o_as rfl) rfl ?_
  refine l_nil ?_
  refine e_K (hK1 _ _ _ _ ?_)
  refine c_region ?_
  refine sv (o_mv rfl) rfl ?_
  refine sv (o_mv rfl) rfl ?_
  refine sv (o_mv rfl) rfl ?_
  refine sv (o_convE (r := (xs.length : Int)) Try.underlying3 Try.underlying82 rfl (wrapu64_in _ (by omega))) rfl ?_
  refine sc (o_call ent59 rfl) (c_len _ (xs.length : Int) (by omega)) rfl fun v_ w1 h_ => ?_
  obtain ⟨⟨r, rfl⟩, E_⟩ := h_
  replace E := E.then E_
  refine sv (o_mv rfl) rfl ?_
  refine sc (o_call ent58 rfl) (c_pdq _ xs _ (O.mod0 E) hn r) rfl fun v_ w2 h_ => ?_
  obtain ⟨Os, Es⟩ := h_
  replace E := (E.mono (by simp) : Mod (ob (.slice ad xs.length c)) w _).trans Es
  refine l_nil ?_
  exact end0 rfl ⟨Os, E⟩

theorem c_compact0 (w : World) (xs : List Pair) (v : Value) (R : Rep [] w (pairsD xs) v) (hap : apartP xs) : Calls Try.prog 51 [v].toArray w (Ret fun u w' => u = v ∧ Mod [] w w') := by
  refine enter Try.func51 rfl rfl rfl (l := [(0, _)]) ⟨rfl, trivial⟩ ?_
  have E := Mod.refl [] w
  obtain ⟨ad, c, rfl, hc1, hc2⟩ := flat_len R
  refine c_seq fun K1 hK1 => ?_
  refine c_region ?_
  refine sv (o_as rfl) rfl ?_
  refine l_nil ?_
  refine e_K (hK1 _ _ _ _ ?_)
  refine c_seq fun K2 hK2 => ?_
  refine c_seq fun K3 hK3 => ?_
  refine c_region ?_
  refine sv (o_mv rfl) rfl ?_
  refine sv (o_len Try.underlying65 rfl) rfl ?_
  refine sv (o_lss rfl rfl) rfl ?_
  refine l_nil ?_
  refine e_K (hK3 _ _ _ _ ?_)
  refine c_if rfl (fun h8 => ?_) (fun h8 => ?_)
  · skip
    refine c_seq fun K4 hK4 => ?_
    refine c_region ?_
    refine sv (o_mv rfl) rfl ?_
    refine sv (o_as rfl) rfl ?_
    refine l_nil ?_
    refine e_K (hK4 _ _ _ _ ?_)
    refine c_ret ?_
    refine e_then (by simp) ?_
    exact ret1 rfl rfl ⟨rfl, E⟩
  · skip
    refine c_skip ?_
    refine e_K (hK2 _ _ _ _ ?_)
    refine c_seq fun K5 hK5 => ?_
    refine c_seq fun K6 hK6 => ?_
    refine c_region ?_
    refine sv (o_as rfl) rfl ?_
    refine l_nil ?_
    refine e_K (hK6 _ _ _ _ ?_)
    refine c_block ?_
    refine c_loop (σ := Nat) (fun k => [(0, .slice ad xs.length c), (3, .int .i64 ((k + 1 : Nat) : Int))]) (fun k w1 => (k = 0 ∨ k < xs.length) ∧ Mod [] w w1) (fun k => xs.length - k) (0) ⟨rfl, rfl, trivial⟩ (⟨.inl rfl, E⟩) ?_
    rintro k w1 ⟨hk, E⟩
    refine c_seq fun K7 hK7 => ?_
    refine c_seq fun K8 hK8 => ?_
    refine c_region ?_
    refine sv (o_mv rfl) rfl ?_
    refine sv (o_mv rfl) rfl ?_
    refine sv (o_len Try.underlying65 rfl) rfl ?_
    refine sv (o_lss rfl rfl) rfl ?_
    refine l_nil ?_
    refine e_K (hK8 _ _ _ _ ?_)
    refine c_if rfl (fun h13 => ?_) (fun h13 => ?_)
    · skip
      have hlt : k + 1 < xs.length := by omega
      obtain ⟨x, hx_x⟩ : ∃ x, xs[k]? = some x := ⟨_, List.getElem?_eq_getElem (by omega)⟩
      obtain ⟨a_x, ha_x, hcs_x, _⟩ := flat_at (R.to0 E) hx_x
      subst ha_x
      obtain ⟨y, hx_y⟩ : ∃ x, xs[k + 1]? = some x := ⟨_, List.getElem?_eq_getElem (by omega)⟩
      obtain ⟨a_y, ha_y, hcs_y, _⟩ := flat_at (R.to0 E) hx_y
      injection ha_y with ha_y
      subst ha_y
      have hxy := hap k x y hx_x hx_y
      refine c_skip ?_
      refine e_K (hK7 _ _ _ _ ?_)
      refine c_seq fun K9 hK9 => ?_
      refine c_block ?_
      refine c_seq fun K10 hK10 => ?_
      refine c_draw wide (by kernel_rfl) ?_
      refine tv (fun w_ E_ => (o_mv rfl)) rfl rfl ?_
      refine tv (fun w_ E_ => (o_mv rfl)) rfl rfl ?_
      refine tv (fun w_ E_ => (o_ix sl65 rfl rfl (by omega))) rfl rfl ?_
      refine tv (fun w_ E_ => (o_lda ag28 rfl rfl (hcs_y.mod0 E_))) rfl rfl ?_
      refine tv (fun w_ E_ => (o_mv rfl)) rfl rfl ?_
      refine tv (fun w_ E_ => (o_mv rfl)) rfl rfl ?_
      refine tv (fun w_ E_ => (o_subE (r := (k : Int)) rfl rfl (by rw [wrap64_in _ (by omega)]; omega))) rfl rfl ?_
      refine tv (fun w_ E_ => (o_ix sl65 rfl rfl (by omega))) rfl rfl ?_
      refine tv (fun w_ E_ => (o_lda ag28 rfl rfl (hcs_x.mod0 E_))) rfl rfl ?_
      refine tv (fun w_ E_ => (o_steq (se28 ..) rfl rfl rfl)) rfl rfl ?_
      refine tw_nil rfl fun w2 E_ => ?_
      replace E := E.then E_
      refine e_K (hK10 _ _ _ _ ?_)
      refine c_cond rfl (fun h25 => ?_) (fun h25 => ?_)
      · skip
        exact absurd (by obtain ⟨x1, x2⟩ := x; obtain ⟨y1, y2⟩ := y; simp at h25; simp [h25]) hxy
      · skip
        refine c_skip ?_
        refine e_in (by simp) ?_
        refine e_K (hK9 _ _ _ _ ?_)
        refine c_region ?_
        refine sv (o_mv rfl) rfl ?_
        refine sv (o_addN rfl rfl (by omega)) rfl ?_
        refine sv (o_as rfl) rfl ?_
        refine l_nil ?_
        exact e_round (σ := Nat) (s := k) (k + 1) ⟨rfl, rfl, trivial⟩ ⟨by omega, E⟩ (by omega)
    · skip
      refine c_exit ?_
      refine e_then (by simp) ?_
      refine e_then (by simp) ?_
      refine e_hit ?_
      refine e_K (hK5 _ _ _ _ ?_)
      refine c_seq fun K11 hK11 => ?_
      refine c_region ?_
      refine sv (o_mv rfl) rfl ?_
      refine sv (o_as rfl) rfl ?_
      refine l_nil ?_
      refine e_K (hK11 _ _ _ _ ?_)
      refine c_ret ?_
      exact ret1 rfl rfl ⟨rfl, E⟩

end Go.Proofs.Ytccjjkdogljmpaa.V
