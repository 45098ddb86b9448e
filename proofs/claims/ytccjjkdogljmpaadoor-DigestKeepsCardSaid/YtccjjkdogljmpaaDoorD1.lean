/-
  A part of the proof: walks of functions, and the plain laws of what they compute. No condition of its own.
-/
import Derived.Test.YtccjjkdogljmpaaDoorTX
import Derived.Test.YtccjjkdogljmpaaDoorProg
set_option linter.unusedVariables false
set_option linter.unusedSimpArgs false
set_option maxRecDepth 10000
namespace Go.Proofs.YtccjjkdogljmpaaDoor.V
open Go Go.Proofs
theorem ent26 : Ent Tryd.prog 26 := Ent.of Tryd.func26 (by kernel_rfl) (by kernel_rfl)
theorem sl22 : slB Tryd.prog 22 5 1 1 = true := by kernel_rfl
theorem sc5 : scB Tryd.prog 5 = true := by kernel_rfl
theorem sl45 : slB Tryd.prog 45 44 1 4 = true := by kernel_rfl
theorem zv44 : zvB Tryd.prog 44 ([.int .u32 0]) := by unfold zvB; kernel_rfl
theorem c_rot (w : World) (x : UInt32) (k : Nat) (hk : 0 < k ∧ k < 32) : Calls Tryd.prog 29 [W4 x, .int .i64 (-(k : Int))].toArray w (Ret fun v w' => v = W4 (rr x k) ∧ Mod [] w w') := by
  refine enter Tryd.func29 rfl rfl rfl (l := [(0, _), (1, _)]) ⟨rfl, rfl, trivial⟩ ?_
  have E := Mod.refl [] w
  refine c_seq fun K1 hK1 => ?_
  refine c_region ?_
  refine sv (o_as rfl) rfl ?_
  refine l_nil ?_
  refine e_K (hK1 _ _ _ _ ?_)
  refine c_seq fun K2 hK2 => ?_
  refine c_region ?_
  refine sv (o_mv rfl) rfl ?_
  refine sv (o_convE (r := 18446744073709551616 - (k : Int)) Tryd.underlying3 Tryd.underlying49 rfl (rot_conv k hk)) rfl ?_
  refine sv (o_andE (r := ((32 - k : Nat) : Int)) rfl rfl ((and31 ⟨k, hk.2⟩ (by simpa using Nat.pos_iff_ne_zero.1 hk.1)).trans (by dsimp only; omega))) rfl ?_
  refine sv (o_as rfl) rfl ?_
  refine l_nil ?_
  refine e_K (hK2 _ _ _ _ ?_)
  refine c_seq fun K3 hK3 => ?_
  refine c_region ?_
  refine sv (o_mv rfl) rfl ?_
  refine sv (o_mv rfl) rfl ?_
  refine sv (o_shl4 (m := 32 - k) rfl rfl (by omega)) rfl ?_
  refine sv (o_mv rfl) rfl ?_
  refine sv (o_mv rfl) rfl ?_
  refine sv (o_subE (r := (k : Int)) rfl rfl (by rw [wrapu64_in _ (by omega)]; omega)) rfl ?_
  refine sv (o_shr4 (m := k) rfl rfl (by omega)) rfl ?_
  refine sv (o_or4 rfl rfl) rfl ?_
  refine sv (o_as rfl) rfl ?_
  refine l_nil ?_
  refine e_K (hK3 _ _ _ _ ?_)
  refine c_ret ?_
  exact ret1 rfl rfl ⟨by rw [UInt32.or_comm]; rfl, E⟩

theorem c_turn (w : World) (x : UInt32) (k : Nat) (hk : 0 < k ∧ k < 32) : Calls Tryd.prog 26 [W4 x, .int .u64 (k : Int)].toArray w (Ret fun v w' => v = W4 (rr x k) ∧ Mod [] w w') := by
  refine enter Tryd.func26 rfl rfl rfl (l := [(0, _), (1, _)]) ⟨rfl, rfl, trivial⟩ ?_
  have E := Mod.refl [] w
  refine c_seq fun K1 hK1 => ?_
  refine c_region ?_
  refine sv (o_as rfl) rfl ?_
  refine l_nil ?_
  refine e_K (hK1 _ _ _ _ ?_)
  refine c_seq fun K2 hK2 => ?_
  refine c_region ?_
  refine sv (o_mv rfl) rfl ?_
  refine sv (o_mv rfl) rfl ?_
  refine sv (o_shr4 (m := k) rfl rfl (by omega)) rfl ?_
  refine sv (o_mv rfl) rfl ?_
  refine sv (o_mv rfl) rfl ?_
  refine sv (o_subE (r := ((32 - k : Nat) : Int)) rfl rfl (by rw [wrapu64_in _ (by omega)]; omega)) rfl ?_
  refine sv (o_shl4 (m := 32 - k) rfl rfl (by omega)) rfl ?_
  refine sv (o_or4 rfl rfl) rfl ?_
  refine sv (o_as rfl) rfl ?_
  refine l_nil ?_
  refine e_K (hK2 _ _ _ _ ?_)
  refine c_ret ?_
  exact ret1 rfl rfl ⟨rfl, E⟩

theorem c_three (w : World) (x : UInt32) (i j k : Nat) (hi : 0 < i ∧ i < 32) (hj : 0 < j ∧ j < 32) (hk : 0 < k ∧ k < 32) : Calls Tryd.prog 27 [W4 x, .int .u64 (i : Int), .int .u64 (j : Int), .int .u64 (k : Int)].toArray w (Ret fun v w' => v = W4 (rr x i ^^^ rr x j ^^^ rr x k) ∧ Mod [] w w') := by
  refine enter Tryd.func27 rfl rfl rfl (l := [(0, _), (1, _), (2, _), (3, _)]) ⟨rfl, rfl, rfl, rfl, trivial⟩ ?_
  have E := Mod.refl [] w
  refine c_seq fun K1 hK1 => ?_
  refine c_region ?_
  refine sv (o_as rfl) rfl ?_
  refine l_nil ?_
  refine e_K (hK1 _ _ _ _ ?_)
  refine c_seq fun K2 hK2 => ?_
  refine c_region ?_
  refine sv (o_mv rfl) rfl ?_
  refine sv (o_mv rfl) rfl ?_
  refine sc (o_call ent26 rfl) (c_turn _ _ i hi) rfl fun v_ w1 h_ => ?_
  obtain ⟨rfl, E_⟩ := h_
  replace E := E.then E_
  refine sv (o_mv rfl) rfl ?_
  refine sv (o_mv rfl) rfl ?_
  refine sc (o_call ent26 rfl) (c_turn _ _ j hj) rfl fun v_ w2 h_ => ?_
  obtain ⟨rfl, E_⟩ := h_
  replace E := E.then E_
  refine sv (o_xor4 rfl rfl) rfl ?_
  refine sv (o_mv rfl) rfl ?_
  refine sv (o_mv rfl) rfl ?_
  refine sc (o_call ent26 rfl) (c_turn _ _ k hk) rfl fun v_ w3 h_ => ?_
  obtain ⟨rfl, E_⟩ := h_
  replace E := E.then E_
  refine sv (o_xor4 rfl rfl) rfl ?_
  refine sv (o_as rfl) rfl ?_
  refine l_nil ?_
  refine e_K (hK2 _ _ _ _ ?_)
  refine c_ret ?_
  exact ret1 rfl rfl ⟨rfl, E⟩

theorem c_word (A : List Nat) (w : World) (b : List UInt8) (v : Value) (R : Rep A w (byD b) v) (hb : 4 ≤ b.length) : Calls Tryd.prog 28 [v].toArray w (Ret fun u w' => u = W4 (wordOf (b.take 4)) ∧ Mod [] w w') := by
  refine enter Tryd.func28 rfl rfl rfl (l := [(0, _)]) ⟨rfl, trivial⟩ ?_
  have E := Mod.refl [] w
  obtain ⟨ad, c, rfl, hc1, hc2⟩ := flat_len R
  refine c_seq fun K1 hK1 => ?_
  refine c_region ?_
  refine sv (o_as rfl) rfl ?_
  refine l_nil ?_
  refine e_K (hK1 _ _ _ _ ?_)
  refine c_seq fun K2 hK2 => ?_
  refine c_region ?_
  refine sv (o_as rfl) rfl ?_
  refine l_nil ?_
  refine e_K (hK2 _ _ _ _ ?_)
  refine c_seq fun K3 hK3 => ?_
  refine c_seq fun K4 hK4 => ?_
  refine c_region ?_
  refine sv (o_mv rfl) rfl ?_
  refine sv (o_slto (hi := 4) sl22 rfl rfl (by omega) (by omega)) rfl ?_
  refine sv (o_len Tryd.underlying22 rfl) rfl ?_
  refine sv (o_mv rfl) rfl ?_
  refine l_nil ?_
  refine e_K (hK4 _ _ _ _ ?_)
  refine c_block ?_
  refine c_loop (σ := Nat) (fun k => [(3, W4 (wordOf (b.take k))), (7, .slice ad 4 c), (8, .int .i64 4), (9, .int .i64 (k : Int))]) (fun k w1 => k ≤ 4 ∧ Mod [] w w1) (fun k => 4 - k) (0) ⟨rfl, rfl, rfl, rfl, trivial⟩ (⟨by omega, E⟩) ?_
  rintro k w1 ⟨hk, E⟩
  refine c_seq fun K5 hK5 => ?_
  refine c_region ?_
  refine sv (o_lss rfl rfl) rfl ?_
  refine l_nil ?_
  refine e_K (hK5 _ _ _ _ ?_)
  refine c_seq fun K6 hK6 => ?_
  refine c_if rfl (fun h10 => ?_) (fun h10 => ?_)
  · skip
    have hlt : k < b.length := by omega
    obtain ⟨x, hx_x⟩ : ∃ x, b[k]? = some x := ⟨_, List.getElem?_eq_getElem (by omega)⟩
    obtain ⟨a_x, ha_x, hcs_x, _⟩ := flat_at (R.to0 E) hx_x
    subst ha_x
    refine c_skip ?_
    refine e_K (hK6 _ _ _ _ ?_)
    refine c_seq fun K7 hK7 => ?_
    refine c_block ?_
    refine c_seq fun K8 hK8 => ?_
    refine c_region ?_
    refine sv (o_ix sl22 rfl rfl (by omega)) rfl ?_
    refine sv (o_ld sc5 rfl hcs_x.first) rfl ?_
    refine sv (o_as rfl) rfl ?_
    refine l_nil ?_
    refine e_K (hK8 _ _ _ _ ?_)
    refine c_region ?_
    refine sv (o_mv rfl) rfl ?_
    refine sv (o_shl4 (m := 8) rfl rfl (by decide)) rfl ?_
    refine sv (o_mv rfl) rfl ?_
    refine sv (o_conv84 Tryd.underlying5 Tryd.underlying44 rfl) rfl ?_
    refine sv (o_or4 rfl rfl) rfl ?_
    refine sv (o_as rfl) rfl ?_
    refine l_nil ?_
    refine e_in (by simp) ?_
    refine e_K (hK7 _ _ _ _ ?_)
    refine c_region ?_
    refine sv (o_addN rfl rfl (by omega)) rfl ?_
    refine sv (o_mv rfl) rfl ?_
    refine l_nil ?_
    rw [← wordOf_succ hx_x]
    exact e_round (σ := Nat) (s := k) (k + 1) ⟨rfl, rfl, rfl, rfl, trivial⟩ ⟨by omega, E⟩ (by omega)
  · skip
    have hk4 : k = 4 := by omega
    subst hk4
    refine c_exit ?_
    refine e_then (by simp) ?_
    refine e_then (by simp) ?_
    refine e_hit ?_
    refine e_K (hK3 _ _ _ _ ?_)
    refine c_seq fun K9 hK9 => ?_
    refine c_region ?_
    refine sv (o_mv rfl) rfl ?_
    refine sv (o_as rfl) rfl ?_
    refine l_nil ?_
    refine e_K (hK9 _ _ _ _ ?_)
    refine c_ret ?_
    exact ret1 rfl rfl ⟨rfl, E⟩

theorem c_nums (w : World) : Calls Tryd.prog 18 [].toArray w (Ret fun u w' => Own w' 44 1 u 64 ((numsK.map wcells).flatten) ∧ (∀ x ∈ ob u, w.heap.size ≤ x) ∧ Mod [] w w') := by
  refine enter Tryd.func18 rfl rfl rfl (l := []) trivial ?_
  have E := Mod.refl [] w
  refine c_seq fun K1 hK1 => ?_
  refine c_region ?_
  refine sv (o_as rfl) rfl ?_
  refine l_nil ?_
  refine e_K (hK1 _ _ _ _ ?_)
  refine c_seq fun K2 hK2 => ?_
  refine c_region ?_
  refine s_bslice (cs := _) sl45 zv44 rfl rfl rfl (by decide) rfl fun g1 w1 N1 => ?_
  have Lg1_E := N1.le E
  replace E := E.then N1.mod
  have Bg1 := N1.blk
  refine sv (o_as rfl) rfl ?_
  refine l_nil ?_
  refine e_K (hK2 _ _ _ _ ?_)
  refine c_ret ?_
  exact ret1 rfl rfl ⟨Own.all (cs := (numsK.map wcells).flatten) Bg1 rfl (by omega), fun x hx => by simp [ob] at hx; subst hx; exact Lg1_E, E⟩

end Go.Proofs.YtccjjkdogljmpaaDoor.V
