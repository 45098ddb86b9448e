/-
  A part of the proof: walks of functions, and the plain laws of what they compute. No condition of its own.
-/
import Derived.Test.YtccjjkdogljmpaaTA
import Derived.Test.YtccjjkdogljmpaaProg
set_option linter.unusedVariables false
set_option linter.unusedSimpArgs false
set_option maxRecDepth 10000
namespace Go.Proofs.Ytccjjkdogljmpaa.V
open Go Go.Proofs
theorem ent53 : Ent Try.prog 53 := Ent.of Try.func53 (by kernel_rfl) (by kernel_rfl)
theorem sl83 : slB Try.prog 83 3 1 8 = true := by kernel_rfl
theorem sc3 : scB Try.prog 3 = true := by kernel_rfl
theorem wide : Try.prog.follows .mixedOrders = true := by kernel_rfl
theorem fd28_0 : fdB Try.prog 28 0 0 1 = true := by kernel_rfl
theorem sc9 : scB Try.prog 9 = true := by kernel_rfl
theorem ent44 : Ent Try.prog 44 := Ent.of Try.func44 (by kernel_rfl) (by kernel_rfl)
theorem fd28_1 : fdB Try.prog 28 1 1 1 = true := by kernel_rfl
theorem zv3 : zvB Try.prog 3 ([.int .i64 0]) := by unfold zvB; kernel_rfl
theorem ent43 : Ent Try.prog 43 := Ent.of Try.func43 (by kernel_rfl) (by kernel_rfl)
theorem zv28 : zvB Try.prog 28 ([S [], S []]) := by unfold zvB; kernel_rfl
theorem fd24_0 : fdB Try.prog 24 0 0 1 = true := by kernel_rfl
theorem fd24_1 : fdB Try.prog 24 1 1 1 = true := by kernel_rfl
theorem pl28 : plB Try.prog 28 [(0, 1), (1, 1)] = true := by kernel_rfl
theorem ag28 : agB Try.prog 28 2 = true := by kernel_rfl
theorem sl22 : slB Try.prog 22 24 3 48 = true := by kernel_rfl
theorem ag24 : agB Try.prog 24 3 = true := by kernel_rfl
theorem ent12 : Ent Try.prog 12 := Ent.of Try.func12 (by kernel_rfl) (by kernel_rfl)
theorem ent31 : Ent Try.prog 31 := Ent.of Try.func31 (by kernel_rfl) (by kernel_rfl)
theorem ent28 : Ent Try.prog 28 := Ent.of Try.func28 (by kernel_rfl) (by kernel_rfl)
theorem ent30 : Ent Try.prog 30 := Ent.of Try.func30 (by kernel_rfl) (by kernel_rfl)
theorem zv24 : zvB Try.prog 24 ([S [], S [], S []]) := by unfold zvB; kernel_rfl
theorem se28 : ∀ (a0 : List UInt8) (a1 : List UInt8) (b0 : List UInt8) (b1 : List UInt8), seB Try.prog 28 [S a0, S a1] [S b0, S b1] = true := by intros; kernel_rfl
theorem fd24_2 : fdB Try.prog 24 2 2 1 = true := by kernel_rfl
theorem se24 : ∀ (a0 : List UInt8) (a1 : List UInt8) (a2 : List UInt8) (b0 : List UInt8) (b1 : List UInt8) (b2 : List UInt8), seB Try.prog 24 [S a0, S a1, S a2] [S b0, S b1, S b2] = true := by intros; kernel_rfl
theorem c_isNaN (w : World) (a : Str) : Calls Try.prog 53 [S a].toArray w (Ret fun v w' => v = .bool false ∧ Mod [] w w') := by
  refine enter Try.func53 rfl rfl rfl (l := [(0, _)]) ⟨rfl, trivial⟩ ?_
  have E := Mod.refl [] w
  refine c_seq fun K1 hK1 => ?_
  refine c_region ?_
  refine sv (o_as rfl) rfl ?_
  refine l_nil ?_
  refine e_K (hK1 _ _ _ _ ?_)
  refine c_seq fun K2 hK2 => ?_
  refine c_region ?_
  refine sv (o_mv rfl) rfl ?_
  refine sv (o_mv rfl) rfl ?_
  refine sv (o_sne rfl rfl) rfl ?_
  refine sv (o_as rfl) rfl ?_
  refine l_nil ?_
  refine e_K (hK2 _ _ _ _ ?_)
  refine c_ret ?_
  exact ret1 rfl rfl ⟨by simp, E⟩

theorem c_scmp (w : World) (a b : Str) : Calls Try.prog 44 [S a, S b].toArray w (Ret fun v w' => v = .int .i64 (scmp a b) ∧ Mod [] w w') := by
  refine enter Try.func44 rfl rfl rfl (l := [(0, _), (1, _)]) ⟨rfl, rfl, trivial⟩ ?_
  have E := Mod.refl [] w
  refine c_seq fun K1 hK1 => ?_
  refine c_region ?_
  refine sv (o_as rfl) rfl ?_
  refine l_nil ?_
  refine e_K (hK1 _ _ _ _ ?_)
  refine c_seq fun K2 hK2 => ?_
  refine c_region ?_
  refine sv (o_mv rfl) rfl ?_
  refine sc (o_call ent53 rfl) (c_isNaN _ _) rfl fun v_ w1 h_ => ?_
  obtain ⟨rfl, E_⟩ := h_
  replace E := E.then E_
  refine sv (o_as rfl) rfl ?_
  refine l_nil ?_
  refine e_K (hK2 _ _ _ _ ?_)
  refine c_seq fun K3 hK3 => ?_
  refine c_region ?_
  refine sv (o_mv rfl) rfl ?_
  refine sc (o_call ent53 rfl) (c_isNaN _ _) rfl fun v_ w2 h_ => ?_
  obtain ⟨rfl, E_⟩ := h_
  replace E := E.then E_
  refine sv (o_as rfl) rfl ?_
  refine l_nil ?_
  refine e_K (hK3 _ _ _ _ ?_)
  refine c_seq fun K4 hK4 => ?_
  refine c_seq fun K5 hK5 => ?_
  refine c_region ?_
  refine sv (o_mv rfl) rfl ?_
  refine l_nil ?_
  refine e_K (hK5 _ _ _ _ ?_)
  refine c_false rfl ?_
  refine c_skip ?_
  refine e_K (hK4 _ _ _ _ ?_)
  refine c_seq fun K6 hK6 => ?_
  refine c_seq fun K7 hK7 => ?_
  refine c_region ?_
  refine sv (o_mv rfl) rfl ?_
  refine l_nil ?_
  refine e_K (hK7 _ _ _ _ ?_)
  refine c_false rfl ?_
  refine c_skip ?_
  refine e_K (hK6 _ _ _ _ ?_)
  refine c_seq fun K8 hK8 => ?_
  refine c_seq fun K9 hK9 => ?_
  refine c_region ?_
  refine sv (o_mv rfl) rfl ?_
  refine sv (o_mv rfl) rfl ?_
  refine sv (o_slt rfl rfl) rfl ?_
  refine l_nil ?_
  refine e_K (hK9 _ _ _ _ ?_)
  refine c_cond rfl (fun h16 => ?_) (fun h16 => ?_)
  · skip
    refine c_seq fun K10 hK10 => ?_
    refine c_region ?_
    refine sv (o_as rfl) rfl ?_
    refine l_nil ?_
    refine e_K (hK10 _ _ _ _ ?_)
    refine c_ret ?_
    refine e_then (by simp) ?_
    exact ret1 rfl rfl ⟨by simp [scmp, h16], E⟩
  · skip
    refine c_skip ?_
    refine e_K (hK8 _ _ _ _ ?_)
    refine c_seq fun K11 hK11 => ?_
    refine c_seq fun K12 hK12 => ?_
    refine c_region ?_
    refine sv (o_mv rfl) rfl ?_
    refine sv (o_mv rfl) rfl ?_
    refine sv (o_sgt rfl rfl) rfl ?_
    refine l_nil ?_
    refine e_K (hK12 _ _ _ _ ?_)
    refine c_cond rfl (fun h19 => ?_) (fun h19 => ?_)
    · skip
      refine c_seq fun K13 hK13 => ?_
      refine c_region ?_
      refine sv (o_as rfl) rfl ?_
      refine l_nil ?_
      refine e_K (hK13 _ _ _ _ ?_)
      refine c_ret ?_
      refine e_then (by simp) ?_
      exact ret1 rfl rfl ⟨by simp at h19; simp [scmp, h16, h19], E⟩
    · skip
      refine c_skip ?_
      refine e_K (hK11 _ _ _ _ ?_)
      refine c_seq fun K14 hK14 => ?_
      refine c_region ?_
      refine sv (o_as rfl) rfl ?_
      refine l_nil ?_
      refine e_K (hK14 _ _ _ _ ?_)
      refine c_ret ?_
      exact ret1 rfl rfl ⟨by simp [h16] at h19; simp [scmp, h19, bl_irrefl], E⟩

theorem c_orI (A : List Nat) (w : World) (xs : List Int) (v : Value) (R : Rep A w (flat 1 ic xs) v) : Calls Try.prog 43 [v].toArray w (Ret fun u w' => u = .int .i64 (orI xs) ∧ Mod [] w w') := by
  refine enter Try.func43 rfl rfl rfl (l := [(0, _)]) ⟨rfl, trivial⟩ ?_
  have E := Mod.refl [] w
  obtain ⟨ad, c, rfl, hc1, hc2⟩ := flat_len R
  refine c_seq fun K1 hK1 => ?_
  refine c_region ?_
  refine sv (o_as rfl) rfl ?_
  refine l_nil ?_
  refine e_K (hK1 _ _ _ _ ?_)
  refine c_seq fun K2 hK2 => ?_
  refine c_region ?_
  refine sv (o_as rfl) rfl ?_
  refine l_nil ?_
  refine e_K (hK2 _ _ _ _ ?_)
  refine c_seq fun K3 hK3 => ?_
  refine c_seq fun K4 hK4 => ?_
  refine c_region ?_
  refine sv (o_mv rfl) rfl ?_
  refine sv (o_len Try.underlying83 rfl) rfl ?_
  refine sv (o_mv rfl) rfl ?_
  refine l_nil ?_
  refine e_K (hK4 _ _ _ _ ?_)
  refine c_block ?_
  refine c_loop (σ := Nat) (fun k => [(6, .slice ad xs.length c), (7, .int .i64 xs.length), (8, .int .i64 (k : Int)), (3, .int .i64 0)]) (fun k w1 => k ≤ xs.length ∧ orI xs = orI (xs.drop k) ∧ Mod [] w w1) (fun k => xs.length - k) (0) ⟨rfl, rfl, rfl, rfl, trivial⟩ (⟨by omega, by simp, E⟩) ?_
  rintro k w1 ⟨hk, ho, E⟩
  refine c_seq fun K5 hK5 => ?_
  refine c_region ?_
  refine sv (o_lss rfl rfl) rfl ?_
  refine l_nil ?_
  refine e_K (hK5 _ _ _ _ ?_)
  refine c_seq fun K6 hK6 => ?_
  refine c_if rfl (fun h9 => ?_) (fun h9 => ?_)
  · skip
    have hlt : k < xs.length := by omega
    obtain ⟨a, rfl, hcs, _⟩ := flat_at (R.to0 E) (List.getElem?_eq_getElem hlt)
    refine c_skip ?_
    refine e_K (hK6 _ _ _ _ ?_)
    refine c_seq fun K7 hK7 => ?_
    refine c_block ?_
    refine c_seq fun K8 hK8 => ?_
    refine c_region ?_
    refine sv (o_ix sl83 rfl rfl (by omega)) rfl ?_
    refine sv (o_ld sc3 rfl hcs.c0) rfl ?_
    refine sv (o_as rfl) rfl ?_
    refine l_nil ?_
    refine e_K (hK8 _ _ _ _ ?_)
    refine c_seq fun K9 hK9 => ?_
    refine c_region ?_
    refine sv (o_mv rfl) rfl ?_
    refine sv (o_mv rfl) rfl ?_
    refine sv (o_neq rfl rfl) rfl ?_
    refine l_nil ?_
    refine e_K (hK9 _ _ _ _ ?_)
    refine c_if rfl (fun h14 => ?_) (fun h14 => ?_)
    · skip
      refine c_seq fun K10 hK10 => ?_
      refine c_region ?_
      refine sv (o_mv rfl) rfl ?_
      refine sv (o_as rfl) rfl ?_
      refine l_nil ?_
      refine e_K (hK10 _ _ _ _ ?_)
      refine c_ret ?_
      refine e_in (by simp) ?_
      refine e_then (by simp) ?_
      refine e_then (by simp) ?_
      refine e_in (by simp) ?_
      refine e_then (by simp) ?_
      exact ret1 rfl rfl ⟨by rw [ho, List.drop_eq_getElem_cons hlt]; simp only [orI]; rw [if_pos h14], E⟩
    · skip
      refine c_skip ?_
      refine e_in (by simp) ?_
      refine e_K (hK7 _ _ _ _ ?_)
      refine c_region ?_
      refine sv (o_addN rfl rfl (by omega)) rfl ?_
      refine sv (o_mv rfl) rfl ?_
      refine l_nil ?_
      exact e_round (σ := Nat) (s := k) (k + 1) ⟨rfl, rfl, rfl, rfl, trivial⟩ ⟨by omega, by rw [ho, List.drop_eq_getElem_cons hlt]; simp only [orI]; rw [if_neg h14], E⟩ (by omega)
  · skip
    refine c_exit ?_
    refine e_then (by simp) ?_
    refine e_then (by simp) ?_
    refine e_hit ?_
    refine e_K (hK3 _ _ _ _ ?_)
    refine c_seq fun K11 hK11 => ?_
    refine c_region ?_
    refine sv (o_mv rfl) rfl ?_
    refine sv (o_as rfl) rfl ?_
    refine l_nil ?_
    refine e_K (hK11 _ _ _ _ ?_)
    refine c_ret ?_
    exact ret1 rfl rfl ⟨by rw [ho, List.drop_eq_nil_of_le (by omega)]; rfl, E⟩

theorem c_pcmp (w : World) (p q : Pair) : Calls Try.prog 30 [p.agg, q.agg].toArray w (Ret fun v w' => v = .int .i64 (pcmp p q) ∧ Mod [] w w') := by
  refine enter Try.func30 rfl rfl rfl (l := [(0, _), (1, _)]) ⟨rfl, rfl, trivial⟩ ?_
  have E := Mod.refl [] w
  refine c_seq fun K1 hK1 => ?_
  refine c_region ?_
  refine s_box rfl rfl rfl fun g1 w1 N1 => ?_
  have Lg1_E := N1.le E
  replace E := E.then N1.mod
  have Bg1 := N1.blk
  refine s_box rfl rfl rfl fun g2 w2 N2 => ?_
  have Lg2_E := N2.le E
  have Dg1_g2 := N2.ne Bg1
  replace Bg1 := Bg1.mod0 N2.mod
  replace E := E.then N2.mod
  have Bg2 := N2.blk
  refine sv (o_as rfl) rfl ?_
  refine l_nil ?_
  refine e_K (hK1 _ _ _ _ ?_)
  refine c_seq fun K2 hK2 => ?_
  refine c_drawp [] [0, 1, 2, 3, 4, 5, 6, 7, 8, 9] 10 [11, 12] wide (by kernel_rfl) (fun _ _ _ h => h.2) ?_
  refine pw_nil ?_
  refine tv (fun w_ E_ => (o_fa0 fd28_0 rfl)) rfl rfl ?_
  refine tv (fun w_ E_ => (o_ld sc9 rfl ((Bg1.mod0 E_).cell rfl))) rfl rfl ?_
  refine tv (fun w_ E_ => (o_fa0 fd28_0 rfl)) rfl rfl ?_
  refine tv (fun w_ E_ => (o_ld sc9 rfl ((Bg2.mod0 E_).cell rfl))) rfl rfl ?_
  refine tc (fun w_ E_ => o_call ent44 rfl) (fun w_ E_ => c_scmp _ _ _) rfl rfl ?_
  refine tv (fun w_ E_ => (o_fa0 fd28_1 rfl)) rfl rfl ?_
  refine tv (fun w_ E_ => (o_ld sc9 rfl ((Bg1.mod0 E_).cell rfl))) rfl rfl ?_
  refine tv (fun w_ E_ => (o_fa0 fd28_1 rfl)) rfl rfl ?_
  refine tv (fun w_ E_ => (o_ld sc9 rfl ((Bg2.mod0 E_).cell rfl))) rfl rfl ?_
  refine tc (fun w_ E_ => o_call ent44 rfl) (fun w_ E_ => c_scmp _ _ _) rfl rfl ?_
  refine tw_tail rfl fun w3 E_ => ?_
  replace Bg1 := Bg1.mod0 E_
  replace Bg2 := Bg2.mod0 E_
  replace E := E.then E_
  refine s_bslice (cs := [_, _]) sl83 zv3 rfl rfl rfl (by decide) rfl fun g3 w4 N3 => ?_
  have Lg3_E := N3.le E
  have Dg1_g3 := N3.ne Bg1
  have Dg2_g3 := N3.ne Bg2
  replace Bg1 := Bg1.mod0 N3.mod
  replace Bg2 := Bg2.mod0 N3.mod
  replace E := E.then N3.mod
  have Bg3 := N3.blk
  refine sc (o_call ent43 rfl) (c_orI [] _ _ _ (Own.flat (A := []) (xs := [scmp p.ty q.ty, scmp p.key q.key]) (cells := ic) (Own.all (cs := [_, _]) Bg3 rfl (by omega)) (by simp) (by simp [Value.oneCell']) rfl (by simp))) rfl fun v_ w5 h_ => ?_
  obtain ⟨rfl, E_⟩ := h_
  replace Bg1 := Bg1.mod0 E_
  replace Bg2 := Bg2.mod0 E_
  replace Bg3 := Bg3.mod0 E_
  replace E := E.then E_
  refine sv (o_as rfl) rfl ?_
  refine l_nil ?_
  refine e_K (hK2 _ _ _ _ ?_)
  refine c_ret ?_
  exact ret1 rfl rfl ⟨by rw [orI_two]; rfl, E⟩

theorem c_Of (w : World) (x : Slot) : Calls Try.prog 12 [x.agg].toArray w (Ret fun v w' => v = x.pair.agg ∧ Mod [] w w') := by
  refine enter Try.func12 rfl rfl rfl (l := [(0, _)]) ⟨rfl, trivial⟩ ?_
  have E := Mod.refl [] w
  refine c_seq fun K1 hK1 => ?_
  refine c_region ?_
  refine s_box rfl rfl rfl fun g1 w1 N1 => ?_
  have Lg1_E := N1.le E
  replace E := E.then N1.mod
  have Bg1 := N1.blk
  refine s_alloc zv28 rfl fun g2 w2 N2 => ?_
  have Lg2_E := N2.le E
  have Dg1_g2 := N2.ne Bg1
  replace Bg1 := Bg1.mod0 N2.mod
  replace E := E.then N2.mod
  have Bg2 := N2.blk
  refine l_nil ?_
  refine e_K (hK1 _ _ _ _ ?_)
  refine c_seq fun K2 hK2 => ?_
  refine c_region ?_
  refine sv (o_fa0 fd24_0 rfl) rfl ?_
  refine sv (o_ld sc9 rfl (Bg1.cell rfl)) rfl ?_
  refine sv (o_fa0 fd24_1 rfl) rfl ?_
  refine sv (o_ld sc9 rfl (Bg1.cell rfl)) rfl ?_
  refine sv (o_build (cs := [_, _]) pl28 zv28 rfl rfl) rfl ?_
  refine s_sta (vs := [_, _]) ag28 Bg2 rfl rfl rfl (by simp [Value.oneCell']) (by simp) fun w3 P3 => ?_
  replace Bg1 := Bg1.ne P3.mod (Ne.symm (Ne.symm Dg1_g2))
  replace E := E.own P3.mod Lg2_E
  replace Bg2 : Blk w3 g2 _ [_, _] := P3.blk
  refine l_nil ?_
  refine e_K (hK2 _ _ _ _ ?_)
  refine c_ret ?_
  exact retc (vs := [_, _]) rfl ag28 rfl rfl (Bg2.cs rfl) ⟨rfl, E⟩

theorem c_pair (w : World) (x : Slot) : Calls Try.prog 28 [x.agg].toArray w (Ret fun v w' => v = x.pair.agg ∧ Mod [] w w') := by
  refine enter Try.func28 rfl rfl rfl (l := [(0, _)]) ⟨rfl, trivial⟩ ?_
  have E := Mod.refl [] w
  refine c_seq fun K1 hK1 => ?_
  refine c_region ?_
  refine s_box rfl rfl rfl fun g1 w1 N1 => ?_
  have Lg1_E := N1.le E
  replace E := E.then N1.mod
  have Bg1 := N1.blk
  refine s_alloc zv28 rfl fun g2 w2 N2 => ?_
  have Lg2_E := N2.le E
  have Dg1_g2 := N2.ne Bg1
  replace Bg1 := Bg1.mod0 N2.mod
  replace E := E.then N2.mod
  have Bg2 := N2.blk
  refine l_nil ?_
  refine e_K (hK1 _ _ _ _ ?_)
  refine c_seq fun K2 hK2 => ?_
  refine c_region ?_
  refine sv (o_fa0 fd24_0 rfl) rfl ?_
  refine sv (o_ld sc9 rfl (Bg1.cell rfl)) rfl ?_
  refine sv (o_fa0 fd24_1 rfl) rfl ?_
  refine sv (o_ld sc9 rfl (Bg1.cell rfl)) rfl ?_
  refine sv (o_build (cs := [_, _]) pl28 zv28 rfl rfl) rfl ?_
  refine s_sta (vs := [_, _]) ag28 Bg2 rfl rfl rfl (by simp [Value.oneCell']) (by simp) fun w3 P3 => ?_
  replace Bg1 := Bg1.ne P3.mod (Ne.symm (Ne.symm Dg1_g2))
  replace E := E.own P3.mod Lg2_E
  replace Bg2 : Blk w3 g2 _ [_, _] := P3.blk
  refine l_nil ?_
  refine e_K (hK2 _ _ _ _ ?_)
  refine c_ret ?_
  exact retc (vs := [_, _]) rfl ag28 rfl rfl (Bg2.cs rfl) ⟨rfl, E⟩

theorem c_plt (w : World) (p q : Pair) : Calls Try.prog 31 [p.agg, q.agg].toArray w (Ret fun v w' => v = .bool (plt p q) ∧ Mod [] w w') := by
  refine enter Try.func31 rfl rfl rfl (l := [(0, _), (1, _)]) ⟨rfl, rfl, trivial⟩ ?_
  have E := Mod.refl [] w
  refine c_seq fun K1 hK1 => ?_
  refine c_region ?_
  refine s_box rfl rfl rfl fun g1 w1 N1 => ?_
  have Lg1_E := N1.le E
  replace E := E.then N1.mod
  have Bg1 := N1.blk
  refine s_box rfl rfl rfl fun g2 w2 N2 => ?_
  have Lg2_E := N2.le E
  have Dg1_g2 := N2.ne Bg1
  replace Bg1 := Bg1.mod0 N2.mod
  replace E := E.then N2.mod
  have Bg2 := N2.blk
  refine sv (o_as rfl) rfl ?_
  refine l_nil ?_
  refine e_K (hK1 _ _ _ _ ?_)
  refine c_seq fun K2 hK2 => ?_
  refine c_seq fun K3 hK3 => ?_
  refine c_region ?_
  refine sv (o_fa0 fd28_0 rfl) rfl ?_
  refine sv (o_ld sc9 rfl (Bg1.cell rfl)) rfl ?_
  refine sv (o_fa0 fd28_0 rfl) rfl ?_
  refine sv (o_ld sc9 rfl (Bg2.cell rfl)) rfl ?_
  refine sv (o_seq rfl rfl) rfl ?_
  refine l_nil ?_
  refine e_K (hK3 _ _ _ _ ?_)
  refine c_if rfl (fun h9 => ?_) (fun h9 => ?_)
  · skip
    refine c_seq fun K4 hK4 => ?_
    refine c_region ?_
    refine sv (o_fa0 fd28_1 rfl) rfl ?_
    refine sv (o_ld sc9 rfl (Bg1.cell rfl)) rfl ?_
    refine sv (o_fa0 fd28_1 rfl) rfl ?_
    refine sv (o_ld sc9 rfl (Bg2.cell rfl)) rfl ?_
    refine sv (o_slt rfl rfl) rfl ?_
    refine sv (o_as rfl) rfl ?_
    refine l_nil ?_
    refine e_K (hK4 _ _ _ _ ?_)
    refine c_ret ?_
    refine e_then (by simp) ?_
    exact ret1 rfl rfl ⟨by simp [plt, h9], E⟩
  · skip
    refine c_skip ?_
    refine e_K (hK2 _ _ _ _ ?_)
    refine c_seq fun K5 hK5 => ?_
    refine c_region ?_
    refine sv (o_fa0 fd28_0 rfl) rfl ?_
    refine sv (o_ld sc9 rfl (Bg1.cell rfl)) rfl ?_
    refine sv (o_fa0 fd28_0 rfl) rfl ?_
    refine sv (o_ld sc9 rfl (Bg2.cell rfl)) rfl ?_
    refine sv (o_slt rfl rfl) rfl ?_
    refine sv (o_as rfl) rfl ?_
    refine l_nil ?_
    refine e_K (hK5 _ _ _ _ ?_)
    refine c_ret ?_
    exact ret1 rfl rfl ⟨by simp [plt, h9], E⟩

theorem c_goodR (A : List Nat) (w : World) (xs : List Slot) (v : Value) (R : Rep A w (slotsD xs) v) : Calls Try.prog 11 [v].toArray w (Ret fun u w' => u = .bool (asc xs) ∧ Mod [] w w') := by
  refine enter Try.func11 rfl rfl rfl (l := [(0, _)]) ⟨rfl, trivial⟩ ?_
  have E := Mod.refl [] w
  obtain ⟨ad, c, rfl, hc1, hc2⟩ := flat_len R
  refine c_seq fun K1 hK1 => ?_
  refine c_region ?_
  refine sv (o_as rfl) rfl ?_
  refine l_nil ?_
  refine e_K (hK1 _ _ _ _ ?_)
  refine c_seq fun K2 hK2 => ?_
  refine c_seq fun K3 hK3 => ?_
  refine c_region ?_
  refine sv (o_mv rfl) rfl ?_
  refine sv (o_len Try.underlying22 rfl) rfl ?_
  refine sv (o_mv rfl) rfl ?_
  refine l_nil ?_
  refine e_K (hK3 _ _ _ _ ?_)
  refine c_block ?_
  refine c_loop (σ := Nat) (fun k => [(0, .slice ad xs.length c), (5, .int .i64 xs.length), (6, .int .i64 (k : Int))]) (fun k w1 => k ≤ xs.length ∧ asc xs = asc (xs.drop (k - 1)) ∧ Mod [] w w1) (fun k => xs.length - k) (0) ⟨rfl, rfl, rfl, trivial⟩ (⟨by omega, rfl, E⟩) ?_
  rintro k w1 ⟨hk, ho, E⟩
  refine c_seq fun K4 hK4 => ?_
  refine c_region ?_
  refine sv (o_lss rfl rfl) rfl ?_
  refine l_nil ?_
  refine e_K (hK4 _ _ _ _ ?_)
  refine c_seq fun K5 hK5 => ?_
  refine c_if rfl (fun h7 => ?_) (fun h7 => ?_)
  · skip
    have hlt : k < xs.length := by omega
    obtain ⟨x, hx_x⟩ : ∃ x, xs[k]? = some x := ⟨_, List.getElem?_eq_getElem (by omega)⟩
    obtain ⟨a_x, ha_x, hcs_x, _⟩ := flat_at (R.to0 E) hx_x
    subst ha_x
    refine c_skip ?_
    refine e_K (hK5 _ _ _ _ ?_)
    refine c_seq fun K6 hK6 => ?_
    refine c_block ?_
    refine c_seq fun K7 hK7 => ?_
    refine c_region ?_
    refine sv (o_mv rfl) rfl ?_
    refine sv (o_as rfl) rfl ?_
    refine l_nil ?_
    refine e_K (hK7 _ _ _ _ ?_)
    refine c_seq fun K8 hK8 => ?_
    by_cases hs4_0 : (0 : Int) < (k : Int)
    · skip
      obtain ⟨y, hx_y⟩ : ∃ x, xs[k - 1]? = some x := ⟨_, List.getElem?_eq_getElem (by omega)⟩
      obtain ⟨a_y, ha_y, hcs_y, _⟩ := flat_at (R.to0 E) hx_y
      injection ha_y with ha_y
      subst ha_y
      have hst : asc xs = (plt y.pair x.pair && asc (xs.drop k)) := by
        have h1 : k - 1 + 1 = k := by omega
        rw [ho, asc_drop (k := k - 1) hx_y (by rwa [h1]), h1]
      refine c_draw wide (by kernel_rfl) ?_
      refine tv (fun w_ E_ => (o_mv rfl)) rfl rfl ?_
      refine tv (fun w_ E_ => (o_gtr rfl rfl)) rfl rfl ?_
      refine tv (fun w_ E_ => (o_mv rfl)) rfl rfl ?_
      refine tvg rfl (decide_eq_true hs4_0) (fun w_ E_ => (o_mv rfl)) rfl rfl ?_
      refine tvg rfl (decide_eq_true hs4_0) (fun w_ E_ => (o_mv rfl)) rfl rfl ?_
      refine tvg rfl (decide_eq_true hs4_0) (fun w_ E_ => (o_subE (r := ((k - 1 : Nat) : Int)) rfl rfl (by rw [wrap64_in _ (by omega)]; omega))) rfl rfl ?_
      refine tvg rfl (decide_eq_true hs4_0) (fun w_ E_ => (o_ix sl22 rfl rfl (by omega))) rfl rfl ?_
      refine tvg rfl (decide_eq_true hs4_0) (fun w_ E_ => (o_lda ag24 rfl rfl (hcs_y.mod0 E_))) rfl rfl ?_
      refine tcg rfl (decide_eq_true hs4_0) (fun w_ E_ => o_call ent12 rfl) (fun w_ E_ => c_Of _ _) rfl rfl ?_
      refine tvg rfl (decide_eq_true hs4_0) (fun w_ E_ => (o_mv rfl)) rfl rfl ?_
      refine tvg rfl (decide_eq_true hs4_0) (fun w_ E_ => (o_mv rfl)) rfl rfl ?_
      refine tvg rfl (decide_eq_true hs4_0) (fun w_ E_ => (o_ix sl22 rfl rfl (by omega))) rfl rfl ?_
      refine tvg rfl (decide_eq_true hs4_0) (fun w_ E_ => (o_lda ag24 rfl rfl (hcs_x.mod0 E_))) rfl rfl ?_
      refine tcg rfl (decide_eq_true hs4_0) (fun w_ E_ => o_call ent12 rfl) (fun w_ E_ => c_Of _ _) rfl rfl ?_
      refine tcg rfl (decide_eq_true hs4_0) (fun w_ E_ => o_call ent31 rfl) (fun w_ E_ => c_plt _ _ _) rfl rfl ?_
      refine tvg rfl (decide_eq_true hs4_0) (fun w_ E_ => (o_not rfl)) rfl rfl ?_
      refine tv (fun w_ E_ => (o_pickT (decide_eq_true hs4_0) rfl rfl)) rfl rfl ?_
      refine tw_nil rfl fun w2 E_ => ?_
      replace E := E.then E_
      refine e_K (hK8 _ _ _ _ ?_)
      refine c_cond rfl (fun h25 => ?_) (fun h25 => ?_)
      · skip
        have hfin : asc xs = false := by rw [hst]; simp at h25; simp [h25]
        refine c_seq fun K9 hK9 => ?_
        refine c_region ?_
        refine sv (o_as rfl) rfl ?_
        refine l_nil ?_
        refine e_K (hK9 _ _ _ _ ?_)
        refine c_ret ?_
        refine e_in (by simp) ?_
        refine e_then (by simp) ?_
        refine e_then (by simp) ?_
        refine e_in (by simp) ?_
        refine e_then (by simp) ?_
        exact ret1 rfl rfl ⟨by rw [hfin], E⟩
      · skip
        have hnx : asc xs = asc (xs.drop (k + 1 - 1)) := by rw [Nat.add_sub_cancel, hst]; simp at h25; simp [h25]
        refine c_skip ?_
        refine e_in (by simp) ?_
        refine e_K (hK6 _ _ _ _ ?_)
        refine c_region ?_
        refine sv (o_addN rfl rfl (by omega)) rfl ?_
        refine sv (o_mv rfl) rfl ?_
        refine l_nil ?_
        exact e_round (σ := Nat) (s := k) (k + 1) ⟨rfl, rfl, rfl, trivial⟩ ⟨by omega, hnx, E⟩ (by omega)
    · skip
      have hst : k = 0 := by omega
      have hnx : asc xs = asc (xs.drop (k + 1 - 1)) := by rw [hst]; rfl
      refine c_draw wide (by kernel_rfl) ?_
      refine tv (fun w_ E_ => (o_mv rfl)) rfl rfl ?_
      refine tv (fun w_ E_ => (o_gtr rfl rfl)) rfl rfl ?_
      refine tv (fun w_ E_ => (o_mv rfl)) rfl rfl ?_
      refine tn rfl (fun e_ => absurd ((decide_eq_false hs4_0).symm.trans e_) (by decide)) rfl ?_
      refine tn rfl (fun e_ => absurd ((decide_eq_false hs4_0).symm.trans e_) (by decide)) rfl ?_
      refine tn rfl (fun e_ => absurd ((decide_eq_false hs4_0).symm.trans e_) (by decide)) rfl ?_
      refine tn rfl (fun e_ => absurd ((decide_eq_false hs4_0).symm.trans e_) (by decide)) rfl ?_
      refine tn rfl (fun e_ => absurd ((decide_eq_false hs4_0).symm.trans e_) (by decide)) rfl ?_
      refine tn rfl (fun e_ => absurd ((decide_eq_false hs4_0).symm.trans e_) (by decide)) rfl ?_
      refine tn rfl (fun e_ => absurd ((decide_eq_false hs4_0).symm.trans e_) (by decide)) rfl ?_
      refine tn rfl (fun e_ => absurd ((decide_eq_false hs4_0).symm.trans e_) (by decide)) rfl ?_
      refine tn rfl (fun e_ => absurd ((decide_eq_false hs4_0).symm.trans e_) (by decide)) rfl ?_
      refine tn rfl (fun e_ => absurd ((decide_eq_false hs4_0).symm.trans e_) (by decide)) rfl ?_
      refine tn rfl (fun e_ => absurd ((decide_eq_false hs4_0).symm.trans e_) (by decide)) rfl ?_
      refine tn rfl (fun e_ => absurd ((decide_eq_false hs4_0).symm.trans e_) (by decide)) rfl ?_
      refine tn rfl (fun e_ => absurd ((decide_eq_false hs4_0).symm.trans e_) (by decide)) rfl ?_
      refine tv (fun w_ E_ => (o_pickF (decide_eq_false hs4_0) rfl rfl)) rfl rfl ?_
      refine tw_nil rfl fun w3 E_ => ?_
      replace E := E.then E_
      refine e_K (hK8 _ _ _ _ ?_)
      refine c_false rfl ?_
      refine c_skip ?_
      refine e_in (by simp) ?_
      refine e_K (hK6 _ _ _ _ ?_)
      refine c_region ?_
      refine sv (o_addN rfl rfl (by omega)) rfl ?_
      refine sv (o_mv rfl) rfl ?_
      refine l_nil ?_
      exact e_round (σ := Nat) (s := k) (k + 1) ⟨rfl, rfl, rfl, trivial⟩ ⟨by omega, hnx, E⟩ (by omega)
  · skip
    refine c_exit ?_
    refine e_then (by simp) ?_
    refine e_then (by simp) ?_
    refine e_hit ?_
    refine e_K (hK2 _ _ _ _ ?_)
    refine c_seq fun K10 hK10 => ?_
    refine c_region ?_
    refine sv (o_as rfl) rfl ?_
    refine l_nil ?_
    refine e_K (hK10 _ _ _ _ ?_)
    refine c_ret ?_
    exact ret1 rfl rfl ⟨by rw [ho, asc_last (by omega)], E⟩

theorem c_good (A : List Nat) (w : World) (xs : List Slot) (v : Value) (R : Rep A w (slotsD xs) v) : Calls Try.prog 10 [v].toArray w (Ret fun u w' => u = .bool (asc xs) ∧ Mod [] w w') := by
  refine enter Try.func10 rfl rfl rfl (l := [(0, _)]) ⟨rfl, trivial⟩ ?_
  have E := Mod.refl [] w
  obtain ⟨ad, c, rfl, hc1, hc2⟩ := flat_len R
  refine c_seq fun K1 hK1 => ?_
  refine c_region ?_
  refine sv (o_as rfl) rfl ?_
  refine l_nil ?_
  refine e_K (hK1 _ _ _ _ ?_)
  refine c_seq fun K2 hK2 => ?_
  refine c_seq fun K3 hK3 => ?_
  refine c_region ?_
  refine sv (o_as rfl) rfl ?_
  refine l_nil ?_
  refine e_K (hK3 _ _ _ _ ?_)
  refine c_block ?_
  refine c_loop (σ := Nat) (fun k => [(0, .slice ad xs.length c), (3, .int .i64 ((k + 1 : Nat) : Int))]) (fun k w1 => (k = 0 ∨ k < xs.length) ∧ asc xs = asc (xs.drop k) ∧ Mod [] w w1) (fun k => xs.length - k) (0) ⟨rfl, rfl, trivial⟩ (⟨.inl rfl, rfl, E⟩) ?_
  rintro k w1 ⟨hk, ho, E⟩
  refine c_seq fun K4 hK4 => ?_
  refine c_seq fun K5 hK5 => ?_
  refine c_region ?_
  refine sv (o_mv rfl) rfl ?_
  refine sv (o_mv rfl) rfl ?_
  refine sv (o_len Try.underlying22 rfl) rfl ?_
  refine sv (o_lss rfl rfl) rfl ?_
  refine l_nil ?_
  refine e_K (hK5 _ _ _ _ ?_)
  refine c_if rfl (fun h7 => ?_) (fun h7 => ?_)
  · skip
    have hlt : k + 1 < xs.length := by omega
    obtain ⟨x, hx_x⟩ : ∃ x, xs[k]? = some x := ⟨_, List.getElem?_eq_getElem (by omega)⟩
    obtain ⟨a_x, ha_x, hcs_x, _⟩ := flat_at (R.to0 E) hx_x
    subst ha_x
    obtain ⟨y, hx_y⟩ : ∃ x, xs[k + 1]? = some x := ⟨_, List.getElem?_eq_getElem (by omega)⟩
    obtain ⟨a_y, ha_y, hcs_y, _⟩ := flat_at (R.to0 E) hx_y
    injection ha_y with ha_y
    subst ha_y
    have hst := asc_drop hx_x hx_y
    rw [← ho] at hst
    refine c_skip ?_
    refine e_K (hK4 _ _ _ _ ?_)
    refine c_seq fun K6 hK6 => ?_
    refine c_block ?_
    refine c_seq fun K7 hK7 => ?_
    refine c_draw wide (by kernel_rfl) ?_
    refine tv (fun w_ E_ => (o_mv rfl)) rfl rfl ?_
    refine tv (fun w_ E_ => (o_mv rfl)) rfl rfl ?_
    refine tv (fun w_ E_ => (o_subE (r := (k : Int)) rfl rfl (by rw [wrap64_in _ (by omega)]; omega))) rfl rfl ?_
    refine tv (fun w_ E_ => (o_ix sl22 rfl rfl (by omega))) rfl rfl ?_
    refine tv (fun w_ E_ => (o_lda ag24 rfl rfl (hcs_x.mod0 E_))) rfl rfl ?_
    refine tc (fun w_ E_ => o_call ent28 rfl) (fun w_ E_ => c_pair _ _) rfl rfl ?_
    refine tv (fun w_ E_ => (o_mv rfl)) rfl rfl ?_
    refine tv (fun w_ E_ => (o_mv rfl)) rfl rfl ?_
    refine tv (fun w_ E_ => (o_ix sl22 rfl rfl (by omega))) rfl rfl ?_
    refine tv (fun w_ E_ => (o_lda ag24 rfl rfl (hcs_y.mod0 E_))) rfl rfl ?_
    refine tc (fun w_ E_ => o_call ent28 rfl) (fun w_ E_ => c_pair _ _) rfl rfl ?_
    refine tc (fun w_ E_ => o_call ent30 rfl) (fun w_ E_ => c_pcmp _ _ _) rfl rfl ?_
    refine tv (fun w_ E_ => (o_geq rfl rfl)) rfl rfl ?_
    refine tw_nil rfl fun w2 E_ => ?_
    replace E := E.then E_
    refine e_K (hK7 _ _ _ _ ?_)
    refine c_if rfl (fun h22 => ?_) (fun h22 => ?_)
    · skip
      have hpl : plt x.pair y.pair = false := by
        cases h : plt x.pair y.pair with
        | false => rfl
        | true => have := pcmp_lt.2 h; omega
      refine c_seq fun K8 hK8 => ?_
      refine c_region ?_
      refine sv (o_as rfl) rfl ?_
      refine l_nil ?_
      refine e_K (hK8 _ _ _ _ ?_)
      refine c_ret ?_
      refine e_in (by simp) ?_
      refine e_then (by simp) ?_
      refine e_then (by simp) ?_
      refine e_in (by simp) ?_
      refine e_then (by simp) ?_
      exact ret1 rfl rfl ⟨by rw [hst, hpl]; rfl, E⟩
    · skip
      have hpl := pcmp_lt.1 (Int.not_le.1 h22)
      refine c_skip ?_
      refine e_in (by simp) ?_
      refine e_K (hK6 _ _ _ _ ?_)
      refine c_region ?_
      refine sv (o_mv rfl) rfl ?_
      refine sv (o_addN rfl rfl (by omega)) rfl ?_
      refine sv (o_as rfl) rfl ?_
      refine l_nil ?_
      exact e_round (σ := Nat) (s := k) (k + 1) ⟨rfl, rfl, trivial⟩ ⟨by omega, by rw [hst]; simp [hpl], E⟩ (by omega)
  · skip
    refine c_exit ?_
    refine e_then (by simp) ?_
    refine e_then (by simp) ?_
    refine e_hit ?_
    refine e_K (hK2 _ _ _ _ ?_)
    refine c_seq fun K9 hK9 => ?_
    refine c_region ?_
    refine sv (o_as rfl) rfl ?_
    refine l_nil ?_
    refine e_K (hK9 _ _ _ _ ?_)
    refine c_ret ?_
    exact ret1 rfl rfl ⟨by rw [ho, asc_last (by omega)], E⟩

theorem c_getR (A : List Nat) (w : World) (xs : List Slot) (v : Value) (R : Rep A w (slotsD xs) v) (p : Pair) : Calls Try.prog 14 [v, p.agg].toArray w (Ret fun u w' => u = .tuple #[S ((getS xs p).getD []), .bool (getS xs p).isSome] ∧ Mod [] w w') := by
  refine enter Try.func14 rfl rfl rfl (l := [(0, _), (1, _)]) ⟨rfl, rfl, trivial⟩ ?_
  have E := Mod.refl [] w
  obtain ⟨ad, c, rfl, hc1, hc2⟩ := flat_len R
  refine c_seq fun K1 hK1 => ?_
  refine c_region ?_
  refine s_box rfl rfl rfl fun g1 w1 N1 => ?_
  have Lg1_E := N1.le E
  replace E := E.then N1.mod
  have Bg1 := N1.blk
  refine sv (o_as rfl) rfl ?_
  refine sv (o_as rfl) rfl ?_
  refine l_nil ?_
  refine e_K (hK1 _ _ _ _ ?_)
  refine c_seq fun K2 hK2 => ?_
  refine c_seq fun K3 hK3 => ?_
  refine c_region ?_
  refine sv (o_mv rfl) rfl ?_
  refine sv (o_len Try.underlying22 rfl) rfl ?_
  refine sv (o_mv rfl) rfl ?_
  refine l_nil ?_
  refine e_K (hK3 _ _ _ _ ?_)
  refine c_block ?_
  refine c_loop (σ := Nat) (fun k => [(3, .pointer (some ⟨g1, 0, none⟩)), (8, .slice ad xs.length c), (9, .int .i64 xs.length), (10, .int .i64 (k : Int))]) (fun k w1 => k ≤ xs.length ∧ (∀ j y, j < k → xs[j]? = some y → y.pair ≠ p) ∧ Blk w1 g1 28 p.cells ∧ Mod [] w w1) (fun k => xs.length - k) (0) ⟨rfl, rfl, rfl, rfl, trivial⟩ (⟨by omega, by intro j y hj; omega, Bg1, E⟩) ?_
  rintro k w2 ⟨hk, ho, Bg1, E⟩
  refine c_seq fun K4 hK4 => ?_
  refine c_region ?_
  refine sv (o_lss rfl rfl) rfl ?_
  refine l_nil ?_
  refine e_K (hK4 _ _ _ _ ?_)
  refine c_seq fun K5 hK5 => ?_
  refine c_if rfl (fun h11 => ?_) (fun h11 => ?_)
  · skip
    have hlt : k < xs.length := by omega
    obtain ⟨x, hx_x⟩ : ∃ x, xs[k]? = some x := ⟨_, List.getElem?_eq_getElem (by omega)⟩
    obtain ⟨a_x, ha_x, hcs_x, _⟩ := flat_at (R.to0 E) hx_x
    subst ha_x
    refine c_skip ?_
    refine e_K (hK5 _ _ _ _ ?_)
    refine c_seq fun K6 hK6 => ?_
    refine c_block ?_
    refine c_seq fun K7 hK7 => ?_
    refine c_region ?_
    refine sv (o_ix sl22 rfl rfl (by omega)) rfl ?_
    refine sv (o_lda ag24 rfl rfl hcs_x) rfl ?_
    refine s_alloc zv24 rfl fun g2 w3 N2 => ?_
    have Lg2_E := N2.le E
    have Dg1_g2 := N2.ne Bg1
    replace Bg1 := Bg1.mod0 N2.mod
    replace E := E.then N2.mod
    have Bg2 := N2.blk
    refine s_sta (vs := [_, _, _]) ag24 Bg2 rfl rfl rfl (by simp [Value.oneCell']) (by simp) fun w4 P4 => ?_
    replace Bg1 := Bg1.ne P4.mod (Ne.symm (Ne.symm Dg1_g2))
    replace E := E.own P4.mod Lg2_E
    replace Bg2 : Blk w4 g2 _ [_, _, _] := P4.blk
    refine l_nil ?_
    refine e_K (hK7 _ _ _ _ ?_)
    refine c_seq fun K8 hK8 => ?_
    refine c_draw wide (by kernel_rfl) ?_
    refine tv (fun w_ E_ => (o_lda (vs := [_, _, _]) ag24 rfl rfl ((Bg2.mod0 E_).cs rfl))) rfl rfl ?_
    refine tc (fun w_ E_ => o_call ent12 rfl) (fun w_ E_ => c_Of _ _) rfl rfl ?_
    refine tv (fun w_ E_ => (o_lda (vs := [_, _]) ag28 rfl rfl ((Bg1.mod0 E_).cs rfl))) rfl rfl ?_
    refine tv (fun w_ E_ => (o_steq (se28 ..) rfl rfl rfl)) rfl rfl ?_
    refine tw_nil rfl fun w5 E_ => ?_
    replace Bg1 := Bg1.mod0 E_
    replace Bg2 := Bg2.mod0 E_
    replace E := E.then E_
    refine e_K (hK8 _ _ _ _ ?_)
    refine c_cond rfl (fun h17 => ?_) (fun h17 => ?_)
    · skip
      have heq : x.pair = p := by simp at h17; obtain ⟨p1, p2⟩ := p; simp at h17; simp [h17]
      refine c_seq fun K9 hK9 => ?_
      refine c_region ?_
      refine sv (o_fa0 fd24_2 rfl) rfl ?_
      refine sv (o_ld sc9 rfl (Bg2.cell rfl)) rfl ?_
      refine sv (o_as rfl) rfl ?_
      refine sv (o_as rfl) rfl ?_
      refine l_nil ?_
      refine e_K (hK9 _ _ _ _ ?_)
      refine c_ret ?_
      refine e_in (by simp) ?_
      refine e_then (by simp) ?_
      refine e_then (by simp) ?_
      refine e_in (by simp) ?_
      refine e_then (by simp) ?_
      exact ret2 rfl rfl rfl ⟨by rw [getS_hit ho hx_x heq]; rfl, E⟩
    · skip
      have hne : x.pair ≠ p := by rintro rfl; simp at h17
      refine c_skip ?_
      refine e_in (by simp) ?_
      refine e_K (hK6 _ _ _ _ ?_)
      refine c_region ?_
      refine sv (o_addN rfl rfl (by omega)) rfl ?_
      refine sv (o_mv rfl) rfl ?_
      refine l_nil ?_
      exact e_round (σ := Nat) (s := k) (k + 1) ⟨rfl, rfl, rfl, rfl, trivial⟩ ⟨by omega, fun j y hj hy => (Nat.lt_succ_iff_lt_or_eq.1 hj).elim (fun h => ho j y h hy) (fun h => by subst h; rw [hx_x] at hy; injection hy with hy; subst hy; exact hne), Bg1, E⟩ (by omega)
  · skip
    refine c_exit ?_
    refine e_then (by simp) ?_
    refine e_then (by simp) ?_
    refine e_hit ?_
    refine e_K (hK2 _ _ _ _ ?_)
    refine c_seq fun K10 hK10 => ?_
    refine c_region ?_
    refine sv (o_as rfl) rfl ?_
    refine sv (o_as rfl) rfl ?_
    refine l_nil ?_
    refine e_K (hK10 _ _ _ _ ?_)
    refine c_ret ?_
    exact ret2 rfl rfl rfl ⟨by rw [getS_miss fun j y hy => ho j y (by have := (List.getElem?_eq_some_iff.1 hy).1; omega) hy]; rfl, E⟩

theorem c_sameR (A : List Nat) (w : World) (xs ys : List Slot) (v u : Value) (R : Rep A w (slotsD xs) v) (R2 : Rep A w (slotsD ys) u) : Calls Try.prog 15 [v, u].toArray w (Ret fun u w' => u = .bool (decide (xs = ys)) ∧ Mod [] w w') := by
  refine enter Try.func15 rfl rfl rfl (l := [(0, _), (1, _)]) ⟨rfl, rfl, trivial⟩ ?_
  have E := Mod.refl [] w
  obtain ⟨ad, c, rfl, hc1, hc2⟩ := flat_len R
  obtain ⟨ad2, c2, rfl, hd1, hd2⟩ := flat_len R2
  refine c_seq fun K1 hK1 => ?_
  refine c_region ?_
  refine sv (o_as rfl) rfl ?_
  refine l_nil ?_
  refine e_K (hK1 _ _ _ _ ?_)
  refine c_seq fun K2 hK2 => ?_
  refine c_seq fun K3 hK3 => ?_
  refine c_region ?_
  refine sv (o_mv rfl) rfl ?_
  refine sv (o_len Try.underlying22 rfl) rfl ?_
  refine sv (o_mv rfl) rfl ?_
  refine sv (o_len Try.underlying22 rfl) rfl ?_
  refine sv (o_neq rfl rfl) rfl ?_
  refine l_nil ?_
  refine e_K (hK3 _ _ _ _ ?_)
  refine c_if rfl (fun h10 => ?_) (fun h10 => ?_)
  · skip
    have hne : xs ≠ ys := by rintro rfl; exact h10 rfl
    refine c_seq fun K4 hK4 => ?_
    refine c_region ?_
    refine sv (o_as rfl) rfl ?_
    refine l_nil ?_
    refine e_K (hK4 _ _ _ _ ?_)
    refine c_ret ?_
    refine e_then (by simp) ?_
    exact ret1 rfl rfl ⟨by simp [hne], E⟩
  · skip
    have hlen : xs.length = ys.length := by omega
    refine c_skip ?_
    refine e_K (hK2 _ _ _ _ ?_)
    refine c_seq fun K5 hK5 => ?_
    refine c_seq fun K6 hK6 => ?_
    refine c_region ?_
    refine sv (o_mv rfl) rfl ?_
    refine sv (o_len Try.underlying22 rfl) rfl ?_
    refine sv (o_mv rfl) rfl ?_
    refine l_nil ?_
    refine e_K (hK6 _ _ _ _ ?_)
    refine c_block ?_
    refine c_loop (σ := Nat) (fun k => [(0, .slice ad xs.length c), (1, .slice ad2 ys.length c2), (12, .int .i64 xs.length), (13, .int .i64 (k : Int))]) (fun k w1 => k ≤ xs.length ∧ (∀ j, j < k → xs[j]? = ys[j]?) ∧ Mod [] w w1) (fun k => xs.length - k) (0) ⟨rfl, rfl, rfl, rfl, trivial⟩ (⟨by omega, by intro j hj; omega, E⟩) ?_
    rintro k w1 ⟨hk, ho, E⟩
    refine c_seq fun K7 hK7 => ?_
    refine c_region ?_
    refine sv (o_lss rfl rfl) rfl ?_
    refine l_nil ?_
    refine e_K (hK7 _ _ _ _ ?_)
    refine c_seq fun K8 hK8 => ?_
    refine c_if rfl (fun h14 => ?_) (fun h14 => ?_)
    · skip
      have hlt : k < xs.length := by omega
      obtain ⟨x, hx_x⟩ : ∃ x, xs[k]? = some x := ⟨_, List.getElem?_eq_getElem (by omega)⟩
      obtain ⟨a_x, ha_x, hcs_x, _⟩ := flat_at (R.to0 E) hx_x
      subst ha_x
      obtain ⟨y, hx_y⟩ : ∃ x, ys[k]? = some x := ⟨_, List.getElem?_eq_getElem (by omega)⟩
      obtain ⟨a_y, ha_y, hcs_y, _⟩ := flat_at (R2.to0 E) hx_y
      subst ha_y
      refine c_skip ?_
      refine e_K (hK8 _ _ _ _ ?_)
      refine c_seq fun K9 hK9 => ?_
      refine c_block ?_
      refine c_seq fun K10 hK10 => ?_
      refine c_region ?_
      refine sv (o_mv rfl) rfl ?_
      refine sv (o_as rfl) rfl ?_
      refine l_nil ?_
      refine e_K (hK10 _ _ _ _ ?_)
      refine c_seq fun K11 hK11 => ?_
      refine c_draw wide (by kernel_rfl) ?_
      refine tv (fun w_ E_ => (o_mv rfl)) rfl rfl ?_
      refine tv (fun w_ E_ => (o_mv rfl)) rfl rfl ?_
      refine tv (fun w_ E_ => (o_ix sl22 rfl rfl (by omega))) rfl rfl ?_
      refine tv (fun w_ E_ => (o_lda ag24 rfl rfl (hcs_x.mod0 E_))) rfl rfl ?_
      refine tv (fun w_ E_ => (o_mv rfl)) rfl rfl ?_
      refine tv (fun w_ E_ => (o_mv rfl)) rfl rfl ?_
      refine tv (fun w_ E_ => (o_ix sl22 rfl rfl (by omega))) rfl rfl ?_
      refine tv (fun w_ E_ => (o_lda ag24 rfl rfl (hcs_y.mod0 E_))) rfl rfl ?_
      refine tv (fun w_ E_ => (o_stne (se24 ..) rfl rfl rfl)) rfl rfl ?_
      refine tw_nil rfl fun w2 E_ => ?_
      replace E := E.then E_
      refine e_K (hK11 _ _ _ _ ?_)
      refine c_cond rfl (fun h24 => ?_) (fun h24 => ?_)
      · skip
        have hne : xs ≠ ys := by rintro rfl; rw [hx_x] at hx_y; injection hx_y with hx_y; subst hx_y; simp at h24
        refine c_seq fun K12 hK12 => ?_
        refine c_region ?_
        refine sv (o_as rfl) rfl ?_
        refine l_nil ?_
        refine e_K (hK12 _ _ _ _ ?_)
        refine c_ret ?_
        refine e_in (by simp) ?_
        refine e_then (by simp) ?_
        refine e_then (by simp) ?_
        refine e_in (by simp) ?_
        refine e_then (by simp) ?_
        exact ret1 rfl rfl ⟨by simp [hne], E⟩
      · skip
        have heq : x = y := by obtain ⟨x1, x2, x3⟩ := x; obtain ⟨y1, y2, y3⟩ := y; simpa using h24
        refine c_skip ?_
        refine e_in (by simp) ?_
        refine e_K (hK9 _ _ _ _ ?_)
        refine c_region ?_
        refine sv (o_addN rfl rfl (by omega)) rfl ?_
        refine sv (o_mv rfl) rfl ?_
        refine l_nil ?_
        exact e_round (σ := Nat) (s := k) (k + 1) ⟨rfl, rfl, rfl, rfl, trivial⟩ ⟨by omega, fun j hj => (Nat.lt_succ_iff_lt_or_eq.1 hj).elim (fun h => ho j h) (fun h => by subst h; rw [hx_x, hx_y, heq]), E⟩ (by omega)
    · skip
      refine c_exit ?_
      refine e_then (by simp) ?_
      refine e_then (by simp) ?_
      refine e_hit ?_
      refine e_K (hK5 _ _ _ _ ?_)
      refine c_seq fun K13 hK13 => ?_
      refine c_region ?_
      refine sv (o_as rfl) rfl ?_
      refine l_nil ?_
      refine e_K (hK13 _ _ _ _ ?_)
      refine c_ret ?_
      exact ret1 rfl rfl ⟨by rw [decide_eq_true (List.ext_getElem? fun j => ?_)]; exact (Nat.lt_or_ge j k).elim (fun h => ho j h) (fun h => by rw [List.getElem?_eq_none (by omega), List.getElem?_eq_none (by omega)]), E⟩

end Go.Proofs.Ytccjjkdogljmpaa.V
