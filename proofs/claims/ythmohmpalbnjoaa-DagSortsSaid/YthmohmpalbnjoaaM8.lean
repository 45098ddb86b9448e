/-
  A part of the proof: walks of functions. No condition of its own.
-/
import Derived.Test.YthmohmpalbnjoaaM7
set_option linter.unusedVariables false
set_option linter.unusedSimpArgs false
set_option maxRecDepth 10000
namespace Go.Proofs.Ythmohmpalbnjoaa.V
open Go Go.Proofs
theorem zv42 : zvB Try.prog 42 ([S [], .slice none 0 0]) := by unfold zvB; kernel_rfl
theorem sl30 : slB Try.prog 30 42 2 40 = true := by kernel_rfl
theorem ag42 : agB Try.prog 42 2 = true := by kernel_rfl
theorem fd42_0 : fdB Try.prog 42 0 0 1 = true := by kernel_rfl
theorem pl42 : plB Try.prog 42 [(0, 1), (1, 1)] = true := by kernel_rfl
theorem fd44_0 : fdB Try.prog 44 0 0 1 = true := by kernel_rfl
theorem sc3 : scB Try.prog 3 = true := by kernel_rfl
theorem fd44_1 : fdB Try.prog 44 1 1 1 = true := by kernel_rfl
theorem fd44_2 : fdB Try.prog 44 2 2 1 = true := by kernel_rfl
theorem fd42_1 : fdB Try.prog 42 1 1 1 = true := by kernel_rfl
theorem sc23 : scB Try.prog 23 = true := by kernel_rfl
theorem ent28 : Ent Try.prog 28 := Ent.of Try.func28 (by kernel_rfl) (by kernel_rfl)
theorem g_get (A : List Nat) (w : World) (m : Gm) (v0 : Value) (R : Rep A w (ndD m) v0) (s : Str) : Calls Try.prog 19 [v0, S s].toArray w (Ret fun u w' => ∃ lv, u = .tuple #[.agg [S (if (look m s).isSome then s else []), lv].toArray, .bool (look m s).isSome] ∧ Rep A w' (strD (m.ahd s)) lv ∧ Mod [] w w') := by
  refine enter Try.func19 rfl rfl rfl (l := [(0, _), (1, _)]) ⟨rfl, rfl, trivial⟩ ?_
  have E := Mod.refl [] w
  obtain ⟨ad, c, rfl, hc1, hc2⟩ := ndD_len R
  refine c_seq fun K1 hK1 => ?_
  refine c_region ?_
  refine s_alloc zv42 rfl fun g1 w1 N1 => ?_
  have Lg1_E := N1.le E
  replace E := E.then N1.mod
  have Bg1 := N1.blk
  refine sv (o_as rfl) rfl ?_
  refine l_nil ?_
  refine e_K (hK1 _ _ _ _ ?_)
  refine c_seq fun K2 hK2 => ?_
  refine c_seq fun K3 hK3 => ?_
  refine c_region ?_
  refine sv (o_mv rfl) rfl ?_
  refine sv (o_len Try.underlying30 rfl) rfl ?_
  refine sv (o_mv rfl) rfl ?_
  refine l_nil ?_
  refine e_K (hK3 _ _ _ _ ?_)
  refine c_block ?_
  refine c_loop (σ := Nat) (fun k => [(1, S s), (4, .pointer (some ⟨g1, 0, none⟩)), (8, .slice ad m.length c), (9, .int .i64 m.length), (10, .int .i64 (k : Int))]) (fun k w1 => k ≤ m.length ∧ look (m.take k) s = none ∧ Blk w1 g1 42 [S [], .slice none 0 0] ∧ w.heap.size ≤ g1 ∧ Mod [] w w1) (fun k => m.length - k) (0) ⟨rfl, rfl, rfl, rfl, rfl, trivial⟩ (⟨by omega, rfl, Bg1, Lg1_E, E⟩) ?_
  rintro k w2 ⟨hk, ho, Bg1, Lg1_E, E⟩
  refine c_seq fun K4 hK4 => ?_
  refine c_region ?_
  refine sv (o_lss rfl rfl) rfl ?_
  refine l_nil ?_
  refine e_K (hK4 _ _ _ _ ?_)
  refine c_seq fun K5 hK5 => ?_
  refine c_if rfl (fun h11 => ?_) (fun h11 => ?_)
  · skip
    have hlt : k < m.length := by omega
    obtain ⟨x, hx_x⟩ : ∃ x, m[k]? = some x := ⟨_, List.getElem?_eq_getElem (by omega)⟩
    obtain ⟨a_x, u_x, ha_x, hcs_x, R_x⟩ := ndD_at R hx_x
    obtain rfl := ha_x
    have one_x := R_x.one
    have cs0_x := hcs_x
    replace hcs_x := hcs_x.mod0 E
    refine c_skip ?_
    refine e_K (hK5 _ _ _ _ ?_)
    refine c_seq fun K6 hK6 => ?_
    refine c_block ?_
    refine c_seq fun K7 hK7 => ?_
    refine c_region ?_
    refine sv (o_ix sl30 rfl rfl (by omega)) rfl ?_
    refine sv (o_lda ag42 rfl rfl hcs_x) rfl ?_
    refine s_alloc zv42 rfl fun g2 w3 N2 => ?_
    have Lg2_E := N2.le E
    have Dg1_g2 := N2.ne Bg1
    replace Bg1 := Bg1.mod0 N2.mod
    replace E := E.then N2.mod
    have Bg2 := N2.blk
    refine s_sta (vs := [_, _]) ag42 Bg2 rfl rfl rfl (by intro u hu; simp at hu; rcases hu with rfl | rfl <;> first | rfl | assumption) (by simp) fun w4 P4 => ?_
    replace Bg1 := Bg1.ne P4.mod (Ne.symm (Ne.symm Dg1_g2))
    replace E := E.own P4.mod Lg2_E
    replace Bg2 : Blk w4 g2 _ [_, _] := P4.blk
    refine l_nil ?_
    refine e_K (hK7 _ _ _ _ ?_)
    refine c_seq fun K8 hK8 => ?_
    refine c_region ?_
    refine sv (o_fa0 fd42_0 rfl) rfl ?_
    refine sv (o_ld sc9 rfl (Bg2.cell rfl)) rfl ?_
    refine sv (o_mv rfl) rfl ?_
    refine sv (o_seq rfl rfl) rfl ?_
    refine l_nil ?_
    refine e_K (hK8 _ _ _ _ ?_)
    refine c_if rfl (fun h17 => ?_) (fun h17 => ?_)
    · skip
      have hh := look_take_hit ho hx_x h17
      refine c_seq fun K9 hK9 => ?_
      refine c_region ?_
      refine sv (o_lda (vs := [_, _]) ag42 rfl rfl (Bg2.cs rfl)) rfl ?_
      refine s_sta (vs := [_, _]) ag42 Bg1 rfl rfl rfl (by intro u hu; simp at hu; rcases hu with rfl | rfl <;> first | rfl | assumption) (by simp) fun w5 P5 => ?_
      replace Bg2 := Bg2.ne P5.mod (Ne.symm Dg1_g2)
      replace E := E.own P5.mod Lg1_E
      replace Bg1 : Blk w5 g1 _ [_, _] := P5.blk
      refine sv (o_as rfl) rfl ?_
      refine l_nil ?_
      refine e_K (hK9 _ _ _ _ ?_)
      refine c_ret ?_
      refine e_in (by simp) ?_
      refine e_then (by simp) ?_
      refine e_then (by simp) ?_
      refine e_in (by simp) ?_
      refine e_then (by simp) ?_
      exact retct (vs := [_, _]) rfl ag42 rfl rfl (Bg1.cs rfl) rfl ⟨_, by rw [hh, h17]; rfl, by rw [Gm.ahd, hh]; exact R_x.to0 E, E⟩
    · skip
      refine c_skip ?_
      refine e_in (by simp) ?_
      refine e_K (hK6 _ _ _ _ ?_)
      refine c_region ?_
      refine sv (o_addN rfl rfl (by omega)) rfl ?_
      refine sv (o_mv rfl) rfl ?_
      refine l_nil ?_
      exact e_round (σ := Nat) (s := k) (k + 1) ⟨rfl, rfl, rfl, rfl, rfl, trivial⟩ ⟨by omega, look_take_miss ho hx_x h17, Bg1, Lg1_E, E⟩ (by omega)
  · skip
    have hn : look m s = none := by rwa [List.take_of_length_le (by omega)] at ho
    refine c_exit ?_
    refine e_then (by simp) ?_
    refine e_then (by simp) ?_
    refine e_hit ?_
    refine e_K (hK2 _ _ _ _ ?_)
    refine c_seq fun K10 hK10 => ?_
    refine c_region ?_
    refine sv (o_build (cs := [_, _]) pl42 zv42 rfl rfl) rfl ?_
    refine s_sta (vs := [_, _]) ag42 Bg1 rfl rfl rfl (by intro u hu; simp at hu; rcases hu with rfl | rfl <;> first | rfl | assumption) (by simp) fun w6 P6 => ?_
    replace E := E.own P6.mod Lg1_E
    replace Bg1 : Blk w6 g1 _ [_, _] := P6.blk
    refine sv (o_as rfl) rfl ?_
    refine l_nil ?_
    refine e_K (hK10 _ _ _ _ ?_)
    refine c_ret ?_
    exact retct (vs := [_, _]) rfl ag42 rfl rfl (Bg1.cs rfl) rfl ⟨_, by rw [hn]; rfl, by rw [Gm.ahd, hn]; exact Rep.nilf _ _, E⟩

theorem g_less (w : World) (a b : Rk) (x y : Str) : Calls Try.prog 33 [.agg a.cells.toArray, S x, .agg b.cells.toArray, S y].toArray w (Ret fun u w' => u = .bool (rlt a x b y) ∧ Mod [] w w') := by
  refine enter Try.func33 rfl rfl rfl (l := [(0, _), (1, _), (2, _), (3, _)]) ⟨rfl, rfl, rfl, rfl, trivial⟩ ?_
  have E := Mod.refl [] w
  refine c_seq fun K1 hK1 => ?_
  refine c_region ?_
  refine s_box rfl rfl rfl fun g1 w1 N1 => ?_
  have Lg1_E := N1.le E
  replace E := E.then N1.mod
  have Bg1 := N1.blk
  refine s_box rfl rfl rfl fun g2 w2 N2 => ?_
  have Lg2_E := N2.le E
  have Dg1_g2 := N2.ne Bg1
  replace Bg1 := Bg1.mod0 N2.mod
  replace E := E.then N2.mod
  have Bg2 := N2.blk
  refine sv (o_as rfl) rfl ?_
  refine l_nil ?_
  refine e_K (hK1 _ _ _ _ ?_)
  refine c_seq fun K2 hK2 => ?_
  refine c_seq fun K3 hK3 => ?_
  refine c_region ?_
  refine sv (o_fa0 fd44_0 rfl) rfl ?_
  refine sv (o_ld sc3 rfl (Bg1.cell rfl)) rfl ?_
  refine sv (o_fa0 fd44_0 rfl) rfl ?_
  refine sv (o_ld sc3 rfl (Bg2.cell rfl)) rfl ?_
  refine sv (o_neq rfl rfl) rfl ?_
  refine l_nil ?_
  refine e_K (hK3 _ _ _ _ ?_)
  refine c_if rfl (fun h13 => ?_) (fun h13 => ?_)
  · skip
    refine c_seq fun K4 hK4 => ?_
    refine c_region ?_
    refine sv (o_fa0 fd44_0 rfl) rfl ?_
    refine sv (o_ld sc3 rfl (Bg1.cell rfl)) rfl ?_
    refine sv (o_fa0 fd44_0 rfl) rfl ?_
    refine sv (o_ld sc3 rfl (Bg2.cell rfl)) rfl ?_
    refine sv (o_lss rfl rfl) rfl ?_
    refine sv (o_as rfl) rfl ?_
    refine l_nil ?_
    refine e_K (hK4 _ _ _ _ ?_)
    refine c_ret ?_
    refine e_then (by simp) ?_
    exact ret1 rfl rfl ⟨by simp [rlt, h13], E⟩
  · skip
    refine c_skip ?_
    refine e_K (hK2 _ _ _ _ ?_)
    refine c_seq fun K5 hK5 => ?_
    refine c_seq fun K6 hK6 => ?_
    refine c_region ?_
    refine sv (o_fa0 fd44_1 rfl) rfl ?_
    refine sv (o_ld sc3 rfl (Bg1.cell rfl)) rfl ?_
    refine sv (o_fa0 fd44_1 rfl) rfl ?_
    refine sv (o_ld sc3 rfl (Bg2.cell rfl)) rfl ?_
    refine sv (o_neq rfl rfl) rfl ?_
    refine l_nil ?_
    refine e_K (hK6 _ _ _ _ ?_)
    refine c_if rfl (fun h23 => ?_) (fun h23 => ?_)
    · skip
      refine c_seq fun K7 hK7 => ?_
      refine c_region ?_
      refine sv (o_fa0 fd44_1 rfl) rfl ?_
      refine sv (o_ld sc3 rfl (Bg1.cell rfl)) rfl ?_
      refine sv (o_fa0 fd44_1 rfl) rfl ?_
      refine sv (o_ld sc3 rfl (Bg2.cell rfl)) rfl ?_
      refine sv (o_lss rfl rfl) rfl ?_
      refine sv (o_as rfl) rfl ?_
      refine l_nil ?_
      refine e_K (hK7 _ _ _ _ ?_)
      refine c_ret ?_
      refine e_then (by simp) ?_
      exact ret1 rfl rfl ⟨by simp [rlt, Decidable.not_not.1 h13, h23], E⟩
    · skip
      refine c_skip ?_
      refine e_K (hK5 _ _ _ _ ?_)
      refine c_seq fun K8 hK8 => ?_
      refine c_seq fun K9 hK9 => ?_
      refine c_region ?_
      refine sv (o_fa0 fd44_2 rfl) rfl ?_
      refine sv (o_ld sc9 rfl (Bg1.cell rfl)) rfl ?_
      refine sv (o_fa0 fd44_2 rfl) rfl ?_
      refine sv (o_ld sc9 rfl (Bg2.cell rfl)) rfl ?_
      refine sv (o_sne rfl rfl) rfl ?_
      refine l_nil ?_
      refine e_K (hK9 _ _ _ _ ?_)
      refine c_if rfl (fun h33 => ?_) (fun h33 => ?_)
      · skip
        refine c_seq fun K10 hK10 => ?_
        refine c_region ?_
        refine sv (o_fa0 fd44_2 rfl) rfl ?_
        refine sv (o_ld sc9 rfl (Bg1.cell rfl)) rfl ?_
        refine sv (o_fa0 fd44_2 rfl) rfl ?_
        refine sv (o_ld sc9 rfl (Bg2.cell rfl)) rfl ?_
        refine sv (o_slt rfl rfl) rfl ?_
        refine sv (o_as rfl) rfl ?_
        refine l_nil ?_
        refine e_K (hK10 _ _ _ _ ?_)
        refine c_ret ?_
        refine e_then (by simp) ?_
        exact ret1 rfl rfl ⟨by simp [rlt, Decidable.not_not.1 h13, Decidable.not_not.1 h23, h33], E⟩
      · skip
        refine c_skip ?_
        refine e_K (hK8 _ _ _ _ ?_)
        refine c_seq fun K11 hK11 => ?_
        refine c_region ?_
        refine sv (o_mv rfl) rfl ?_
        refine sv (o_mv rfl) rfl ?_
        refine sv (o_slt rfl rfl) rfl ?_
        refine sv (o_as rfl) rfl ?_
        refine l_nil ?_
        refine e_K (hK11 _ _ _ _ ?_)
        refine c_ret ?_
        exact ret1 rfl rfl ⟨by simp [rlt, Decidable.not_not.1 h13, Decidable.not_not.1 h23, Decidable.not_not.1 h33], E⟩

theorem g_headsR (w : World) (m : Gm) (v0 : Value) (R : Rep [] w (ndD m) v0) (hm : m.length ≤ 512) : Calls Try.prog 23 [v0].toArray w (Ret fun u w' => Rep [] w' (strD (heads m)) u ∧ Mod [] w w') := by
  refine enter Try.func23 rfl rfl rfl (l := [(0, _)]) ⟨rfl, trivial⟩ ?_
  have E := Mod.refl [] w
  obtain ⟨ad, c, rfl, hc1, hc2⟩ := ndD_len R
  refine c_seq fun K1 hK1 => ?_
  refine c_region ?_
  refine sv (o_as rfl) rfl ?_
  refine l_nil ?_
  refine e_K (hK1 _ _ _ _ ?_)
  refine c_seq fun K2 hK2 => ?_
  refine c_region ?_
  refine sv (o_as rfl) rfl ?_
  refine l_nil ?_
  refine e_K (hK2 _ _ _ _ ?_)
  refine c_seq fun K3 hK3 => ?_
  refine c_seq fun K4 hK4 => ?_
  refine c_region ?_
  refine sv (o_mv rfl) rfl ?_
  refine sv (o_len Try.underlying30 rfl) rfl ?_
  refine sv (o_mv rfl) rfl ?_
  refine l_nil ?_
  refine e_K (hK4 _ _ _ _ ?_)
  refine c_block ?_
  refine c_loop (σ := Nat × Value) (fun ⟨k, v⟩ => [(0, .slice ad m.length c), (3, v), (9, .slice ad m.length c), (10, .int .i64 m.length), (11, .int .i64 (k : Int))]) (fun ⟨k, v⟩ w1 => k ≤ m.length ∧ (headR m k).length ≤ k ∧ Rep [] w1 (strD (headR m k)) v ∧ Mod [] w w1) (fun ⟨k, v⟩ => m.length - k) (⟨0, .slice none 0 0⟩) ⟨rfl, rfl, rfl, rfl, rfl, trivial⟩ (⟨by omega, by simp [headR], Rep.nilf _ _, E⟩) ?_
  rintro ⟨k, v⟩ w1 ⟨hk, hl, RH, E⟩
  have Ek := Mod.refl [] w1
  refine c_seq fun K5 hK5 => ?_
  refine c_region ?_
  refine sv (o_lss rfl rfl) rfl ?_
  refine l_nil ?_
  refine e_K (hK5 _ _ _ _ ?_)
  refine c_seq fun K6 hK6 => ?_
  refine c_if rfl (fun h12 => ?_) (fun h12 => ?_)
  · skip
    have hlt : k < m.length := by omega
    obtain ⟨x, hx_x⟩ : ∃ x, m[k]? = some x := ⟨_, List.getElem?_eq_getElem (by omega)⟩
    obtain ⟨a_x, u_x, ha_x, hcs_x, R_x⟩ := ndD_at R hx_x
    obtain rfl := ha_x
    have one_x := R_x.one
    have cs0_x := hcs_x
    replace hcs_x := hcs_x.mod0 E
    refine c_skip ?_
    refine e_K (hK6 _ _ _ _ ?_)
    refine c_seq fun K7 hK7 => ?_
    refine c_block ?_
    refine c_seq fun K8 hK8 => ?_
    refine c_region ?_
    refine sv (o_ix sl30 rfl rfl (by omega)) rfl ?_
    refine sv (o_lda ag42 rfl rfl hcs_x) rfl ?_
    refine s_alloc zv42 rfl fun g1 w2 N1 => ?_
    have Lg1_E := N1.le E
    have Lg1_Ek := N1.le Ek
    replace E := E.then N1.mod
    replace Ek := Ek.then N1.mod
    have Bg1 := N1.blk
    refine s_sta (vs := [_, _]) ag42 Bg1 rfl rfl rfl (by intro u hu; simp at hu; rcases hu with rfl | rfl <;> first | rfl | assumption) (by simp) fun w3 P3 => ?_
    replace E := E.own P3.mod Lg1_E
    replace Ek := Ek.own P3.mod Lg1_Ek
    replace Bg1 : Blk w3 g1 _ [_, _] := P3.blk
    refine l_nil ?_
    refine e_K (hK8 _ _ _ _ ?_)
    refine c_seq fun K9 hK9 => ?_
    refine c_region ?_
    refine sv (o_as rfl) rfl ?_
    refine l_nil ?_
    refine e_K (hK9 _ _ _ _ ?_)
    refine c_seq fun K10 hK10 => ?_
    refine c_seq fun K11 hK11 => ?_
    refine c_region ?_
    refine sv (o_mv rfl) rfl ?_
    refine sv (o_len Try.underlying30 rfl) rfl ?_
    refine sv (o_mv rfl) rfl ?_
    refine l_nil ?_
    refine e_K (hK11 _ _ _ _ ?_)
    refine c_block ?_
    refine c_loop (σ := Nat × Bool) (fun ⟨j, b⟩ => [(0, .slice (some a_x) m.length c), (3, v), (5, .pointer (some ⟨g1, 0, none⟩)), (6, .bool b), (9, .slice (some a_x) m.length c), (10, .int .i64 m.length), (11, .int .i64 (k : Int)), (15, .slice (some a_x) m.length c), (16, .int .i64 m.length), (17, .int .i64 (j : Int))]) (fun ⟨j, b⟩ w1 => j ≤ m.length ∧ b = (m.take j).all (fun q => !decide (x.1 ∈ q.2)) ∧ Blk w1 g1 42 [S x.1, u_x] ∧ w.heap.size ≤ g1 ∧ Rep [] w1 (strD (headR m k)) v ∧ Mod [] w w1) (fun ⟨j, b⟩ => m.length - j) (⟨0, true⟩) ⟨rfl, rfl, rfl, rfl, rfl, rfl, rfl, rfl, rfl, rfl, trivial⟩ (⟨by omega, rfl, Bg1, Lg1_E, RH.to0 Ek, E⟩) ?_
    rintro ⟨j, b⟩ w4 ⟨hj, hb, Bg1, Lg1_E, RHk, E⟩
    have Lg1_Ek := Bg1.lt
    have Ek := Mod.refl [] w4
    refine c_seq fun K12 hK12 => ?_
    refine c_region ?_
    refine sv (o_lss rfl rfl) rfl ?_
    refine l_nil ?_
    refine e_K (hK12 _ _ _ _ ?_)
    refine c_seq fun K13 hK13 => ?_
    refine c_if rfl (fun h18 => ?_) (fun h18 => ?_)
    · skip
      have hlt2 : j < m.length := by omega
      obtain ⟨y, hx_y⟩ : ∃ x, m[j]? = some x := ⟨_, List.getElem?_eq_getElem (by omega)⟩
      obtain ⟨a_y, u_y, ha_y, hcs_y, R_y⟩ := ndD_at R hx_y
      injection ha_y with ha_y
      subst ha_y
      have one_y := R_y.one
      have cs0_y := hcs_y
      replace hcs_y := hcs_y.mod0 E
      refine c_skip ?_
      refine e_K (hK13 _ _ _ _ ?_)
      refine c_seq fun K14 hK14 => ?_
      refine c_block ?_
      refine c_seq fun K15 hK15 => ?_
      refine c_region ?_
      refine sv (o_ix sl30 rfl rfl (by omega)) rfl ?_
      refine sv (o_lda ag42 rfl rfl hcs_y) rfl ?_
      refine s_alloc zv42 rfl fun g2 w5 N2 => ?_
      have Lg2_E := N2.le E
      have Lg2_Ek := N2.le Ek
      have Dg1_g2 := N2.ne Bg1
      replace Bg1 := Bg1.mod0 N2.mod
      replace E := E.then N2.mod
      replace Ek := Ek.then N2.mod
      have Bg2 := N2.blk
      refine s_sta (vs := [_, _]) ag42 Bg2 rfl rfl rfl (by intro u hu; simp at hu; rcases hu with rfl | rfl <;> first | rfl | assumption) (by simp) fun w6 P6 => ?_
      replace Bg1 := Bg1.ne P6.mod (Ne.symm (Ne.symm Dg1_g2))
      replace E := E.own P6.mod Lg2_E
      replace Ek := Ek.own P6.mod Lg2_Ek
      replace Bg2 : Blk w6 g2 _ [_, _] := P6.blk
      refine l_nil ?_
      refine e_K (hK15 _ _ _ _ ?_)
      by_cases hb22 : b = true
      · skip
        refine c_region ?_
        refine sv (o_mv rfl) rfl ?_
        refine sv (o_mv rfl) rfl ?_
        refine sg rfl (hb22) (o_fa0 fd42_1 rfl) rfl ?_
        refine sg rfl (hb22) (o_ld sc23 rfl (Bg2.cell rfl)) rfl ?_
        refine sg rfl (hb22) (o_fa0 fd42_0 rfl) rfl ?_
        refine sg rfl (hb22) (o_ld sc9 rfl (Bg1.cell rfl)) rfl ?_
        refine sgc rfl (hb22) (o_call ent18 rfl) (g_in _ y.2 _ ((R_y.to0 E)) x.1) rfl fun v_ w7 h_ => ?_
        obtain ⟨rfl, E_⟩ := h_
        replace Bg1 := Bg1.mod0 E_
        replace Bg2 := Bg2.mod0 E_
        replace E := E.then E_
        replace Ek := Ek.then E_
        refine sg rfl (hb22) (o_not rfl) rfl ?_
        refine sv (o_pickT (hb22) rfl rfl) rfl ?_
        refine sv (o_as rfl) rfl ?_
        refine l_nil ?_
        refine e_in (by simp) ?_
        refine e_K (hK14 _ _ _ _ ?_)
        refine c_region ?_
        refine sv (o_addN rfl rfl (by omega)) rfl ?_
        refine sv (o_mv rfl) rfl ?_
        refine l_nil ?_
        exact e_round (σ := Nat × Bool) (s := ⟨j, b⟩) (⟨j + 1, !decide (x.1 ∈ y.2)⟩) ⟨rfl, rfl, rfl, rfl, rfl, rfl, rfl, rfl, rfl, rfl, trivial⟩ ⟨by omega, all_snocT hb hb22 hx_y, Bg1, Lg1_E, RHk.to0 Ek, E⟩ (by dsimp only; omega)
      · skip
        refine c_region ?_
        refine sv (o_mv rfl) rfl ?_
        refine sv (o_mv rfl) rfl ?_
        refine sn rfl (fun e_ => absurd (((Bool.eq_false_iff.2 hb22)).symm.trans e_) (by decide)) rfl ?_
        refine sn rfl (fun e_ => absurd (((Bool.eq_false_iff.2 hb22)).symm.trans e_) (by decide)) rfl ?_
        refine sn rfl (fun e_ => absurd (((Bool.eq_false_iff.2 hb22)).symm.trans e_) (by decide)) rfl ?_
        refine sn rfl (fun e_ => absurd (((Bool.eq_false_iff.2 hb22)).symm.trans e_) (by decide)) rfl ?_
        refine sn rfl (fun e_ => absurd (((Bool.eq_false_iff.2 hb22)).symm.trans e_) (by decide)) rfl ?_
        refine sn rfl (fun e_ => absurd (((Bool.eq_false_iff.2 hb22)).symm.trans e_) (by decide)) rfl ?_
        refine sv (o_pickF ((Bool.eq_false_iff.2 hb22)) rfl rfl) rfl ?_
        refine sv (o_as rfl) rfl ?_
        refine l_nil ?_
        refine e_in (by simp) ?_
        refine e_K (hK14 _ _ _ _ ?_)
        refine c_region ?_
        refine sv (o_addN rfl rfl (by omega)) rfl ?_
        refine sv (o_mv rfl) rfl ?_
        refine l_nil ?_
        exact e_round (σ := Nat × Bool) (s := ⟨j, b⟩) (⟨j + 1, false⟩) ⟨rfl, rfl, rfl, rfl, rfl, rfl, rfl, rfl, rfl, rfl, trivial⟩ ⟨by omega, all_snocF hb (Bool.eq_false_iff.2 hb22) hx_y, Bg1, Lg1_E, RHk.to0 Ek, E⟩ (by dsimp only; omega)
    · skip
      refine c_exit ?_
      refine e_then (by simp) ?_
      refine e_then (by simp) ?_
      refine e_hit ?_
      refine e_K (hK10 _ _ _ _ ?_)
      refine c_seq fun K16 hK16 => ?_
      refine c_region ?_
      refine sv (o_mv rfl) rfl ?_
      refine l_nil ?_
      refine e_K (hK16 _ _ _ _ ?_)
      refine c_cond rfl (fun h31 => ?_) (fun h31 => ?_)
      · skip
        have hall : m.all (fun q => !decide (x.1 ∈ q.2)) = true := by
          rw [List.take_of_length_le (by omega)] at hb
          rw [← hb, h31]
        refine c_region ?_
        refine sv (o_mv rfl) rfl ?_
        refine sv (o_fa0 fd42_0 rfl) rfl ?_
        refine sv (o_ld sc9 rfl (Bg1.cell rfl)) rfl ?_
        refine sc (o_call ent28 rfl) (g_with [] _ (headR m k) _ (RHk.to0 Ek) x.1 (by omega) (by simp)) rfl fun v_ w8 h_ => ?_
        obtain ⟨RW, E_⟩ := h_
        replace Bg1 := Bg1.mod0 E_
        replace E := E.then E_
        replace Ek := Ek.then E_
        refine sv (o_as rfl) rfl ?_
        refine l_nil ?_
        refine e_in (by simp) ?_
        refine e_K (hK7 _ _ _ _ ?_)
        refine c_region ?_
        refine sv (o_addN rfl rfl (by omega)) rfl ?_
        refine sv (o_mv rfl) rfl ?_
        refine l_nil ?_
        exact e_round (σ := Nat × Value) (s := ⟨k, v⟩) (⟨k + 1, v_⟩) ⟨rfl, rfl, rfl, rfl, rfl, trivial⟩ ⟨by omega, by rw [headR_succ hx_x, if_pos hall]; have := @withS_len (headR m k) x.1; omega, by rw [headR_succ hx_x, if_pos hall]; exact RW, E⟩ (by dsimp only; omega)
      · skip
        have hall : ¬ m.all (fun q => !decide (x.1 ∈ q.2)) = true := by
          rw [List.take_of_length_le (by omega)] at hb
          rw [← hb, h31]
          simp
        refine c_skip ?_
        refine e_in (by simp) ?_
        refine e_K (hK7 _ _ _ _ ?_)
        refine c_region ?_
        refine sv (o_addN rfl rfl (by omega)) rfl ?_
        refine sv (o_mv rfl) rfl ?_
        refine l_nil ?_
        exact e_round (σ := Nat × Value) (s := ⟨k, v⟩) (⟨k + 1, v⟩) ⟨rfl, rfl, rfl, rfl, rfl, trivial⟩ ⟨by omega, by rw [headR_succ hx_x, if_neg hall]; omega, by rw [headR_succ hx_x, if_neg hall]; exact RHk, E⟩ (by dsimp only; omega)
  · skip
    have hk2 : k = m.length := by omega
    subst hk2
    refine c_exit ?_
    refine e_then (by simp) ?_
    refine e_then (by simp) ?_
    refine e_hit ?_
    refine e_K (hK3 _ _ _ _ ?_)
    refine c_seq fun K17 hK17 => ?_
    refine c_region ?_
    refine sv (o_mv rfl) rfl ?_
    refine sv (o_as rfl) rfl ?_
    refine l_nil ?_
    refine e_K (hK17 _ _ _ _ ?_)
    refine c_ret ?_
    exact ret1 rfl rfl ⟨by rw [headR_all] at RH; exact RH, E⟩
end Go.Proofs.Ythmohmpalbnjoaa.V

set_option linter.unusedVariables false
set_option linter.unusedSimpArgs false
set_option maxRecDepth 10000
namespace Go.Proofs.Ythmohmpalbnjoaa.V
open Go Go.Proofs
theorem ent19 : Ent Try.prog 19 := Ent.of Try.func19 (by kernel_rfl) (by kernel_rfl)
theorem g_addR (A : List Nat) (w : World) (m : Gm) (v0 : Value) (R : Rep A w (ndD m) v0) (s : Str) (ah : List Str) (v1 : Value) (R2 : Rep [] w (strD ah) v1) (hm : m.length ≤ 512) (hl : ah.length ≤ 1000000) (hA : ∀ x ∈ A, x < w.heap.size) : Calls Try.prog 27 [v0, S s, v1].toArray w (Ret fun u w' => ∃ v', u = .tuple #[v', .int .i64 (addG m s ah).2] ∧ Rep A w' (ndD (addG m s ah).1) v' ∧ Mod [] w w') := by
  refine enter Try.func27 rfl rfl rfl (l := [(0, _), (1, _), (2, _)]) ⟨rfl, rfl, rfl, trivial⟩ ?_
  have E := Mod.refl [] w
  obtain ⟨ad, c, rfl, hc1, hc2⟩ := ndD_len R
  obtain ⟨ad2, c2, rfl, hd1, hd2⟩ := flat_len R2
  refine c_seq fun K1 hK1 => ?_
  refine c_region ?_
  refine sv (o_as rfl) rfl ?_
  refine sv (o_as rfl) rfl ?_
  refine l_nil ?_
  refine e_K (hK1 _ _ _ _ ?_)
  refine c_seq fun K2 hK2 => ?_
  refine c_region ?_
  refine sv (o_mv rfl) rfl ?_
  refine sv (o_mv rfl) rfl ?_
  refine sc (o_call ent19 rfl) (g_get A _ m _ (R.to0 E) s) rfl fun v_ w1 h_ => ?_
  obtain ⟨lv, rfl, RL, E_⟩ := h_
  replace E := E.then E_
  have one_l := RL.one
  refine sv (o_mv rfl) rfl ?_
  refine sv (o_ext rfl rfl) rfl ?_
  refine sv (o_ext rfl rfl) rfl ?_
  refine s_alloc zv42 rfl fun g1 w2 N1 => ?_
  have Lg1_E := N1.le E
  replace E := E.then N1.mod
  have Bg1 := N1.blk
  refine s_sta (vs := [_, _]) ag42 Bg1 rfl rfl rfl (by intro u hu; simp at hu; rcases hu with rfl | rfl <;> first | rfl | assumption) (by simp) fun w3 P3 => ?_
  replace E := E.own P3.mod Lg1_E
  replace Bg1 : Blk w3 g1 _ [_, _] := P3.blk
  refine sv (o_as rfl) rfl ?_
  refine l_nil ?_
  refine e_K (hK2 _ _ _ _ ?_)
  refine c_seq fun K3 hK3 => ?_
  refine c_seq fun K4 hK4 => ?_
  refine c_region ?_
  refine sv (o_mv rfl) rfl ?_
  refine l_nil ?_
  refine e_K (hK4 _ _ _ _ ?_)
  refine c_cond rfl (fun h21 => ?_) (fun h21 => ?_)
  · skip
    refine c_seq fun K5 hK5 => ?_
    refine c_region ?_
    refine sv (o_mv rfl) rfl ?_
    refine sv (o_as rfl) rfl ?_
    refine sv (o_as rfl) rfl ?_
    refine l_nil ?_
    refine e_K (hK5 _ _ _ _ ?_)
    refine c_ret ?_
    refine e_then (by simp) ?_
    exact ret2 rfl rfl rfl ⟨_, by rw [addG_twice h21], by rw [addG_twice h21]; exact R.to0 E, E⟩
  · skip
    refine c_skip ?_
    refine e_K (hK3 _ _ _ _ ?_)
    refine c_seq fun K6 hK6 => ?_
    refine c_region ?_
    refine sv (o_as rfl) rfl ?_
    refine l_nil ?_
    refine e_K (hK6 _ _ _ _ ?_)
    refine c_seq fun K7 hK7 => ?_
    refine c_seq fun K8 hK8 => ?_
    refine c_region ?_
    refine sv (o_mv rfl) rfl ?_
    refine sv (o_len Try.underlying23 rfl) rfl ?_
    refine sv (o_mv rfl) rfl ?_
    refine l_nil ?_
    refine e_K (hK8 _ _ _ _ ?_)
    refine c_block ?_
    refine c_loop (σ := Nat × Value) (fun ⟨k, v⟩ => [(0, .slice ad m.length c), (1, S s), (10, v), (23, .slice ad2 ah.length c2), (24, .int .i64 ah.length), (25, .int .i64 (k : Int))]) (fun ⟨k, v⟩ w1 => k ≤ ah.length ∧ (∀ x ∈ ah.take k, (look m x).isSome = true) ∧ Rep A w1 (strD (setS (ah.take k))) v ∧ Mod [] w w1) (fun ⟨k, v⟩ => ah.length - k) (⟨0, .slice none 0 0⟩) ⟨rfl, rfl, rfl, rfl, rfl, rfl, trivial⟩ (⟨by omega, by simp, Rep.nilf _ _, E⟩) ?_
    rintro ⟨k, v⟩ w4 ⟨hk, hin, RSk, E⟩
    have Ek := Mod.refl [] w4
    refine c_seq fun K9 hK9 => ?_
    refine c_region ?_
    refine sv (o_lss rfl rfl) rfl ?_
    refine l_nil ?_
    refine e_K (hK9 _ _ _ _ ?_)
    refine c_seq fun K10 hK10 => ?_
    refine c_if rfl (fun h26 => ?_) (fun h26 => ?_)
    · skip
      have hlt : k < ah.length := by omega
      obtain ⟨x, hx_x⟩ : ∃ x, (ah)[k]? = some x := ⟨_, List.getElem?_eq_getElem (by omega)⟩
      obtain ⟨a_x, ha_x, hcs_x, _⟩ := flat_at (R2.to0 E) hx_x
      obtain rfl := ha_x
      refine c_skip ?_
      refine e_K (hK10 _ _ _ _ ?_)
      refine c_seq fun K11 hK11 => ?_
      refine c_block ?_
      refine c_seq fun K12 hK12 => ?_
      refine c_region ?_
      refine sv (o_ix sl23 rfl rfl (by omega)) rfl ?_
      refine sv (o_ld sc9 rfl hcs_x.c0) rfl ?_
      refine sv (o_as rfl) rfl ?_
      refine l_nil ?_
      refine e_K (hK12 _ _ _ _ ?_)
      refine c_seq fun K13 hK13 => ?_
      refine c_region ?_
      refine sv (o_mv rfl) rfl ?_
      refine sv (o_mv rfl) rfl ?_
      refine sc (o_call ent19 rfl) (g_get A _ m _ (R.to0 E) x) rfl fun v_ w5 h_ => ?_
      obtain ⟨lv2, rfl, RL2, E_⟩ := h_
      replace E := E.then E_
      replace Ek := Ek.then E_
      have one_l2 := RL2.one
      refine sv (o_mv rfl) rfl ?_
      refine sv (o_ext rfl rfl) rfl ?_
      refine sv (o_ext rfl rfl) rfl ?_
      refine s_alloc zv42 rfl fun g2 w6 N2 => ?_
      have Lg2_E := N2.le E
      have Lg2_Ek := N2.le Ek
      replace E := E.then N2.mod
      replace Ek := Ek.then N2.mod
      have Bg2 := N2.blk
      refine s_sta (vs := [_, _]) ag42 Bg2 rfl rfl rfl (by intro u hu; simp at hu; rcases hu with rfl | rfl <;> first | rfl | assumption) (by simp) fun w7 P7 => ?_
      replace E := E.own P7.mod Lg2_E
      replace Ek := Ek.own P7.mod Lg2_Ek
      replace Bg2 : Blk w7 g2 _ [_, _] := P7.blk
      refine sv (o_as rfl) rfl ?_
      refine l_nil ?_
      refine e_K (hK13 _ _ _ _ ?_)
      refine c_seq fun K14 hK14 => ?_
      refine c_seq fun K15 hK15 => ?_
      refine c_region ?_
      refine sv (o_mv rfl) rfl ?_
      refine sv (o_not rfl) rfl ?_
      refine l_nil ?_
      refine e_K (hK15 _ _ _ _ ?_)
      refine c_cond rfl (fun h36 => ?_) (fun h36 => ?_)
      · skip
        refine c_seq fun K16 hK16 => ?_
        refine c_region ?_
        refine sv (o_mv rfl) rfl ?_
        refine sv (o_as rfl) rfl ?_
        refine sv (o_as rfl) rfl ?_
        refine l_nil ?_
        refine e_K (hK16 _ _ _ _ ?_)
        refine c_ret ?_
        refine e_then (by simp) ?_
        refine e_in (by simp) ?_
        refine e_then (by simp) ?_
        refine e_then (by simp) ?_
        refine e_in (by simp) ?_
        refine e_then (by simp) ?_
        exact ret2 rfl rfl rfl ⟨_, by rw [addG_gap (by simpa using h21) (List.mem_of_getElem? hx_x) (by simpa using h36)], by rw [addG_gap (by simpa using h21) (List.mem_of_getElem? hx_x) (by simpa using h36)]; exact R.to0 E, E⟩
      · skip
        refine c_skip ?_
        refine e_K (hK14 _ _ _ _ ?_)
        refine c_region ?_
        refine sv (o_mv rfl) rfl ?_
        refine sv (o_mv rfl) rfl ?_
        refine sc (o_call ent28 rfl) (g_with A _ (setS (ah.take k)) _ (RSk.to0 Ek) x (by have := @setS_len (ah.take k); have := List.length_take_le k ah; omega) (fun x hx => Nat.lt_of_lt_of_le (hA x hx) E.size)) rfl fun v_ w8 h_ => ?_
        obtain ⟨RW, E_⟩ := h_
        replace Bg2 := Bg2.mod0 E_
        replace E := E.then E_
        replace Ek := Ek.then E_
        refine sv (o_as rfl) rfl ?_
        refine l_nil ?_
        refine e_in (by simp) ?_
        refine e_K (hK11 _ _ _ _ ?_)
        refine c_region ?_
        refine sv (o_addN rfl rfl (by omega)) rfl ?_
        refine sv (o_mv rfl) rfl ?_
        refine l_nil ?_
        exact e_round (σ := Nat × Value) (s := ⟨k, v⟩) (⟨k + 1, v_⟩) ⟨rfl, rfl, rfl, rfl, rfl, rfl, trivial⟩ ⟨by omega, take_all_succ hx_x hin (by simpa using h36), by rw [setS_with, ← take_succ_snoc hx_x] at RW; exact RW, E⟩ (by dsimp only; omega)
    · skip
      have hk2 : ah.take k = ah := List.take_of_length_le (by omega)
      rw [hk2] at RSk hin
      have E0 := E
      obtain ⟨adl, cl, rfl, hcl1, hcl2⟩ := flat_len RSk
      refine c_exit ?_
      refine e_then (by simp) ?_
      refine e_then (by simp) ?_
      refine e_hit ?_
      refine e_K (hK7 _ _ _ _ ?_)
      refine c_seq fun K17 hK17 => ?_
      refine c_seq fun K18 hK18 => ?_
      refine c_region ?_
      refine sv (o_mv rfl) rfl ?_
      refine sv (o_len Try.underlying30 rfl) rfl ?_
      refine sv (o_eql rfl rfl) rfl ?_
      refine l_nil ?_
      refine e_K (hK18 _ _ _ _ ?_)
      refine c_if rfl (fun h44 => ?_) (fun h44 => ?_)
      · skip
        refine c_seq fun K19 hK19 => ?_
        refine c_region ?_
        refine sv (o_mv rfl) rfl ?_
        refine sv (o_as rfl) rfl ?_
        refine sv (o_as rfl) rfl ?_
        refine l_nil ?_
        refine e_K (hK19 _ _ _ _ ?_)
        refine c_ret ?_
        refine e_then (by simp) ?_
        exact ret2 rfl rfl rfl ⟨_, by rw [addG_many (by simpa using h21) hin (by omega)], by rw [addG_many (by simpa using h21) hin (by omega)]; exact R.to0 E, E⟩
      · skip
        refine c_skip ?_
        refine e_K (hK17 _ _ _ _ ?_)
        refine c_seq fun K20 hK20 => ?_
        refine c_region ?_
        refine s_bslice (cs := []) sl30 zv42 rfl rfl rfl (by decide) rfl fun g3 w9 N3 => ?_
        have Lg3_E := N3.le E
        have Lg3_Ek := N3.le Ek
        replace E := E.then N3.mod
        replace Ek := Ek.then N3.mod
        have Bg3 := N3.blk
        refine sv (o_mv rfl) rfl ?_
        have RA := Rep.to (A' := A ++ [g3]) E (by simp) (fun x hx => (List.mem_append.1 hx).imp id (fun h => by simp at h; subst h; exact Lg3_E)) _ _ R
        obtain ⟨vs, hvs, hvl, hsrc⟩ := Src.rep (P := Try.prog) Try.underlying30 RA
        rw [List.length_map] at hvl hsrc
        refine s_append sl30 rfl rfl (Own.all (c := 0) (cs := []) Bg3 rfl (by omega)) hsrc (by decide) (by omega) (by omega) rfl fun v1 w10 A1 => ?_
        have GL1 := GL.first (A := A) A1 (Nat.zero_add _) (List.nil_append _) hvs (fun x hx => by simp [ob] at hx; subst hx; exact Lg3_Ek) (fun x hx hxA => by simp [ob] at hx; subst hx; have := hA _ hxA; omega) (fun x hx => Nat.lt_of_lt_of_le (hA x hx) E.size) Ek.size
        replace E := E.trans' A1.mod (fun x hx => .inr (by simp [ob] at hx; subst hx; exact Lg3_E))
        replace Ek := Ek.trans' A1.mod (fun x hx => .inr (by simp [ob] at hx; subst hx; exact Lg3_Ek))
        refine sv (o_mv rfl) rfl ?_
        refine sv (o_mv rfl) rfl ?_
        refine sv (o_build (cs := [_, _]) pl42 zv42 rfl rfl) rfl ?_
        refine s_bslice (cs := [_, _]) sl30 zv42 rfl rfl rfl (by decide) rfl fun g4 w11 N4 => ?_
        have Lg4_E := N4.le E
        have Lg4_Ek := N4.le Ek
        replace E := E.then N4.mod
        replace Ek := Ek.then N4.mod
        have Bg4 := N4.blk
        have GN := GL1.mod0 N4.mod
        have one_v := RSk.one
        refine s_append sl30 rfl rfl GN.own (Src.own Try.underlying30 (Own.all (cs := [_, _]) Bg4 rfl (by omega)) (by intro u hu; simp at hu; rcases hu with rfl | rfl <;> first | rfl | assumption)) (by decide) (by omega) (by omega) rfl fun v2 w12 A2 => ?_
        have GL2 := GN.app Ek A2 rfl (nd_flat (s := s) (Rep.to Ek (by simp) (fun x hx => (List.mem_append.1 hx).imp id (GN.fr x)) _ _ RSk))
        replace E := E.trans' A2.mod (fun x hx => .inr (Nat.le_trans E0.size (GN.fr x hx)))
        have RF := ndD_snoc (p := (s, setS ah)) GL2 rfl
        refine sv (o_as rfl) rfl ?_
        refine sv (o_as rfl) rfl ?_
        refine l_nil ?_
        refine e_K (hK20 _ _ _ _ ?_)
        refine c_ret ?_
        exact ret2 rfl rfl rfl ⟨_, by rw [addG_ok (by simpa using h21) hin (by omega)], by rw [addG_ok (by simpa using h21) hin (by omega)]; exact RF, E⟩

theorem g_pastR (A : List Nat) (w : World) (m : Gm) (v0 : Value) (R : Rep [] w (ndD m) v0) (ids : List Str) (v1 : Value) (R2 : Rep [] w (strD ids) v1) (hm : m.length ≤ 512) (hA : ∀ x ∈ A, x < w.heap.size) : Calls Try.prog 17 [v0, v1].toArray w (Ret fun u w' => Rep A w' (strD (past m ids)) u ∧ Mod [] w w') := by
  refine enter Try.func17 rfl rfl rfl (l := [(0, _), (1, _)]) ⟨rfl, rfl, trivial⟩ ?_
  have E := Mod.refl [] w
  obtain ⟨ad, c, rfl, hc1, hc2⟩ := ndD_len R
  obtain ⟨ad2, c2, rfl, hd1, hd2⟩ := flat_len R2
  refine c_seq fun K1 hK1 => ?_
  refine c_region ?_
  refine sv (o_as rfl) rfl ?_
  refine l_nil ?_
  refine e_K (hK1 _ _ _ _ ?_)
  refine c_seq fun K2 hK2 => ?_
  refine c_region ?_
  refine sv (o_as rfl) rfl ?_
  refine l_nil ?_
  refine e_K (hK2 _ _ _ _ ?_)
  refine c_seq fun K3 hK3 => ?_
  refine c_seq fun K4 hK4 => ?_
  refine c_region ?_
  refine sv (o_mv rfl) rfl ?_
  refine sv (o_len Try.underlying30 rfl) rfl ?_
  refine sv ((o_subN rfl rfl (by omega)).to (v' := .int .i64 ((m.length : Int) - 1 - ((0 : Nat) : Int))) (by first | rfl | (congr 1; omega))) rfl ?_
  refine sv (o_as rfl) rfl ?_
  refine l_nil ?_
  refine e_K (hK4 _ _ _ _ ?_)
  refine c_block ?_
  refine c_loop (σ := Nat × Value) (fun ⟨j, v⟩ => [(0, .slice ad m.length c), (1, .slice ad2 ids.length c2), (5, v), (6, .int .i64 ((m.length : Int) - 1 - j))]) (fun ⟨j, v⟩ w1 => j ≤ m.length ∧ Rep A w1 (strD (pastR m ids j)) v ∧ Mod [] w w1) (fun ⟨j, v⟩ => m.length - j) (⟨0, .slice none 0 0⟩) ⟨rfl, rfl, rfl, rfl, trivial⟩ (⟨by omega, Rep.nilf _ _, E⟩) ?_
  rintro ⟨j, v⟩ w1 ⟨hj, RP, E⟩
  have Ek := Mod.refl [] w1
  refine c_seq fun K5 hK5 => ?_
  refine c_seq fun K6 hK6 => ?_
  refine c_region ?_
  refine sv (o_mv rfl) rfl ?_
  refine sv (o_geq rfl rfl) rfl ?_
  refine l_nil ?_
  refine e_K (hK6 _ _ _ _ ?_)
  refine c_if rfl (fun h13 => ?_) (fun h13 => ?_)
  · skip
    have hlt : j < m.length := by omega
    obtain ⟨x, hx_x⟩ : ∃ x, m[(m.length - 1 - j)]? = some x := ⟨_, List.getElem?_eq_getElem (by omega)⟩
    obtain ⟨a_x, u_x, ha_x, hcs_x, R_x⟩ := ndD_at R hx_x
    obtain rfl := ha_x
    have one_x := R_x.one
    have cs0_x := hcs_x
    replace hcs_x := hcs_x.mod0 E
    refine c_skip ?_
    refine e_K (hK5 _ _ _ _ ?_)
    refine c_seq fun K7 hK7 => ?_
    refine c_block ?_
    refine c_seq fun K8 hK8 => ?_
    refine c_region ?_
    refine sv (o_mv rfl) rfl ?_
    refine sv (o_mv rfl) rfl ?_
    refine sv (o_mv rfl) rfl ?_
    refine sv ((o_ix sl30 rfl rfl (by omega)).to (v' := .pointer (some (a_x.add ((m.length - 1 - j) * 2)))) (by rw [show ((m.length : Int) - 1 - j).toNat = (m.length - 1 - j) by omega])) rfl ?_
    refine sv (o_fad fd42_0 rfl) rfl ?_
    refine sv (o_ld sc9 rfl (hcs_x 0 _ rfl)) rfl ?_
    refine sc (o_call ent18 rfl) (g_in _ ids _ (R2.to0 E) x.1) rfl fun v_ w2 h_ => ?_
    obtain ⟨rfl, E_⟩ := h_
    replace E := E.then E_
    replace Ek := Ek.then E_
    refine sv (o_as rfl) rfl ?_
    refine l_nil ?_
    refine e_K (hK8 _ _ _ _ ?_)
    refine c_seq fun K9 hK9 => ?_
    refine c_seq fun K10 hK10 => ?_
    refine c_region ?_
    refine sv (o_mv rfl) rfl ?_
    refine sv ((o_addN rfl rfl (by omega)).to (v' := .int .i64 ((m.length - j + 0 : Nat) : Int)) (by first | rfl | (congr 1; omega))) rfl ?_
    refine sv (o_as rfl) rfl ?_
    refine l_nil ?_
    refine e_K (hK10 _ _ _ _ ?_)
    refine c_block ?_
    refine c_loop (σ := Nat × Bool) (fun ⟨d, b⟩ => [(0, .slice (some a_x) m.length c), (1, .slice ad2 ids.length c2), (5, v), (6, .int .i64 ((m.length : Int) - 1 - j)), (7, .bool b), (8, .int .i64 ((m.length - j + d : Nat) : Int))]) (fun ⟨d, b⟩ w1 => d ≤ j ∧ b = (decide (x.1 ∈ ids) || ((m.drop (m.length - j)).take d).any (fun q => decide (x.1 ∈ q.2) && decide (q.1 ∈ pastR m ids j))) ∧ Rep A w1 (strD (pastR m ids j)) v ∧ Mod [] w w1) (fun ⟨d, b⟩ => j - d) (⟨0, decide (x.1 ∈ ids)⟩) ⟨rfl, rfl, rfl, rfl, rfl, rfl, trivial⟩ (⟨by omega, by simp, RP.to0 Ek, E⟩) ?_
    rintro ⟨d, b⟩ w3 ⟨hd, hb, RPk, E⟩
    have Ek := Mod.refl [] w3
    refine c_seq fun K11 hK11 => ?_
    refine c_seq fun K12 hK12 => ?_
    refine c_region ?_
    refine sv (o_mv rfl) rfl ?_
    refine sv (o_mv rfl) rfl ?_
    refine sv (o_len Try.underlying30 rfl) rfl ?_
    refine sv (o_lss rfl rfl) rfl ?_
    refine l_nil ?_
    refine e_K (hK12 _ _ _ _ ?_)
    refine c_if rfl (fun h28 => ?_) (fun h28 => ?_)
    · skip
      have hlt2 : d < j := by omega
      obtain ⟨y, hx_y⟩ : ∃ x, m[m.length - j + d]? = some x := ⟨_, List.getElem?_eq_getElem (by omega)⟩
      obtain ⟨a_y, u_y, ha_y, hcs_y, R_y⟩ := ndD_at R hx_y
      injection ha_y with ha_y
      subst ha_y
      have one_y := R_y.one
      have cs0_y := hcs_y
      replace hcs_y := hcs_y.mod0 E
      have hdy : (m.drop (m.length - j))[d]? = some y := by rw [List.getElem?_drop]; exact hx_y
      refine c_skip ?_
      refine e_K (hK11 _ _ _ _ ?_)
      refine c_seq fun K13 hK13 => ?_
      refine c_block ?_
      by_cases hb32 : b = true
      · skip
        refine c_draw wide (by kernel_rfl) ?_
        refine tv (fun w_ E_ => (o_mv rfl)) rfl rfl ?_
        refine tv (fun w_ E_ => (o_mv rfl)) rfl rfl ?_
        refine tn rfl (fun e_ => absurd ((hb32).symm.trans e_) (by decide)) rfl ?_
        refine tn rfl (fun e_ => absurd ((hb32).symm.trans e_) (by decide)) rfl ?_
        refine tn rfl (fun e_ => absurd ((hb32).symm.trans e_) (by decide)) rfl ?_
        refine tn rfl (fun e_ => absurd ((hb32).symm.trans e_) (by decide)) rfl ?_
        refine tn rfl (fun e_ => absurd ((hb32).symm.trans e_) (by decide)) rfl ?_
        refine tn rfl (fun e_ => absurd ((hb32).symm.trans e_) (by decide)) rfl ?_
        refine tn rfl (fun e_ => absurd ((hb32).symm.trans e_) (by decide)) rfl ?_
        refine tn rfl (fun e_ => absurd ((hb32).symm.trans e_) (by decide)) rfl ?_
        refine tn rfl (fun e_ => absurd ((hb32).symm.trans e_) (by decide)) rfl ?_
        refine tn rfl (fun e_ => absurd ((hb32).symm.trans e_) (by decide)) rfl ?_
        refine tn rfl (fun e_ => absurd ((hb32).symm.trans e_) (by decide)) rfl ?_
        refine tn rfl (fun e_ => absurd ((hb32).symm.trans e_) (by decide)) rfl ?_
        refine tnu rfl rfl rfl ?_
        refine tnu rfl rfl rfl ?_
        refine tnu rfl rfl rfl ?_
        refine tnu rfl rfl rfl ?_
        refine tnu rfl rfl rfl ?_
        refine tnu rfl rfl rfl ?_
        refine tnu rfl rfl rfl ?_
        refine tn rfl (fun e_ => absurd ((hb32).symm.trans e_) (by decide)) rfl ?_
        refine tv (fun w_ E_ => (o_pickT (hb32) rfl rfl)) rfl rfl ?_
        refine tv (fun w_ E_ => (o_as rfl)) rfl rfl ?_
        refine tw_nil rfl fun w4 E_ => ?_
        replace E := E.then E_
        replace Ek := Ek.then E_
        refine e_in (by simp) ?_
        refine e_K (hK13 _ _ _ _ ?_)
        refine c_region ?_
        refine sv (o_mv rfl) rfl ?_
        refine sv ((o_addN rfl rfl (by omega)).to (v' := .int .i64 ((m.length - j + (d + 1) : Nat) : Int)) (by first | rfl | (congr 1; omega))) rfl ?_
        refine sv (o_as rfl) rfl ?_
        refine l_nil ?_
        exact e_round (σ := Nat × Bool) (s := ⟨d, b⟩) (⟨d + 1, true⟩) ⟨rfl, rfl, rfl, rfl, rfl, rfl, trivial⟩ ⟨by omega, any_snocT hb hb32 hdy, RPk.to0 Ek, E⟩ (by dsimp only; omega)
      · skip
        by_cases hs9_1 : x.1 ∈ y.2
        · skip
          refine c_draw wide (by kernel_rfl) ?_
          refine tv (fun w_ E_ => (o_mv rfl)) rfl rfl ?_
          refine tv (fun w_ E_ => (o_mv rfl)) rfl rfl ?_
          refine tvg rfl ((Bool.eq_false_iff.2 hb32)) (fun w_ E_ => (o_mv rfl)) rfl rfl ?_
          refine tvg rfl ((Bool.eq_false_iff.2 hb32)) (fun w_ E_ => (o_mv rfl)) rfl rfl ?_
          refine tvg rfl ((Bool.eq_false_iff.2 hb32)) (fun w_ E_ => ((o_ix sl30 rfl rfl (by omega)).to (v' := .pointer (some (a_x.add ((m.length - j + d) * 2)))) (by rw [show ((m.length - j + d : Nat) : Int).toNat = m.length - j + d from rfl]))) rfl rfl ?_
          refine tvg rfl ((Bool.eq_false_iff.2 hb32)) (fun w_ E_ => (o_fad fd42_1 rfl)) rfl rfl ?_
          refine tvg rfl ((Bool.eq_false_iff.2 hb32)) (fun w_ E_ => (o_ld sc23 rfl ((hcs_y.mod0 E_) 1 _ rfl))) rfl rfl ?_
          refine tvg rfl ((Bool.eq_false_iff.2 hb32)) (fun w_ E_ => (o_mv rfl)) rfl rfl ?_
          refine tvg rfl ((Bool.eq_false_iff.2 hb32)) (fun w_ E_ => (o_mv rfl)) rfl rfl ?_
          refine tvg rfl ((Bool.eq_false_iff.2 hb32)) (fun w_ E_ => ((o_ix sl30 rfl rfl (by omega)).to (v' := .pointer (some (a_x.add ((m.length - 1 - j) * 2)))) (by rw [show ((m.length : Int) - 1 - j).toNat = (m.length - 1 - j) by omega]))) rfl rfl ?_
          refine tvg rfl ((Bool.eq_false_iff.2 hb32)) (fun w_ E_ => (o_fad fd42_0 rfl)) rfl rfl ?_
          refine tvg rfl ((Bool.eq_false_iff.2 hb32)) (fun w_ E_ => (o_ld sc9 rfl ((cs0_x.mod0 (E.then E_)) 0 _ rfl))) rfl rfl ?_
          refine tcg rfl ((Bool.eq_false_iff.2 hb32)) (fun w_ E_ => o_call ent18 rfl) (fun w_ E_ => g_in _ y.2 _ (Rep.anti (R_y.to0 (E.then E_)) (by simp)) x.1) rfl rfl ?_
          refine tvg rfl ((Bool.eq_false_iff.2 hb32)) (fun w_ E_ => (o_mv rfl)) rfl rfl ?_
          refine tvg rfl (decide_eq_true hs9_1) (fun w_ E_ => (o_mv rfl)) rfl rfl ?_
          refine tvg rfl (decide_eq_true hs9_1) (fun w_ E_ => (o_mv rfl)) rfl rfl ?_
          refine tvg rfl (decide_eq_true hs9_1) (fun w_ E_ => (o_mv rfl)) rfl rfl ?_
          refine tvg rfl (decide_eq_true hs9_1) (fun w_ E_ => ((o_ix sl30 rfl rfl (by omega)).to (v' := .pointer (some (a_x.add ((m.length - j + d) * 2)))) (by rw [show ((m.length - j + d : Nat) : Int).toNat = m.length - j + d from rfl]))) rfl rfl ?_
          refine tvg rfl (decide_eq_true hs9_1) (fun w_ E_ => (o_fad fd42_0 rfl)) rfl rfl ?_
          refine tvg rfl (decide_eq_true hs9_1) (fun w_ E_ => (o_ld sc9 rfl ((hcs_y.mod0 E_) 0 _ rfl))) rfl rfl ?_
          refine tcg rfl (decide_eq_true hs9_1) (fun w_ E_ => o_call ent18 rfl) (fun w_ E_ => g_in _ (pastR m ids j) _ (Rep.anti (RPk.to0 (Ek.then E_)) (by simp)) y.1) rfl rfl ?_
          refine tvg rfl ((Bool.eq_false_iff.2 hb32)) (fun w_ E_ => (o_pickT (decide_eq_true hs9_1) rfl rfl)) rfl rfl ?_
          refine tv (fun w_ E_ => (o_pickF ((Bool.eq_false_iff.2 hb32)) rfl rfl)) rfl rfl ?_
          refine tv (fun w_ E_ => (o_as rfl)) rfl rfl ?_
          refine tw_nil rfl fun w5 E_ => ?_
          replace E := E.then E_
          replace Ek := Ek.then E_
          refine e_in (by simp) ?_
          refine e_K (hK13 _ _ _ _ ?_)
          refine c_region ?_
          refine sv (o_mv rfl) rfl ?_
          refine sv ((o_addN rfl rfl (by omega)).to (v' := .int .i64 ((m.length - j + (d + 1) : Nat) : Int)) (by first | rfl | (congr 1; omega))) rfl ?_
          refine sv (o_as rfl) rfl ?_
          refine l_nil ?_
          exact e_round (σ := Nat × Bool) (s := ⟨d, b⟩) (⟨d + 1, decide (y.1 ∈ pastR m ids j)⟩) ⟨rfl, rfl, rfl, rfl, rfl, rfl, trivial⟩ ⟨by omega, any_snocM hb (Bool.eq_false_iff.2 hb32) hdy hs9_1, RPk.to0 Ek, E⟩ (by dsimp only; omega)
        · skip
          refine c_draw wide (by kernel_rfl) ?_
          refine tv (fun w_ E_ => (o_mv rfl)) rfl rfl ?_
          refine tv (fun w_ E_ => (o_mv rfl)) rfl rfl ?_
          refine tvg rfl ((Bool.eq_false_iff.2 hb32)) (fun w_ E_ => (o_mv rfl)) rfl rfl ?_
          refine tvg rfl ((Bool.eq_false_iff.2 hb32)) (fun w_ E_ => (o_mv rfl)) rfl rfl ?_
          refine tvg rfl ((Bool.eq_false_iff.2 hb32)) (fun w_ E_ => ((o_ix sl30 rfl rfl (by omega)).to (v' := .pointer (some (a_x.add ((m.length - j + d) * 2)))) (by rw [show ((m.length - j + d : Nat) : Int).toNat = m.length - j + d from rfl]))) rfl rfl ?_
          refine tvg rfl ((Bool.eq_false_iff.2 hb32)) (fun w_ E_ => (o_fad fd42_1 rfl)) rfl rfl ?_
          refine tvg rfl ((Bool.eq_false_iff.2 hb32)) (fun w_ E_ => (o_ld sc23 rfl ((hcs_y.mod0 E_) 1 _ rfl))) rfl rfl ?_
          refine tvg rfl ((Bool.eq_false_iff.2 hb32)) (fun w_ E_ => (o_mv rfl)) rfl rfl ?_
          refine tvg rfl ((Bool.eq_false_iff.2 hb32)) (fun w_ E_ => (o_mv rfl)) rfl rfl ?_
          refine tvg rfl ((Bool.eq_false_iff.2 hb32)) (fun w_ E_ => ((o_ix sl30 rfl rfl (by omega)).to (v' := .pointer (some (a_x.add ((m.length - 1 - j) * 2)))) (by rw [show ((m.length : Int) - 1 - j).toNat = (m.length - 1 - j) by omega]))) rfl rfl ?_
          refine tvg rfl ((Bool.eq_false_iff.2 hb32)) (fun w_ E_ => (o_fad fd42_0 rfl)) rfl rfl ?_
          refine tvg rfl ((Bool.eq_false_iff.2 hb32)) (fun w_ E_ => (o_ld sc9 rfl ((cs0_x.mod0 (E.then E_)) 0 _ rfl))) rfl rfl ?_
          refine tcg rfl ((Bool.eq_false_iff.2 hb32)) (fun w_ E_ => o_call ent18 rfl) (fun w_ E_ => g_in _ y.2 _ (Rep.anti (R_y.to0 (E.then E_)) (by simp)) x.1) rfl rfl ?_
          refine tvg rfl ((Bool.eq_false_iff.2 hb32)) (fun w_ E_ => (o_mv rfl)) rfl rfl ?_
          refine tn rfl (fun e_ => absurd ((decide_eq_false hs9_1).symm.trans e_) (by decide)) rfl ?_
          refine tn rfl (fun e_ => absurd ((decide_eq_false hs9_1).symm.trans e_) (by decide)) rfl ?_
          refine tn rfl (fun e_ => absurd ((decide_eq_false hs9_1).symm.trans e_) (by decide)) rfl ?_
          refine tn rfl (fun e_ => absurd ((decide_eq_false hs9_1).symm.trans e_) (by decide)) rfl ?_
          refine tn rfl (fun e_ => absurd ((decide_eq_false hs9_1).symm.trans e_) (by decide)) rfl ?_
          refine tn rfl (fun e_ => absurd ((decide_eq_false hs9_1).symm.trans e_) (by decide)) rfl ?_
          refine tn rfl (fun e_ => absurd ((decide_eq_false hs9_1).symm.trans e_) (by decide)) rfl ?_
          refine tvg rfl ((Bool.eq_false_iff.2 hb32)) (fun w_ E_ => (o_pickF (decide_eq_false hs9_1) rfl rfl)) rfl rfl ?_
          refine tv (fun w_ E_ => (o_pickF ((Bool.eq_false_iff.2 hb32)) rfl rfl)) rfl rfl ?_
          refine tv (fun w_ E_ => (o_as rfl)) rfl rfl ?_
          refine tw_nil rfl fun w6 E_ => ?_
          replace E := E.then E_
          replace Ek := Ek.then E_
          refine e_in (by simp) ?_
          refine e_K (hK13 _ _ _ _ ?_)
          refine c_region ?_
          refine sv (o_mv rfl) rfl ?_
          refine sv ((o_addN rfl rfl (by omega)).to (v' := .int .i64 ((m.length - j + (d + 1) : Nat) : Int)) (by first | rfl | (congr 1; omega))) rfl ?_
          refine sv (o_as rfl) rfl ?_
          refine l_nil ?_
          exact e_round (σ := Nat × Bool) (s := ⟨d, b⟩) (⟨d + 1, false⟩) ⟨rfl, rfl, rfl, rfl, rfl, rfl, trivial⟩ ⟨by omega, any_snocF hb (Bool.eq_false_iff.2 hb32) hdy hs9_1, RPk.to0 Ek, E⟩ (by dsimp only; omega)
    · skip
      have hd2 : j = d := by omega
      subst hd2
      rw [List.take_of_length_le (by simp; omega)] at hb
      refine c_exit ?_
      refine e_then (by simp) ?_
      refine e_then (by simp) ?_
      refine e_hit ?_
      refine e_K (hK9 _ _ _ _ ?_)
      refine c_seq fun K14 hK14 => ?_
      refine c_region ?_
      refine sv (o_mv rfl) rfl ?_
      refine l_nil ?_
      refine e_K (hK14 _ _ _ _ ?_)
      refine c_cond rfl (fun h54 => ?_) (fun h54 => ?_)
      · skip
        have hP : isP (m.drop (m.length - j)) ids (pastR m ids j) x.1 = true := by rw [isP, ← hb, h54]
        refine c_region ?_
        refine sv (o_mv rfl) rfl ?_
        refine sv (o_mv rfl) rfl ?_
        refine sv (o_mv rfl) rfl ?_
        refine sv ((o_ix sl30 rfl rfl (by omega)).to (v' := .pointer (some (a_x.add ((m.length - 1 - j) * 2)))) (by rw [show ((m.length : Int) - 1 - j).toNat = (m.length - 1 - j) by omega])) rfl ?_
        refine sv (o_fad fd42_0 rfl) rfl ?_
        refine sv (o_ld sc9 rfl ((cs0_x.mod0 E) 0 _ rfl)) rfl ?_
        refine sc (o_call ent28 rfl) (g_with A _ (pastR m ids j) _ (RPk.to0 Ek) x.1 (by have := pastR_len m ids j; omega) (fun x hx => Nat.lt_of_lt_of_le (hA x hx) E.size)) rfl fun v_ w7 h_ => ?_
        obtain ⟨RW, E_⟩ := h_
        replace E := E.then E_
        replace Ek := Ek.then E_
        refine sv (o_as rfl) rfl ?_
        refine l_nil ?_
        refine e_in (by simp) ?_
        refine e_K (hK7 _ _ _ _ ?_)
        refine c_region ?_
        refine sv (o_mv rfl) rfl ?_
        refine sv ((o_subN rfl rfl (by omega)).to (v' := .int .i64 ((m.length : Int) - 1 - ((j + 1 : Nat) : Int))) (by first | rfl | (congr 1; omega))) rfl ?_
        refine sv (o_as rfl) rfl ?_
        refine l_nil ?_
        exact e_round (σ := Nat × Value) (s := ⟨j, v⟩) (⟨j + 1, v_⟩) ⟨rfl, rfl, rfl, rfl, trivial⟩ ⟨by omega, by rw [pastR_yes hx_x hlt hP]; exact RW, E⟩ (by dsimp only; omega)
      · skip
        have hP : isP (m.drop (m.length - j)) ids (pastR m ids j) x.1 = false := by rw [isP, ← hb, h54]
        refine c_skip ?_
        refine e_in (by simp) ?_
        refine e_K (hK7 _ _ _ _ ?_)
        refine c_region ?_
        refine sv (o_mv rfl) rfl ?_
        refine sv ((o_subN rfl rfl (by omega)).to (v' := .int .i64 ((m.length : Int) - 1 - ((j + 1 : Nat) : Int))) (by first | rfl | (congr 1; omega))) rfl ?_
        refine sv (o_as rfl) rfl ?_
        refine l_nil ?_
        exact e_round (σ := Nat × Value) (s := ⟨j, v⟩) (⟨j + 1, v⟩) ⟨rfl, rfl, rfl, rfl, trivial⟩ ⟨by omega, by rw [pastR_no hx_x hlt hP]; exact RPk.to0 Ek, E⟩ (by dsimp only; omega)
  · skip
    have hj2 : j = m.length := by omega
    subst hj2
    refine c_exit ?_
    refine e_then (by simp) ?_
    refine e_then (by simp) ?_
    refine e_hit ?_
    refine e_K (hK3 _ _ _ _ ?_)
    refine c_seq fun K15 hK15 => ?_
    refine c_region ?_
    refine sv (o_mv rfl) rfl ?_
    refine sv (o_as rfl) rfl ?_
    refine l_nil ?_
    refine e_K (hK15 _ _ _ _ ?_)
    refine c_ret ?_
    exact ret1 rfl rfl ⟨RP, E⟩
end Go.Proofs.Ythmohmpalbnjoaa.V
