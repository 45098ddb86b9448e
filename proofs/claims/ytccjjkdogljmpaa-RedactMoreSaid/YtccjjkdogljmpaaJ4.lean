/-
  A part of the proof: walks of functions, and the plain laws of what they compute. No condition of its own.
-/
import Derived.Test.YtccjjkdogljmpaaJ3
import Derived.Test.YtccjjkdogljmpaaU4
set_option linter.unusedVariables false
set_option linter.unusedSimpArgs false
set_option maxRecDepth 10000
namespace Go.Proofs.Ytccjjkdogljmpaa.V
open Go Go.Proofs
theorem ent45 : Ent Try.prog 45 := Ent.of Try.func45 (by kernel_rfl) (by kernel_rfl)
theorem pl38 : plB Try.prog 38 [(0, 1), (1, 1), (2, 1), (3, 1), (4, 1), (5, 1)] = true := by kernel_rfl
theorem c_jget (A : List Nat) (w0 w : World) (E0 : Mod [] w0 w) (v : JV) (us : List Value) (R : Reps A w0 v.D us) (k : Str) (ha : ascM v.map) (hn : v.map.length ≤ 1353245080310) : Calls Try.prog 35 [.agg us.toArray, S k].toArray w (Ret fun u w' => ∃ us', u = .tuple #[.agg us'.toArray, .bool (v.get k).isSome] ∧ Reps A w0 ((v.get k).getD JV.nul).D us' ∧ Mod [] w w') := by
  refine enter Try.func35 rfl rfl rfl (l := [(0, _), (1, _)]) ⟨rfl, rfl, trivial⟩ ?_
  have E := Mod.refl [] w
  obtain ⟨al, cl, am, cm, rfl, Rl, Rm⟩ := JV.cells_ R
  refine c_seq fun K1 hK1 => ?_
  refine c_region ?_
  refine s_box rfl rfl rfl fun g1 w1 N1 => ?_
  have Lg1_E := N1.le E
  replace E := E.then N1.mod
  have Bg1 := N1.blk
  refine s_alloc zv38 rfl fun g2 w2 N2 => ?_
  have Lg2_E := N2.le E
  have Dg1_g2 := N2.ne Bg1
  replace Bg1 := Bg1.mod0 N2.mod
  replace E := E.then N2.mod
  have Bg2 := N2.blk
  refine sv (o_as rfl) rfl ?_
  refine l_nil ?_
  refine e_K (hK1 _ _ _ _ ?_)
  refine c_seq fun K2 hK2 => ?_
  refine c_region ?_
  refine sv (o_fa0 fd38_5 rfl) rfl ?_
  refine sv (o_ld sc36 rfl (Bg1.cell rfl)) rfl ?_
  refine sv (o_mv rfl) rfl ?_
  refine sc (o_call ent45 rfl) (c_jfind _ v.map _ ((Rm.anti (by simp)).to0 (E0.then E)) k ha hn) rfl fun v_ w3 h_ => ?_
  obtain ⟨rfl, E_⟩ := h_
  replace Bg1 := Bg1.mod0 E_
  replace Bg2 := Bg2.mod0 E_
  replace E := E.then E_
  refine sv (o_mv rfl) rfl ?_
  refine sv (o_ext rfl rfl) rfl ?_
  refine sv (o_ext rfl rfl) rfl ?_
  refine sv (o_as rfl) rfl ?_
  refine sv (o_as rfl) rfl ?_
  refine l_nil ?_
  refine e_K (hK2 _ _ _ _ ?_)
  refine c_seq fun K3 hK3 => ?_
  refine c_seq fun K4 hK4 => ?_
  by_cases hs2_0 : v.kind ≠ 5
  · skip
    refine c_region ?_
    refine sv (o_fa0 fd38_0 rfl) rfl ?_
    refine sv (o_ld sc3 rfl (Bg1.cell rfl)) rfl ?_
    refine sv (o_neq rfl rfl) rfl ?_
    refine sv (o_mv rfl) rfl ?_
    refine sn rfl (fun e_ => absurd ((decide_eq_true hs2_0).symm.trans e_) (by decide)) rfl ?_
    refine sn rfl (fun e_ => absurd ((decide_eq_true hs2_0).symm.trans e_) (by decide)) rfl ?_
    refine sv (o_pickT (decide_eq_true hs2_0) rfl rfl) rfl ?_
    refine l_nil ?_
    refine e_K (hK4 _ _ _ _ ?_)
    refine c_true rfl ?_
    have hno : v.get k = none := by simp [JV.get, hs2_0]
    refine c_seq fun K5 hK5 => ?_
    refine c_region ?_
    refine sv (o_build (cs := [_, _, _, _, _, _]) pl38 zv38 rfl rfl) rfl ?_
    refine s_sta (vs := [_, _, _, _, _, _]) ag38 Bg2 rfl rfl rfl (by simp [Value.oneCell']) (by simp) fun w4 P4 => ?_
    replace Bg1 := Bg1.ne P4.mod (Ne.symm (Ne.symm Dg1_g2))
    replace E := E.own P4.mod Lg2_E
    replace Bg2 : Blk w4 g2 _ [_, _, _, _, _, _] := P4.blk
    refine sv (o_as rfl) rfl ?_
    refine l_nil ?_
    refine e_K (hK5 _ _ _ _ ?_)
    refine c_ret ?_
    refine e_then (by simp) ?_
    exact retct (vs := [_, _, _, _, _, _]) rfl ag38 rfl rfl (Bg2.cs rfl) rfl ⟨_, by rw [hno]; rfl, by rw [hno]; exact JV.nul_reps, E⟩
  · skip
    refine c_region ?_
    refine sv (o_fa0 fd38_0 rfl) rfl ?_
    refine sv (o_ld sc3 rfl (Bg1.cell rfl)) rfl ?_
    refine sv (o_neq rfl rfl) rfl ?_
    refine sv (o_mv rfl) rfl ?_
    refine sg rfl (decide_eq_false hs2_0) (o_mv rfl) rfl ?_
    refine sg rfl (decide_eq_false hs2_0) (o_not rfl) rfl ?_
    refine sv (o_pickF (decide_eq_false hs2_0) rfl rfl) rfl ?_
    refine l_nil ?_
    refine e_K (hK4 _ _ _ _ ?_)
    refine c_cond rfl (fun h21 => ?_) (fun h21 => ?_)
    · skip
      have hno : v.get k = none := by
        have h : look v.map k = none := by simpa using h21
        simp [JV.get, h]
      refine c_seq fun K6 hK6 => ?_
      refine c_region ?_
      refine sv (o_build (cs := [_, _, _, _, _, _]) pl38 zv38 rfl rfl) rfl ?_
      refine s_sta (vs := [_, _, _, _, _, _]) ag38 Bg2 rfl rfl rfl (by simp [Value.oneCell']) (by simp) fun w5 P5 => ?_
      replace Bg1 := Bg1.ne P5.mod (Ne.symm (Ne.symm Dg1_g2))
      replace E := E.own P5.mod Lg2_E
      replace Bg2 : Blk w5 g2 _ [_, _, _, _, _, _] := P5.blk
      refine sv (o_as rfl) rfl ?_
      refine l_nil ?_
      refine e_K (hK6 _ _ _ _ ?_)
      refine c_ret ?_
      refine e_then (by simp) ?_
      exact retct (vs := [_, _, _, _, _, _]) rfl ag38 rfl rfl (Bg2.cs rfl) rfl ⟨_, by rw [hno]; rfl, by rw [hno]; exact JV.nul_reps, E⟩
    · skip
      have hk5 : v.kind = 5 := Classical.byContradiction hs2_0
      obtain ⟨x, hx_x, hxk, hxl⟩ := isM_some ha (by simpa using h21)
      have hget : v.get k = some x.2 := by simp [JV.get, hk5, hxl]
      have hpl := (List.getElem?_eq_some_iff.1 hx_x).1
      obtain ⟨a_x, us_x, ha_x, R_x, hcs0_x⟩ := JV.at_m Rm hx_x
      obtain ⟨al_x, cl_x, am_x, cm_x, rfl, Rl_x, Rm_x⟩ := JV.cells_ R_x
      have hcs_x := hcs0_x.mod0 (E0.then E)
      obtain rfl := ha_x
      refine c_skip ?_
      refine e_K (hK3 _ _ _ _ ?_)
      refine c_seq fun K7 hK7 => ?_
      refine c_region ?_
      refine sv (o_fa0 fd38_5 rfl) rfl ?_
      refine sv (o_ld sc36 rfl (Bg1.cell rfl)) rfl ?_
      refine sv (o_mv rfl) rfl ?_
      refine sv (o_ix sl36 rfl rfl (by omega)) rfl ?_
      refine sv (o_fad fd49_1 rfl) rfl ?_
      refine sv (o_lda ag38 rfl rfl hcs_x.tail_) rfl ?_
      refine s_sta (vs := [_, _, _, _, _, _]) ag38 Bg2 rfl rfl rfl (by simp [Value.oneCell']) (by simp) fun w6 P6 => ?_
      replace Bg1 := Bg1.ne P6.mod (Ne.symm (Ne.symm Dg1_g2))
      replace E := E.own P6.mod Lg2_E
      replace Bg2 : Blk w6 g2 _ [_, _, _, _, _, _] := P6.blk
      refine sv (o_as rfl) rfl ?_
      refine l_nil ?_
      refine e_K (hK7 _ _ _ _ ?_)
      refine c_ret ?_
      exact retct (vs := [_, _, _, _, _, _]) rfl ag38 rfl rfl (Bg2.cs rfl) rfl ⟨_, by rw [hget]; rfl, by rw [hget]; exact R_x, E⟩

theorem c_jtable (A : List Nat) (w0 w : World) (v : JV) (us : List Value) (R : Reps A w0 v.D us) : Calls Try.prog 47 [.agg us.toArray].toArray w (Ret fun u w' => Rep A w0 (.sl 7 (v.tbl.map JV.Dp)) u ∧ Mod [] w w') := by
  refine enter Try.func47 rfl rfl rfl (l := [(0, _)]) ⟨rfl, trivial⟩ ?_
  have E := Mod.refl [] w
  obtain ⟨al, cl, am, cm, rfl, Rl, Rm⟩ := JV.cells_ R
  refine c_seq fun K1 hK1 => ?_
  refine c_region ?_
  refine s_box rfl rfl rfl fun g1 w1 N1 => ?_
  have Lg1_E := N1.le E
  replace E := E.then N1.mod
  have Bg1 := N1.blk
  refine sv (o_as rfl) rfl ?_
  refine l_nil ?_
  refine e_K (hK1 _ _ _ _ ?_)
  refine c_seq fun K2 hK2 => ?_
  refine c_seq fun K3 hK3 => ?_
  refine c_region ?_
  refine sv (o_fa0 fd38_0 rfl) rfl ?_
  refine sv (o_ld sc3 rfl (Bg1.cell rfl)) rfl ?_
  refine sv (o_neq rfl rfl) rfl ?_
  refine l_nil ?_
  refine e_K (hK3 _ _ _ _ ?_)
  refine c_if rfl (fun h5 => ?_) (fun h5 => ?_)
  · skip
    have ht : v.tbl = [] := by simp [JV.tbl, h5]
    refine c_seq fun K4 hK4 => ?_
    refine c_region ?_
    refine sv (o_as rfl) rfl ?_
    refine l_nil ?_
    refine e_K (hK4 _ _ _ _ ?_)
    refine c_ret ?_
    refine e_then (by simp) ?_
    exact ret1 rfl rfl ⟨by rw [ht]; exact Rep.sl_nil, E⟩
  · skip
    have ht : v.tbl = v.map := by simp [JV.tbl]; intro h; exact absurd h h5
    refine c_skip ?_
    refine e_K (hK2 _ _ _ _ ?_)
    refine c_seq fun K5 hK5 => ?_
    refine c_region ?_
    refine sv (o_fa0 fd38_5 rfl) rfl ?_
    refine sv (o_ld sc36 rfl (Bg1.cell rfl)) rfl ?_
    refine sv (o_as rfl) rfl ?_
    refine l_nil ?_
    refine e_K (hK5 _ _ _ _ ?_)
    refine c_ret ?_
    exact ret1 rfl rfl ⟨by rw [ht]; exact Rm, E⟩

theorem c_jfindR (A : List Nat) (w0 w : World) (E0 : Mod [] w0 w) (m : List (Str × JV)) (v : Value) (R : Rep A w0 (.sl 7 (m.map JV.Dp)) v) (k : Str) : Calls Try.prog 37 [v, S k].toArray w (Ret fun u w' => ∃ us', u = .tuple #[.agg us'.toArray, .bool (look m k).isSome] ∧ Reps A w0 ((look m k).getD JV.nul).D us' ∧ Mod [] w w') := by
  refine enter Try.func37 rfl rfl rfl (l := [(0, _), (1, _)]) ⟨rfl, rfl, trivial⟩ ?_
  have E := Mod.refl [] w
  obtain ⟨ad, c, rfl, hc1, hc2⟩ : ∃ ad c, v = .slice ad m.length c ∧ m.length ≤ c ∧ c ≤ 9223372036854775807 := by
    obtain ⟨ad, c, h1, h2, h3⟩ := R.sl_
    rw [List.length_map] at h1 h2
    exact ⟨ad, c, h1, h2, h3⟩
  refine c_seq fun K1 hK1 => ?_
  refine c_region ?_
  refine s_alloc zv38 rfl fun g1 w1 N1 => ?_
  have Lg1_E := N1.le E
  replace E := E.then N1.mod
  have Bg1 := N1.blk
  refine sv (o_as rfl) rfl ?_
  refine l_nil ?_
  refine e_K (hK1 _ _ _ _ ?_)
  refine c_seq fun K2 hK2 => ?_
  refine c_seq fun K3 hK3 => ?_
  refine c_region ?_
  refine sv (o_mv rfl) rfl ?_
  refine sv (o_len Try.underlying36 rfl) rfl ?_
  refine sv (o_mv rfl) rfl ?_
  refine l_nil ?_
  refine e_K (hK3 _ _ _ _ ?_)
  refine c_block ?_
  refine c_loop (σ := Nat) (fun i => [(1, S k), (4, .pointer (some ⟨g1, 0, none⟩)), (5, .bool false), (8, .slice ad m.length c), (9, .int .i64 m.length), (10, .int .i64 (i : Int))]) (fun i w1 => i ≤ m.length ∧ (∀ (j : Nat) (y : Str × JV), j < i → m[j]? = some y → y.1 ≠ k) ∧ Blk w1 g1 38 [.int .i64 0, .bool false, .int .i64 0, S [], .slice none 0 0, .slice none 0 0] ∧ w.heap.size ≤ g1 ∧ Mod [] w w1) (fun i => m.length - i) (0) ⟨rfl, rfl, rfl, rfl, rfl, rfl, trivial⟩ (⟨by omega, fun j y h => by omega, Bg1, Lg1_E, E⟩) ?_
  rintro i w2 ⟨hi, hA, Bg1, Lg1_E, E⟩
  refine c_seq fun K4 hK4 => ?_
  refine c_region ?_
  refine sv (o_lss rfl rfl) rfl ?_
  refine l_nil ?_
  refine e_K (hK4 _ _ _ _ ?_)
  refine c_seq fun K5 hK5 => ?_
  refine c_if rfl (fun h11 => ?_) (fun h11 => ?_)
  · skip
    obtain ⟨x, hx_x⟩ : ∃ x, m[i]? = some x := ⟨_, List.getElem?_eq_getElem (by omega)⟩
    obtain ⟨a_x, us_x, ha_x, R_x, hcs0_x⟩ := JV.at_m R hx_x
    obtain ⟨al_x, cl_x, am_x, cm_x, rfl, Rl_x, Rm_x⟩ := JV.cells_ R_x
    have hcs_x := hcs0_x.mod0 (E0.then E)
    have hcap_x := JV.cap_m R
    obtain rfl := ha_x
    refine c_skip ?_
    refine e_K (hK5 _ _ _ _ ?_)
    refine c_seq fun K6 hK6 => ?_
    refine c_block ?_
    refine c_seq fun K7 hK7 => ?_
    refine c_region ?_
    refine sv (o_ix sl36 rfl rfl (by omega)) rfl ?_
    refine sv (o_lda ag49 rfl rfl hcs_x) rfl ?_
    refine s_alloc zv49 rfl fun g2 w3 N2 => ?_
    have Lg2_E := N2.le E
    have Dg1_g2 := N2.ne Bg1
    replace Bg1 := Bg1.mod0 N2.mod
    replace E := E.then N2.mod
    have Bg2 := N2.blk
    refine s_sta (vs := [_, _, _, _, _, _, _]) ag49 Bg2 rfl rfl rfl (by simp [Value.oneCell']) (by simp) fun w4 P4 => ?_
    replace Bg1 := Bg1.ne P4.mod (Ne.symm (Ne.symm Dg1_g2))
    replace E := E.own P4.mod Lg2_E
    replace Bg2 : Blk w4 g2 _ [_, _, _, _, _, _, _] := P4.blk
    refine l_nil ?_
    refine e_K (hK7 _ _ _ _ ?_)
    refine c_seq fun K8 hK8 => ?_
    refine c_region ?_
    refine sv (o_fa0 fd49_0 rfl) rfl ?_
    refine sv (o_ld sc9 rfl (Bg2.cell rfl)) rfl ?_
    refine sv (o_mv rfl) rfl ?_
    refine sv (o_seq rfl rfl) rfl ?_
    refine l_nil ?_
    refine e_K (hK8 _ _ _ _ ?_)
    refine c_if rfl (fun h17 => ?_) (fun h17 => ?_)
    · skip
      have hlk : look m k = some x.2 := look_hit hA hx_x h17
      refine c_seq fun K9 hK9 => ?_
      refine c_region ?_
      refine sv (o_fa0 fd49_1 rfl) rfl ?_
      refine sv (o_lda (vs := [_, _, _, _, _, _]) ag38 rfl rfl (Bg2.cs rfl)) rfl ?_
      refine s_sta (vs := [_, _, _, _, _, _]) ag38 Bg1 rfl rfl rfl (by simp [Value.oneCell']) (by simp) fun w5 P5 => ?_
      replace Bg2 := Bg2.ne P5.mod (Ne.symm Dg1_g2)
      replace E := E.own P5.mod Lg1_E
      replace Bg1 : Blk w5 g1 _ [_, _, _, _, _, _] := P5.blk
      refine sv (o_as rfl) rfl ?_
      refine l_nil ?_
      refine e_K (hK9 _ _ _ _ ?_)
      refine c_ret ?_
      refine e_in (by simp) ?_
      refine e_then (by simp) ?_
      refine e_then (by simp) ?_
      refine e_in (by simp) ?_
      refine e_then (by simp) ?_
      exact retct (vs := [_, _, _, _, _, _]) rfl ag38 rfl rfl (Bg1.cs rfl) rfl ⟨_, by rw [hlk]; rfl, by rw [hlk]; exact R_x, E⟩
    · skip
      have hA2 : ∀ (j : Nat) (y : Str × JV), j < i + 1 → m[j]? = some y → y.1 ≠ k := fun j y hj hy => by
        rcases Nat.lt_succ_iff_lt_or_eq.1 hj with h | h
        · exact hA j y h hy
        · subst h; rw [hx_x] at hy; injection hy with hy; subst hy; exact h17
      refine c_skip ?_
      refine e_in (by simp) ?_
      refine e_K (hK6 _ _ _ _ ?_)
      refine c_region ?_
      refine sv (o_addN rfl rfl (by omega)) rfl ?_
      refine sv (o_mv rfl) rfl ?_
      refine l_nil ?_
      exact e_round (σ := Nat) (s := i) (i + 1) ⟨rfl, rfl, rfl, rfl, rfl, rfl, trivial⟩ ⟨by omega, hA2, Bg1, Lg1_E, E⟩ (by omega)
  · skip
    refine c_exit ?_
    refine e_then (by simp) ?_
    refine e_then (by simp) ?_
    refine e_hit ?_
    refine e_K (hK2 _ _ _ _ ?_)
    refine c_seq fun K10 hK10 => ?_
    refine c_region ?_
    refine sv (o_build (cs := [_, _, _, _, _, _]) pl38 zv38 rfl rfl) rfl ?_
    refine s_sta (vs := [_, _, _, _, _, _]) ag38 Bg1 rfl rfl rfl (by simp [Value.oneCell']) (by simp) fun w6 P6 => ?_
    replace E := E.own P6.mod Lg1_E
    replace Bg1 : Blk w6 g1 _ [_, _, _, _, _, _] := P6.blk
    refine sv (o_as rfl) rfl ?_
    refine l_nil ?_
    refine e_K (hK10 _ _ _ _ ?_)
    refine c_ret ?_
    exact retct (vs := [_, _, _, _, _, _]) rfl ag38 rfl rfl (Bg1.cs rfl) rfl ⟨_, by rw [look_none_of fun j y hy => hA j y (by have := (List.getElem?_eq_some_iff.1 hy).1; omega) hy]; rfl, by rw [look_none_of fun j y hy => hA j y (by have := (List.getElem?_eq_some_iff.1 hy).1; omega) hy]; exact JV.nul_reps, E⟩
end Go.Proofs.Ytccjjkdogljmpaa.V
