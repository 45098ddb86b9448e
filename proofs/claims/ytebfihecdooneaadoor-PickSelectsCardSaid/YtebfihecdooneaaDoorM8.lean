/-
  A part of the proof: walks of functions. No condition of its own.
-/
import Derived.Test.YtebfihecdooneaaDoorM7
import Derived.Test.YtebfihecdooneaaDoorM5
import Derived.Test.YtebfihecdooneaaDoorProg
set_option linter.unusedVariables false
set_option linter.unusedSimpArgs false
set_option maxRecDepth 10000
namespace Go.Proofs.YtebfihecdooneaaDoor.V
open Go Go.Proofs
theorem ent42 : Ent Tryd.prog 42 := Ent.of Tryd.func42 (by kernel_rfl) (by kernel_rfl)
theorem fd25_0 : fdB Tryd.prog 25 0 0 1 = true := by kernel_rfl
theorem pl25 : plB Tryd.prog 25 [(0, 1), (1, 1), (2, 1), (3, 1), (4, 1), (5, 1)] = true := by kernel_rfl
theorem c_jget (A : List Nat) (w0 w : World) (E0 : Mod [] w0 w) (v : JV) (us : List Value) (R : Reps A w0 v.D us) (k : Str) (ha : ascM v.map) (hn : v.map.length ≤ 1353245080310) : Calls Tryd.prog 34 [.agg us.toArray, S k].toArray w (Ret fun u w' => ∃ us', u = .tuple #[.agg us'.toArray, .bool (v.get k).isSome] ∧ Reps A w0 ((v.get k).getD JV.nul).D us' ∧ Mod [] w w') := by
  refine enter Tryd.func34 rfl rfl rfl (l := [(0, _), (1, _)]) ⟨rfl, rfl, trivial⟩ ?_
  have E := Mod.refl [] w
  obtain ⟨al, cl, am, cm, rfl, Rl, Rm⟩ := JV.cells_ R
  refine c_seq fun K1 hK1 => ?_
  refine c_region ?_
  refine s_box rfl rfl rfl fun g1 w1 N1 => ?_
  have Lg1_E := N1.le E
  replace E := E.then N1.mod
  have Bg1 := N1.blk
  refine s_alloc zv25 rfl fun g2 w2 N2 => ?_
  have Lg2_E := N2.le E
  have Dg1_g2 := N2.ne Bg1
  replace Bg1 := Bg1.mod0 N2.mod
  replace E := E.then N2.mod
  have Bg2 := N2.blk
  refine sv (o_as rfl) rfl ?_
  refine l_nil ?_
  refine e_K (hK1 _ _ _ _ ?_)
  refine c_seq fun K2 hK2 => ?_
  refine c_region ?_
  refine sv (o_fa0 fd25_5 rfl) rfl ?_
  refine sv (o_ld sc23 rfl (Bg1.cell rfl)) rfl ?_
  refine sv (o_mv rfl) rfl ?_
  refine sc (o_call ent42 rfl) (c_jfind _ v.map _ ((Rm.anti (by simp)).to0 (E0.then E)) k ha hn) rfl fun v_ w3 h_ => ?_
  obtain ⟨rfl, E_⟩ := h_
  replace Bg1 := Bg1.mod0 E_
  replace Bg2 := Bg2.mod0 E_
  replace E := E.then E_
  refine sv (o_mv rfl) rfl ?_
  refine sv (o_ext rfl rfl) rfl ?_
  refine sv (o_ext rfl rfl) rfl ?_
  refine sv (o_as rfl) rfl ?_
  refine sv (o_as rfl) rfl ?_
  refine l_nil ?_
  refine e_K (hK2 _ _ _ _ ?_)
  refine c_seq fun K3 hK3 => ?_
  refine c_seq fun K4 hK4 => ?_
  by_cases hs2_0 : v.kind ≠ 5
  · skip
    refine c_region ?_
    refine sv (o_fa0 fd25_0 rfl) rfl ?_
    refine sv (o_ld sc3 rfl (Bg1.cell rfl)) rfl ?_
    refine sv (o_neq rfl rfl) rfl ?_
    refine sv (o_mv rfl) rfl ?_
    refine sn rfl (fun e_ => absurd ((decide_eq_true hs2_0).symm.trans e_) (by decide)) rfl ?_
    refine sn rfl (fun e_ => absurd ((decide_eq_true hs2_0).symm.trans e_) (by decide)) rfl ?_
    refine sv (o_pickT (decide_eq_true hs2_0) rfl rfl) rfl ?_
    refine l_nil ?_
    refine e_K (hK4 _ _ _ _ ?_)
    refine c_true rfl ?_
    have hno : v.get k = none := by simp [JV.get, hs2_0]
    refine c_seq fun K5 hK5 => ?_
    refine c_region ?_
    refine sv (o_build (cs := [_, _, _, _, _, _]) pl25 zv25 rfl rfl) rfl ?_
    refine s_sta (vs := [_, _, _, _, _, _]) ag25 Bg2 rfl rfl rfl (by simp [Value.oneCell']) (by simp) fun w4 P4 => ?_
    replace Bg1 := Bg1.ne P4.mod (Ne.symm (Ne.symm Dg1_g2))
    replace E := E.own P4.mod Lg2_E
    replace Bg2 : Blk w4 g2 _ [_, _, _, _, _, _] := P4.blk
    refine sv (o_as rfl) rfl ?_
    refine l_nil ?_
    refine e_K (hK5 _ _ _ _ ?_)
    refine c_ret ?_
    refine e_then (by simp) ?_
    exact retct (vs := [_, _, _, _, _, _]) rfl ag25 rfl rfl (Bg2.cs rfl) rfl ⟨_, by rw [hno]; rfl, by rw [hno]; exact JV.nul_reps, E⟩
  · skip
    refine c_region ?_
    refine sv (o_fa0 fd25_0 rfl) rfl ?_
    refine sv (o_ld sc3 rfl (Bg1.cell rfl)) rfl ?_
    refine sv (o_neq rfl rfl) rfl ?_
    refine sv (o_mv rfl) rfl ?_
    refine sg rfl (decide_eq_false hs2_0) (o_mv rfl) rfl ?_
    refine sg rfl (decide_eq_false hs2_0) (o_not rfl) rfl ?_
    refine sv (o_pickF (decide_eq_false hs2_0) rfl rfl) rfl ?_
    refine l_nil ?_
    refine e_K (hK4 _ _ _ _ ?_)
    refine c_cond rfl (fun h21 => ?_) (fun h21 => ?_)
    · skip
      have hno : v.get k = none := by
        have h : look v.map k = none := by simpa using h21
        simp [JV.get, h]
      refine c_seq fun K6 hK6 => ?_
      refine c_region ?_
      refine sv (o_build (cs := [_, _, _, _, _, _]) pl25 zv25 rfl rfl) rfl ?_
      refine s_sta (vs := [_, _, _, _, _, _]) ag25 Bg2 rfl rfl rfl (by simp [Value.oneCell']) (by simp) fun w5 P5 => ?_
      replace Bg1 := Bg1.ne P5.mod (Ne.symm (Ne.symm Dg1_g2))
      replace E := E.own P5.mod Lg2_E
      replace Bg2 : Blk w5 g2 _ [_, _, _, _, _, _] := P5.blk
      refine sv (o_as rfl) rfl ?_
      refine l_nil ?_
      refine e_K (hK6 _ _ _ _ ?_)
      refine c_ret ?_
      refine e_then (by simp) ?_
      exact retct (vs := [_, _, _, _, _, _]) rfl ag25 rfl rfl (Bg2.cs rfl) rfl ⟨_, by rw [hno]; rfl, by rw [hno]; exact JV.nul_reps, E⟩
    · skip
      have hk5 : v.kind = 5 := Classical.byContradiction hs2_0
      obtain ⟨x, hx_x, hxk, hxl⟩ := isM_some ha (by simpa using h21)
      have hget : v.get k = some x.2 := by simp [JV.get, hk5, hxl]
      have hpl := (List.getElem?_eq_some_iff.1 hx_x).1
      obtain ⟨a_x, us_x, ha_x, R_x, hcs0_x⟩ := JV.at_m Rm hx_x
      obtain ⟨al_x, cl_x, am_x, cm_x, rfl, Rl_x, Rm_x⟩ := JV.cells_ R_x
      have hcs_x := hcs0_x.mod0 (E0.then E)
      obtain rfl := ha_x
      refine c_skip ?_
      refine e_K (hK3 _ _ _ _ ?_)
      refine c_seq fun K7 hK7 => ?_
      refine c_region ?_
      refine sv (o_fa0 fd25_5 rfl) rfl ?_
      refine sv (o_ld sc23 rfl (Bg1.cell rfl)) rfl ?_
      refine sv (o_mv rfl) rfl ?_
      refine sv (o_ix sl23 rfl rfl (by omega)) rfl ?_
      refine sv (o_fad fd72_1 rfl) rfl ?_
      refine sv (o_lda ag25 rfl rfl hcs_x.tail_) rfl ?_
      refine s_sta (vs := [_, _, _, _, _, _]) ag25 Bg2 rfl rfl rfl (by simp [Value.oneCell']) (by simp) fun w6 P6 => ?_
      replace Bg1 := Bg1.ne P6.mod (Ne.symm (Ne.symm Dg1_g2))
      replace E := E.own P6.mod Lg2_E
      replace Bg2 : Blk w6 g2 _ [_, _, _, _, _, _] := P6.blk
      refine sv (o_as rfl) rfl ?_
      refine l_nil ?_
      refine e_K (hK7 _ _ _ _ ?_)
      refine c_ret ?_
      exact retct (vs := [_, _, _, _, _, _]) rfl ag25 rfl rfl (Bg2.cs rfl) rfl ⟨_, by rw [hget]; rfl, by rw [hget]; exact R_x, E⟩

theorem c_jfindR (A : List Nat) (w0 w : World) (E0 : Mod [] w0 w) (m : List (Str × JV)) (v : Value) (R : Rep A w0 (.sl 7 (m.map JV.Dp)) v) (k : Str) : Calls Tryd.prog 24 [v, S k].toArray w (Ret fun u w' => ∃ us', u = .tuple #[.agg us'.toArray, .bool (look m k).isSome] ∧ Reps A w0 ((look m k).getD JV.nul).D us' ∧ Mod [] w w') := by
  refine enter Tryd.func24 rfl rfl rfl (l := [(0, _), (1, _)]) ⟨rfl, rfl, trivial⟩ ?_
  have E := Mod.refl [] w
  obtain ⟨ad, c, rfl, hc1, hc2⟩ : ∃ ad c, v = .slice ad m.length c ∧ m.length ≤ c ∧ c ≤ 9223372036854775807 := by
    obtain ⟨ad, c, h1, h2, h3⟩ := R.sl_
    rw [List.length_map] at h1 h2
    exact ⟨ad, c, h1, h2, h3⟩
  refine c_seq fun K1 hK1 => ?_
  refine c_region ?_
  refine s_alloc zv25 rfl fun g1 w1 N1 => ?_
  have Lg1_E := N1.le E
  replace E := E.then N1.mod
  have Bg1 := N1.blk
  refine sv (o_as rfl) rfl ?_
  refine l_nil ?_
  refine e_K (hK1 _ _ _ _ ?_)
  refine c_seq fun K2 hK2 => ?_
  refine c_seq fun K3 hK3 => ?_
  refine c_region ?_
  refine sv (o_mv rfl) rfl ?_
  refine sv (o_len Tryd.underlying23 rfl) rfl ?_
  refine sv (o_mv rfl) rfl ?_
  refine l_nil ?_
  refine e_K (hK3 _ _ _ _ ?_)
  refine c_block ?_
  refine c_loop (σ := Nat) (fun i => [(1, S k), (4, .pointer (some ⟨g1, 0, none⟩)), (5, .bool false), (8, .slice ad m.length c), (9, .int .i64 m.length), (10, .int .i64 (i : Int))]) (fun i w1 => i ≤ m.length ∧ (∀ (j : Nat) (y : Str × JV), j < i → m[j]? = some y → y.1 ≠ k) ∧ Blk w1 g1 25 [.int .i64 0, .bool false, .int .i64 0, S [], .slice none 0 0, .slice none 0 0] ∧ w.heap.size ≤ g1 ∧ Mod [] w w1) (fun i => m.length - i) (0) ⟨rfl, rfl, rfl, rfl, rfl, rfl, trivial⟩ (⟨by omega, fun j y h => by omega, Bg1, Lg1_E, E⟩) ?_
  rintro i w2 ⟨hi, hA, Bg1, Lg1_E, E⟩
  refine c_seq fun K4 hK4 => ?_
  refine c_region ?_
  refine sv (o_lss rfl rfl) rfl ?_
  refine l_nil ?_
  refine e_K (hK4 _ _ _ _ ?_)
  refine c_seq fun K5 hK5 => ?_
  refine c_if rfl (fun h11 => ?_) (fun h11 => ?_)
  · skip
    obtain ⟨x, hx_x⟩ : ∃ x, m[i]? = some x := ⟨_, List.getElem?_eq_getElem (by omega)⟩
    obtain ⟨a_x, us_x, ha_x, R_x, hcs0_x⟩ := JV.at_m R hx_x
    obtain ⟨al_x, cl_x, am_x, cm_x, rfl, Rl_x, Rm_x⟩ := JV.cells_ R_x
    have hcs_x := hcs0_x.mod0 (E0.then E)
    have hcap_x := JV.cap_m R
    obtain rfl := ha_x
    refine c_skip ?_
    refine e_K (hK5 _ _ _ _ ?_)
    refine c_seq fun K6 hK6 => ?_
    refine c_block ?_
    refine c_seq fun K7 hK7 => ?_
    refine c_region ?_
    refine sv (o_ix sl23 rfl rfl (by omega)) rfl ?_
    refine sv (o_lda ag72 rfl rfl hcs_x) rfl ?_
    refine s_alloc zv72 rfl fun g2 w3 N2 => ?_
    have Lg2_E := N2.le E
    have Dg1_g2 := N2.ne Bg1
    replace Bg1 := Bg1.mod0 N2.mod
    replace E := E.then N2.mod
    have Bg2 := N2.blk
    refine s_sta (vs := [_, _, _, _, _, _, _]) ag72 Bg2 rfl rfl rfl (by simp [Value.oneCell']) (by simp) fun w4 P4 => ?_
    replace Bg1 := Bg1.ne P4.mod (Ne.symm (Ne.symm Dg1_g2))
    replace E := E.own P4.mod Lg2_E
    replace Bg2 : Blk w4 g2 _ [_, _, _, _, _, _, _] := P4.blk
    refine l_nil ?_
    refine e_K (hK7 _ _ _ _ ?_)
    refine c_seq fun K8 hK8 => ?_
    refine c_region ?_
    refine sv (o_fa0 fd72_0 rfl) rfl ?_
    refine sv (o_ld sc9 rfl (Bg2.cell rfl)) rfl ?_
    refine sv (o_mv rfl) rfl ?_
    refine sv (o_seq rfl rfl) rfl ?_
    refine l_nil ?_
    refine e_K (hK8 _ _ _ _ ?_)
    refine c_if rfl (fun h17 => ?_) (fun h17 => ?_)
    · skip
      have hlk : look m k = some x.2 := look_hit hA hx_x h17
      refine c_seq fun K9 hK9 => ?_
      refine c_region ?_
      refine sv (o_fa0 fd72_1 rfl) rfl ?_
      refine sv (o_lda (vs := [_, _, _, _, _, _]) ag25 rfl rfl (Bg2.cs rfl)) rfl ?_
      refine s_sta (vs := [_, _, _, _, _, _]) ag25 Bg1 rfl rfl rfl (by simp [Value.oneCell']) (by simp) fun w5 P5 => ?_
      replace Bg2 := Bg2.ne P5.mod (Ne.symm Dg1_g2)
      replace E := E.own P5.mod Lg1_E
      replace Bg1 : Blk w5 g1 _ [_, _, _, _, _, _] := P5.blk
      refine sv (o_as rfl) rfl ?_
      refine l_nil ?_
      refine e_K (hK9 _ _ _ _ ?_)
      refine c_ret ?_
      refine e_in (by simp) ?_
      refine e_then (by simp) ?_
      refine e_then (by simp) ?_
      refine e_in (by simp) ?_
      refine e_then (by simp) ?_
      exact retct (vs := [_, _, _, _, _, _]) rfl ag25 rfl rfl (Bg1.cs rfl) rfl ⟨_, by rw [hlk]; rfl, by rw [hlk]; exact R_x, E⟩
    · skip
      have hA2 : ∀ (j : Nat) (y : Str × JV), j < i + 1 → m[j]? = some y → y.1 ≠ k := fun j y hj hy => by
        rcases Nat.lt_succ_iff_lt_or_eq.1 hj with h | h
        · exact hA j y h hy
        · subst h; rw [hx_x] at hy; injection hy with hy; subst hy; exact h17
      refine c_skip ?_
      refine e_in (by simp) ?_
      refine e_K (hK6 _ _ _ _ ?_)
      refine c_region ?_
      refine sv (o_addN rfl rfl (by omega)) rfl ?_
      refine sv (o_mv rfl) rfl ?_
      refine l_nil ?_
      exact e_round (σ := Nat) (s := i) (i + 1) ⟨rfl, rfl, rfl, rfl, rfl, rfl, trivial⟩ ⟨by omega, hA2, Bg1, Lg1_E, E⟩ (by omega)
  · skip
    refine c_exit ?_
    refine e_then (by simp) ?_
    refine e_then (by simp) ?_
    refine e_hit ?_
    refine e_K (hK2 _ _ _ _ ?_)
    refine c_seq fun K10 hK10 => ?_
    refine c_region ?_
    refine sv (o_build (cs := [_, _, _, _, _, _]) pl25 zv25 rfl rfl) rfl ?_
    refine s_sta (vs := [_, _, _, _, _, _]) ag25 Bg1 rfl rfl rfl (by simp [Value.oneCell']) (by simp) fun w6 P6 => ?_
    replace E := E.own P6.mod Lg1_E
    replace Bg1 : Blk w6 g1 _ [_, _, _, _, _, _] := P6.blk
    refine sv (o_as rfl) rfl ?_
    refine l_nil ?_
    refine e_K (hK10 _ _ _ _ ?_)
    refine c_ret ?_
    exact retct (vs := [_, _, _, _, _, _]) rfl ag25 rfl rfl (Bg1.cs rfl) rfl ⟨_, by rw [look_none_of fun j y hy => hA j y (by have := (List.getElem?_eq_some_iff.1 hy).1; omega) hy]; rfl, by rw [look_none_of fun j y hy => hA j y (by have := (List.getElem?_eq_some_iff.1 hy).1; omega) hy]; exact JV.nul_reps, E⟩
end Go.Proofs.YtebfihecdooneaaDoor.V

set_option linter.unusedVariables false
set_option linter.unusedSimpArgs false
set_option maxRecDepth 10000
namespace Go.Proofs.YtebfihecdooneaaDoor.V
open Go Go.Proofs

theorem c_rune (w : World) (s : Str) : Calls Tryd.prog 79 [S s].toArray w (Ret fun u w' => u = .tuple #[.int .i64 ((runeR s).1 : Int), .int .i64 ((runeR s).2 : Int)] ∧ Mod [] w w') := by
  refine enter Tryd.func79 rfl rfl rfl (l := [(0, _)]) ⟨rfl, trivial⟩ ?_
  have E := Mod.refl [] w
  refine c_seq fun K1 hK1 => ?_
  refine c_region ?_
  refine sv (o_as rfl) rfl ?_
  refine sv (o_as rfl) rfl ?_
  refine l_nil ?_
  refine e_K (hK1 _ _ _ _ ?_)
  refine c_seq fun K2 hK2 => ?_
  refine c_seq fun K3 hK3 => ?_
  refine c_region ?_
  refine sv (o_mv rfl) rfl ?_
  refine sv (o_seq rfl rfl) rfl ?_
  refine l_nil ?_
  refine e_K (hK3 _ _ _ _ ?_)
  refine c_if rfl (fun h9 => ?_) (fun h9 => ?_)
  · skip
    have hs0 : s = [] := h9
    subst hs0
    have hR : runeR [] = (0, 0) := rfl
    refine c_seq fun K4 hK4 => ?_
    refine c_region ?_
    refine sv (o_as rfl) rfl ?_
    refine sv (o_as rfl) rfl ?_
    refine l_nil ?_
    refine e_K (hK4 _ _ _ _ ?_)
    refine c_ret ?_
    refine e_then (by simp) ?_
    exact ret2 rfl rfl rfl ⟨by rw [hR]; try rfl, E⟩
  · skip
    obtain ⟨b0, r, rfl⟩ : ∃ b0 r, s = b0 :: r := by
      cases s with
      | nil => exact absurd rfl h9
      | cons b0 r => exact ⟨b0, r, rfl⟩
    have hb0 := b0.toNat_lt
    have hlen : (b0 :: r).length = r.length + 1 := rfl
    refine c_skip ?_
    refine e_K (hK2 _ _ _ _ ?_)
    refine c_seq fun K5 hK5 => ?_
    refine c_region ?_
    refine sv (o_mv rfl) rfl ?_
    refine s_sidx (m := 0) Tryd.underlying9 rfl rfl (by omega) (by simp) rfl fun b0_ hb0_ => ?_
    obtain rfl : b0 = b0_ := by simpa using hb0_
    refine sv (o_convE (r := (b0.toNat : Int)) Tryd.underlying5 Tryd.underlying3 rfl (wrap64_in _ (by omega))) rfl ?_
    refine sv (o_as rfl) rfl ?_
    refine l_nil ?_
    refine e_K (hK5 _ _ _ _ ?_)
    refine c_seq fun K6 hK6 => ?_
    refine c_seq fun K7 hK7 => ?_
    refine c_region ?_
    refine sv (o_mv rfl) rfl ?_
    refine sv (o_lss rfl rfl) rfl ?_
    refine l_nil ?_
    refine e_K (hK7 _ _ _ _ ?_)
    refine c_if rfl (fun h14 => ?_) (fun h14 => ?_)
    · skip
      have hR := runeR_small (b0 := b0) (r := r) (by omega)
      refine c_seq fun K8 hK8 => ?_
      refine c_region ?_
      refine sv (o_mv rfl) rfl ?_
      refine sv (o_as rfl) rfl ?_
      refine sv (o_as rfl) rfl ?_
      refine l_nil ?_
      refine e_K (hK8 _ _ _ _ ?_)
      refine c_ret ?_
      refine e_then (by simp) ?_
      exact ret2 rfl rfl rfl ⟨by rw [hR]; try rfl, E⟩
    · skip
      have hge : ¬ b0.toNat < 128 := by omega
      refine c_skip ?_
      refine e_K (hK6 _ _ _ _ ?_)
      refine c_seq fun K9 hK9 => ?_
      refine c_region ?_
      refine sv (o_as rfl) rfl ?_
      refine l_nil ?_
      refine e_K (hK9 _ _ _ _ ?_)
      refine c_seq fun K10 hK10 => ?_
      refine c_region ?_
      refine sv (o_as rfl) rfl ?_
      refine l_nil ?_
      refine e_K (hK10 _ _ _ _ ?_)
      refine c_seq fun K11 hK11 => ?_
      have J11 : ∀ (n l c : Nat) (w1 : World), runeH b0.toNat = (n, l, c) ∧ (n = 0 ∨ c < 32 ∧ 2 ≤ n ∧ n ≤ 4) ∧ Mod [] w w1 → ∀ a, Has 91 [] [(0, S (b0 :: r)), (4, .int .i64 (c : Int)), (5, .int .i64 (n : Int)), (6, .int .i64 (l : Int))] a → K11 a w1 := by
        intro n l c w1 hI
        obtain ⟨hH, hn, E⟩ := hI
        refine hK11 _ _ _ _ ?_
        refine c_seq fun K12 hK12 => ?_
        refine c_seq fun K13 hK13 => ?_
        by_cases hs20_0 : (n : Int) = 0
        · skip
          refine c_region ?_
          refine sv (o_mv rfl) rfl ?_
          refine sv (o_eql rfl rfl) rfl ?_
          refine sv (o_mv rfl) rfl ?_
          refine sn rfl (fun e_ => absurd ((decide_eq_true hs20_0).symm.trans e_) (by decide)) rfl ?_
          refine sn rfl (fun e_ => absurd ((decide_eq_true hs20_0).symm.trans e_) (by decide)) rfl ?_
          refine sn rfl (fun e_ => absurd ((decide_eq_true hs20_0).symm.trans e_) (by decide)) rfl ?_
          refine sn rfl (fun e_ => absurd ((decide_eq_true hs20_0).symm.trans e_) (by decide)) rfl ?_
          refine sv (o_pickT (decide_eq_true hs20_0) rfl rfl) rfl ?_
          refine l_nil ?_
          refine e_K (hK13 _ _ _ _ ?_)
          refine c_true rfl ?_
          have hR := runeR_short (r := r) hge hH (.inl (by omega))
          refine c_seq fun K14 hK14 => ?_
          refine c_region ?_
          refine sv (o_as rfl) rfl ?_
          refine sv (o_as rfl) rfl ?_
          refine l_nil ?_
          refine e_K (hK14 _ _ _ _ ?_)
          refine c_ret ?_
          refine e_then (by simp) ?_
          exact ret2 rfl rfl rfl ⟨by rw [hR]; try rfl, E⟩
        · skip
          by_cases hs20_1 : ((b0 :: r).length : Int) < n
          · skip
            refine c_region ?_
            refine sv (o_mv rfl) rfl ?_
            refine sv (o_eql rfl rfl) rfl ?_
            refine sv (o_mv rfl) rfl ?_
            refine sg rfl (decide_eq_false hs20_0) (o_mv rfl) rfl ?_
            refine sg rfl (decide_eq_false hs20_0) (o_slen Tryd.underlying9 rfl) rfl ?_
            refine sg rfl (decide_eq_false hs20_0) (o_mv rfl) rfl ?_
            refine sg rfl (decide_eq_false hs20_0) (o_lss rfl rfl) rfl ?_
            refine sv (o_pickF (decide_eq_false hs20_0) rfl rfl) rfl ?_
            refine l_nil ?_
            refine e_K (hK13 _ _ _ _ ?_)
            refine c_if rfl (fun h50 => ?_) (fun h50 => absurd hs20_1 h50)
            have hR := runeR_short (r := r) hge hH (.inr (by omega))
            refine c_seq fun K15 hK15 => ?_
            refine c_region ?_
            refine sv (o_as rfl) rfl ?_
            refine sv (o_as rfl) rfl ?_
            refine l_nil ?_
            refine e_K (hK15 _ _ _ _ ?_)
            refine c_ret ?_
            refine e_then (by simp) ?_
            exact ret2 rfl rfl rfl ⟨by rw [hR]; try rfl, E⟩
          · skip
            refine c_region ?_
            refine sv (o_mv rfl) rfl ?_
            refine sv (o_eql rfl rfl) rfl ?_
            refine sv (o_mv rfl) rfl ?_
            refine sg rfl (decide_eq_false hs20_0) (o_mv rfl) rfl ?_
            refine sg rfl (decide_eq_false hs20_0) (o_slen Tryd.underlying9 rfl) rfl ?_
            refine sg rfl (decide_eq_false hs20_0) (o_mv rfl) rfl ?_
            refine sg rfl (decide_eq_false hs20_0) (o_lss rfl rfl) rfl ?_
            refine sv (o_pickF (decide_eq_false hs20_0) rfl rfl) rfl ?_
            refine l_nil ?_
            refine e_K (hK13 _ _ _ _ ?_)
            refine c_if rfl (fun h50 => absurd h50 hs20_1) (fun h50 => ?_)
            have hln : ¬ (n = 0 ∨ (b0 :: r).length < n) := by omega
            refine c_skip ?_
            refine e_K (hK12 _ _ _ _ ?_)
            refine c_seq fun K16 hK16 => ?_
            refine c_seq fun K17 hK17 => ?_
            refine c_region ?_
            refine sv (o_as rfl) rfl ?_
            refine l_nil ?_
            refine e_K (hK17 _ _ _ _ ?_)
            refine c_block ?_
            refine c_loop (σ := Nat × Nat) (fun ⟨i, d⟩ => [(0, S (b0 :: r)), (4, .int .i64 (d : Int)), (5, .int .i64 (n : Int)), (6, .int .i64 (l : Int)), (7, .int .i64 (i : Int))]) (fun ⟨i, d⟩ w1 => 1 ≤ i ∧ i ≤ n ∧ runeC ((r.take (n - 1)).drop (i - 1)) d = runeC (r.take (n - 1)) c ∧ ((i = 1 ∧ d < 64) ∨ (i = 2 ∧ d < 4096) ∨ (i = 3 ∧ d < 262144) ∨ (i = 4 ∧ d < 16777216)) ∧ Mod [] w w1) (fun ⟨i, d⟩ => n - i) (⟨1, c⟩) ⟨rfl, rfl, rfl, rfl, rfl, trivial⟩ (⟨by omega, by omega, rfl, by omega, E⟩) ?_
            rintro ⟨i, d⟩ w2 ⟨hi1, hi, hC, hd, E⟩
            refine c_seq fun K18 hK18 => ?_
            refine c_seq fun K19 hK19 => ?_
            refine c_region ?_
            refine sv (o_mv rfl) rfl ?_
            refine sv (o_mv rfl) rfl ?_
            refine sv (o_lss rfl rfl) rfl ?_
            refine l_nil ?_
            refine e_K (hK19 _ _ _ _ ?_)
            refine c_if rfl (fun h53 => ?_) (fun h53 => ?_)
            · skip
              obtain ⟨b1, hb1⟩ : ∃ b1, (b0 :: r)[i]? = some b1 := ⟨_, List.getElem?_eq_getElem (by omega)⟩
              have hb1r : (r.take (n - 1))[i - 1]? = some b1 := by
                rw [List.getElem?_take, if_pos (by omega)]
                rw [← hb1]
                obtain ⟨j, rfl⟩ : ∃ j, i = j + 1 := ⟨i - 1, by omega⟩
                simp
              have hb1l := b1.toNat_lt
              refine c_skip ?_
              refine e_K (hK18 _ _ _ _ ?_)
              refine c_seq fun K20 hK20 => ?_
              refine c_block ?_
              refine c_seq fun K21 hK21 => ?_
              refine c_seq fun K22 hK22 => ?_
              by_cases hs25_0 : (b1.toNat : Int) < 128
              · skip
                refine c_region ?_
                refine sv (o_mv rfl) rfl ?_
                refine sv (o_mv rfl) rfl ?_
                refine s_sidx (m := i) Tryd.underlying9 rfl rfl (by omega) (by simp; omega) rfl fun b1_ hb1_ => ?_
                obtain rfl : b1 = b1_ := by rw [Int.toNat_natCast, hb1] at hb1_; injection hb1_
                refine sv (o_lss rfl rfl) rfl ?_
                refine sv (o_mv rfl) rfl ?_
                refine sn rfl (fun e_ => absurd ((decide_eq_true hs25_0).symm.trans e_) (by decide)) rfl ?_
                refine sn rfl (fun e_ => absurd ((decide_eq_true hs25_0).symm.trans e_) (by decide)) rfl ?_
                refine sn rfl (fun e_ => absurd ((decide_eq_true hs25_0).symm.trans e_) (by decide)) rfl ?_
                refine sn rfl (fun e_ => absurd ((decide_eq_true hs25_0).symm.trans e_) (by decide)) rfl ?_
                refine sv (o_pickT (decide_eq_true hs25_0) rfl rfl) rfl ?_
                refine l_nil ?_
                refine e_K (hK22 _ _ _ _ ?_)
                refine c_true rfl ?_
                have hR := runeR_none hge hH hln (by rw [← hC]; exact runeC_no hb1r (.inl (by omega)))
                refine c_seq fun K23 hK23 => ?_
                refine c_region ?_
                refine sv (o_as rfl) rfl ?_
                refine sv (o_as rfl) rfl ?_
                refine l_nil ?_
                refine e_K (hK23 _ _ _ _ ?_)
                refine c_ret ?_
                refine e_then (by simp) ?_
                refine e_in (by simp) ?_
                refine e_then (by simp) ?_
                refine e_then (by simp) ?_
                refine e_in (by simp) ?_
                refine e_then (by simp) ?_
                exact ret2 rfl rfl rfl ⟨by rw [hR]; try rfl, E⟩
              · skip
                by_cases hs25_1 : (b1.toNat : Int) ≥ 192
                · skip
                  refine c_region ?_
                  refine sv (o_mv rfl) rfl ?_
                  refine sv (o_mv rfl) rfl ?_
                  refine s_sidx (m := i) Tryd.underlying9 rfl rfl (by omega) (by simp; omega) rfl fun b1_ hb1_ => ?_
                  obtain rfl : b1 = b1_ := by rw [Int.toNat_natCast, hb1] at hb1_; injection hb1_
                  refine sv (o_lss rfl rfl) rfl ?_
                  refine sv (o_mv rfl) rfl ?_
                  refine sg rfl (decide_eq_false hs25_0) (o_mv rfl) rfl ?_
                  refine sg rfl (decide_eq_false hs25_0) (o_mv rfl) rfl ?_
                  refine sg rfl (decide_eq_false hs25_0) (o_sidx Tryd.underlying9 rfl rfl (by omega) (by rw [Int.toNat_natCast]; exact hb1)) rfl ?_
                  refine sg rfl (decide_eq_false hs25_0) (o_geq rfl rfl) rfl ?_
                  refine sv (o_pickF (decide_eq_false hs25_0) rfl rfl) rfl ?_
                  refine l_nil ?_
                  refine e_K (hK22 _ _ _ _ ?_)
                  refine c_if rfl (fun h65 => ?_) (fun h65 => absurd hs25_1 h65)
                  have hR := runeR_none hge hH hln (by rw [← hC]; exact runeC_no hb1r (.inr (by omega)))
                  refine c_seq fun K24 hK24 => ?_
                  refine c_region ?_
                  refine sv (o_as rfl) rfl ?_
                  refine sv (o_as rfl) rfl ?_
                  refine l_nil ?_
                  refine e_K (hK24 _ _ _ _ ?_)
                  refine c_ret ?_
                  refine e_then (by simp) ?_
                  refine e_in (by simp) ?_
                  refine e_then (by simp) ?_
                  refine e_then (by simp) ?_
                  refine e_in (by simp) ?_
                  refine e_then (by simp) ?_
                  exact ret2 rfl rfl rfl ⟨by rw [hR]; try rfl, E⟩
                · skip
                  refine c_region ?_
                  refine sv (o_mv rfl) rfl ?_
                  refine sv (o_mv rfl) rfl ?_
                  refine s_sidx (m := i) Tryd.underlying9 rfl rfl (by omega) (by simp; omega) rfl fun b1_ hb1_ => ?_
                  obtain rfl : b1 = b1_ := by rw [Int.toNat_natCast, hb1] at hb1_; injection hb1_
                  refine sv (o_lss rfl rfl) rfl ?_
                  refine sv (o_mv rfl) rfl ?_
                  refine sg rfl (decide_eq_false hs25_0) (o_mv rfl) rfl ?_
                  refine sg rfl (decide_eq_false hs25_0) (o_mv rfl) rfl ?_
                  refine sg rfl (decide_eq_false hs25_0) (o_sidx Tryd.underlying9 rfl rfl (by omega) (by rw [Int.toNat_natCast]; exact hb1)) rfl ?_
                  refine sg rfl (decide_eq_false hs25_0) (o_geq rfl rfl) rfl ?_
                  refine sv (o_pickF (decide_eq_false hs25_0) rfl rfl) rfl ?_
                  refine l_nil ?_
                  refine e_K (hK22 _ _ _ _ ?_)
                  refine c_if rfl (fun h65 => absurd h65 hs25_1) (fun h65 => ?_)
                  have hst := runeC_go (d := d) hb1r (by omega)
                  rw [show i - 1 + 1 = i by omega] at hst
                  refine c_skip ?_
                  refine e_K (hK21 _ _ _ _ ?_)
                  refine c_region ?_
                  refine sv (o_mv rfl) rfl ?_
                  refine sv (o_mulE (r := ((d * 64 : Nat) : Int)) rfl rfl (by rw [wrap64_in _ (by omega)]; omega)) rfl ?_
                  refine sv (o_mv rfl) rfl ?_
                  refine sv (o_mv rfl) rfl ?_
                  refine sv (o_sidx Tryd.underlying9 rfl rfl (by omega) (by rw [Int.toNat_natCast]; exact hb1)) rfl ?_
                  refine sv (o_convE (r := (b1.toNat : Int)) Tryd.underlying5 Tryd.underlying3 rfl (wrap64_in _ (by omega))) rfl ?_
                  refine sv ((o_remN rfl rfl (by omega)).to (v' := .int .i64 ((b1.toNat % 64 : Nat) : Int)) (by rw [Int.natCast_emod]; try rfl)) rfl ?_
                  refine sv (o_addE (r := ((d * 64 + b1.toNat % 64 : Nat) : Int)) rfl rfl (by rw [wrap64_in _ (by omega)]; omega)) rfl ?_
                  refine sv (o_as rfl) rfl ?_
                  refine l_nil ?_
                  refine e_in (by simp) ?_
                  refine e_K (hK20 _ _ _ _ ?_)
                  refine c_region ?_
                  refine sv (o_mv rfl) rfl ?_
                  refine sv (o_addN rfl rfl (by omega)) rfl ?_
                  refine sv (o_as rfl) rfl ?_
                  refine l_nil ?_
                  exact e_round (σ := Nat × Nat) (s := ⟨i, d⟩) (⟨i + 1, d * 64 + b1.toNat % 64⟩) ⟨rfl, rfl, rfl, rfl, rfl, trivial⟩ ⟨by omega, by omega, by rw [show i + 1 - 1 = i by omega, ← hst]; exact hC, by omega, E⟩ (by dsimp only; omega)
            · skip
              have hend : runeC (r.take (n - 1)) c = some d := by rw [← hC, List.drop_eq_nil_of_le (by rw [List.length_take]; omega)]; rfl
              refine c_exit ?_
              refine e_then (by simp) ?_
              refine e_then (by simp) ?_
              refine e_hit ?_
              refine e_K (hK16 _ _ _ _ ?_)
              refine c_seq fun K25 hK25 => ?_
              refine c_seq fun K26 hK26 => ?_
              by_cases hs28_0 : (d : Int) < l
              · skip
                refine c_region ?_
                refine sv (o_mv rfl) rfl ?_
                refine sv (o_mv rfl) rfl ?_
                refine sv (o_lss rfl rfl) rfl ?_
                refine sv (o_mv rfl) rfl ?_
                refine sn rfl (fun e_ => absurd ((decide_eq_true hs28_0).symm.trans e_) (by decide)) rfl ?_
                refine sn rfl (fun e_ => absurd ((decide_eq_true hs28_0).symm.trans e_) (by decide)) rfl ?_
                refine sv (o_pickT (decide_eq_true hs28_0) rfl rfl) rfl ?_
                refine sv (o_mv rfl) rfl ?_
                refine sn rfl (fun e_ => absurd ((rfl).symm.trans e_) (by decide)) rfl ?_
                refine sn rfl (fun e_ => absurd ((rfl).symm.trans e_) (by decide)) rfl ?_
                refine sn rfl (fun e_ => absurd ((rfl).symm.trans e_) (by decide)) rfl ?_
                refine snu rfl rfl rfl ?_
                refine snu rfl rfl rfl ?_
                refine sn rfl (fun e_ => absurd ((rfl).symm.trans e_) (by decide)) rfl ?_
                refine sv (o_pickT (rfl) rfl rfl) rfl ?_
                refine l_nil ?_
                refine e_K (hK26 _ _ _ _ ?_)
                refine c_true rfl ?_
                have hR := runeR_bad hge hH hln hend (by omega)
                refine c_seq fun K27 hK27 => ?_
                refine c_region ?_
                refine sv (o_as rfl) rfl ?_
                refine sv (o_as rfl) rfl ?_
                refine l_nil ?_
                refine e_K (hK27 _ _ _ _ ?_)
                refine c_ret ?_
                refine e_then (by simp) ?_
                exact ret2 rfl rfl rfl ⟨by rw [hR]; try rfl, E⟩
              · skip
                by_cases hs28_1 : (d : Int) > 1114111
                · skip
                  refine c_region ?_
                  refine sv (o_mv rfl) rfl ?_
                  refine sv (o_mv rfl) rfl ?_
                  refine sv (o_lss rfl rfl) rfl ?_
                  refine sv (o_mv rfl) rfl ?_
                  refine sg rfl (decide_eq_false hs28_0) (o_mv rfl) rfl ?_
                  refine sg rfl (decide_eq_false hs28_0) (o_gtr rfl rfl) rfl ?_
                  refine sv (o_pickF (decide_eq_false hs28_0) rfl rfl) rfl ?_
                  refine sv (o_mv rfl) rfl ?_
                  refine sn rfl (fun e_ => absurd ((decide_eq_true hs28_1).symm.trans e_) (by decide)) rfl ?_
                  refine sn rfl (fun e_ => absurd ((decide_eq_true hs28_1).symm.trans e_) (by decide)) rfl ?_
                  refine sn rfl (fun e_ => absurd ((decide_eq_true hs28_1).symm.trans e_) (by decide)) rfl ?_
                  refine snu rfl rfl rfl ?_
                  refine snu rfl rfl rfl ?_
                  refine sn rfl (fun e_ => absurd ((decide_eq_true hs28_1).symm.trans e_) (by decide)) rfl ?_
                  refine sv (o_pickT (decide_eq_true hs28_1) rfl rfl) rfl ?_
                  refine l_nil ?_
                  refine e_K (hK26 _ _ _ _ ?_)
                  refine c_true rfl ?_
                  have hR := runeR_bad hge hH hln hend (by omega)
                  refine c_seq fun K28 hK28 => ?_
                  refine c_region ?_
                  refine sv (o_as rfl) rfl ?_
                  refine sv (o_as rfl) rfl ?_
                  refine l_nil ?_
                  refine e_K (hK28 _ _ _ _ ?_)
                  refine c_ret ?_
                  refine e_then (by simp) ?_
                  exact ret2 rfl rfl rfl ⟨by rw [hR]; try rfl, E⟩
                · skip
                  by_cases hs28_2 : (d : Int) ≥ 55296
                  · skip
                    refine c_region ?_
                    refine sv (o_mv rfl) rfl ?_
                    refine sv (o_mv rfl) rfl ?_
                    refine sv (o_lss rfl rfl) rfl ?_
                    refine sv (o_mv rfl) rfl ?_
                    refine sg rfl (decide_eq_false hs28_0) (o_mv rfl) rfl ?_
                    refine sg rfl (decide_eq_false hs28_0) (o_gtr rfl rfl) rfl ?_
                    refine sv (o_pickF (decide_eq_false hs28_0) rfl rfl) rfl ?_
                    refine sv (o_mv rfl) rfl ?_
                    refine sg rfl (decide_eq_false hs28_1) (o_mv rfl) rfl ?_
                    refine sg rfl (decide_eq_false hs28_1) (o_geq rfl rfl) rfl ?_
                    refine sg rfl (decide_eq_false hs28_1) (o_mv rfl) rfl ?_
                    refine sg rfl (decide_eq_true hs28_2) (o_mv rfl) rfl ?_
                    refine sg rfl (decide_eq_true hs28_2) (o_leq rfl rfl) rfl ?_
                    refine sg rfl (decide_eq_false hs28_1) (o_pickT (decide_eq_true hs28_2) rfl rfl) rfl ?_
                    refine sv (o_pickF (decide_eq_false hs28_1) rfl rfl) rfl ?_
                    refine l_nil ?_
                    refine e_K (hK26 _ _ _ _ ?_)
                    refine c_if rfl (fun h88 => ?_) (fun h88 => ?_)
                    · skip
                      have hR := runeR_bad hge hH hln hend (by omega)
                      refine c_seq fun K29 hK29 => ?_
                      refine c_region ?_
                      refine sv (o_as rfl) rfl ?_
                      refine sv (o_as rfl) rfl ?_
                      refine l_nil ?_
                      refine e_K (hK29 _ _ _ _ ?_)
                      refine c_ret ?_
                      refine e_then (by simp) ?_
                      exact ret2 rfl rfl rfl ⟨by rw [hR]; try rfl, E⟩
                    · skip
                      have hR := runeR_good hge hH hln hend (by omega)
                      refine c_skip ?_
                      refine e_K (hK25 _ _ _ _ ?_)
                      refine c_seq fun K30 hK30 => ?_
                      refine c_region ?_
                      refine sv (o_mv rfl) rfl ?_
                      refine sv (o_mv rfl) rfl ?_
                      refine sv (o_as rfl) rfl ?_
                      refine sv (o_as rfl) rfl ?_
                      refine l_nil ?_
                      refine e_K (hK30 _ _ _ _ ?_)
                      refine c_ret ?_
                      exact ret2 rfl rfl rfl ⟨by rw [hR]; try rfl, E⟩
                  · skip
                    refine c_region ?_
                    refine sv (o_mv rfl) rfl ?_
                    refine sv (o_mv rfl) rfl ?_
                    refine sv (o_lss rfl rfl) rfl ?_
                    refine sv (o_mv rfl) rfl ?_
                    refine sg rfl (decide_eq_false hs28_0) (o_mv rfl) rfl ?_
                    refine sg rfl (decide_eq_false hs28_0) (o_gtr rfl rfl) rfl ?_
                    refine sv (o_pickF (decide_eq_false hs28_0) rfl rfl) rfl ?_
                    refine sv (o_mv rfl) rfl ?_
                    refine sg rfl (decide_eq_false hs28_1) (o_mv rfl) rfl ?_
                    refine sg rfl (decide_eq_false hs28_1) (o_geq rfl rfl) rfl ?_
                    refine sg rfl (decide_eq_false hs28_1) (o_mv rfl) rfl ?_
                    refine sn rfl (fun e_ => absurd ((decide_eq_false hs28_2).symm.trans e_) (by decide)) rfl ?_
                    refine sn rfl (fun e_ => absurd ((decide_eq_false hs28_2).symm.trans e_) (by decide)) rfl ?_
                    refine sg rfl (decide_eq_false hs28_1) (o_pickF (decide_eq_false hs28_2) rfl rfl) rfl ?_
                    refine sv (o_pickF (decide_eq_false hs28_1) rfl rfl) rfl ?_
                    refine l_nil ?_
                    refine e_K (hK26 _ _ _ _ ?_)
                    refine c_false rfl ?_
                    have hR := runeR_good hge hH hln hend (by omega)
                    refine c_skip ?_
                    refine e_K (hK25 _ _ _ _ ?_)
                    refine c_seq fun K31 hK31 => ?_
                    refine c_region ?_
                    refine sv (o_mv rfl) rfl ?_
                    refine sv (o_mv rfl) rfl ?_
                    refine sv (o_as rfl) rfl ?_
                    refine sv (o_as rfl) rfl ?_
                    refine l_nil ?_
                    refine e_K (hK31 _ _ _ _ ?_)
                    refine c_ret ?_
                    exact ret2 rfl rfl rfl ⟨by rw [hR]; try rfl, E⟩
      refine c_block ?_
      refine c_seq fun K32 hK32 => ?_
      by_cases hs8_0 : (b0.toNat : Int) ≥ 192
      · skip
        by_cases hs8_1 : (b0.toNat : Int) < 224
        · skip
          refine c_region ?_
          refine sv (o_mv rfl) rfl ?_
          refine sv (o_geq rfl rfl) rfl ?_
          refine sv (o_mv rfl) rfl ?_
          refine sg rfl (decide_eq_true hs8_0) (o_mv rfl) rfl ?_
          refine sg rfl (decide_eq_true hs8_0) (o_lss rfl rfl) rfl ?_
          refine sv (o_pickT (decide_eq_true hs8_0) rfl rfl) rfl ?_
          refine sv (o_as rfl) rfl ?_
          refine l_nil ?_
          refine e_K (hK32 _ _ _ _ ?_)
          refine c_if rfl (fun h16 => ?_) (fun h16 => absurd hs8_1 h16)
          refine c_seq fun K33 hK33 => ?_
          refine c_region ?_
          refine sv (o_as rfl) rfl ?_
          refine l_nil ?_
          refine e_K (hK33 _ _ _ _ ?_)
          refine c_seq fun K34 hK34 => ?_
          refine c_region ?_
          refine sv (o_as rfl) rfl ?_
          refine l_nil ?_
          refine e_K (hK34 _ _ _ _ ?_)
          refine c_region ?_
          refine sv (o_mv rfl) rfl ?_
          refine sv ((o_remN rfl rfl (by omega)).to (v' := .int .i64 ((b0.toNat % 32 : Nat) : Int)) (by rw [Int.natCast_emod]; try rfl)) rfl ?_
          refine sv (o_as rfl) rfl ?_
          refine l_nil ?_
          refine e_in (by simp) ?_
          refine WE.sub (l' := [(0, _), (4, _), (5, _), (6, _)]) ⟨rfl, rfl, rfl, rfl, trivial⟩ (e_K (J11 2 128 (b0.toNat % 32) w ⟨by unfold runeH; rw [if_pos (by omega)], by omega, E⟩))
        · skip
          refine c_region ?_
          refine sv (o_mv rfl) rfl ?_
          refine sv (o_geq rfl rfl) rfl ?_
          refine sv (o_mv rfl) rfl ?_
          refine sg rfl (decide_eq_true hs8_0) (o_mv rfl) rfl ?_
          refine sg rfl (decide_eq_true hs8_0) (o_lss rfl rfl) rfl ?_
          refine sv (o_pickT (decide_eq_true hs8_0) rfl rfl) rfl ?_
          refine sv (o_as rfl) rfl ?_
          refine l_nil ?_
          refine e_K (hK32 _ _ _ _ ?_)
          refine c_if rfl (fun h16 => absurd h16 hs8_1) (fun h16 => ?_)
          refine c_seq fun K35 hK35 => ?_
          by_cases hs12_0 : (b0.toNat : Int) ≥ 224
          · skip
            by_cases hs12_1 : (b0.toNat : Int) < 240
            · skip
              refine c_region ?_
              refine sv (o_mv rfl) rfl ?_
              refine sv (o_geq rfl rfl) rfl ?_
              refine sv (o_mv rfl) rfl ?_
              refine sg rfl (decide_eq_true hs12_0) (o_mv rfl) rfl ?_
              refine sg rfl (decide_eq_true hs12_0) (o_lss rfl rfl) rfl ?_
              refine sv (o_pickT (decide_eq_true hs12_0) rfl rfl) rfl ?_
              refine sv (o_as rfl) rfl ?_
              refine l_nil ?_
              refine e_K (hK35 _ _ _ _ ?_)
              refine c_if rfl (fun h25 => ?_) (fun h25 => absurd hs12_1 h25)
              refine c_seq fun K36 hK36 => ?_
              refine c_region ?_
              refine sv (o_as rfl) rfl ?_
              refine l_nil ?_
              refine e_K (hK36 _ _ _ _ ?_)
              refine c_seq fun K37 hK37 => ?_
              refine c_region ?_
              refine sv (o_as rfl) rfl ?_
              refine l_nil ?_
              refine e_K (hK37 _ _ _ _ ?_)
              refine c_region ?_
              refine sv (o_mv rfl) rfl ?_
              refine sv ((o_remN rfl rfl (by omega)).to (v' := .int .i64 ((b0.toNat % 16 : Nat) : Int)) (by rw [Int.natCast_emod]; try rfl)) rfl ?_
              refine sv (o_as rfl) rfl ?_
              refine l_nil ?_
              refine e_in (by simp) ?_
              refine WE.sub (l' := [(0, _), (4, _), (5, _), (6, _)]) ⟨rfl, rfl, rfl, rfl, trivial⟩ (e_K (J11 3 2048 (b0.toNat % 16) w ⟨by unfold runeH; rw [if_neg (by omega), if_pos (by omega)], by omega, E⟩))
            · skip
              refine c_region ?_
              refine sv (o_mv rfl) rfl ?_
              refine sv (o_geq rfl rfl) rfl ?_
              refine sv (o_mv rfl) rfl ?_
              refine sg rfl (decide_eq_true hs12_0) (o_mv rfl) rfl ?_
              refine sg rfl (decide_eq_true hs12_0) (o_lss rfl rfl) rfl ?_
              refine sv (o_pickT (decide_eq_true hs12_0) rfl rfl) rfl ?_
              refine sv (o_as rfl) rfl ?_
              refine l_nil ?_
              refine e_K (hK35 _ _ _ _ ?_)
              refine c_if rfl (fun h25 => absurd h25 hs12_1) (fun h25 => ?_)
              refine c_seq fun K38 hK38 => ?_
              by_cases hs16_0 : (b0.toNat : Int) ≥ 240
              · skip
                by_cases hs16_1 : (b0.toNat : Int) < 248
                · skip
                  refine c_region ?_
                  refine sv (o_mv rfl) rfl ?_
                  refine sv (o_geq rfl rfl) rfl ?_
                  refine sv (o_mv rfl) rfl ?_
                  refine sg rfl (decide_eq_true hs16_0) (o_mv rfl) rfl ?_
                  refine sg rfl (decide_eq_true hs16_0) (o_lss rfl rfl) rfl ?_
                  refine sv (o_pickT (decide_eq_true hs16_0) rfl rfl) rfl ?_
                  refine sv (o_as rfl) rfl ?_
                  refine l_nil ?_
                  refine e_K (hK38 _ _ _ _ ?_)
                  refine c_if rfl (fun h34 => ?_) (fun h34 => absurd hs16_1 h34)
                  refine c_seq fun K39 hK39 => ?_
                  refine c_region ?_
                  refine sv (o_as rfl) rfl ?_
                  refine l_nil ?_
                  refine e_K (hK39 _ _ _ _ ?_)
                  refine c_seq fun K40 hK40 => ?_
                  refine c_region ?_
                  refine sv (o_as rfl) rfl ?_
                  refine l_nil ?_
                  refine e_K (hK40 _ _ _ _ ?_)
                  refine c_region ?_
                  refine sv (o_mv rfl) rfl ?_
                  refine sv ((o_remN rfl rfl (by omega)).to (v' := .int .i64 ((b0.toNat % 8 : Nat) : Int)) (by rw [Int.natCast_emod]; try rfl)) rfl ?_
                  refine sv (o_as rfl) rfl ?_
                  refine l_nil ?_
                  refine e_in (by simp) ?_
                  refine WE.sub (l' := [(0, _), (4, _), (5, _), (6, _)]) ⟨rfl, rfl, rfl, rfl, trivial⟩ (e_K (J11 4 65536 (b0.toNat % 8) w ⟨by unfold runeH; rw [if_neg (by omega), if_neg (by omega), if_pos (by omega)], by omega, E⟩))
                · skip
                  refine c_region ?_
                  refine sv (o_mv rfl) rfl ?_
                  refine sv (o_geq rfl rfl) rfl ?_
                  refine sv (o_mv rfl) rfl ?_
                  refine sg rfl (decide_eq_true hs16_0) (o_mv rfl) rfl ?_
                  refine sg rfl (decide_eq_true hs16_0) (o_lss rfl rfl) rfl ?_
                  refine sv (o_pickT (decide_eq_true hs16_0) rfl rfl) rfl ?_
                  refine sv (o_as rfl) rfl ?_
                  refine l_nil ?_
                  refine e_K (hK38 _ _ _ _ ?_)
                  refine c_if rfl (fun h34 => absurd h34 hs16_1) (fun h34 => ?_)
                  refine c_skip ?_
                  refine e_in (by simp) ?_
                  refine WE.sub (l' := [(0, _), (4, _), (5, _), (6, _)]) ⟨rfl, rfl, rfl, rfl, trivial⟩ (e_K (J11 0 0 b0.toNat w ⟨by unfold runeH; rw [if_neg (by omega), if_neg (by omega), if_neg (by omega)], by omega, E⟩))
              · skip
                refine c_region ?_
                refine sv (o_mv rfl) rfl ?_
                refine sv (o_geq rfl rfl) rfl ?_
                refine sv (o_mv rfl) rfl ?_
                refine sn rfl (fun e_ => absurd ((decide_eq_false hs16_0).symm.trans e_) (by decide)) rfl ?_
                refine sn rfl (fun e_ => absurd ((decide_eq_false hs16_0).symm.trans e_) (by decide)) rfl ?_
                refine sv (o_pickF (decide_eq_false hs16_0) rfl rfl) rfl ?_
                refine sv (o_as rfl) rfl ?_
                refine l_nil ?_
                refine e_K (hK38 _ _ _ _ ?_)
                refine c_false rfl ?_
                refine c_skip ?_
                refine e_in (by simp) ?_
                refine WE.sub (l' := [(0, _), (4, _), (5, _), (6, _)]) ⟨rfl, rfl, rfl, rfl, trivial⟩ (e_K (J11 0 0 b0.toNat w ⟨by unfold runeH; rw [if_neg (by omega), if_neg (by omega), if_neg (by omega)], by omega, E⟩))
          · skip
            refine c_region ?_
            refine sv (o_mv rfl) rfl ?_
            refine sv (o_geq rfl rfl) rfl ?_
            refine sv (o_mv rfl) rfl ?_
            refine sn rfl (fun e_ => absurd ((decide_eq_false hs12_0).symm.trans e_) (by decide)) rfl ?_
            refine sn rfl (fun e_ => absurd ((decide_eq_false hs12_0).symm.trans e_) (by decide)) rfl ?_
            refine sv (o_pickF (decide_eq_false hs12_0) rfl rfl) rfl ?_
            refine sv (o_as rfl) rfl ?_
            refine l_nil ?_
            refine e_K (hK35 _ _ _ _ ?_)
            refine c_false rfl ?_
            refine c_seq fun K41 hK41 => ?_
            by_cases hs16_0 : (b0.toNat : Int) ≥ 240
            · skip
              by_cases hs16_1 : (b0.toNat : Int) < 248
              · skip
                refine c_region ?_
                refine sv (o_mv rfl) rfl ?_
                refine sv (o_geq rfl rfl) rfl ?_
                refine sv (o_mv rfl) rfl ?_
                refine sg rfl (decide_eq_true hs16_0) (o_mv rfl) rfl ?_
                refine sg rfl (decide_eq_true hs16_0) (o_lss rfl rfl) rfl ?_
                refine sv (o_pickT (decide_eq_true hs16_0) rfl rfl) rfl ?_
                refine sv (o_as rfl) rfl ?_
                refine l_nil ?_
                refine e_K (hK41 _ _ _ _ ?_)
                refine c_if rfl (fun h34 => ?_) (fun h34 => absurd hs16_1 h34)
                refine c_seq fun K42 hK42 => ?_
                refine c_region ?_
                refine sv (o_as rfl) rfl ?_
                refine l_nil ?_
                refine e_K (hK42 _ _ _ _ ?_)
                refine c_seq fun K43 hK43 => ?_
                refine c_region ?_
                refine sv (o_as rfl) rfl ?_
                refine l_nil ?_
                refine e_K (hK43 _ _ _ _ ?_)
                refine c_region ?_
                refine sv (o_mv rfl) rfl ?_
                refine sv ((o_remN rfl rfl (by omega)).to (v' := .int .i64 ((b0.toNat % 8 : Nat) : Int)) (by rw [Int.natCast_emod]; try rfl)) rfl ?_
                refine sv (o_as rfl) rfl ?_
                refine l_nil ?_
                refine e_in (by simp) ?_
                refine WE.sub (l' := [(0, _), (4, _), (5, _), (6, _)]) ⟨rfl, rfl, rfl, rfl, trivial⟩ (e_K (J11 4 65536 (b0.toNat % 8) w ⟨by unfold runeH; rw [if_neg (by omega), if_neg (by omega), if_pos (by omega)], by omega, E⟩))
              · skip
                refine c_region ?_
                refine sv (o_mv rfl) rfl ?_
                refine sv (o_geq rfl rfl) rfl ?_
                refine sv (o_mv rfl) rfl ?_
                refine sg rfl (decide_eq_true hs16_0) (o_mv rfl) rfl ?_
                refine sg rfl (decide_eq_true hs16_0) (o_lss rfl rfl) rfl ?_
                refine sv (o_pickT (decide_eq_true hs16_0) rfl rfl) rfl ?_
                refine sv (o_as rfl) rfl ?_
                refine l_nil ?_
                refine e_K (hK41 _ _ _ _ ?_)
                refine c_if rfl (fun h34 => absurd h34 hs16_1) (fun h34 => ?_)
                refine c_skip ?_
                refine e_in (by simp) ?_
                refine WE.sub (l' := [(0, _), (4, _), (5, _), (6, _)]) ⟨rfl, rfl, rfl, rfl, trivial⟩ (e_K (J11 0 0 b0.toNat w ⟨by unfold runeH; rw [if_neg (by omega), if_neg (by omega), if_neg (by omega)], by omega, E⟩))
            · skip
              refine c_region ?_
              refine sv (o_mv rfl) rfl ?_
              refine sv (o_geq rfl rfl) rfl ?_
              refine sv (o_mv rfl) rfl ?_
              refine sn rfl (fun e_ => absurd ((decide_eq_false hs16_0).symm.trans e_) (by decide)) rfl ?_
              refine sn rfl (fun e_ => absurd ((decide_eq_false hs16_0).symm.trans e_) (by decide)) rfl ?_
              refine sv (o_pickF (decide_eq_false hs16_0) rfl rfl) rfl ?_
              refine sv (o_as rfl) rfl ?_
              refine l_nil ?_
              refine e_K (hK41 _ _ _ _ ?_)
              refine c_false rfl ?_
              refine c_skip ?_
              refine e_in (by simp) ?_
              refine WE.sub (l' := [(0, _), (4, _), (5, _), (6, _)]) ⟨rfl, rfl, rfl, rfl, trivial⟩ (e_K (J11 0 0 b0.toNat w ⟨by unfold runeH; rw [if_neg (by omega), if_neg (by omega), if_neg (by omega)], by omega, E⟩))
      · skip
        refine c_region ?_
        refine sv (o_mv rfl) rfl ?_
        refine sv (o_geq rfl rfl) rfl ?_
        refine sv (o_mv rfl) rfl ?_
        refine sn rfl (fun e_ => absurd ((decide_eq_false hs8_0).symm.trans e_) (by decide)) rfl ?_
        refine sn rfl (fun e_ => absurd ((decide_eq_false hs8_0).symm.trans e_) (by decide)) rfl ?_
        refine sv (o_pickF (decide_eq_false hs8_0) rfl rfl) rfl ?_
        refine sv (o_as rfl) rfl ?_
        refine l_nil ?_
        refine e_K (hK32 _ _ _ _ ?_)
        refine c_false rfl ?_
        refine c_seq fun K44 hK44 => ?_
        by_cases hs12_0 : (b0.toNat : Int) ≥ 224
        · skip
          by_cases hs12_1 : (b0.toNat : Int) < 240
          · skip
            refine c_region ?_
            refine sv (o_mv rfl) rfl ?_
            refine sv (o_geq rfl rfl) rfl ?_
            refine sv (o_mv rfl) rfl ?_
            refine sg rfl (decide_eq_true hs12_0) (o_mv rfl) rfl ?_
            refine sg rfl (decide_eq_true hs12_0) (o_lss rfl rfl) rfl ?_
            refine sv (o_pickT (decide_eq_true hs12_0) rfl rfl) rfl ?_
            refine sv (o_as rfl) rfl ?_
            refine l_nil ?_
            refine e_K (hK44 _ _ _ _ ?_)
            refine c_if rfl (fun h25 => ?_) (fun h25 => absurd hs12_1 h25)
            refine c_seq fun K45 hK45 => ?_
            refine c_region ?_
            refine sv (o_as rfl) rfl ?_
            refine l_nil ?_
            refine e_K (hK45 _ _ _ _ ?_)
            refine c_seq fun K46 hK46 => ?_
            refine c_region ?_
            refine sv (o_as rfl) rfl ?_
            refine l_nil ?_
            refine e_K (hK46 _ _ _ _ ?_)
            refine c_region ?_
            refine sv (o_mv rfl) rfl ?_
            refine sv ((o_remN rfl rfl (by omega)).to (v' := .int .i64 ((b0.toNat % 16 : Nat) : Int)) (by rw [Int.natCast_emod]; try rfl)) rfl ?_
            refine sv (o_as rfl) rfl ?_
            refine l_nil ?_
            refine e_in (by simp) ?_
            refine WE.sub (l' := [(0, _), (4, _), (5, _), (6, _)]) ⟨rfl, rfl, rfl, rfl, trivial⟩ (e_K (J11 3 2048 (b0.toNat % 16) w ⟨by unfold runeH; rw [if_neg (by omega), if_pos (by omega)], by omega, E⟩))
          · skip
            refine c_region ?_
            refine sv (o_mv rfl) rfl ?_
            refine sv (o_geq rfl rfl) rfl ?_
            refine sv (o_mv rfl) rfl ?_
            refine sg rfl (decide_eq_true hs12_0) (o_mv rfl) rfl ?_
            refine sg rfl (decide_eq_true hs12_0) (o_lss rfl rfl) rfl ?_
            refine sv (o_pickT (decide_eq_true hs12_0) rfl rfl) rfl ?_
            refine sv (o_as rfl) rfl ?_
            refine l_nil ?_
            refine e_K (hK44 _ _ _ _ ?_)
            refine c_if rfl (fun h25 => absurd h25 hs12_1) (fun h25 => ?_)
            refine c_seq fun K47 hK47 => ?_
            by_cases hs16_0 : (b0.toNat : Int) ≥ 240
            · skip
              by_cases hs16_1 : (b0.toNat : Int) < 248
              · skip
                refine c_region ?_
                refine sv (o_mv rfl) rfl ?_
                refine sv (o_geq rfl rfl) rfl ?_
                refine sv (o_mv rfl) rfl ?_
                refine sg rfl (decide_eq_true hs16_0) (o_mv rfl) rfl ?_
                refine sg rfl (decide_eq_true hs16_0) (o_lss rfl rfl) rfl ?_
                refine sv (o_pickT (decide_eq_true hs16_0) rfl rfl) rfl ?_
                refine sv (o_as rfl) rfl ?_
                refine l_nil ?_
                refine e_K (hK47 _ _ _ _ ?_)
                refine c_if rfl (fun h34 => ?_) (fun h34 => absurd hs16_1 h34)
                refine c_seq fun K48 hK48 => ?_
                refine c_region ?_
                refine sv (o_as rfl) rfl ?_
                refine l_nil ?_
                refine e_K (hK48 _ _ _ _ ?_)
                refine c_seq fun K49 hK49 => ?_
                refine c_region ?_
                refine sv (o_as rfl) rfl ?_
                refine l_nil ?_
                refine e_K (hK49 _ _ _ _ ?_)
                refine c_region ?_
                refine sv (o_mv rfl) rfl ?_
                refine sv ((o_remN rfl rfl (by omega)).to (v' := .int .i64 ((b0.toNat % 8 : Nat) : Int)) (by rw [Int.natCast_emod]; try rfl)) rfl ?_
                refine sv (o_as rfl) rfl ?_
                refine l_nil ?_
                refine e_in (by simp) ?_
                refine WE.sub (l' := [(0, _), (4, _), (5, _), (6, _)]) ⟨rfl, rfl, rfl, rfl, trivial⟩ (e_K (J11 4 65536 (b0.toNat % 8) w ⟨by unfold runeH; rw [if_neg (by omega), if_neg (by omega), if_pos (by omega)], by omega, E⟩))
              · skip
                refine c_region ?_
                refine sv (o_mv rfl) rfl ?_
                refine sv (o_geq rfl rfl) rfl ?_
                refine sv (o_mv rfl) rfl ?_
                refine sg rfl (decide_eq_true hs16_0) (o_mv rfl) rfl ?_
                refine sg rfl (decide_eq_true hs16_0) (o_lss rfl rfl) rfl ?_
                refine sv (o_pickT (decide_eq_true hs16_0) rfl rfl) rfl ?_
                refine sv (o_as rfl) rfl ?_
                refine l_nil ?_
                refine e_K (hK47 _ _ _ _ ?_)
                refine c_if rfl (fun h34 => absurd h34 hs16_1) (fun h34 => ?_)
                refine c_skip ?_
                refine e_in (by simp) ?_
                refine WE.sub (l' := [(0, _), (4, _), (5, _), (6, _)]) ⟨rfl, rfl, rfl, rfl, trivial⟩ (e_K (J11 0 0 b0.toNat w ⟨by unfold runeH; rw [if_neg (by omega), if_neg (by omega), if_neg (by omega)], by omega, E⟩))
            · skip
              refine c_region ?_
              refine sv (o_mv rfl) rfl ?_
              refine sv (o_geq rfl rfl) rfl ?_
              refine sv (o_mv rfl) rfl ?_
              refine sn rfl (fun e_ => absurd ((decide_eq_false hs16_0).symm.trans e_) (by decide)) rfl ?_
              refine sn rfl (fun e_ => absurd ((decide_eq_false hs16_0).symm.trans e_) (by decide)) rfl ?_
              refine sv (o_pickF (decide_eq_false hs16_0) rfl rfl) rfl ?_
              refine sv (o_as rfl) rfl ?_
              refine l_nil ?_
              refine e_K (hK47 _ _ _ _ ?_)
              refine c_false rfl ?_
              refine c_skip ?_
              refine e_in (by simp) ?_
              refine WE.sub (l' := [(0, _), (4, _), (5, _), (6, _)]) ⟨rfl, rfl, rfl, rfl, trivial⟩ (e_K (J11 0 0 b0.toNat w ⟨by unfold runeH; rw [if_neg (by omega), if_neg (by omega), if_neg (by omega)], by omega, E⟩))
        · skip
          refine c_region ?_
          refine sv (o_mv rfl) rfl ?_
          refine sv (o_geq rfl rfl) rfl ?_
          refine sv (o_mv rfl) rfl ?_
          refine sn rfl (fun e_ => absurd ((decide_eq_false hs12_0).symm.trans e_) (by decide)) rfl ?_
          refine sn rfl (fun e_ => absurd ((decide_eq_false hs12_0).symm.trans e_) (by decide)) rfl ?_
          refine sv (o_pickF (decide_eq_false hs12_0) rfl rfl) rfl ?_
          refine sv (o_as rfl) rfl ?_
          refine l_nil ?_
          refine e_K (hK44 _ _ _ _ ?_)
          refine c_false rfl ?_
          refine c_seq fun K50 hK50 => ?_
          by_cases hs16_0 : (b0.toNat : Int) ≥ 240
          · skip
            by_cases hs16_1 : (b0.toNat : Int) < 248
            · skip
              refine c_region ?_
              refine sv (o_mv rfl) rfl ?_
              refine sv (o_geq rfl rfl) rfl ?_
              refine sv (o_mv rfl) rfl ?_
              refine sg rfl (decide_eq_true hs16_0) (o_mv rfl) rfl ?_
              refine sg rfl (decide_eq_true hs16_0) (o_lss rfl rfl) rfl ?_
              refine sv (o_pickT (decide_eq_true hs16_0) rfl rfl) rfl ?_
              refine sv (o_as rfl) rfl ?_
              refine l_nil ?_
              refine e_K (hK50 _ _ _ _ ?_)
              refine c_if rfl (fun h34 => ?_) (fun h34 => absurd hs16_1 h34)
              refine c_seq fun K51 hK51 => ?_
              refine c_region ?_
              refine sv (o_as rfl) rfl ?_
              refine l_nil ?_
              refine e_K (hK51 _ _ _ _ ?_)
              refine c_seq fun K52 hK52 => ?_
              refine c_region ?_
              refine sv (o_as rfl) rfl ?_
              refine l_nil ?_
              refine e_K (hK52 _ _ _ _ ?_)
              refine c_region ?_
              refine sv (o_mv rfl) rfl ?_
              refine sv ((o_remN rfl rfl (by omega)).to (v' := .int .i64 ((b0.toNat % 8 : Nat) : Int)) (by rw [Int.natCast_emod]; try rfl)) rfl ?_
              refine sv (o_as rfl) rfl ?_
              refine l_nil ?_
              refine e_in (by simp) ?_
              refine WE.sub (l' := [(0, _), (4, _), (5, _), (6, _)]) ⟨rfl, rfl, rfl, rfl, trivial⟩ (e_K (J11 4 65536 (b0.toNat % 8) w ⟨by unfold runeH; rw [if_neg (by omega), if_neg (by omega), if_pos (by omega)], by omega, E⟩))
            · skip
              refine c_region ?_
              refine sv (o_mv rfl) rfl ?_
              refine sv (o_geq rfl rfl) rfl ?_
              refine sv (o_mv rfl) rfl ?_
              refine sg rfl (decide_eq_true hs16_0) (o_mv rfl) rfl ?_
              refine sg rfl (decide_eq_true hs16_0) (o_lss rfl rfl) rfl ?_
              refine sv (o_pickT (decide_eq_true hs16_0) rfl rfl) rfl ?_
              refine sv (o_as rfl) rfl ?_
              refine l_nil ?_
              refine e_K (hK50 _ _ _ _ ?_)
              refine c_if rfl (fun h34 => absurd h34 hs16_1) (fun h34 => ?_)
              refine c_skip ?_
              refine e_in (by simp) ?_
              refine WE.sub (l' := [(0, _), (4, _), (5, _), (6, _)]) ⟨rfl, rfl, rfl, rfl, trivial⟩ (e_K (J11 0 0 b0.toNat w ⟨by unfold runeH; rw [if_neg (by omega), if_neg (by omega), if_neg (by omega)], by omega, E⟩))
          · skip
            refine c_region ?_
            refine sv (o_mv rfl) rfl ?_
            refine sv (o_geq rfl rfl) rfl ?_
            refine sv (o_mv rfl) rfl ?_
            refine sn rfl (fun e_ => absurd ((decide_eq_false hs16_0).symm.trans e_) (by decide)) rfl ?_
            refine sn rfl (fun e_ => absurd ((decide_eq_false hs16_0).symm.trans e_) (by decide)) rfl ?_
            refine sv (o_pickF (decide_eq_false hs16_0) rfl rfl) rfl ?_
            refine sv (o_as rfl) rfl ?_
            refine l_nil ?_
            refine e_K (hK50 _ _ _ _ ?_)
            refine c_false rfl ?_
            refine c_skip ?_
            refine e_in (by simp) ?_
            refine WE.sub (l' := [(0, _), (4, _), (5, _), (6, _)]) ⟨rfl, rfl, rfl, rfl, trivial⟩ (e_K (J11 0 0 b0.toNat w ⟨by unfold runeH; rw [if_neg (by omega), if_neg (by omega), if_neg (by omega)], by omega, E⟩))
end Go.Proofs.YtebfihecdooneaaDoor.V
