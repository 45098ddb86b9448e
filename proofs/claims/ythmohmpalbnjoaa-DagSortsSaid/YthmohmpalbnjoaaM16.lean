/-
  A part of the proof: guarded operations of a region that draws, of which something is known. No condition of its own.
-/
import Derived.Test.YthmohmpalbnjoaaM15
import Derived.Test.YthmohmpalbnjoaaM4
set_option linter.unusedVariables false
set_option linter.unusedSimpArgs false
set_option maxRecDepth 10000
namespace Go.Proofs.Ythmohmpalbnjoaa.V
open Go Go.Proofs
theorem sl22 : slB Try.prog 22 28 2 40 = true := by kernel_rfl
theorem ag28 : agB Try.prog 28 2 = true := by kernel_rfl
theorem zv28 : zvB Try.prog 28 ([S [], .slice none 0 0]) := by unfold zvB; kernel_rfl
theorem fd28_0 : fdB Try.prog 28 0 0 1 = true := by kernel_rfl
theorem fd28_1 : fdB Try.prog 28 1 1 1 = true := by kernel_rfl
theorem ent26 : Ent Try.prog 26 := Ent.of Try.func26 (by kernel_rfl) (by kernel_rfl)
theorem ent27 : Ent Try.prog 27 := Ent.of Try.func27 (by kernel_rfl) (by kernel_rfl)
theorem ent24 : Ent Try.prog 24 := Ent.of Try.func24 (by kernel_rfl) (by kernel_rfl)
theorem ent25 : Ent Try.prog 25 := Ent.of Try.func25 (by kernel_rfl) (by kernel_rfl)
theorem pl44 : plB Try.prog 44 [(0, 1), (1, 1), (2, 1)] = true := by kernel_rfl
theorem zv44 : zvB Try.prog 44 ([.int .i64 0, .int .i64 0, S []]) := by unfold zvB; kernel_rfl
theorem ent13 : Ent Try.prog 13 := Ent.of Try.func13 (by kernel_rfl) (by kernel_rfl)
theorem ent15 : Ent Try.prog 15 := Ent.of Try.func15 (by kernel_rfl) (by kernel_rfl)
theorem ent22 : Ent Try.prog 22 := Ent.of Try.func22 (by kernel_rfl) (by kernel_rfl)
theorem c_great (w : World) (cs : Gm) (v0 : Value) (R : Rep [] w (ndD cs) v0) (hC : CSm cs) : Calls Try.prog 11 [v0].toArray w (Ret fun u w' => u = .bool (greatC cs) ∧ Mod [] w w') := by
  refine enter Try.func11 rfl rfl rfl (l := [(0, _)]) ⟨rfl, trivial⟩ ?_
  have E := Mod.refl [] w
  obtain ⟨ad, c, rfl, hc1, hc2⟩ := ndD_len R
  have hCl := hC.len
  refine c_seq fun K1 hK1 => ?_
  refine c_region ?_
  refine sv (o_as rfl) rfl ?_
  refine l_nil ?_
  refine e_K (hK1 _ _ _ _ ?_)
  refine c_seq fun K2 hK2 => ?_
  refine c_region ?_
  refine sv (o_as rfl) rfl ?_
  refine l_nil ?_
  refine e_K (hK2 _ _ _ _ ?_)
  refine c_seq fun K3 hK3 => ?_
  refine c_seq fun K4 hK4 => ?_
  refine c_region ?_
  refine sv (o_mv rfl) rfl ?_
  refine sv (o_len Try.underlying22 rfl) rfl ?_
  refine sv (o_mv rfl) rfl ?_
  refine l_nil ?_
  refine e_K (hK4 _ _ _ _ ?_)
  refine c_block ?_
  refine c_loop (σ := Nat) (fun k => [(0, .slice ad cs.length c), (3, .int .i64 ((gw (cs.take k) : Nat) : Int)), (8, .slice ad cs.length c), (9, .int .i64 cs.length), (10, .int .i64 (k : Int))]) (fun k w1 => k ≤ cs.length ∧ gw (cs.take k) ≤ 4096 ∧ Mod [] w w1) (fun k => cs.length - k) (0) ⟨rfl, rfl, rfl, rfl, rfl, trivial⟩ (⟨by omega, by simp [gw], E⟩) ?_
  rintro k w1 ⟨hk, hg, E⟩
  refine c_seq fun K5 hK5 => ?_
  refine c_region ?_
  refine sv (o_lss rfl rfl) rfl ?_
  refine l_nil ?_
  refine e_K (hK5 _ _ _ _ ?_)
  refine c_seq fun K6 hK6 => ?_
  refine c_if rfl (fun h11 => ?_) (fun h11 => ?_)
  · skip
    have hlt : k < cs.length := by omega
    obtain ⟨x, hx_x⟩ : ∃ x, (cs)[k]? = some x := ⟨_, List.getElem?_eq_getElem (by omega)⟩
    obtain ⟨a_x, u_x, ha_x, hcs_x, R_x⟩ := ndD_at R hx_x
    replace hcs_x := hcs_x.mod0 E
    obtain rfl := ha_x
    obtain ⟨a1_x, c1_x, rfl, h1_x, h2_x⟩ := flat_len R_x
    obtain ⟨hs1, hs2, hs3⟩ := hC.one x (List.mem_of_getElem? hx_x)
    refine c_skip ?_
    refine e_K (hK6 _ _ _ _ ?_)
    refine c_seq fun K7 hK7 => ?_
    refine c_block ?_
    refine c_seq fun K8 hK8 => ?_
    refine c_region ?_
    refine sv (o_ix sl22 rfl rfl (by omega)) rfl ?_
    refine sv (o_lda ag28 rfl rfl hcs_x) rfl ?_
    refine s_alloc zv28 rfl fun g1 w2 N1 => ?_
    have Lg1_E := N1.le E
    replace E := E.then N1.mod
    have Bg1 := N1.blk
    refine s_sta (vs := [_, _]) ag28 Bg1 rfl rfl rfl (by simp [Value.oneCell']) (by simp) fun w3 P3 => ?_
    replace E := E.own P3.mod Lg1_E
    replace Bg1 : Blk w3 g1 _ [_, _] := P3.blk
    refine l_nil ?_
    refine e_K (hK8 _ _ _ _ ?_)
    refine c_seq fun K9 hK9 => ?_
    refine c_region ?_
    refine sv (o_mv rfl) rfl ?_
    refine sv (o_fa0 fd28_0 rfl) rfl ?_
    refine sv (o_ld sc9 rfl (Bg1.cell rfl)) rfl ?_
    refine sv (o_slen Try.underlying9 rfl) rfl ?_
    refine sv (o_addE (r := ((1 + x.1.length : Nat) : Int)) rfl rfl (by rw [wrap64_in _ (by omega)]; omega)) rfl ?_
    refine sv (o_fa0 fd28_1 rfl) rfl ?_
    refine sv (o_ld sc23 rfl (Bg1.cell rfl)) rfl ?_
    refine sv (o_len Try.underlying23 rfl) rfl ?_
    refine sv (o_addE (r := ((1 + x.1.length + x.2.length : Nat) : Int)) rfl rfl (by rw [wrap64_in _ (by omega)]; omega)) rfl ?_
    refine sv (o_addE (r := ((gw (cs.take k) + (1 + x.1.length + x.2.length) + lens (x.2.take 0) : Nat) : Int)) rfl rfl (by rw [wrap64_in _ (by omega)]; simp [lens] <;> omega)) rfl ?_
    refine sv (o_as rfl) rfl ?_
    refine l_nil ?_
    refine e_K (hK9 _ _ _ _ ?_)
    refine c_seq fun K10 hK10 => ?_
    refine c_seq fun K11 hK11 => ?_
    refine c_region ?_
    refine sv (o_fa0 fd28_1 rfl) rfl ?_
    refine sv (o_ld sc23 rfl (Bg1.cell rfl)) rfl ?_
    refine sv (o_len Try.underlying23 rfl) rfl ?_
    refine sv (o_mv rfl) rfl ?_
    refine l_nil ?_
    refine e_K (hK11 _ _ _ _ ?_)
    refine c_block ?_
    refine c_loop (σ := Nat) (fun j => [(0, .slice (some a_x) cs.length c), (3, .int .i64 ((gw (cs.take k) + (1 + x.1.length + x.2.length) + lens (x.2.take j) : Nat) : Int)), (8, .slice (some a_x) cs.length c), (9, .int .i64 cs.length), (10, .int .i64 (k : Int)), (25, .slice a1_x x.2.length c1_x), (26, .int .i64 x.2.length), (27, .int .i64 (j : Int))]) (fun j w1 => j ≤ x.2.length ∧ gw (cs.take k) + (1 + x.1.length + x.2.length) + lens (x.2.take j) ≤ 600000000000000 ∧ Mod [] w w1) (fun j => x.2.length - j) (0) ⟨rfl, rfl, rfl, rfl, rfl, rfl, rfl, rfl, trivial⟩ (⟨by omega, by simp [lens] <;> omega, E⟩) ?_
    rintro j w4 ⟨hj, hb, E⟩
    refine c_seq fun K12 hK12 => ?_
    refine c_region ?_
    refine sv (o_lss rfl rfl) rfl ?_
    refine l_nil ?_
    refine e_K (hK12 _ _ _ _ ?_)
    refine c_seq fun K13 hK13 => ?_
    refine c_if rfl (fun h28 => ?_) (fun h28 => ?_)
    · skip
      have hlt2 : j < x.2.length := by omega
      obtain ⟨y, hx_y⟩ : ∃ y, x.2[j]? = some y := ⟨_, List.getElem?_eq_getElem (by omega)⟩
      obtain ⟨a_y, ha_y, hcs_y, _⟩ := flat_at (R_x.to0 E) hx_y
      obtain rfl := ha_y
      have hly := hs3 y (List.mem_of_getElem? hx_y)
      refine c_skip ?_
      refine e_K (hK13 _ _ _ _ ?_)
      refine c_seq fun K14 hK14 => ?_
      refine c_block ?_
      refine c_seq fun K15 hK15 => ?_
      refine c_region ?_
      refine sv (o_ix sl23 rfl rfl (by omega)) rfl ?_
      refine sv (o_ld sc9 rfl hcs_y.c0) rfl ?_
      refine sv (o_as rfl) rfl ?_
      refine l_nil ?_
      refine e_K (hK15 _ _ _ _ ?_)
      refine c_seq fun K16 hK16 => ?_
      refine c_region ?_
      refine sv (o_mv rfl) rfl ?_
      refine sv (o_mv rfl) rfl ?_
      refine sv (o_slen Try.underlying9 rfl) rfl ?_
      refine sv (o_addE (r := ((gw (cs.take k) + (1 + x.1.length + x.2.length) + lens (x.2.take (j + 1)) : Nat) : Int)) rfl rfl (by rw [wrap64_in _ (by omega)]; rw [lens_succ hx_y]; omega)) rfl ?_
      refine sv (o_as rfl) rfl ?_
      refine l_nil ?_
      refine e_K (hK16 _ _ _ _ ?_)
      refine c_seq fun K17 hK17 => ?_
      refine c_region ?_
      refine sv (o_mv rfl) rfl ?_
      refine sv (o_gtr rfl rfl) rfl ?_
      refine l_nil ?_
      refine e_K (hK17 _ _ _ _ ?_)
      refine c_if rfl (fun h36 => ?_) (fun h36 => ?_)
      · skip
        refine c_seq fun K18 hK18 => ?_
        refine c_region ?_
        refine sv (o_as rfl) rfl ?_
        refine l_nil ?_
        refine e_K (hK18 _ _ _ _ ?_)
        refine c_ret ?_
        refine e_in (by simp) ?_
        refine e_then (by simp) ?_
        refine e_then (by simp) ?_
        refine e_in (by simp) ?_
        refine e_then (by simp) ?_
        refine e_in (by simp) ?_
        refine e_then (by simp) ?_
        refine e_then (by simp) ?_
        refine e_in (by simp) ?_
        refine e_then (by simp) ?_
        exact ret1 rfl rfl ⟨by rw [great_yes (by have h9 := gw_part hx_x; have h8 := lens_take x.2 (j + 1); unfold cw at h9; omega)], E⟩
      · skip
        refine c_skip ?_
        refine e_in (by simp) ?_
        refine e_K (hK14 _ _ _ _ ?_)
        refine c_region ?_
        refine sv (o_addN rfl rfl (by omega)) rfl ?_
        refine sv (o_mv rfl) rfl ?_
        refine l_nil ?_
        exact e_round (σ := Nat) (s := j) (j + 1) ⟨rfl, rfl, rfl, rfl, rfl, rfl, rfl, rfl, trivial⟩ ⟨by omega, by omega, E⟩ (by first | omega | (dsimp only; omega))
    · skip
      have hjj : x.2.take j = x.2 := List.take_of_length_le (by omega)
      have hgk : gw (cs.take k) + (1 + x.1.length + x.2.length) + lens (x.2.take j) = gw (cs.take (k + 1)) := by rw [hjj, gw_succ hx_x]; unfold cw; omega
      rw [hgk]
      refine c_exit ?_
      refine e_then (by simp) ?_
      refine e_then (by simp) ?_
      refine e_hit ?_
      refine e_K (hK10 _ _ _ _ ?_)
      refine c_seq fun K19 hK19 => ?_
      refine c_region ?_
      refine sv (o_mv rfl) rfl ?_
      refine sv (o_gtr rfl rfl) rfl ?_
      refine l_nil ?_
      refine e_K (hK19 _ _ _ _ ?_)
      refine c_if rfl (fun h39 => ?_) (fun h39 => ?_)
      · skip
        refine c_seq fun K20 hK20 => ?_
        refine c_region ?_
        refine sv (o_as rfl) rfl ?_
        refine l_nil ?_
        refine e_K (hK20 _ _ _ _ ?_)
        refine c_ret ?_
        refine e_in (by simp) ?_
        refine e_then (by simp) ?_
        refine e_then (by simp) ?_
        refine e_in (by simp) ?_
        refine e_then (by simp) ?_
        exact ret1 rfl rfl ⟨by rw [great_yes (by have h9 := gw_part hx_x; have h8 := lens_take x.2 j; unfold cw at h9; omega)], E⟩
      · skip
        refine c_skip ?_
        refine e_in (by simp) ?_
        refine e_K (hK7 _ _ _ _ ?_)
        refine c_region ?_
        refine sv (o_addN rfl rfl (by omega)) rfl ?_
        refine sv (o_mv rfl) rfl ?_
        refine l_nil ?_
        exact e_round (σ := Nat) (s := k) (k + 1) ⟨rfl, rfl, rfl, rfl, rfl, trivial⟩ ⟨by omega, by omega, E⟩ (by first | omega | (dsimp only; omega))
  · skip
    have hkk : cs.take k = cs := List.take_of_length_le (by omega)
    rw [hkk] at hg
    refine c_exit ?_
    refine e_then (by simp) ?_
    refine e_then (by simp) ?_
    refine e_hit ?_
    refine e_K (hK3 _ _ _ _ ?_)
    refine c_seq fun K21 hK21 => ?_
    refine c_region ?_
    refine sv (o_mv rfl) rfl ?_
    refine sv (o_len Try.underlying22 rfl) rfl ?_
    refine sv (o_gtr rfl rfl) rfl ?_
    refine sv (o_as rfl) rfl ?_
    refine l_nil ?_
    refine e_K (hK21 _ _ _ _ ?_)
    refine c_ret ?_
    exact ret1 rfl rfl ⟨by rw [great_rest hg], E⟩

theorem c_built (w : World) (cs : Gm) (v0 : Value) (R : Rep [] w (ndD cs) v0) (hC : CFew cs) : Calls Try.prog 12 [v0].toArray w (Ret fun u w' => ∃ g bA bB v, u = .tuple #[.pointer (some ⟨g, 0, none⟩), v, .bool true] ∧ Gr 83 [] w' g bA bB (bm cs) ∧ NdR [g, bA, bB] w' (bm cs) v ∧ Mod [] w w') := by
  refine enter Try.func12 rfl rfl rfl (l := [(0, _)]) ⟨rfl, trivial⟩ ?_
  have E := Mod.refl [] w
  obtain ⟨ad, c, rfl, hc1, hc2⟩ := ndD_len R
  have hCl := hC.len
  refine c_seq fun K1 hK1 => ?_
  refine c_region ?_
  refine sv (o_as rfl) rfl ?_
  refine sv (o_as rfl) rfl ?_
  refine sv (o_as rfl) rfl ?_
  refine l_nil ?_
  refine e_K (hK1 _ _ _ _ ?_)
  refine c_seq fun K2 hK2 => ?_
  refine c_region ?_
  refine sc (o_call ent26 rfl) (c_new [] _ (by simp)) rfl fun v_ w1 h_ => ?_
  obtain ⟨g, bA, bB, rfl, G, Lg, LA, LB, E_⟩ := h_
  replace E := E.then E_
  have hsz := E.size
  have LA0 : w.heap.size ≤ bA := by omega
  have LB0 : w.heap.size ≤ bB := by omega
  refine sv (o_as rfl) rfl ?_
  refine l_nil ?_
  refine e_K (hK2 _ _ _ _ ?_)
  refine c_seq fun K3 hK3 => ?_
  refine c_region ?_
  refine sv (o_as rfl) rfl ?_
  refine l_nil ?_
  refine e_K (hK3 _ _ _ _ ?_)
  refine c_seq fun K4 hK4 => ?_
  refine c_seq fun K5 hK5 => ?_
  refine c_region ?_
  refine sv (o_mv rfl) rfl ?_
  refine sv (o_len Try.underlying22 rfl) rfl ?_
  refine sv (o_mv rfl) rfl ?_
  refine l_nil ?_
  refine e_K (hK5 _ _ _ _ ?_)
  refine c_block ?_
  refine c_loop (σ := Nat × Value) (fun ⟨k, v⟩ => [(5, .pointer (some ⟨g, 0, none⟩)), (6, v), (12, .slice ad cs.length c), (13, .int .i64 cs.length), (14, .int .i64 (k : Int))]) (fun ⟨k, v⟩ w1 => k ≤ cs.length ∧ Gr 83 [] w1 g bA bB (bm (cs.take k)) ∧ NdR [g, bA, bB] w1 (bm (cs.take k)) v ∧ Mod [] w w1) (fun ⟨k, v⟩ => cs.length - k) (⟨0, .slice none 0 0⟩) ⟨rfl, rfl, rfl, rfl, rfl, trivial⟩ (⟨by omega, G, NdR.nil _ _, E⟩) ?_
  rintro ⟨k, v⟩ w2 ⟨hk, G, RV, E⟩
  refine c_seq fun K6 hK6 => ?_
  refine c_region ?_
  refine sv (o_lss rfl rfl) rfl ?_
  refine l_nil ?_
  refine e_K (hK6 _ _ _ _ ?_)
  refine c_seq fun K7 hK7 => ?_
  refine c_if rfl (fun h15 => ?_) (fun h15 => ?_)
  · skip
    have hlt : k < cs.length := by omega
    obtain ⟨x, hx_x⟩ : ∃ x, (cs)[k]? = some x := ⟨_, List.getElem?_eq_getElem (by omega)⟩
    obtain ⟨a_x, u_x, ha_x, hcs_x, R_x⟩ := ndD_at R hx_x
    replace hcs_x := hcs_x.mod0 E
    obtain rfl := ha_x
    obtain ⟨a1_x, c1_x, rfl, h1_x, h2_x⟩ := flat_len R_x
    obtain ⟨hs1, hs2, hs3⟩ := hC.one x (List.mem_of_getElem? hx_x)
    refine c_skip ?_
    refine e_K (hK7 _ _ _ _ ?_)
    refine c_seq fun K8 hK8 => ?_
    refine c_block ?_
    refine c_seq fun K9 hK9 => ?_
    refine c_region ?_
    refine sv (o_ix sl22 rfl rfl (by omega)) rfl ?_
    refine sv (o_lda ag28 rfl rfl hcs_x) rfl ?_
    refine s_alloc zv28 rfl fun g1 w3 N1 => ?_
    have Lg1_E := N1.le E
    replace E := E.then N1.mod
    have Bg1 := N1.blk
    refine s_sta (vs := [_, _]) ag28 Bg1 rfl rfl rfl (by simp [Value.oneCell']) (by simp) fun w4 P4 => ?_
    replace E := E.own P4.mod Lg1_E
    replace Bg1 : Blk w4 g1 _ [_, _] := P4.blk
    have E5 : Mod [] w2 w4 := ((Mod.refl [] w2).then N1.mod).own P4.mod (N1.le (Mod.refl [] w2))
    replace G := G.mod0 E5
    replace RV := RV.mod0 E5
    refine l_nil ?_
    refine e_K (hK9 _ _ _ _ ?_)
    refine c_seq fun K10 hK10 => ?_
    refine c_region ?_
    refine sv (o_mv rfl) rfl ?_
    refine sv (o_fa0 fd28_0 rfl) rfl ?_
    refine sv (o_ld sc9 rfl (Bg1.cell rfl)) rfl ?_
    refine sv (o_fa0 fd28_1 rfl) rfl ?_
    refine sv (o_ld sc23 rfl (Bg1.cell rfl)) rfl ?_
    refine sc (o_call ent27 rfl) (g_addR [g, bA, bB] _ _ _ RV.rep x.1 x.2 _ (R_x.to0 E) (by have := bm_len (cs.take k); have := List.length_take_le k cs; omega) (by omega) (by have := G.lt; simp; omega)) rfl fun v_ w5 h_ => ?_
    obtain ⟨v3, rfl, RV2, E_⟩ := h_
    replace G := G.mod0 E_
    replace RV := RV.mod0 E_
    replace Bg1 := Bg1.mod0 E_
    replace E := E.then E_
    obtain ⟨ad3, c3, rfl, _, _⟩ := ndD_len RV2
    replace RV2 : NdR [g, bA, bB] _ _ _ := ⟨RV2⟩
    have hGl := G.lt
    refine sv (o_mv rfl) rfl ?_
    refine sv (o_ext rfl rfl) rfl ?_
    refine sv (o_ext rfl rfl) rfl ?_
    refine sv (o_as rfl) rfl ?_
    refine sv (o_as rfl) rfl ?_
    refine l_nil ?_
    refine e_K (hK10 _ _ _ _ ?_)
    refine c_seq fun K11 hK11 => ?_
    refine c_region ?_
    refine sv (o_mv rfl) rfl ?_
    refine sv (o_as rfl) rfl ?_
    refine l_nil ?_
    refine e_K (hK11 _ _ _ _ ?_)
    refine c_seq fun K12 hK12 => ?_
    refine c_region ?_
    refine sv (o_mv rfl) rfl ?_
    refine sv (o_fa0 fd28_0 rfl) rfl ?_
    refine sv (o_ld sc9 rfl (Bg1.cell rfl)) rfl ?_
    refine sv (o_fa0 fd28_1 rfl) rfl ?_
    refine sv (o_ld sc23 rfl (Bg1.cell rfl)) rfl ?_
    refine sc (o_call ent24 rfl) (c_addG [] _ g bA bB _ G x.1 x.2 _ (R_x.to0 E) (by omega) (by omega) (by simp)) rfl fun v_ w6 h_ => ?_
    obtain ⟨rfl, G2, E_⟩ := h_
    replace RV2 : NdR [g, bA, bB] _ _ _ := ⟨RV2.rep.toM E_ (by simp)⟩
    replace E := E.trans' E_ (fun y hy => .inr (by simp at hy; rcases hy with rfl | rfl <;> omega))
    refine sv (o_mv rfl) rfl ?_
    refine sv ((o_neq rfl rfl).to (v' := .bool false) (by simp)) rfl ?_
    refine sv (o_mv rfl) rfl ?_
    refine sg rfl (rfl) (o_mv rfl) rfl ?_
    refine sgc rfl (rfl) (o_call ent25 rfl) (c_lenG [] _ g bA bB _ G2) rfl fun v_ w7 h_ => ?_
    obtain ⟨rfl, E_⟩ := h_
    replace G2 := G2.mod0 E_
    replace RV2 := RV2.mod0 E_
    replace E := E.then E_
    refine sg rfl (rfl) (o_mv rfl) rfl ?_
    refine sg rfl (rfl) (o_len Try.underlying30 rfl) rfl ?_
    refine sg rfl (rfl) ((o_neq rfl rfl).to (v' := .bool false) (by simp)) rfl ?_
    refine sv (o_pickF (rfl) rfl rfl) rfl ?_
    refine l_nil ?_
    refine e_K (hK12 _ _ _ _ ?_)
    refine c_false rfl ?_
    refine c_skip ?_
    refine e_in (by simp) ?_
    refine e_K (hK8 _ _ _ _ ?_)
    refine c_region ?_
    refine sv (o_addN rfl rfl (by omega)) rfl ?_
    refine sv (o_mv rfl) rfl ?_
    refine l_nil ?_
    exact e_round (σ := Nat × Value) (s := ⟨k, v⟩) (⟨k + 1, .slice ad3 (addG (bm (cs.take k)) x.1 x.2).1.length c3⟩) ⟨rfl, rfl, rfl, rfl, rfl, trivial⟩ ⟨by omega, by rw [bm_succ hx_x]; exact G2, by rw [bm_succ hx_x]; exact RV2, E⟩ (by dsimp only; omega)
  · skip
    have hkk : cs.take k = cs := List.take_of_length_le (by omega)
    rw [hkk] at G RV
    refine c_exit ?_
    refine e_then (by simp) ?_
    refine e_then (by simp) ?_
    refine e_hit ?_
    refine e_K (hK4 _ _ _ _ ?_)
    refine c_seq fun K13 hK13 => ?_
    refine c_region ?_
    refine sv (o_mv rfl) rfl ?_
    refine sv (o_mv rfl) rfl ?_
    refine sv (o_as rfl) rfl ?_
    refine sv (o_as rfl) rfl ?_
    refine sv (o_as rfl) rfl ?_
    refine l_nil ?_
    refine e_K (hK13 _ _ _ _ ?_)
    refine c_ret ?_
    exact ret3 rfl rfl rfl rfl ⟨g, bA, bB, _, rfl, G, RV, E⟩

theorem c_alive (w : World) : Calls Try.prog 10 [].toArray w (Ret fun u w' => u = .bool true ∧ Mod [] w w') := by
  refine enter Try.func10 rfl rfl rfl (l := []) trivial ?_
  have E := Mod.refl [] w
  refine c_seq fun K1 hK1 => ?_
  refine c_region ?_
  refine sv (o_as rfl) rfl ?_
  refine l_nil ?_
  refine e_K (hK1 _ _ _ _ ?_)
  refine c_seq fun K2 hK2 => ?_
  refine c_region ?_
  refine sc (o_call ent26 rfl) (c_new [] _ (by simp)) rfl fun v_ w1 h_ => ?_
  obtain ⟨g, bA, bB, rfl, G, Lg, LA, LB, E_⟩ := h_
  replace E := E.then E_
  have hsz := E.size
  have LA0 : w.heap.size ≤ bA := by omega
  have LB0 : w.heap.size ≤ bB := by omega
  refine sv (o_as rfl) rfl ?_
  refine l_nil ?_
  refine e_K (hK2 _ _ _ _ ?_)
  refine c_seq fun K3 hK3 => ?_
  refine c_seq fun K4 hK4 => ?_
  refine c_region ?_
  refine sv (o_mv rfl) rfl ?_
  refine sc (o_call ent24 rfl) (c_addG [] _ g bA bB [] G [97] [] _ (OwnS.rep [] (OwnS.nil _ 9) (by simp [ob])) (by simp) (by simp) (by simp)) rfl fun v_ w2 h_ => ?_
  obtain ⟨h6, G2, E_⟩ := h_
  rw [aA1] at h6 G2
  subst h6
  replace G := G2
  clear G2
  replace E := E.trans' E_ (fun y hy => .inr (by simp at hy; rcases hy with rfl | rfl <;> omega))
  refine sv ((o_neq rfl rfl).to (v' := .bool false) rfl) rfl ?_
  refine sv (o_mv rfl) rfl ?_
  refine sg rfl (rfl) (o_mv rfl) rfl ?_
  refine sgw rfl (rfl) ?_
  refine s_bslice (cs := [_]) sl23 zv9 rfl rfl rfl (by decide) rfl fun g1 w3 N1 => ?_
  have Lg1_E := N1.le E
  replace G := G.mod0 N1.mod
  replace E := E.then N1.mod
  have Bg1 := N1.blk
  refine sgc rfl (rfl) (o_call ent24 rfl) (c_addG [] _ g bA bB aM1 G [98] [[97]] _ (OwnS.rep [] (OwnS.to (l' := [[97]]) (Own.all (sz := 1) (c := 1) (cs := [_]) Bg1 rfl (by omega)) rfl rfl) (by simp [ob])) (by simp) (by simp) (by simp)) rfl fun v_ w4 h_ => ?_
  obtain ⟨h6, G2, E_⟩ := h_
  rw [aA2] at h6 G2
  subst h6
  replace G := G2
  clear G2
  replace E := E.trans' E_ (fun y hy => .inr (by simp at hy; rcases hy with rfl | rfl <;> omega))
  refine sg rfl (rfl) ((o_neq rfl rfl).to (v' := .bool false) rfl) rfl ?_
  refine sv (o_pickF (rfl) rfl rfl) rfl ?_
  refine sv (o_mv rfl) rfl ?_
  refine sg rfl (rfl) (o_mv rfl) rfl ?_
  refine sgw rfl (rfl) ?_
  refine s_bslice (cs := [_]) sl23 zv9 rfl rfl rfl (by decide) rfl fun g2 w5 N2 => ?_
  have Lg2_E := N2.le E
  replace G := G.mod0 N2.mod
  replace E := E.then N2.mod
  have Bg2 := N2.blk
  refine sgc rfl (rfl) (o_call ent24 rfl) (c_addG [] _ g bA bB aM2 G [99] [[97]] _ (OwnS.rep [] (OwnS.to (l' := [[97]]) (Own.all (sz := 1) (c := 1) (cs := [_]) Bg2 rfl (by omega)) rfl rfl) (by simp [ob])) (by simp) (by simp) (by simp)) rfl fun v_ w6 h_ => ?_
  obtain ⟨h6, G2, E_⟩ := h_
  rw [aA3] at h6 G2
  subst h6
  replace G := G2
  clear G2
  replace E := E.trans' E_ (fun y hy => .inr (by simp at hy; rcases hy with rfl | rfl <;> omega))
  refine sg rfl (rfl) ((o_neq rfl rfl).to (v' := .bool false) rfl) rfl ?_
  refine sv (o_pickF (rfl) rfl rfl) rfl ?_
  refine sv (o_mv rfl) rfl ?_
  refine sg rfl (rfl) (o_mv rfl) rfl ?_
  refine sgw rfl (rfl) ?_
  refine s_bslice (cs := [_, _]) sl23 zv9 rfl rfl rfl (by decide) rfl fun g3 w7 N3 => ?_
  have Lg3_E := N3.le E
  replace G := G.mod0 N3.mod
  replace E := E.then N3.mod
  have Bg3 := N3.blk
  refine sgc rfl (rfl) (o_call ent24 rfl) (c_addG [] _ g bA bB aM3 G [100] [[98], [99]] _ (OwnS.rep [] (OwnS.to (l' := [[98], [99]]) (Own.all (sz := 1) (c := 2) (cs := [_, _]) Bg3 rfl (by omega)) rfl rfl) (by simp [ob])) (by simp) (by simp) (by simp)) rfl fun v_ w8 h_ => ?_
  obtain ⟨h6, G2, E_⟩ := h_
  rw [aA4] at h6 G2
  subst h6
  replace G := G2
  clear G2
  replace E := E.trans' E_ (fun y hy => .inr (by simp at hy; rcases hy with rfl | rfl <;> omega))
  refine sg rfl (rfl) ((o_neq rfl rfl).to (v' := .bool false) rfl) rfl ?_
  refine sv (o_pickF (rfl) rfl rfl) rfl ?_
  refine l_nil ?_
  refine e_K (hK4 _ _ _ _ ?_)
  refine c_false rfl ?_
  refine c_skip ?_
  refine e_K (hK3 _ _ _ _ ?_)
  refine c_seq fun K5 hK5 => ?_
  refine c_region ?_
  refine sv (o_mv rfl) rfl ?_
  refine s_bslice (cs := [_, _, _]) sl23 zv9 rfl rfl rfl (by decide) rfl fun g4 w9 N4 => ?_
  have Lg4_E := N4.le E
  replace G := G.mod0 N4.mod
  replace E := E.then N4.mod
  have Bg4 := N4.blk
  refine sv (o_build (cs := [_, _, _]) pl44 zv44 rfl rfl) rfl ?_
  refine sv (o_build (cs := [_, _, _]) pl44 zv44 rfl rfl) rfl ?_
  refine sv (o_build (cs := [_, _, _]) pl44 zv44 rfl rfl) rfl ?_
  refine s_bslice (cs := [_, _, _, _, _, _, _, _, _]) sl24 zv44 rfl rfl rfl (by decide) rfl fun g5 w10 N5 => ?_
  have Lg5_E := N5.le E
  have Dg4_g5 := N5.ne Bg4
  replace G := G.mod0 N5.mod
  replace Bg4 := Bg4.mod0 N5.mod
  replace E := E.then N5.mod
  have Bg5 := N5.blk
  refine sc (o_call ent13 rfl) (c_order [] _ g bA bB aM4 G [[100], [99], [98]] _ (OwnS.rep [] (OwnS.to (l' := [[100], [99], [98]]) (Own.all (sz := 1) (c := 3) (cs := [_, _, _]) Bg4 rfl (by omega)) rfl rfl) (by simp [ob])) [⟨0, 0, []⟩, ⟨1, 0, []⟩, ⟨2, 0, []⟩] _ (Own.flat (cells := Rk.cells) (Own.all (sz := 3) (c := 3) (cs := [_, _, _, _, _, _, _, _, _]) Bg5 rfl (by omega)) (fun _ _ => rfl) (fun _ _ => by simp [Value.oneCell']) rfl (by simp [ob])) (by simp)) rfl fun v_ w11 h_ => ?_
  obtain ⟨vo, h33, OO, LO, E_⟩ := h_
  replace G := G.mod0 E_
  replace Bg4 := Bg4.mod0 E_
  replace Bg5 := Bg5.mod0 E_
  replace E := E.then E_
  rw [aO] at h33 OO
  subst h33
  refine sv (o_mv rfl) rfl ?_
  refine sv (o_ext rfl rfl) rfl ?_
  refine sv (o_ext rfl rfl) rfl ?_
  refine sv (o_as rfl) rfl ?_
  refine sv (o_as rfl) rfl ?_
  refine l_nil ?_
  refine e_K (hK5 _ _ _ _ ?_)
  refine c_seq fun K6 hK6 => ?_
  refine c_region ?_
  refine sv (o_mv rfl) rfl ?_
  refine sv ((o_eql rfl rfl).to (v' := .bool true) rfl) rfl ?_
  refine sv (o_mv rfl) rfl ?_
  refine sg rfl (rfl) (o_mv rfl) rfl ?_
  refine sgw rfl (rfl) ?_
  refine s_bslice (cs := [_, _, _]) sl23 zv9 rfl rfl rfl (by decide) rfl fun g6 w12 N6 => ?_
  have Lg6_E := N6.le E
  replace G := G.mod0 N6.mod
  replace E := E.then N6.mod
  have Bg6 := N6.blk
  have OO2 := Own.mod0 OO N6.mod
  refine sgc rfl (rfl) (o_call ent15 rfl) (g_same _ [[99], [98], [100]] [[99], [98], [100]] _ _ (OwnS.rep [] OO2 (by simp)) (OwnS.rep [] (OwnS.to (l' := [[99], [98], [100]]) (Own.all (sz := 1) (c := 3) (cs := [_, _, _]) Bg6 rfl (by omega)) rfl rfl) (by simp [ob]))) rfl fun v_ w13 h_ => ?_
  obtain ⟨h41, E_⟩ := h_
  replace G := G.mod0 E_
  replace Bg6 := Bg6.mod0 E_
  replace E := E.then E_
  obtain rfl : v_ = .bool true := h41
  refine sv (o_pickT (rfl) rfl rfl) rfl ?_
  refine sv (o_mv rfl) rfl ?_
  refine sg rfl (rfl) (o_mv rfl) rfl ?_
  refine sgc rfl (rfl) (o_call ent22 rfl) (c_headsG [] _ g bA bB aM4 G) rfl fun v_ w14 h_ => ?_
  obtain ⟨OH, LH, E_⟩ := h_
  replace G := G.mod0 E_
  replace Bg6 := Bg6.mod0 E_
  replace E := E.then E_
  rw [aH] at OH
  refine sgw rfl (rfl) ?_
  refine s_bslice (cs := [_]) sl23 zv9 rfl rfl rfl (by decide) rfl fun g7 w15 N7 => ?_
  have Lg7_E := N7.le E
  have Dg6_g7 := N7.ne Bg6
  replace G := G.mod0 N7.mod
  replace Bg6 := Bg6.mod0 N7.mod
  replace E := E.then N7.mod
  have Bg7 := N7.blk
  have OH2 := Own.mod0 OH N7.mod
  refine sgc rfl (rfl) (o_call ent15 rfl) (g_same _ [[100]] [[100]] _ _ (OwnS.rep [] OH2 (by simp)) (OwnS.rep [] (OwnS.to (l' := [[100]]) (Own.all (sz := 1) (c := 1) (cs := [_]) Bg7 rfl (by omega)) rfl rfl) (by simp [ob]))) rfl fun v_ w16 h_ => ?_
  obtain ⟨h47, E_⟩ := h_
  replace G := G.mod0 E_
  replace Bg6 := Bg6.mod0 E_
  replace Bg7 := Bg7.mod0 E_
  replace E := E.then E_
  obtain rfl : v_ = .bool true := h47
  refine sv (o_pickT (rfl) rfl rfl) rfl ?_
  refine sv (o_as rfl) rfl ?_
  refine l_nil ?_
  refine e_K (hK6 _ _ _ _ ?_)
  refine c_ret ?_
  exact ret1 rfl rfl ⟨rfl, E⟩
end Go.Proofs.Ythmohmpalbnjoaa.V

set_option linter.unusedVariables false
set_option linter.unusedSimpArgs false
set_option maxRecDepth 10000
namespace Go.Proofs.Ythmohmpalbnjoaa.V
open Go Go.Proofs
theorem ent10 : Ent Try.prog 10 := Ent.of Try.func10 (by kernel_rfl) (by kernel_rfl)
theorem ent11 : Ent Try.prog 11 := Ent.of Try.func11 (by kernel_rfl) (by kernel_rfl)
theorem pl28 : plB Try.prog 28 [(0, 1), (1, 1)] = true := by kernel_rfl
theorem ent12 : Ent Try.prog 12 := Ent.of Try.func12 (by kernel_rfl) (by kernel_rfl)
theorem ent14 : Ent Try.prog 14 := Ent.of Try.func14 (by kernel_rfl) (by kernel_rfl)
theorem c_DagOrders (w : World) (cs : Gm) (v0 : Value) (R : Rep [] w (ndD cs) v0) (hC : CSm cs) (ids : List Str) (v1 : Value) (R1 : Rep [] w (strD ids) v1) (hi1 : ids.length ≤ 140737488351232) (hi2 : ∀ x ∈ ids, x.length ≤ 140737488351232) (rks : List Rk) (v2 : Value) (R2 : Rep [] w (rksD rks) v2) : Calls Try.prog 3 [v0, v1, v2].toArray w (Ret fun u w' => u = .bool true ∧ Mod [] w w') := by
  refine enter Try.func3 rfl rfl rfl (l := [(0, _), (1, _), (2, _)]) ⟨rfl, rfl, rfl, trivial⟩ ?_
  have E := Mod.refl [] w
  obtain ⟨ad1, c1, rfl, h11, h12⟩ := flat_len R1
  obtain ⟨ad2, c2, rfl, h21, h22⟩ := flat_len R2
  refine c_seq fun K1 hK1 => ?_
  refine c_region ?_
  refine sv (o_as rfl) rfl ?_
  refine l_nil ?_
  refine e_K (hK1 _ _ _ _ ?_)
  refine c_seq fun K2 hK2 => ?_
  refine c_seq fun K3 hK3 => ?_
  refine c_region ?_
  refine sc (o_call ent10 rfl) (c_alive _) rfl fun v_ w1 h_ => ?_
  obtain ⟨rfl, E_⟩ := h_
  replace E := E.then E_
  refine sv ((o_not rfl).to (v' := .bool false) rfl) rfl ?_
  refine l_nil ?_
  refine e_K (hK3 _ _ _ _ ?_)
  refine c_false rfl ?_
  refine c_skip ?_
  refine e_K (hK2 _ _ _ _ ?_)
  refine c_seq fun K4 hK4 => ?_
  refine c_seq fun K5 hK5 => ?_
  by_cases hk17 : greatC cs = true
  · skip
    refine c_region ?_
    refine sv (o_mv rfl) rfl ?_
    refine sc (o_call ent11 rfl) (c_great _ cs _ (R.to0 E) hC) rfl fun v_ w2 h_ => ?_
    obtain ⟨rfl, E_⟩ := h_
    replace E := E.then E_
    refine sv (o_mv rfl) rfl ?_
    refine sn rfl (fun e_ => absurd ((hk17).symm.trans e_) (by decide)) rfl ?_
    refine sn rfl (fun e_ => absurd ((hk17).symm.trans e_) (by decide)) rfl ?_
    refine sn rfl (fun e_ => absurd ((hk17).symm.trans e_) (by decide)) rfl ?_
    refine sv (o_pickT (hk17) rfl rfl) rfl ?_
    refine sv (o_mv rfl) rfl ?_
    refine sn rfl (fun e_ => absurd ((rfl).symm.trans e_) (by decide)) rfl ?_
    refine sn rfl (fun e_ => absurd ((rfl).symm.trans e_) (by decide)) rfl ?_
    refine sn rfl (fun e_ => absurd ((rfl).symm.trans e_) (by decide)) rfl ?_
    refine sv (o_pickT (rfl) rfl rfl) rfl ?_
    refine sv (o_mv rfl) rfl ?_
    refine sn rfl (fun e_ => absurd ((rfl).symm.trans e_) (by decide)) rfl ?_
    refine sn rfl (fun e_ => absurd ((rfl).symm.trans e_) (by decide)) rfl ?_
    refine sn rfl (fun e_ => absurd ((rfl).symm.trans e_) (by decide)) rfl ?_
    refine sn rfl (fun e_ => absurd ((rfl).symm.trans e_) (by decide)) rfl ?_
    refine sv (o_pickT (rfl) rfl rfl) rfl ?_
    refine l_nil ?_
    refine e_K (hK5 _ _ _ _ ?_)
    refine c_true rfl ?_
    refine c_seq fun K6 hK6 => ?_
    refine c_region ?_
    refine sv (o_as rfl) rfl ?_
    refine l_nil ?_
    refine e_K (hK6 _ _ _ _ ?_)
    refine c_ret ?_
    refine e_then (by simp) ?_
    exact ret1 rfl rfl ⟨rfl, E⟩
  · skip
    by_cases hk21 : ((ids.length : Nat) : Int) > 60
    · skip
      refine c_region ?_
      refine sv (o_mv rfl) rfl ?_
      refine sc (o_call ent11 rfl) (c_great _ cs _ (R.to0 E) hC) rfl fun v_ w3 h_ => ?_
      obtain ⟨rfl, E_⟩ := h_
      replace E := E.then E_
      refine sv (o_mv rfl) rfl ?_
      refine sg rfl (Bool.eq_false_iff.2 hk17) (o_mv rfl) rfl ?_
      refine sg rfl (Bool.eq_false_iff.2 hk17) (o_len Try.underlying23 rfl) rfl ?_
      refine sg rfl (Bool.eq_false_iff.2 hk17) (o_gtr rfl rfl) rfl ?_
      refine sv (o_pickF (Bool.eq_false_iff.2 hk17) rfl rfl) rfl ?_
      refine sv (o_mv rfl) rfl ?_
      refine sn rfl (fun e_ => absurd ((decide_eq_true hk21).symm.trans e_) (by decide)) rfl ?_
      refine sn rfl (fun e_ => absurd ((decide_eq_true hk21).symm.trans e_) (by decide)) rfl ?_
      refine sn rfl (fun e_ => absurd ((decide_eq_true hk21).symm.trans e_) (by decide)) rfl ?_
      refine sv (o_pickT (decide_eq_true hk21) rfl rfl) rfl ?_
      refine sv (o_mv rfl) rfl ?_
      refine sn rfl (fun e_ => absurd ((rfl).symm.trans e_) (by decide)) rfl ?_
      refine sn rfl (fun e_ => absurd ((rfl).symm.trans e_) (by decide)) rfl ?_
      refine sn rfl (fun e_ => absurd ((rfl).symm.trans e_) (by decide)) rfl ?_
      refine sn rfl (fun e_ => absurd ((rfl).symm.trans e_) (by decide)) rfl ?_
      refine sv (o_pickT (rfl) rfl rfl) rfl ?_
      refine l_nil ?_
      refine e_K (hK5 _ _ _ _ ?_)
      refine c_true rfl ?_
      refine c_seq fun K7 hK7 => ?_
      refine c_region ?_
      refine sv (o_as rfl) rfl ?_
      refine l_nil ?_
      refine e_K (hK7 _ _ _ _ ?_)
      refine c_ret ?_
      refine e_then (by simp) ?_
      exact ret1 rfl rfl ⟨rfl, E⟩
    · skip
      by_cases hk26 : ((rks.length : Nat) : Int) > 60
      · skip
        refine c_region ?_
        refine sv (o_mv rfl) rfl ?_
        refine sc (o_call ent11 rfl) (c_great _ cs _ (R.to0 E) hC) rfl fun v_ w4 h_ => ?_
        obtain ⟨rfl, E_⟩ := h_
        replace E := E.then E_
        refine sv (o_mv rfl) rfl ?_
        refine sg rfl (Bool.eq_false_iff.2 hk17) (o_mv rfl) rfl ?_
        refine sg rfl (Bool.eq_false_iff.2 hk17) (o_len Try.underlying23 rfl) rfl ?_
        refine sg rfl (Bool.eq_false_iff.2 hk17) (o_gtr rfl rfl) rfl ?_
        refine sv (o_pickF (Bool.eq_false_iff.2 hk17) rfl rfl) rfl ?_
        refine sv (o_mv rfl) rfl ?_
        refine sg rfl (decide_eq_false hk21) (o_mv rfl) rfl ?_
        refine sg rfl (decide_eq_false hk21) (o_len Try.underlying24 rfl) rfl ?_
        refine sg rfl (decide_eq_false hk21) (o_gtr rfl rfl) rfl ?_
        refine sv (o_pickF (decide_eq_false hk21) rfl rfl) rfl ?_
        refine sv (o_mv rfl) rfl ?_
        refine sn rfl (fun e_ => absurd ((decide_eq_true hk26).symm.trans e_) (by decide)) rfl ?_
        refine sn rfl (fun e_ => absurd ((decide_eq_true hk26).symm.trans e_) (by decide)) rfl ?_
        refine sn rfl (fun e_ => absurd ((decide_eq_true hk26).symm.trans e_) (by decide)) rfl ?_
        refine sn rfl (fun e_ => absurd ((decide_eq_true hk26).symm.trans e_) (by decide)) rfl ?_
        refine sv (o_pickT (decide_eq_true hk26) rfl rfl) rfl ?_
        refine l_nil ?_
        refine e_K (hK5 _ _ _ _ ?_)
        refine c_true rfl ?_
        refine c_seq fun K8 hK8 => ?_
        refine c_region ?_
        refine sv (o_as rfl) rfl ?_
        refine l_nil ?_
        refine e_K (hK8 _ _ _ _ ?_)
        refine c_ret ?_
        refine e_then (by simp) ?_
        exact ret1 rfl rfl ⟨rfl, E⟩
      · skip
        by_cases hk32 : greatC [([], ids)] = true
        · skip
          refine c_region ?_
          refine sv (o_mv rfl) rfl ?_
          refine sc (o_call ent11 rfl) (c_great _ cs _ (R.to0 E) hC) rfl fun v_ w5 h_ => ?_
          obtain ⟨rfl, E_⟩ := h_
          replace E := E.then E_
          refine sv (o_mv rfl) rfl ?_
          refine sg rfl (Bool.eq_false_iff.2 hk17) (o_mv rfl) rfl ?_
          refine sg rfl (Bool.eq_false_iff.2 hk17) (o_len Try.underlying23 rfl) rfl ?_
          refine sg rfl (Bool.eq_false_iff.2 hk17) (o_gtr rfl rfl) rfl ?_
          refine sv (o_pickF (Bool.eq_false_iff.2 hk17) rfl rfl) rfl ?_
          refine sv (o_mv rfl) rfl ?_
          refine sg rfl (decide_eq_false hk21) (o_mv rfl) rfl ?_
          refine sg rfl (decide_eq_false hk21) (o_len Try.underlying24 rfl) rfl ?_
          refine sg rfl (decide_eq_false hk21) (o_gtr rfl rfl) rfl ?_
          refine sv (o_pickF (decide_eq_false hk21) rfl rfl) rfl ?_
          refine sv (o_mv rfl) rfl ?_
          refine sg rfl (decide_eq_false hk26) (o_mv rfl) rfl ?_
          refine sg rfl (decide_eq_false hk26) (o_build (cs := [_, _]) pl28 zv28 rfl rfl) rfl ?_
          refine sgw rfl (decide_eq_false hk26) ?_
          refine s_bslice (cs := [_, _]) sl22 zv28 rfl rfl rfl (by decide) rfl fun g1 w6 N1 => ?_
          have Lg1_E := N1.le E
          replace E := E.then N1.mod
          have Bg1 := N1.blk
          refine sgc rfl (decide_eq_false hk26) (o_call ent11 rfl) (c_great _ [([], ids)] _ (ndD_one Bg1 rfl (R1.to0 E)) ⟨by simp, fun p hp => by simp at hp; subst hp; exact ⟨by simp, hi1, hi2⟩⟩) rfl fun v_ w7 h_ => ?_
          obtain ⟨rfl, E_⟩ := h_
          replace Bg1 := Bg1.mod0 E_
          replace E := E.then E_
          refine sv (o_pickF (decide_eq_false hk26) rfl rfl) rfl ?_
          refine l_nil ?_
          refine e_K (hK5 _ _ _ _ ?_)
          refine c_cond rfl (fun h33 => ?_) (fun h33 => absurd ((hk32).symm.trans h33) (by decide))
          refine c_seq fun K9 hK9 => ?_
          refine c_region ?_
          refine sv (o_as rfl) rfl ?_
          refine l_nil ?_
          refine e_K (hK9 _ _ _ _ ?_)
          refine c_ret ?_
          refine e_then (by simp) ?_
          exact ret1 rfl rfl ⟨rfl, E⟩
        · skip
          refine c_region ?_
          refine sv (o_mv rfl) rfl ?_
          refine sc (o_call ent11 rfl) (c_great _ cs _ (R.to0 E) hC) rfl fun v_ w8 h_ => ?_
          obtain ⟨rfl, E_⟩ := h_
          replace E := E.then E_
          refine sv (o_mv rfl) rfl ?_
          refine sg rfl (Bool.eq_false_iff.2 hk17) (o_mv rfl) rfl ?_
          refine sg rfl (Bool.eq_false_iff.2 hk17) (o_len Try.underlying23 rfl) rfl ?_
          refine sg rfl (Bool.eq_false_iff.2 hk17) (o_gtr rfl rfl) rfl ?_
          refine sv (o_pickF (Bool.eq_false_iff.2 hk17) rfl rfl) rfl ?_
          refine sv (o_mv rfl) rfl ?_
          refine sg rfl (decide_eq_false hk21) (o_mv rfl) rfl ?_
          refine sg rfl (decide_eq_false hk21) (o_len Try.underlying24 rfl) rfl ?_
          refine sg rfl (decide_eq_false hk21) (o_gtr rfl rfl) rfl ?_
          refine sv (o_pickF (decide_eq_false hk21) rfl rfl) rfl ?_
          refine sv (o_mv rfl) rfl ?_
          refine sg rfl (decide_eq_false hk26) (o_mv rfl) rfl ?_
          refine sg rfl (decide_eq_false hk26) (o_build (cs := [_, _]) pl28 zv28 rfl rfl) rfl ?_
          refine sgw rfl (decide_eq_false hk26) ?_
          refine s_bslice (cs := [_, _]) sl22 zv28 rfl rfl rfl (by decide) rfl fun g2 w9 N2 => ?_
          have Lg2_E := N2.le E
          replace E := E.then N2.mod
          have Bg2 := N2.blk
          refine sgc rfl (decide_eq_false hk26) (o_call ent11 rfl) (c_great _ [([], ids)] _ (ndD_one Bg2 rfl (R1.to0 E)) ⟨by simp, fun p hp => by simp at hp; subst hp; exact ⟨by simp, hi1, hi2⟩⟩) rfl fun v_ w10 h_ => ?_
          obtain ⟨rfl, E_⟩ := h_
          replace Bg2 := Bg2.mod0 E_
          replace E := E.then E_
          refine sv (o_pickF (decide_eq_false hk26) rfl rfl) rfl ?_
          refine l_nil ?_
          refine e_K (hK5 _ _ _ _ ?_)
          refine c_cond rfl (fun h33 => absurd ((Bool.eq_false_iff.2 hk32).symm.trans h33) (by decide)) (fun h33 => ?_)
          refine c_skip ?_
          refine e_K (hK4 _ _ _ _ ?_)
          refine c_seq fun K10 hK10 => ?_
          refine c_region ?_
          refine sv (o_mv rfl) rfl ?_
          have hCF := great_no (Bool.eq_false_iff.2 hk17)
          refine sc (o_call ent12 rfl) (c_built _ cs _ (R.to0 E) hCF) rfl fun v_ w11 h_ => ?_
          obtain ⟨g, bA, bB, vr, rfl, G, RV, E_⟩ := h_
          replace Bg2 := Bg2.mod0 E_
          replace E := E.then E_
          
          refine sv (o_mv rfl) rfl ?_
          refine sv (o_ext rfl rfl) rfl ?_
          refine sv (o_ext rfl rfl) rfl ?_
          refine sv (o_ext rfl rfl) rfl ?_
          refine sv (o_as rfl) rfl ?_
          refine sv (o_as rfl) rfl ?_
          refine sv (o_as rfl) rfl ?_
          refine l_nil ?_
          refine e_K (hK10 _ _ _ _ ?_)
          refine c_seq fun K11 hK11 => ?_
          refine c_region ?_
          refine sv (o_mv rfl) rfl ?_
          refine sv (o_mv rfl) rfl ?_
          refine sv (o_mv rfl) rfl ?_
          refine sc (o_call ent13 rfl) (c_order [] _ g bA bB (bm cs) G ids _ (R1.to0 E) rks _ (R2.to0 E) (by omega)) rfl fun v_ w12 h_ => ?_
          obtain ⟨vo, rfl, OO, LO, E_⟩ := h_
          replace G := G.mod0 E_
          replace RV := RV.mod0 E_
          replace Bg2 := Bg2.mod0 E_
          replace E := E.then E_
          refine sv (o_mv rfl) rfl ?_
          refine sv (o_ext rfl rfl) rfl ?_
          refine sv (o_ext rfl rfl) rfl ?_
          refine sv (o_as rfl) rfl ?_
          refine sv (o_as rfl) rfl ?_
          refine l_nil ?_
          refine e_K (hK11 _ _ _ _ ?_)
          refine c_seq fun K12 hK12 => ?_
          refine c_region ?_
          refine sv (o_mv rfl) rfl ?_
          refine sv (o_mv rfl) rfl ?_
          refine sv (o_mv rfl) rfl ?_
          refine sc (o_call ent14 rfl) (c_orderR _ (bm cs) _ (RV.rep.anti (by simp)) ids _ (R1.to0 E) rks _ (R2.to0 E) (bm_wf cs) (by have := bm_len cs; have := hCF.len; omega) (by omega)) rfl fun v_ w13 h_ => ?_
          obtain ⟨vp, rfl, RO, E_⟩ := h_
          replace G := G.mod0 E_
          replace RV := RV.mod0 E_
          replace Bg2 := Bg2.mod0 E_
          replace E := E.then E_
          replace OO := Own.mod0 OO E_
          refine sv (o_mv rfl) rfl ?_
          refine sv (o_ext rfl rfl) rfl ?_
          refine sv (o_ext rfl rfl) rfl ?_
          refine sv (o_as rfl) rfl ?_
          refine sv (o_as rfl) rfl ?_
          refine l_nil ?_
          refine e_K (hK12 _ _ _ _ ?_)
          refine c_seq fun K13 hK13 => ?_
          refine c_region ?_
          refine sv (o_mv rfl) rfl ?_
          refine sv (o_mv rfl) rfl ?_
          refine sg rfl (rfl) (o_mv rfl) rfl ?_
          refine sg rfl (rfl) (o_mv rfl) rfl ?_
          refine sg rfl (rfl) ((o_eql rfl rfl).to (v' := .bool true) (by simp)) rfl ?_
          refine sv (o_pickT (rfl) rfl rfl) rfl ?_
          refine sv (o_mv rfl) rfl ?_
          refine sg rfl (rfl) (o_mv rfl) rfl ?_
          refine sg rfl (rfl) (o_mv rfl) rfl ?_
          refine sgc rfl (rfl) (o_call ent15 rfl) (g_same _ (ordG (bm cs) ids rks).1 (ordG (bm cs) ids rks).1 _ _ (OwnS.rep [] OO (by simp)) RO) rfl fun v_ w14 h_ => ?_
          obtain ⟨h63, E_⟩ := h_
          replace G := G.mod0 E_
          replace RV := RV.mod0 E_
          replace Bg2 := Bg2.mod0 E_
          replace E := E.then E_
          obtain rfl : v_ = .bool true := h63.trans (by simp)
          refine sv (o_pickT (rfl) rfl rfl) rfl ?_
          refine sv (o_as rfl) rfl ?_
          refine l_nil ?_
          refine e_K (hK13 _ _ _ _ ?_)
          refine c_ret ?_
          exact ret1 rfl rfl ⟨rfl, E⟩
end Go.Proofs.Ythmohmpalbnjoaa.V

set_option linter.unusedVariables false
set_option linter.unusedSimpArgs false
set_option maxRecDepth 10000
namespace Go.Proofs.Ythmohmpalbnjoaa.V
open Go Go.Proofs
theorem ent16 : Ent Try.prog 16 := Ent.of Try.func16 (by kernel_rfl) (by kernel_rfl)
theorem c_DagPasts (w : World) (cs : Gm) (v0 : Value) (R : Rep [] w (ndD cs) v0) (hC : CSm cs) (ids : List Str) (v1 : Value) (R1 : Rep [] w (strD ids) v1) (hi1 : ids.length ≤ 140737488351232) (hi2 : ∀ x ∈ ids, x.length ≤ 140737488351232) : Calls Try.prog 4 [v0, v1].toArray w (Ret fun u w' => u = .bool true ∧ Mod [] w w') := by
  refine enter Try.func4 rfl rfl rfl (l := [(0, _), (1, _)]) ⟨rfl, rfl, trivial⟩ ?_
  have E := Mod.refl [] w
  obtain ⟨ad1, c1, rfl, h11, h12⟩ := flat_len R1
  refine c_seq fun K1 hK1 => ?_
  refine c_region ?_
  refine sv (o_as rfl) rfl ?_
  refine l_nil ?_
  refine e_K (hK1 _ _ _ _ ?_)
  refine c_seq fun K2 hK2 => ?_
  refine c_seq fun K3 hK3 => ?_
  refine c_region ?_
  refine sc (o_call ent10 rfl) (c_alive _) rfl fun v_ w1 h_ => ?_
  obtain ⟨rfl, E_⟩ := h_
  replace E := E.then E_
  refine sv ((o_not rfl).to (v' := .bool false) rfl) rfl ?_
  refine l_nil ?_
  refine e_K (hK3 _ _ _ _ ?_)
  refine c_false rfl ?_
  refine c_skip ?_
  refine e_K (hK2 _ _ _ _ ?_)
  refine c_seq fun K4 hK4 => ?_
  refine c_seq fun K5 hK5 => ?_
  by_cases hk11 : greatC cs = true
  · skip
    refine c_region ?_
    refine sv (o_mv rfl) rfl ?_
    refine sc (o_call ent11 rfl) (c_great _ cs _ (R.to0 E) hC) rfl fun v_ w2 h_ => ?_
    obtain ⟨rfl, E_⟩ := h_
    replace E := E.then E_
    refine sv (o_mv rfl) rfl ?_
    refine sn rfl (fun e_ => absurd ((hk11).symm.trans e_) (by decide)) rfl ?_
    refine sn rfl (fun e_ => absurd ((hk11).symm.trans e_) (by decide)) rfl ?_
    refine sn rfl (fun e_ => absurd ((hk11).symm.trans e_) (by decide)) rfl ?_
    refine sn rfl (fun e_ => absurd ((hk11).symm.trans e_) (by decide)) rfl ?_
    refine sv (o_pickT (hk11) rfl rfl) rfl ?_
    refine l_nil ?_
    refine e_K (hK5 _ _ _ _ ?_)
    refine c_true rfl ?_
    refine c_seq fun K6 hK6 => ?_
    refine c_region ?_
    refine sv (o_as rfl) rfl ?_
    refine l_nil ?_
    refine e_K (hK6 _ _ _ _ ?_)
    refine c_ret ?_
    refine e_then (by simp) ?_
    exact ret1 rfl rfl ⟨rfl, E⟩
  · skip
    by_cases hk16 : greatC [([], ids)] = true
    · skip
      refine c_region ?_
      refine sv (o_mv rfl) rfl ?_
      refine sc (o_call ent11 rfl) (c_great _ cs _ (R.to0 E) hC) rfl fun v_ w3 h_ => ?_
      obtain ⟨rfl, E_⟩ := h_
      replace E := E.then E_
      refine sv (o_mv rfl) rfl ?_
      refine sg rfl (Bool.eq_false_iff.2 hk11) (o_mv rfl) rfl ?_
      refine sg rfl (Bool.eq_false_iff.2 hk11) (o_build (cs := [_, _]) pl28 zv28 rfl rfl) rfl ?_
      refine sgw rfl (Bool.eq_false_iff.2 hk11) ?_
      refine s_bslice (cs := [_, _]) sl22 zv28 rfl rfl rfl (by decide) rfl fun g1 w4 N1 => ?_
      have Lg1_E := N1.le E
      replace E := E.then N1.mod
      have Bg1 := N1.blk
      refine sgc rfl (Bool.eq_false_iff.2 hk11) (o_call ent11 rfl) (c_great _ [([], ids)] _ (ndD_one Bg1 rfl (R1.to0 E)) ⟨by simp, fun p hp => by simp at hp; subst hp; exact ⟨by simp, hi1, hi2⟩⟩) rfl fun v_ w5 h_ => ?_
      obtain ⟨rfl, E_⟩ := h_
      replace Bg1 := Bg1.mod0 E_
      replace E := E.then E_
      refine sv (o_pickF (Bool.eq_false_iff.2 hk11) rfl rfl) rfl ?_
      refine l_nil ?_
      refine e_K (hK5 _ _ _ _ ?_)
      refine c_cond rfl (fun h17 => ?_) (fun h17 => absurd ((hk16).symm.trans h17) (by decide))
      refine c_seq fun K7 hK7 => ?_
      refine c_region ?_
      refine sv (o_as rfl) rfl ?_
      refine l_nil ?_
      refine e_K (hK7 _ _ _ _ ?_)
      refine c_ret ?_
      refine e_then (by simp) ?_
      exact ret1 rfl rfl ⟨rfl, E⟩
    · skip
      refine c_region ?_
      refine sv (o_mv rfl) rfl ?_
      refine sc (o_call ent11 rfl) (c_great _ cs _ (R.to0 E) hC) rfl fun v_ w6 h_ => ?_
      obtain ⟨rfl, E_⟩ := h_
      replace E := E.then E_
      refine sv (o_mv rfl) rfl ?_
      refine sg rfl (Bool.eq_false_iff.2 hk11) (o_mv rfl) rfl ?_
      refine sg rfl (Bool.eq_false_iff.2 hk11) (o_build (cs := [_, _]) pl28 zv28 rfl rfl) rfl ?_
      refine sgw rfl (Bool.eq_false_iff.2 hk11) ?_
      refine s_bslice (cs := [_, _]) sl22 zv28 rfl rfl rfl (by decide) rfl fun g2 w7 N2 => ?_
      have Lg2_E := N2.le E
      replace E := E.then N2.mod
      have Bg2 := N2.blk
      refine sgc rfl (Bool.eq_false_iff.2 hk11) (o_call ent11 rfl) (c_great _ [([], ids)] _ (ndD_one Bg2 rfl (R1.to0 E)) ⟨by simp, fun p hp => by simp at hp; subst hp; exact ⟨by simp, hi1, hi2⟩⟩) rfl fun v_ w8 h_ => ?_
      obtain ⟨rfl, E_⟩ := h_
      replace Bg2 := Bg2.mod0 E_
      replace E := E.then E_
      refine sv (o_pickF (Bool.eq_false_iff.2 hk11) rfl rfl) rfl ?_
      refine l_nil ?_
      refine e_K (hK5 _ _ _ _ ?_)
      refine c_cond rfl (fun h17 => absurd ((Bool.eq_false_iff.2 hk16).symm.trans h17) (by decide)) (fun h17 => ?_)
      refine c_skip ?_
      refine e_K (hK4 _ _ _ _ ?_)
      refine c_seq fun K8 hK8 => ?_
      refine c_region ?_
      refine sv (o_mv rfl) rfl ?_
      have hCF := great_no (Bool.eq_false_iff.2 hk11)
      have hIF := (great_no (Bool.eq_false_iff.2 hk16)).one _ List.mem_cons_self
      refine sc (o_call ent12 rfl) (c_built _ cs _ (R.to0 E) hCF) rfl fun v_ w9 h_ => ?_
      obtain ⟨g, bA, bB, vr, rfl, G, RV, E_⟩ := h_
      replace Bg2 := Bg2.mod0 E_
      replace E := E.then E_
      
      refine sv (o_mv rfl) rfl ?_
      refine sv (o_ext rfl rfl) rfl ?_
      refine sv (o_ext rfl rfl) rfl ?_
      refine sv (o_ext rfl rfl) rfl ?_
      refine sv (o_as rfl) rfl ?_
      refine sv (o_as rfl) rfl ?_
      refine sv (o_as rfl) rfl ?_
      refine l_nil ?_
      refine e_K (hK8 _ _ _ _ ?_)
      refine c_seq fun K9 hK9 => ?_
      refine c_region ?_
      refine sv (o_mv rfl) rfl ?_
      refine sv (o_mv rfl) rfl ?_
      refine sg rfl (rfl) (o_mv rfl) rfl ?_
      refine sg rfl (rfl) (o_mv rfl) rfl ?_
      refine sgc rfl (rfl) (o_call ent16 rfl) (c_Past [] _ g bA bB (bm cs) G ids _ (R1.to0 E) (by have := hIF.2.1; dsimp only at this; omega)) rfl fun v_ w10 h_ => ?_
      obtain ⟨OO, LO, E_⟩ := h_
      replace G := G.mod0 E_
      replace RV := RV.mod0 E_
      replace Bg2 := Bg2.mod0 E_
      replace E := E.then E_
      refine sg rfl (rfl) (o_mv rfl) rfl ?_
      refine sg rfl (rfl) (o_mv rfl) rfl ?_
      refine sgc rfl (rfl) (o_call ent17 rfl) (g_pastR [] _ (bm cs) _ (RV.rep.anti (by simp)) ids _ (R1.to0 E) (by have := bm_len cs; have := hCF.len; omega) (by simp)) rfl fun v_ w11 h_ => ?_
      obtain ⟨RO, E_⟩ := h_
      replace G := G.mod0 E_
      replace RV := RV.mod0 E_
      replace Bg2 := Bg2.mod0 E_
      replace E := E.then E_
      replace OO := Own.mod0 OO E_
      refine sgc rfl (rfl) (o_call ent15 rfl) (g_same _ (past (bm cs) ids) (past (bm cs) ids) _ _ (OwnS.rep [] OO (by simp)) RO) rfl fun v_ w12 h_ => ?_
      obtain ⟨h32, E_⟩ := h_
      replace G := G.mod0 E_
      replace RV := RV.mod0 E_
      replace Bg2 := Bg2.mod0 E_
      replace E := E.then E_
      obtain rfl : v_ = .bool true := h32.trans (by simp)
      refine sv (o_pickT (rfl) rfl rfl) rfl ?_
      refine sv (o_as rfl) rfl ?_
      refine l_nil ?_
      refine e_K (hK9 _ _ _ _ ?_)
      refine c_ret ?_
      exact ret1 rfl rfl ⟨rfl, E⟩
end Go.Proofs.Ythmohmpalbnjoaa.V

set_option linter.unusedVariables false
set_option linter.unusedSimpArgs false
namespace Go.Proofs.Ythmohmpalbnjoaa.V
open Go
section
variable {P : Program} {ops : Array Oper} {Q : Exit → Act → World → Prop} {n : Nat} {ds : List Deferred} {l : List (Nat × Value)} {M : List (Nat × (Value → World → Prop))} {w w' : World} {a : Act}
variable {rest : List Oper} {d : Nat} {op : Op} {ty : TypeId} {pos : String} {af : Array Edge} {Fin : Kn → Prop} {j : Nat} {want b : Bool}
theorem tv1g {v : Value} (t : Nat) {U : Value → World → Prop} (hg : gv ops l j = some b) (hb : b = want) (ht : lk t l = none) (hM : lkM t M = some U) (hx : ∃ x ∈ op.operands.toList, x = .tmp t) (hr : ∀ w1 u, Mod [] w w1 → U u w1 → Runs P ((t, u) :: l) ⟨some d, op, ty, pos, af, none⟩ w1 v w1) (hd : Nat.blt d n = true) (hs : notSel op = true) (h : TWL P ops w n Fin rest ((d, v) :: l) M) :
    TWL P ops w n Fin (⟨some d, op, ty, pos, af, some (j, want)⟩ :: rest) l M := by
  refine ⟨fun u _ => u = v, J_g hg hb (J_of1 ht hM hx (fun _ _ _ _ h => h) hd hs fun ρ w1 u hC hU h1 => ?_), ?_⟩
  · rw [hr w1 u hC hU ρ h1]; exact ⟨Mod.refl [] w1, rfl⟩
  · rw [kn_put_v rfl]; exact h
theorem tcr1g {f : FuncId} {args : Value → Array Value} (V : Value → World → Prop) (hV : ∀ v w1 w2, Mod [] w1 w2 → V v w1 → V v w2) (t : Nat) {U : Value → World → Prop} (hg : gv ops l j = some b) (hb : b = want) (ht : lk t l = none) (hM : lkM t M = some U) (hx : ∃ x ∈ op.operands.toList, x = .tmp t) (hr : ∀ w1 u, Mod [] w w1 → U u w1 → RunsC P ((t, u) :: l) ⟨some d, op, ty, pos, af, none⟩ w1 f (args u)) (hc : ∀ w1 u, Mod [] w w1 → U u w1 → Calls P f (args u) w1 (Ret fun u w2 => V u w2 ∧ Mod [] w1 w2)) (hd : Nat.blt d n = true) (hs : notSel op = true) (hl : lk d l = none)
    (h : TWL P ops w n Fin rest l ((d, V) :: M)) : TWL P ops w n Fin (⟨some d, op, ty, pos, af, some (j, want)⟩ :: rest) l M := by
  refine ⟨V, J_g hg hb (J_of1 ht hM hx hV hd hs fun ρ w1 u hC hU h1 => ?_), ?_⟩
  · rw [hr w1 u hC hU ρ h1]
    exact ⟨rfl, (hc w1 u hC hU).mono fun e w2 he => by cases e <;> first | exact ⟨he.2, he.1⟩ | exact he⟩
  · rw [kn_put_r rfl hl]; exact h
theorem trg (V : Value → World → Prop) (hV : ∀ v w1 w2, Mod [] w1 w2 → V v w1 → V v w2) (hg : gv ops l j = some b) (hb : b = want) (hr : ∀ w1, Mod [] w w1 → ∃ v w2, Runs P l ⟨some d, op, ty, pos, af, none⟩ w1 v w2 ∧ Mod [] w1 w2 ∧ V v w2) (hd : Nat.blt d n = true) (hs : notSel op = true) (hl : lk d l = none)
    (h : TWL P ops w n Fin rest l ((d, V) :: M)) : TWL P ops w n Fin (⟨some d, op, ty, pos, af, some (j, want)⟩ :: rest) l M := by
  refine ⟨V, J_g hg hb (J_of hV hd hs fun ρ w1 hC h1 h2 => ?_), ?_⟩
  · obtain ⟨v, w2, e, hm, hv⟩ := hr w1 hC
    rw [e ρ h1]
    exact ⟨hm, hv⟩
  · rw [kn_put_r rfl hl]; exact h
theorem t_bsliceg {t : TypeId} {ps : List (Nat × Operand)} {us : List (Nat × Value)} {e c sz by_ : Nat} {zs cs : List Value} (V : Value → World → Prop) (hV : ∀ v w1 w2, Mod [] w1 w2 → V v w1 → V v w2) (hg : gv ops l j = some b) (hb : b = want) (ht : slB P t e sz by_ = true) (hz : zvB P e zs) (hx : evP l ps = some us)
    (hf : fillF (fun i => some (i * sz, sz)) ((List.replicate c zs).flatten) us = some cs) (hzl : zs.length = sz) (hc : c * sz ≤ 16777216) (hv : ∀ w1 g w2, Mod [] w w1 → New w1 w2 g e cs → V (.slice (some ⟨g, 0, none⟩) c c) w2) (hd : Nat.blt d n = true) (hl : lk d l = none)
    (h : TWL P ops w n Fin rest l ((d, V) :: M)) : TWL P ops w n Fin (⟨some d, .buildSlice t c ps.toArray, ty, pos, af, some (j, want)⟩ :: rest) l M :=
  trg V hV hg hb (fun w1 k => ⟨_, _, r_bslice ht hz hx hf hzl hc, (New.mk' w1 e cs).mod, hv _ _ _ k (New.mk' w1 e cs)⟩) hd rfl hl h
end
end Go.Proofs.Ythmohmpalbnjoaa.V
