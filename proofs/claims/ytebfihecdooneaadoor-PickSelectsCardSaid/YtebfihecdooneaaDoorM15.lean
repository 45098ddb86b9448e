/-
  A part of the proof: walks of functions. No condition of its own.
-/
import Derived.Test.YtebfihecdooneaaDoorM14
set_option linter.unusedVariables false
set_option linter.unusedSimpArgs false
set_option maxRecDepth 10000
namespace Go.Proofs.YtebfihecdooneaaDoor.V
open Go Go.Proofs

theorem c_with (w : World) (xs : List Pair) (v0 : Value) (R : Rep [] w (pairsD xs) v0) (p : Pair) (hn : xs.length ≤ 1000000) : Calls Tryd.prog 22 [v0, p.agg].toArray w (Ret fun u w' => Own w' 35 2 u (withP xs p).length (((withP xs p).map Pair.cells).flatten) ∧ (∀ x ∈ ob u, w.heap.size ≤ x) ∧ Mod [] w w') := by
  refine enter Tryd.func22 rfl rfl rfl (l := [(0, _), (1, _)]) ⟨rfl, rfl, trivial⟩ ?_
  have E := Mod.refl [] w
  obtain ⟨ad, c, rfl, hc1, hc2⟩ := flat_len R
  refine c_seq fun K1 hK1 => ?_
  refine c_region ?_
  refine s_box rfl rfl rfl fun g1 w1 N1 => ?_
  have Lg1_E := N1.le E
  replace E := E.then N1.mod
  have Bg1 := N1.blk
  refine sv (o_as rfl) rfl ?_
  refine l_nil ?_
  refine e_K (hK1 _ _ _ _ ?_)
  refine c_seq fun K2 hK2 => ?_
  refine c_region ?_
  refine sv (o_as rfl) rfl ?_
  refine l_nil ?_
  refine e_K (hK2 _ _ _ _ ?_)
  refine c_seq fun K3 hK3 => ?_
  refine c_seq fun K4 hK4 => ?_
  refine c_region ?_
  refine sv (o_mv rfl) rfl ?_
  refine sv (o_len Tryd.underlying32 rfl) rfl ?_
  refine sv (o_mv rfl) rfl ?_
  refine l_nil ?_
  refine e_K (hK4 _ _ _ _ ?_)
  refine c_block ?_
  refine c_loop (σ := Nat × Value) (fun ⟨k, v⟩ => [(0, .slice ad xs.length c), (3, .pointer (some ⟨g1, 0, none⟩)), (5, v), (10, .slice ad xs.length c), (11, .int .i64 xs.length), (12, .int .i64 (k : Int))]) (fun ⟨k, v⟩ w1 => k ≤ xs.length ∧ Own w1 35 2 v (((xs.take k).filter fun x => plt x p)).length (((((xs.take k).filter fun x => plt x p)).map Pair.cells).flatten) ∧ (∀ x ∈ ob v, w.heap.size ≤ x) ∧ (∀ x ∈ ob v, x ≠ g1) ∧ Blk w1 g1 35 p.cells ∧ w.heap.size ≤ g1 ∧ Mod [] w w1) (fun ⟨k, v⟩ => xs.length - k) (⟨0, .slice none 0 0⟩) ⟨rfl, rfl, rfl, rfl, rfl, rfl, trivial⟩ (⟨by omega, by simpa using Own.nil w1 35 2, by simp [ob], by simp [ob], Bg1, Lg1_E, E⟩) ?_
  rintro ⟨k, v⟩ w2 ⟨hk, Oa0, L0, D0, Bg1, Lg1_E, E⟩
  refine c_seq fun K5 hK5 => ?_
  refine c_region ?_
  refine sv (o_lss rfl rfl) rfl ?_
  refine l_nil ?_
  refine e_K (hK5 _ _ _ _ ?_)
  refine c_seq fun K6 hK6 => ?_
  refine c_if rfl (fun h13 => ?_) (fun h13 => ?_)
  · skip
    have hlt : k < xs.length := by omega
    obtain ⟨x, hx_x⟩ : ∃ x, xs[k]? = some x := ⟨_, List.getElem?_eq_getElem (by omega)⟩
    obtain ⟨a_x, ha_x, hcs_x, _⟩ := flat_at (R.to0 E) hx_x
    obtain rfl := ha_x
    have hf1 := List.length_filter_le (fun x => plt x p) (xs.take k)
    have hf2 := List.length_filter_le (fun x => plt p x) (xs.take k)
    have hf3 := List.length_filter_le (fun x => plt x p) xs
    have hf4 : (xs.take k).length ≤ xs.length := by rw [List.length_take]; omega
    refine c_skip ?_
    refine e_K (hK6 _ _ _ _ ?_)
    refine c_seq fun K7 hK7 => ?_
    refine c_block ?_
    refine c_seq fun K8 hK8 => ?_
    refine c_region ?_
    refine sv (o_ix sl32 rfl rfl (by omega)) rfl ?_
    refine sv (o_lda ag35 rfl rfl hcs_x) rfl ?_
    refine s_alloc zv35 rfl fun g2 w3 N2 => ?_
    have Lg2_E := N2.le E
    have Dg1_g2 := N2.ne Bg1
    have Da0_g2 := N2.own_ne Oa0
    replace Bg1 := Bg1.mod0 N2.mod
    replace E := E.then N2.mod
    replace Oa0 := Oa0.mod0 N2.mod
    have Bg2 := N2.blk
    refine s_sta (vs := [_, _]) ag35 Bg2 rfl rfl rfl (by simp [Value.oneCell']) (by simp) fun w4 P4 => ?_
    replace Bg1 := Bg1.ne P4.mod (Ne.symm (Ne.symm Dg1_g2))
    replace E := E.own P4.mod Lg2_E
    replace Oa0 := Oa0.put P4.mod Da0_g2
    replace Bg2 : Blk w4 g2 _ [_, _] := P4.blk
    refine l_nil ?_
    refine e_K (hK8 _ _ _ _ ?_)
    refine c_seq fun K9 hK9 => ?_
    refine c_region ?_
    refine sv (o_lda (vs := [_, _]) ag35 rfl rfl (Bg2.cs rfl)) rfl ?_
    refine sv (o_lda (vs := [_, _]) ag35 rfl rfl (Bg1.cs rfl)) rfl ?_
    refine sc (o_call ent25 rfl) (c_plt _ _ _) rfl fun v_ w5 h_ => ?_
    obtain ⟨rfl, E_⟩ := h_
    replace Bg1 := Bg1.mod0 E_
    replace Bg2 := Bg2.mod0 E_
    replace E := E.then E_
    replace Oa0 := Oa0.mod0 E_
    refine l_nil ?_
    refine e_K (hK9 _ _ _ _ ?_)
    refine c_cond rfl (fun h18 => ?_) (fun h18 => ?_)
    · skip
      refine c_region ?_
      refine sv (o_mv rfl) rfl ?_
      refine sv (o_lda (vs := [_, _]) ag35 rfl rfl (Bg2.cs rfl)) rfl ?_
      refine s_bslice (cs := [_, _]) sl32 zv35 rfl rfl rfl (by decide) rfl fun g3 w6 N3 => ?_
      have Lg3_E := N3.le E
      have Dg1_g3 := N3.ne Bg1
      have Dg2_g3 := N3.ne Bg2
      have Da0_g3 := N3.own_ne Oa0
      replace Bg1 := Bg1.mod0 N3.mod
      replace Bg2 := Bg2.mod0 N3.mod
      replace E := E.then N3.mod
      replace Oa0 := Oa0.mod0 N3.mod
      have Bg3 := N3.blk
      refine s_append sl32 rfl rfl Oa0 (Src.own Tryd.underlying32 (Own.all (cs := [_, _]) Bg3 rfl (by omega)) (by simp [Value.oneCell'])) (by decide) (by omega) (by omega) rfl fun v1 w7 A1 => ?_
      have Dv1_g1 := A1.ne D0 Bg1
      have Dv1_g2 := A1.ne Da0_g2 Bg2
      have Dv1_g3 := A1.ne Da0_g3 Bg3
      have Lv1_E := A1.ge L0 E
      replace Bg1 := Bg1.mod A1.mod (fun hx => D0 _ hx rfl)
      replace Bg2 := Bg2.mod A1.mod (fun hx => Da0_g2 _ hx rfl)
      replace Bg3 := Bg3.mod A1.mod (fun hx => Da0_g3 _ hx rfl)
      replace E := E.trans' A1.mod (fun x hx => .inr (L0 x hx))
      replace Oa0 := A1.own
      refine sv (o_as rfl) rfl ?_
      refine l_nil ?_
      refine e_in (by simp) ?_
      refine e_K (hK7 _ _ _ _ ?_)
      refine c_region ?_
      refine sv (o_addN rfl rfl (by omega)) rfl ?_
      refine sv (o_mv rfl) rfl ?_
      refine l_nil ?_
      exact e_round (σ := Nat × Value) (s := ⟨k, v⟩) (⟨k + 1, v1⟩) ⟨rfl, rfl, rfl, rfl, rfl, rfl, trivial⟩ ⟨by omega, Oa0.snoc rfl (by rw [filter_snoc _ hx_x]; simp [h18]), Lv1_E, Dv1_g1, Bg1, Lg1_E, E⟩ (by dsimp only; omega)
    · skip
      refine c_skip ?_
      refine e_in (by simp) ?_
      refine e_K (hK7 _ _ _ _ ?_)
      refine c_region ?_
      refine sv (o_addN rfl rfl (by omega)) rfl ?_
      refine sv (o_mv rfl) rfl ?_
      refine l_nil ?_
      exact e_round (σ := Nat × Value) (s := ⟨k, v⟩) (⟨k + 1, v⟩) ⟨rfl, rfl, rfl, rfl, rfl, rfl, trivial⟩ ⟨by omega, Oa0.same (by rw [filter_snoc _ hx_x]; simp [h18]) (by rw [filter_snoc _ hx_x]; simp [h18]), L0, D0, Bg1, Lg1_E, E⟩ (by dsimp only; omega)
  · skip
    have hf1 := List.length_filter_le (fun x => plt x p) (xs.take k)
    have hf2 := List.length_filter_le (fun x => plt p x) (xs.take k)
    have hf3 := List.length_filter_le (fun x => plt x p) xs
    have hf4 : (xs.take k).length ≤ xs.length := by rw [List.length_take]; omega
    refine c_exit ?_
    refine e_then (by simp) ?_
    refine e_then (by simp) ?_
    refine e_hit ?_
    refine e_K (hK3 _ _ _ _ ?_)
    refine c_seq fun K10 hK10 => ?_
    refine c_region ?_
    refine sv (o_mv rfl) rfl ?_
    refine sv (o_lda (vs := [_, _]) ag35 rfl rfl (Bg1.cs rfl)) rfl ?_
    refine s_bslice (cs := [_, _]) sl32 zv35 rfl rfl rfl (by decide) rfl fun g4 w8 N4 => ?_
    have Lg4_E := N4.le E
    have Dg1_g4 := N4.ne Bg1
    have Da0_g4 := N4.own_ne Oa0
    replace Bg1 := Bg1.mod0 N4.mod
    replace E := E.then N4.mod
    replace Oa0 := Oa0.mod0 N4.mod
    have Bg4 := N4.blk
    refine s_append sl32 rfl rfl Oa0 (Src.own Tryd.underlying32 (Own.all (cs := [_, _]) Bg4 rfl (by omega)) (by simp [Value.oneCell'])) (by decide) (by omega) (by omega) rfl fun v2 w9 A2 => ?_
    have Dv2_g1 := A2.ne D0 Bg1
    have Dv2_g4 := A2.ne Da0_g4 Bg4
    have Lv2_E := A2.ge L0 E
    replace Bg1 := Bg1.mod A2.mod (fun hx => D0 _ hx rfl)
    replace Bg4 := Bg4.mod A2.mod (fun hx => Da0_g4 _ hx rfl)
    replace E := E.trans' A2.mod (fun x hx => .inr (L0 x hx))
    replace Oa0 := A2.own
    refine sv (o_as rfl) rfl ?_
    refine l_nil ?_
    refine e_K (hK10 _ _ _ _ ?_)
    refine c_seq fun K11 hK11 => ?_
    refine c_seq fun K12 hK12 => ?_
    refine c_region ?_
    refine sv (o_mv rfl) rfl ?_
    refine sv (o_len Tryd.underlying32 rfl) rfl ?_
    refine sv (o_mv rfl) rfl ?_
    refine l_nil ?_
    refine e_K (hK12 _ _ _ _ ?_)
    refine c_block ?_
    refine c_loop (σ := Nat × Value) (fun ⟨k, v⟩ => [(3, .pointer (some ⟨g1, 0, none⟩)), (5, v), (28, .slice ad xs.length c), (29, .int .i64 xs.length), (30, .int .i64 (k : Int))]) (fun ⟨k, v⟩ w1 => k ≤ xs.length ∧ Own w1 35 2 v (((xs.filter fun x => plt x p) ++ [p] ++ (xs.take k).filter fun x => plt p x)).length (((((xs.filter fun x => plt x p) ++ [p] ++ (xs.take k).filter fun x => plt p x)).map Pair.cells).flatten) ∧ (∀ x ∈ ob v, w.heap.size ≤ x) ∧ (∀ x ∈ ob v, x ≠ g1) ∧ Blk w1 g1 35 p.cells ∧ w.heap.size ≤ g1 ∧ Mod [] w w1) (fun ⟨k, v⟩ => xs.length - k) (⟨0, v2⟩) ⟨rfl, rfl, rfl, rfl, rfl, trivial⟩ (⟨by omega, (Oa0.snoc (ys := (xs.filter fun x => plt x p) ++ [p]) rfl (by rw [List.take_of_length_le (by omega)])).same (by simp) (by simp), Lv2_E, Dv2_g1, Bg1, Lg1_E, E⟩) ?_
    rintro ⟨k, v⟩ w10 ⟨hk, Oa0, L0, D0, Bg1, Lg1_E, E⟩
    refine c_seq fun K13 hK13 => ?_
    refine c_region ?_
    refine sv (o_lss rfl rfl) rfl ?_
    refine l_nil ?_
    refine e_K (hK13 _ _ _ _ ?_)
    refine c_seq fun K14 hK14 => ?_
    refine c_if rfl (fun h31 => ?_) (fun h31 => ?_)
    · skip
      have hlt : k < xs.length := by omega
      obtain ⟨x, hx_x⟩ : ∃ x, xs[k]? = some x := ⟨_, List.getElem?_eq_getElem (by omega)⟩
      obtain ⟨a_x, ha_x, hcs_x, _⟩ := flat_at (R.to0 E) hx_x
      obtain rfl := ha_x
      have hf1 := List.length_filter_le (fun x => plt x p) (xs.take k)
      have hf2 := List.length_filter_le (fun x => plt p x) (xs.take k)
      have hf3 := List.length_filter_le (fun x => plt x p) xs
      have hf4 : (xs.take k).length ≤ xs.length := by rw [List.length_take]; omega
      refine c_skip ?_
      refine e_K (hK14 _ _ _ _ ?_)
      refine c_seq fun K15 hK15 => ?_
      refine c_block ?_
      refine c_seq fun K16 hK16 => ?_
      refine c_region ?_
      refine sv (o_ix sl32 rfl rfl (by omega)) rfl ?_
      refine sv (o_lda ag35 rfl rfl hcs_x) rfl ?_
      refine s_alloc zv35 rfl fun g5 w11 N5 => ?_
      have Lg5_E := N5.le E
      have Dg1_g5 := N5.ne Bg1
      have Da0_g5 := N5.own_ne Oa0
      replace Bg1 := Bg1.mod0 N5.mod
      replace E := E.then N5.mod
      replace Oa0 := Oa0.mod0 N5.mod
      have Bg5 := N5.blk
      refine s_sta (vs := [_, _]) ag35 Bg5 rfl rfl rfl (by simp [Value.oneCell']) (by simp) fun w12 P12 => ?_
      replace Bg1 := Bg1.ne P12.mod (Ne.symm (Ne.symm Dg1_g5))
      replace E := E.own P12.mod Lg5_E
      replace Oa0 := Oa0.put P12.mod Da0_g5
      replace Bg5 : Blk w12 g5 _ [_, _] := P12.blk
      refine l_nil ?_
      refine e_K (hK16 _ _ _ _ ?_)
      refine c_seq fun K17 hK17 => ?_
      refine c_region ?_
      refine sv (o_lda (vs := [_, _]) ag35 rfl rfl (Bg1.cs rfl)) rfl ?_
      refine sv (o_lda (vs := [_, _]) ag35 rfl rfl (Bg5.cs rfl)) rfl ?_
      refine sc (o_call ent25 rfl) (c_plt _ _ _) rfl fun v_ w13 h_ => ?_
      obtain ⟨rfl, E_⟩ := h_
      replace Bg1 := Bg1.mod0 E_
      replace Bg5 := Bg5.mod0 E_
      replace E := E.then E_
      replace Oa0 := Oa0.mod0 E_
      refine l_nil ?_
      refine e_K (hK17 _ _ _ _ ?_)
      refine c_cond rfl (fun h36 => ?_) (fun h36 => ?_)
      · skip
        refine c_region ?_
        refine sv (o_mv rfl) rfl ?_
        refine sv (o_lda (vs := [_, _]) ag35 rfl rfl (Bg5.cs rfl)) rfl ?_
        refine s_bslice (cs := [_, _]) sl32 zv35 rfl rfl rfl (by decide) rfl fun g6 w14 N6 => ?_
        have Lg6_E := N6.le E
        have Dg1_g6 := N6.ne Bg1
        have Dg5_g6 := N6.ne Bg5
        have Da0_g6 := N6.own_ne Oa0
        replace Bg1 := Bg1.mod0 N6.mod
        replace Bg5 := Bg5.mod0 N6.mod
        replace E := E.then N6.mod
        replace Oa0 := Oa0.mod0 N6.mod
        have Bg6 := N6.blk
        refine s_append sl32 rfl rfl Oa0 (Src.own Tryd.underlying32 (Own.all (cs := [_, _]) Bg6 rfl (by omega)) (by simp [Value.oneCell'])) (by decide) (by simp only [List.length_append, List.length_singleton]; omega) (by simp only [List.length_append, List.length_singleton]; omega) rfl fun v3 w15 A3 => ?_
        have Dv3_g1 := A3.ne D0 Bg1
        have Dv3_g5 := A3.ne Da0_g5 Bg5
        have Dv3_g6 := A3.ne Da0_g6 Bg6
        have Lv3_E := A3.ge L0 E
        replace Bg1 := Bg1.mod A3.mod (fun hx => D0 _ hx rfl)
        replace Bg5 := Bg5.mod A3.mod (fun hx => Da0_g5 _ hx rfl)
        replace Bg6 := Bg6.mod A3.mod (fun hx => Da0_g6 _ hx rfl)
        replace E := E.trans' A3.mod (fun x hx => .inr (L0 x hx))
        replace Oa0 := A3.own
        refine sv (o_as rfl) rfl ?_
        refine l_nil ?_
        refine e_in (by simp) ?_
        refine e_K (hK15 _ _ _ _ ?_)
        refine c_region ?_
        refine sv (o_addN rfl rfl (by omega)) rfl ?_
        refine sv (o_mv rfl) rfl ?_
        refine l_nil ?_
        exact e_round (σ := Nat × Value) (s := ⟨k, v⟩) (⟨k + 1, v3⟩) ⟨rfl, rfl, rfl, rfl, rfl, trivial⟩ ⟨by omega, Oa0.snoc rfl (by rw [filter_snoc _ hx_x]; simp [h36]), Lv3_E, Dv3_g1, Bg1, Lg1_E, E⟩ (by dsimp only; omega)
      · skip
        refine c_skip ?_
        refine e_in (by simp) ?_
        refine e_K (hK15 _ _ _ _ ?_)
        refine c_region ?_
        refine sv (o_addN rfl rfl (by omega)) rfl ?_
        refine sv (o_mv rfl) rfl ?_
        refine l_nil ?_
        exact e_round (σ := Nat × Value) (s := ⟨k, v⟩) (⟨k + 1, v⟩) ⟨rfl, rfl, rfl, rfl, rfl, trivial⟩ ⟨by omega, Oa0.same (by rw [filter_snoc _ hx_x]; simp [h36]) (by rw [filter_snoc _ hx_x]; simp [h36]), L0, D0, Bg1, Lg1_E, E⟩ (by dsimp only; omega)
    · skip
      have hk2 : k = xs.length := by omega
      subst hk2
      refine c_exit ?_
      refine e_then (by simp) ?_
      refine e_then (by simp) ?_
      refine e_hit ?_
      refine e_K (hK11 _ _ _ _ ?_)
      refine c_seq fun K18 hK18 => ?_
      refine c_region ?_
      refine sv (o_mv rfl) rfl ?_
      refine sv (o_as rfl) rfl ?_
      refine l_nil ?_
      refine e_K (hK18 _ _ _ _ ?_)
      refine c_ret ?_
      exact ret1 rfl rfl ⟨Oa0.same (by simp [withP]) (by simp [withP]), L0, E⟩

theorem c_compact (w : World) (xs : List Pair) (v : Value) (O : Own w 35 2 v xs.length ((xs.map Pair.cells).flatten)) (hn : xs.length ≤ 1000000) : Calls Tryd.prog 21 [v].toArray w (Ret fun u w' => Own w' 35 2 u (dd xs).length (((dd xs).map Pair.cells).flatten) ∧ (∀ x ∈ ob u, x ∈ ob v) ∧ Mod (ob v) w w') := by
  refine enter Tryd.func21 rfl rfl rfl (l := [(0, _)]) ⟨rfl, trivial⟩ ?_
  have E := Mod.refl [] w
  obtain ⟨ad, c, rfl, hc1, hc2⟩ := O.form
  have R := O.pairs [] (by simp)
  refine c_seq fun K1 hK1 => ?_
  refine c_region ?_
  refine sv (o_as rfl) rfl ?_
  refine l_nil ?_
  refine e_K (hK1 _ _ _ _ ?_)
  refine c_seq fun K2 hK2 => ?_
  refine c_seq fun K3 hK3 => ?_
  refine c_region ?_
  refine sv (o_mv rfl) rfl ?_
  refine sv (o_len Tryd.underlying32 rfl) rfl ?_
  refine sv (o_lss rfl rfl) rfl ?_
  refine l_nil ?_
  refine e_K (hK3 _ _ _ _ ?_)
  refine c_if rfl (fun h8 => ?_) (fun h8 => ?_)
  · skip
    have hdx : dd xs = xs := by
      have := @dd_one xs
      rwa [List.take_of_length_le (by omega)] at this
    refine c_seq fun K4 hK4 => ?_
    refine c_region ?_
    refine sv (o_mv rfl) rfl ?_
    refine sv (o_as rfl) rfl ?_
    refine l_nil ?_
    refine e_K (hK4 _ _ _ _ ?_)
    refine c_ret ?_
    refine e_then (by simp) ?_
    exact ret1 rfl rfl ⟨by rw [hdx]; exact O.mod0 E, fun x hx => hx, E.mono (by simp)⟩
  · skip
    refine c_skip ?_
    refine e_K (hK2 _ _ _ _ ?_)
    refine c_seq fun K5 hK5 => ?_
    refine c_seq fun K6 hK6 => ?_
    refine c_region ?_
    refine sv (o_as rfl) rfl ?_
    refine l_nil ?_
    refine e_K (hK6 _ _ _ _ ?_)
    refine c_block ?_
    refine c_loop (σ := Nat) (fun k => [(0, .slice ad xs.length c), (3, .int .i64 ((k + 1 : Nat) : Int))]) (fun k w1 => (k = 0 ∨ k < xs.length) ∧ dd (xs.take (k + 1)) = xs.take (k + 1) ∧ Mod [] w w1) (fun k => xs.length - k) (0) ⟨rfl, rfl, trivial⟩ (⟨.inl rfl, dd_one, E⟩) ?_
    rintro k w1 ⟨hk, hd, E⟩
    refine c_seq fun K7 hK7 => ?_
    refine c_seq fun K8 hK8 => ?_
    refine c_region ?_
    refine sv (o_mv rfl) rfl ?_
    refine sv (o_mv rfl) rfl ?_
    refine sv (o_len Tryd.underlying32 rfl) rfl ?_
    refine sv (o_lss rfl rfl) rfl ?_
    refine l_nil ?_
    refine e_K (hK8 _ _ _ _ ?_)
    refine c_if rfl (fun h13 => ?_) (fun h13 => ?_)
    · skip
      have hlt : k + 1 < xs.length := by omega
      obtain ⟨x, hx_x⟩ : ∃ x, xs[k]? = some x := ⟨_, List.getElem?_eq_getElem (by omega)⟩
      obtain ⟨a_x, ha_x, hcs_x, _⟩ := flat_at (R.to0 E) hx_x
      subst ha_x
      obtain ⟨y, hx_y⟩ : ∃ x, xs[k + 1]? = some x := ⟨_, List.getElem?_eq_getElem (by omega)⟩
      obtain ⟨a_y, ha_y, hcs_y, _⟩ := flat_at (R.to0 E) hx_y
      injection ha_y with ha_y
      subst ha_y
      refine c_skip ?_
      refine e_K (hK7 _ _ _ _ ?_)
      refine c_seq fun K9 hK9 => ?_
      refine c_block ?_
      refine c_seq fun K10 hK10 => ?_
      refine c_draw wide (by kernel_rfl) ?_
      refine tv (fun w_ E_ => (o_mv rfl)) rfl rfl ?_
      refine tv (fun w_ E_ => (o_mv rfl)) rfl rfl ?_
      refine tv (fun w_ E_ => (o_ix sl32 rfl rfl (by omega))) rfl rfl ?_
      refine tv (fun w_ E_ => (o_lda ag35 rfl rfl (hcs_y.mod0 E_))) rfl rfl ?_
      refine tv (fun w_ E_ => (o_mv rfl)) rfl rfl ?_
      refine tv (fun w_ E_ => (o_mv rfl)) rfl rfl ?_
      refine tv (fun w_ E_ => (o_subE (r := (k : Int)) rfl rfl (by rw [wrap64_in _ (by omega)]; omega))) rfl rfl ?_
      refine tv (fun w_ E_ => (o_ix sl32 rfl rfl (by omega))) rfl rfl ?_
      refine tv (fun w_ E_ => (o_lda ag35 rfl rfl (hcs_x.mod0 E_))) rfl rfl ?_
      refine tv (fun w_ E_ => (o_steq (se35 ..) rfl rfl rfl)) rfl rfl ?_
      refine tw_nil rfl fun w2 E_ => ?_
      replace E := E.then E_
      refine e_K (hK10 _ _ _ _ ?_)
      refine c_cond rfl (fun h25 => ?_) (fun h25 => ?_)
      · skip
        have hyx : y = x := by obtain ⟨x1, x2⟩ := x; obtain ⟨y1, y2⟩ := y; simp at h25; simp [h25]
        obtain ⟨ad3, had3⟩ : ∃ a, a_x = a := ⟨_, rfl⟩
        subst had3
        obtain ⟨ad3, had3⟩ : ∃ a, a = a_x := ⟨_, rfl⟩
        subst had3
        have hA2 : adS (some ad3) c (k + 1) 2 = some (ad3.add ((k + 1) * 2)) := by unfold adS; rw [if_neg (by omega)]; rfl
        refine c_seq fun K11 hK11 => ?_
        refine c_region ?_
        refine sv (o_mv rfl) rfl ?_
        refine sv (o_mv rfl) rfl ?_
        refine sv ((o_slfrom sl32 rfl rfl (by omega) (by omega)).to (by rw [hA2])) rfl ?_
        refine sv (o_as rfl) rfl ?_
        refine l_nil ?_
        refine e_K (hK11 _ _ _ _ ?_)
        refine c_seq fun K12 hK12 => ?_
        refine c_seq fun K13 hK13 => ?_
        refine c_region ?_
        refine sv (o_as rfl) rfl ?_
        refine l_nil ?_
        refine e_K (hK13 _ _ _ _ ?_)
        refine c_block ?_
        refine c_loop (σ := Nat × Nat × List Pair) (fun ⟨j, m, M⟩ => [(0, .slice (some ad3) xs.length c), (3, .int .i64 (m : Int)), (4, .slice (some (ad3.add ((k + 1) * 2))) (xs.length - (k + 1)) (c - (k + 1))), (5, .int .i64 ((j + 1 : Nat) : Int))]) (fun ⟨j, m, M⟩ w1 => k + 1 + (j + 1) ≤ xs.length ∧ M.length = xs.length ∧ m ≤ k + 1 + j ∧ M.take m = dd (xs.take (k + 1 + (j + 1))) ∧ (∀ i, k + 1 + j ≤ i → M[i]? = xs[i]?) ∧ Own w1 35 2 (.slice (some ad3) xs.length c) xs.length ((M.map Pair.cells).flatten) ∧ Mod (ob (.slice (some ad3) xs.length c)) w w1) (fun ⟨j, m, M⟩ => xs.length - j) (⟨0, k + 1, xs⟩) ⟨rfl, rfl, rfl, rfl, trivial⟩ (⟨by omega, rfl, by omega, by rw [show k + 1 + (0 + 1) = k + 1 + 1 from rfl, dd_succ hx_x hx_y, if_pos hyx, List.append_nil, hd], fun _ _ => rfl, O.mod0 E, E.mono (by simp)⟩) ?_
        rintro ⟨j, m, M⟩ w3 ⟨hj, hM, hm, hdd, hsame, Ov, E⟩
        refine c_seq fun K14 hK14 => ?_
        refine c_seq fun K15 hK15 => ?_
        refine c_region ?_
        refine sv (o_mv rfl) rfl ?_
        refine sv (o_mv rfl) rfl ?_
        refine sv (o_len Tryd.underlying32 rfl) rfl ?_
        refine sv (o_lss rfl rfl) rfl ?_
        refine l_nil ?_
        refine e_K (hK15 _ _ _ _ ?_)
        refine c_if rfl (fun h32 => ?_) (fun h32 => ?_)
        · skip
          have hlt2 : k + 1 + (j + 1) < xs.length := by omega
          obtain ⟨z, hx_z⟩ : ∃ x, xs[k + 1 + (j + 1)]? = some x := ⟨_, List.getElem?_eq_getElem (by omega)⟩
          obtain ⟨y2, hx_y2⟩ : ∃ x, xs[k + 1 + j]? = some x := ⟨_, List.getElem?_eq_getElem (by omega)⟩
          have RO := Own.pairsN [] Ov hM (by simp)
          have hM_z : M[k + 1 + (j + 1)]? = some z := (hsame _ (by omega)).trans hx_z
          obtain ⟨a_z, ha_z, hcs_z, _⟩ := flat_at (cells := Pair.cells) RO hM_z
          injection ha_z with ha_z
          subst ha_z
          rw [show (ad3.add ((k + 1 + (j + 1)) * 2)) = (ad3.add ((k + 1) * 2)).add ((j + 1) * 2) by rw [Addr.add_add, ← Nat.add_mul]] at hcs_z
          have hM_y2 : M[k + 1 + (j)]? = some y2 := (hsame _ (by omega)).trans hx_y2
          obtain ⟨a_y2, ha_y2, hcs_y2, _⟩ := flat_at (cells := Pair.cells) RO hM_y2
          injection ha_y2 with ha_y2
          subst ha_y2
          rw [show (ad3.add ((k + 1 + (j)) * 2)) = (ad3.add ((k + 1) * 2)).add ((j) * 2) by rw [Addr.add_add, ← Nat.add_mul]] at hcs_y2
          refine c_skip ?_
          refine e_K (hK14 _ _ _ _ ?_)
          refine c_seq fun K16 hK16 => ?_
          refine c_block ?_
          refine c_seq fun K17 hK17 => ?_
          refine c_draw wide (by kernel_rfl) ?_
          refine tv (fun w_ E_ => (o_mv rfl)) rfl rfl ?_
          refine tv (fun w_ E_ => (o_mv rfl)) rfl rfl ?_
          refine tv (fun w_ E_ => (o_ix sl32 rfl rfl (by omega))) rfl rfl ?_
          refine tv (fun w_ E_ => (o_lda ag35 rfl rfl (hcs_z.mod0 E_))) rfl rfl ?_
          refine tv (fun w_ E_ => (o_mv rfl)) rfl rfl ?_
          refine tv (fun w_ E_ => (o_mv rfl)) rfl rfl ?_
          refine tv (fun w_ E_ => (o_subE (r := (j : Int)) rfl rfl (by rw [wrap64_in _ (by omega)]; omega))) rfl rfl ?_
          refine tv (fun w_ E_ => (o_ix sl32 rfl rfl (by omega))) rfl rfl ?_
          refine tv (fun w_ E_ => (o_lda ag35 rfl rfl (hcs_y2.mod0 E_))) rfl rfl ?_
          refine tv (fun w_ E_ => (o_stne (se35 ..) rfl rfl rfl)) rfl rfl ?_
          refine tw_nil rfl fun w4 E_ => ?_
          replace E := E.then E_
          replace Ov := Ov.mod0 E_
          replace hcs_z := hcs_z.mod0 E_
          refine e_K (hK17 _ _ _ _ ?_)
          refine c_cond rfl (fun h44 => ?_) (fun h44 => ?_)
          · skip
            have hzy : z ≠ y2 := by rintro rfl; simp at h44
            have hmM : m < M.length := by omega
            refine c_seq fun K18 hK18 => ?_
            refine c_region ?_
            refine sv (o_mv rfl) rfl ?_
            refine sv (o_mv rfl) rfl ?_
            refine sv (o_mv rfl) rfl ?_
            refine sv (o_mv rfl) rfl ?_
            refine sv (o_ix sl32 rfl rfl (by omega)) rfl ?_
            refine sv (o_lda ag35 rfl rfl hcs_z) rfl ?_
            refine sv (o_ix sl32 rfl rfl (by omega)) rfl ?_
            refine s_stown (us := [_, _]) ag35 Ov rfl rfl rfl (by simp [Value.oneCell']) (i := m) (by omega) fun wS Ov2 ES hzS => ?_
            replace E := E.trans' ES (fun x hx => .inl (by simpa [ob] using hx))
            clear Ov
            have Ov := Ov2.same rfl (flat_setg (cells := Pair.cells) (s := z) (fun _ => rfl) hmM)
            refine l_nil ?_
            refine e_K (hK18 _ _ _ _ ?_)
            refine c_region ?_
            refine sv (o_mv rfl) rfl ?_
            refine sv (o_addN rfl rfl (by omega)) rfl ?_
            refine sv (o_as rfl) rfl ?_
            refine l_nil ?_
            refine e_in (by simp) ?_
            refine e_K (hK16 _ _ _ _ ?_)
            refine c_region ?_
            refine sv (o_mv rfl) rfl ?_
            refine sv (o_addN rfl rfl (by omega)) rfl ?_
            refine sv (o_as rfl) rfl ?_
            refine l_nil ?_
            exact e_round (σ := Nat × Nat × List Pair) (s := ⟨j, m, M⟩) (⟨j + 1, m + 1, M.set m z⟩) ⟨rfl, rfl, rfl, rfl, trivial⟩ ⟨by omega, by rw [List.length_set]; exact hM, by omega, by show _ = dd (xs.take (k + 1 + j + 1 + 1)); rw [dd_succ (j := k + 1 + j) hx_y2 hx_z, if_neg hzy, ← show M.take m = dd (xs.take (k + 1 + j + 1)) from hdd]; exact take_setg (by omega), fun i hi => by rw [List.getElem?_set_ne (by omega)]; exact hsame i (by omega), Ov, E⟩ (by dsimp only; omega)
          · skip
            have hzy : z = y2 := by obtain ⟨z1, z2⟩ := z; obtain ⟨y21, y22⟩ := y2; simp at h44; simp [h44]
            refine c_skip ?_
            refine e_in (by simp) ?_
            refine e_K (hK16 _ _ _ _ ?_)
            refine c_region ?_
            refine sv (o_mv rfl) rfl ?_
            refine sv (o_addN rfl rfl (by omega)) rfl ?_
            refine sv (o_as rfl) rfl ?_
            refine l_nil ?_
            exact e_round (σ := Nat × Nat × List Pair) (s := ⟨j, m, M⟩) (⟨j + 1, m, M⟩) ⟨rfl, rfl, rfl, rfl, trivial⟩ ⟨by omega, hM, by omega, by show _ = dd (xs.take (k + 1 + j + 1 + 1)); rw [dd_succ (j := k + 1 + j) hx_y2 hx_z, if_pos hzy, List.append_nil]; exact hdd, fun i hi => hsame i (by omega), Ov, E⟩ (by dsimp only; omega)
        · skip
          have hfin : M.take m = dd xs := by
            rw [List.take_of_length_le (i := k + 1 + (j + 1)) (by omega)] at hdd
            exact hdd
          have hdl : (dd xs).length = m := by rw [← hfin, List.length_take]; omega
          refine c_exit ?_
          refine e_then (by simp) ?_
          refine e_then (by simp) ?_
          refine e_hit ?_
          refine e_K (hK12 _ _ _ _ ?_)
          refine c_seq fun K19 hK19 => ?_
          refine c_region ?_
          refine sv (o_mv rfl) rfl ?_
          refine sv (o_mv rfl) rfl ?_
          refine sv (o_slfrom sl32 rfl rfl (by omega) (by omega)) rfl ?_
          refine s_clear sl32 zv35 rfl (by decide) (by simp [Value.oneCell']) Ov (k := m) (by omega) rfl fun wC OC EC hzC => ?_
          replace E := E.trans' EC (fun x hx => .inl (by simpa [ob] using hx))
          have Od : Own wC 35 2 (.slice (some ad3) m c) (dd xs).length (((dd xs).map Pair.cells).flatten) := OC.same hdl.symm (by rw [flat_take_ (sz := 2) (cells := Pair.cells) (fun _ => rfl), hfin])
          refine l_nil ?_
          refine e_K (hK19 _ _ _ _ ?_)
          refine c_seq fun K20 hK20 => ?_
          refine c_region ?_
          refine sv (o_mv rfl) rfl ?_
          refine sv (o_mv rfl) rfl ?_
          refine sv (o_slto sl32 rfl rfl (by omega) (by omega)) rfl ?_
          refine sv (o_as rfl) rfl ?_
          refine l_nil ?_
          refine e_K (hK20 _ _ _ _ ?_)
          refine c_ret ?_
          refine e_in (by simp) ?_
          refine e_then (by simp) ?_
          refine e_then (by simp) ?_
          refine e_in (by simp) ?_
          refine e_then (by simp) ?_
          exact ret1 rfl rfl ⟨Od, fun x hx => by simpa [ob] using hx, E⟩
      · skip
        have hyx : y ≠ x := by rintro rfl; simp at h25
        refine c_skip ?_
        refine e_in (by simp) ?_
        refine e_K (hK9 _ _ _ _ ?_)
        refine c_region ?_
        refine sv (o_mv rfl) rfl ?_
        refine sv (o_addN rfl rfl (by omega)) rfl ?_
        refine sv (o_as rfl) rfl ?_
        refine l_nil ?_
        exact e_round (σ := Nat) (s := k) (k + 1) ⟨rfl, rfl, trivial⟩ ⟨by omega, by rw [dd_succ hx_x hx_y, if_neg hyx, hd, List.take_succ_eq_append_getElem (i := k + 1) (by omega), (List.getElem?_eq_some_iff.1 hx_y).2], E⟩ (by omega)
    · skip
      have hdx : dd xs = xs := by rwa [List.take_of_length_le (by omega)] at hd
      refine c_exit ?_
      refine e_then (by simp) ?_
      refine e_then (by simp) ?_
      refine e_hit ?_
      refine e_K (hK5 _ _ _ _ ?_)
      refine c_seq fun K21 hK21 => ?_
      refine c_region ?_
      refine sv (o_mv rfl) rfl ?_
      refine sv (o_as rfl) rfl ?_
      refine l_nil ?_
      refine e_K (hK21 _ _ _ _ ?_)
      refine c_ret ?_
      exact ret1 rfl rfl ⟨by rw [hdx]; exact O.mod0 E, fun x hx => hx, E.mono (by simp)⟩
end Go.Proofs.YtebfihecdooneaaDoor.V
