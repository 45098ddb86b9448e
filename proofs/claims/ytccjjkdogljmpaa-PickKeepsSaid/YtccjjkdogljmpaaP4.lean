/-
  A part of the proof: walks of functions, and the plain laws of what they compute. No condition of its own.
-/
import Derived.Test.YtccjjkdogljmpaaP3
set_option linter.unusedVariables false
set_option linter.unusedSimpArgs false
set_option maxRecDepth 10000
namespace Go.Proofs.Ytccjjkdogljmpaa.V
open Go Go.Proofs
theorem ovl41 : Ovl Try.prog 41 22 4 := fun args w => run_callFunc_extern Try.func41 (by kernel_rfl) (by kernel_rfl) (by kernel_rfl) (by kernel_rfl) args w
theorem c_putR (A : List Nat) (w : World) (xs : List Slot) (v0 : Value) (R : Rep A w (slotsD xs) v0) (s : Slot) (hn : xs.length ≤ 1000000) : Calls Try.prog 16 [v0, s.agg].toArray w (Ret fun u w' => Own w' 24 3 u (putS xs s).length (((putS xs s).map Slot.cells).flatten) ∧ (∀ x ∈ ob u, w.heap.size ≤ x) ∧ Mod [] w w') := by
  refine enter Try.func16 rfl rfl rfl (l := [(0, _), (1, _)]) ⟨rfl, rfl, trivial⟩ ?_
  have E := Mod.refl [] w
  obtain ⟨ad, c, rfl, hc1, hc2⟩ := flat_len R
  refine c_seq fun K1 hK1 => ?_
  refine c_region ?_
  refine s_box rfl rfl rfl fun g1 w1 N1 => ?_
  have Lg1_E := N1.le E
  replace E := E.then N1.mod
  have Bg1 := N1.blk
  refine sv (o_as rfl) rfl ?_
  refine l_nil ?_
  refine e_K (hK1 _ _ _ _ ?_)
  refine c_seq fun K2 hK2 => ?_
  refine c_region ?_
  refine sv (o_as rfl) rfl ?_
  refine l_nil ?_
  refine e_K (hK2 _ _ _ _ ?_)
  refine c_seq fun K3 hK3 => ?_
  refine c_seq fun K4 hK4 => ?_
  refine c_region ?_
  refine sv (o_mv rfl) rfl ?_
  refine sv (o_len Try.underlying22 rfl) rfl ?_
  refine sv (o_mv rfl) rfl ?_
  refine l_nil ?_
  refine e_K (hK4 _ _ _ _ ?_)
  refine c_block ?_
  refine c_loop (σ := Nat × Value) (fun ⟨k, v⟩ => [(0, .slice ad xs.length c), (3, .pointer (some ⟨g1, 0, none⟩)), (5, v), (10, .slice ad xs.length c), (11, .int .i64 xs.length), (12, .int .i64 (k : Int))]) (fun ⟨k, v⟩ w1 => k ≤ xs.length ∧ Own w1 24 3 v (((xs.take k).filter fun x => plt x.pair s.pair)).length (((((xs.take k).filter fun x => plt x.pair s.pair)).map Slot.cells).flatten) ∧ (∀ x ∈ ob v, w.heap.size ≤ x) ∧ (∀ x ∈ ob v, x ≠ g1) ∧ Blk w1 g1 24 s.cells ∧ Mod [] w w1) (fun ⟨k, v⟩ => xs.length - k) (⟨0, .slice none 0 0⟩) ⟨rfl, rfl, rfl, rfl, rfl, rfl, trivial⟩ (⟨by omega, by simpa using Own.nil w1 24 3, by simp [ob], by simp [ob], Bg1, E⟩) ?_
  rintro ⟨k, v⟩ w2 ⟨hk, Oa0, L0, D0, Bg1, E⟩
  refine c_seq fun K5 hK5 => ?_
  refine c_region ?_
  refine sv (o_lss rfl rfl) rfl ?_
  refine l_nil ?_
  refine e_K (hK5 _ _ _ _ ?_)
  refine c_seq fun K6 hK6 => ?_
  refine c_if rfl (fun h13 => ?_) (fun h13 => ?_)
  · skip
    have hlt : k < xs.length := by omega
    obtain ⟨x, hx_x⟩ : ∃ x, xs[k]? = some x := ⟨_, List.getElem?_eq_getElem (by omega)⟩
    obtain ⟨a_x, ha_x, hcs_x, _⟩ := flat_at (R.to0 E) hx_x
    subst ha_x
    have hf1 := List.length_filter_le (fun x => plt x.pair s.pair) (xs.take k)
    have hf2 := List.length_filter_le (fun x => plt s.pair x.pair) (xs.take k)
    have hf3 := List.length_filter_le (fun x => plt x.pair s.pair) xs
    have hf4 : (xs.take k).length ≤ xs.length := by rw [List.length_take]; omega
    refine c_skip ?_
    refine e_K (hK6 _ _ _ _ ?_)
    refine c_seq fun K7 hK7 => ?_
    refine c_block ?_
    refine c_seq fun K8 hK8 => ?_
    refine c_region ?_
    refine sv (o_ix sl22 rfl rfl (by omega)) rfl ?_
    refine sv (o_lda ag24 rfl rfl hcs_x) rfl ?_
    refine s_alloc zv24 rfl fun g2 w3 N2 => ?_
    have Lg2_E := N2.le E
    have Dg1_g2 := N2.ne Bg1
    have Da0_g2 := N2.own_ne Oa0
    replace Bg1 := Bg1.mod0 N2.mod
    replace E := E.then N2.mod
    replace Oa0 := Oa0.mod0 N2.mod
    have Bg2 := N2.blk
    refine s_sta (vs := [_, _, _]) ag24 Bg2 rfl rfl rfl (by simp [Value.oneCell']) (by simp) fun w4 P4 => ?_
    replace Bg1 := Bg1.ne P4.mod (Ne.symm (Ne.symm Dg1_g2))
    replace E := E.own P4.mod Lg2_E
    replace Oa0 := Oa0.put P4.mod Da0_g2
    replace Bg2 : Blk w4 g2 _ [_, _, _] := P4.blk
    refine l_nil ?_
    refine e_K (hK8 _ _ _ _ ?_)
    refine c_seq fun K9 hK9 => ?_
    refine c_draw wide (by kernel_rfl) ?_
    refine tv (fun w_ E_ => (o_lda (vs := [_, _, _]) ag24 rfl rfl ((Bg2.mod0 E_).cs rfl))) rfl rfl ?_
    refine tc (fun w_ E_ => o_call ent12 rfl) (fun w_ E_ => c_Of _ _) rfl rfl ?_
    refine tv (fun w_ E_ => (o_lda (vs := [_, _, _]) ag24 rfl rfl ((Bg1.mod0 E_).cs rfl))) rfl rfl ?_
    refine tc (fun w_ E_ => o_call ent12 rfl) (fun w_ E_ => c_Of _ _) rfl rfl ?_
    refine tc (fun w_ E_ => o_call ent31 rfl) (fun w_ E_ => c_plt _ _ _) rfl rfl ?_
    refine tw_nil rfl fun w5 E_ => ?_
    replace Bg1 := Bg1.mod0 E_
    replace Bg2 := Bg2.mod0 E_
    replace E := E.then E_
    replace Oa0 := Oa0.mod0 E_
    refine e_K (hK9 _ _ _ _ ?_)
    refine c_cond rfl (fun h20 => ?_) (fun h20 => ?_)
    · skip
      refine c_region ?_
      refine sv (o_mv rfl) rfl ?_
      refine sv (o_lda (vs := [_, _, _]) ag24 rfl rfl (Bg2.cs rfl)) rfl ?_
      refine s_bslice (cs := [_, _, _]) sl22 zv24 rfl rfl rfl (by decide) rfl fun g3 w6 N3 => ?_
      have Lg3_E := N3.le E
      have Dg1_g3 := N3.ne Bg1
      have Dg2_g3 := N3.ne Bg2
      have Da0_g3 := N3.own_ne Oa0
      replace Bg1 := Bg1.mod0 N3.mod
      replace Bg2 := Bg2.mod0 N3.mod
      replace E := E.then N3.mod
      replace Oa0 := Oa0.mod0 N3.mod
      have Bg3 := N3.blk
      refine s_append sl22 rfl rfl Oa0 (Src.own Try.underlying22 (Own.all (cs := [_, _, _]) Bg3 rfl (by omega)) (by simp [Value.oneCell'])) (by decide) (by omega) (by omega) rfl fun v1 w7 A1 => ?_
      have Dv1_g1 := A1.ne D0 Bg1
      have Dv1_g2 := A1.ne Da0_g2 Bg2
      have Dv1_g3 := A1.ne Da0_g3 Bg3
      have Lv1_E := A1.ge L0 E
      replace Bg1 := Bg1.mod A1.mod (fun hx => D0 _ hx rfl)
      replace Bg2 := Bg2.mod A1.mod (fun hx => Da0_g2 _ hx rfl)
      replace Bg3 := Bg3.mod A1.mod (fun hx => Da0_g3 _ hx rfl)
      replace E := E.trans' A1.mod (fun x hx => .inr (L0 x hx))
      replace Oa0 := A1.own
      refine sv (o_as rfl) rfl ?_
      refine l_nil ?_
      refine e_in (by simp) ?_
      refine e_K (hK7 _ _ _ _ ?_)
      refine c_region ?_
      refine sv (o_addN rfl rfl (by omega)) rfl ?_
      refine sv (o_mv rfl) rfl ?_
      refine l_nil ?_
      exact e_round (σ := Nat × Value) (s := ⟨k, v⟩) (⟨k + 1, v1⟩) ⟨rfl, rfl, rfl, rfl, rfl, rfl, trivial⟩ ⟨by omega, Oa0.snoc rfl (by rw [filter_snoc _ hx_x]; simp [h20]), Lv1_E, Dv1_g1, Bg1, E⟩ (by dsimp only; omega)
    · skip
      refine c_skip ?_
      refine e_in (by simp) ?_
      refine e_K (hK7 _ _ _ _ ?_)
      refine c_region ?_
      refine sv (o_addN rfl rfl (by omega)) rfl ?_
      refine sv (o_mv rfl) rfl ?_
      refine l_nil ?_
      exact e_round (σ := Nat × Value) (s := ⟨k, v⟩) (⟨k + 1, v⟩) ⟨rfl, rfl, rfl, rfl, rfl, rfl, trivial⟩ ⟨by omega, Oa0.same (by rw [filter_snoc _ hx_x]; simp [h20]) (by rw [filter_snoc _ hx_x]; simp [h20]), L0, D0, Bg1, E⟩ (by dsimp only; omega)
  · skip
    have hf1 := List.length_filter_le (fun x => plt x.pair s.pair) (xs.take k)
    have hf2 := List.length_filter_le (fun x => plt s.pair x.pair) (xs.take k)
    have hf3 := List.length_filter_le (fun x => plt x.pair s.pair) xs
    have hf4 : (xs.take k).length ≤ xs.length := by rw [List.length_take]; omega
    refine c_exit ?_
    refine e_then (by simp) ?_
    refine e_then (by simp) ?_
    refine e_hit ?_
    refine e_K (hK3 _ _ _ _ ?_)
    refine c_seq fun K10 hK10 => ?_
    refine c_region ?_
    refine sv (o_mv rfl) rfl ?_
    refine sv (o_lda (vs := [_, _, _]) ag24 rfl rfl (Bg1.cs rfl)) rfl ?_
    refine s_bslice (cs := [_, _, _]) sl22 zv24 rfl rfl rfl (by decide) rfl fun g4 w8 N4 => ?_
    have Lg4_E := N4.le E
    have Dg1_g4 := N4.ne Bg1
    have Da0_g4 := N4.own_ne Oa0
    replace Bg1 := Bg1.mod0 N4.mod
    replace E := E.then N4.mod
    replace Oa0 := Oa0.mod0 N4.mod
    have Bg4 := N4.blk
    refine s_append sl22 rfl rfl Oa0 (Src.own Try.underlying22 (Own.all (cs := [_, _, _]) Bg4 rfl (by omega)) (by simp [Value.oneCell'])) (by decide) (by omega) (by omega) rfl fun v2 w9 A2 => ?_
    have Dv2_g1 := A2.ne D0 Bg1
    have Dv2_g4 := A2.ne Da0_g4 Bg4
    have Lv2_E := A2.ge L0 E
    replace Bg1 := Bg1.mod A2.mod (fun hx => D0 _ hx rfl)
    replace Bg4 := Bg4.mod A2.mod (fun hx => Da0_g4 _ hx rfl)
    replace E := E.trans' A2.mod (fun x hx => .inr (L0 x hx))
    replace Oa0 := A2.own
    refine sv (o_as rfl) rfl ?_
    refine l_nil ?_
    refine e_K (hK10 _ _ _ _ ?_)
    refine c_seq fun K11 hK11 => ?_
    refine c_seq fun K12 hK12 => ?_
    refine c_region ?_
    refine sv (o_mv rfl) rfl ?_
    refine sv (o_len Try.underlying22 rfl) rfl ?_
    refine sv (o_mv rfl) rfl ?_
    refine l_nil ?_
    refine e_K (hK12 _ _ _ _ ?_)
    refine c_block ?_
    refine c_loop (σ := Nat × Value) (fun ⟨k, v⟩ => [(3, .pointer (some ⟨g1, 0, none⟩)), (5, v), (30, .slice ad xs.length c), (31, .int .i64 xs.length), (32, .int .i64 (k : Int))]) (fun ⟨k, v⟩ w1 => k ≤ xs.length ∧ Own w1 24 3 v (((xs.filter fun x => plt x.pair s.pair) ++ [s] ++ (xs.take k).filter fun x => plt s.pair x.pair)).length (((((xs.filter fun x => plt x.pair s.pair) ++ [s] ++ (xs.take k).filter fun x => plt s.pair x.pair)).map Slot.cells).flatten) ∧ (∀ x ∈ ob v, w.heap.size ≤ x) ∧ (∀ x ∈ ob v, x ≠ g1) ∧ Blk w1 g1 24 s.cells ∧ Mod [] w w1) (fun ⟨k, v⟩ => xs.length - k) (⟨0, v2⟩) ⟨rfl, rfl, rfl, rfl, rfl, trivial⟩ (⟨by omega, (Oa0.snoc (ys := (xs.filter fun x => plt x.pair s.pair) ++ [s]) rfl (by rw [List.take_of_length_le (by omega)])).same (by simp) (by simp), Lv2_E, Dv2_g1, Bg1, E⟩) ?_
    rintro ⟨k, v⟩ w10 ⟨hk, Oa0, L0, D0, Bg1, E⟩
    refine c_seq fun K13 hK13 => ?_
    refine c_region ?_
    refine sv (o_lss rfl rfl) rfl ?_
    refine l_nil ?_
    refine e_K (hK13 _ _ _ _ ?_)
    refine c_seq fun K14 hK14 => ?_
    refine c_if rfl (fun h33 => ?_) (fun h33 => ?_)
    · skip
      have hlt : k < xs.length := by omega
      obtain ⟨x, hx_x⟩ : ∃ x, xs[k]? = some x := ⟨_, List.getElem?_eq_getElem (by omega)⟩
      obtain ⟨a_x, ha_x, hcs_x, _⟩ := flat_at (R.to0 E) hx_x
      subst ha_x
      have hf1 := List.length_filter_le (fun x => plt x.pair s.pair) (xs.take k)
      have hf2 := List.length_filter_le (fun x => plt s.pair x.pair) (xs.take k)
      have hf3 := List.length_filter_le (fun x => plt x.pair s.pair) xs
      have hf4 : (xs.take k).length ≤ xs.length := by rw [List.length_take]; omega
      refine c_skip ?_
      refine e_K (hK14 _ _ _ _ ?_)
      refine c_seq fun K15 hK15 => ?_
      refine c_block ?_
      refine c_seq fun K16 hK16 => ?_
      refine c_region ?_
      refine sv (o_ix sl22 rfl rfl (by omega)) rfl ?_
      refine sv (o_lda ag24 rfl rfl hcs_x) rfl ?_
      refine s_alloc zv24 rfl fun g5 w11 N5 => ?_
      have Lg5_E := N5.le E
      have Dg1_g5 := N5.ne Bg1
      have Da0_g5 := N5.own_ne Oa0
      replace Bg1 := Bg1.mod0 N5.mod
      replace E := E.then N5.mod
      replace Oa0 := Oa0.mod0 N5.mod
      have Bg5 := N5.blk
      refine s_sta (vs := [_, _, _]) ag24 Bg5 rfl rfl rfl (by simp [Value.oneCell']) (by simp) fun w12 P12 => ?_
      replace Bg1 := Bg1.ne P12.mod (Ne.symm (Ne.symm Dg1_g5))
      replace E := E.own P12.mod Lg5_E
      replace Oa0 := Oa0.put P12.mod Da0_g5
      replace Bg5 : Blk w12 g5 _ [_, _, _] := P12.blk
      refine l_nil ?_
      refine e_K (hK16 _ _ _ _ ?_)
      refine c_seq fun K17 hK17 => ?_
      refine c_draw wide (by kernel_rfl) ?_
      refine tv (fun w_ E_ => (o_lda (vs := [_, _, _]) ag24 rfl rfl ((Bg1.mod0 E_).cs rfl))) rfl rfl ?_
      refine tc (fun w_ E_ => o_call ent12 rfl) (fun w_ E_ => c_Of _ _) rfl rfl ?_
      refine tv (fun w_ E_ => (o_lda (vs := [_, _, _]) ag24 rfl rfl ((Bg5.mod0 E_).cs rfl))) rfl rfl ?_
      refine tc (fun w_ E_ => o_call ent12 rfl) (fun w_ E_ => c_Of _ _) rfl rfl ?_
      refine tc (fun w_ E_ => o_call ent31 rfl) (fun w_ E_ => c_plt _ _ _) rfl rfl ?_
      refine tw_nil rfl fun w13 E_ => ?_
      replace Bg1 := Bg1.mod0 E_
      replace Bg5 := Bg5.mod0 E_
      replace E := E.then E_
      replace Oa0 := Oa0.mod0 E_
      refine e_K (hK17 _ _ _ _ ?_)
      refine c_cond rfl (fun h40 => ?_) (fun h40 => ?_)
      · skip
        refine c_region ?_
        refine sv (o_mv rfl) rfl ?_
        refine sv (o_lda (vs := [_, _, _]) ag24 rfl rfl (Bg5.cs rfl)) rfl ?_
        refine s_bslice (cs := [_, _, _]) sl22 zv24 rfl rfl rfl (by decide) rfl fun g6 w14 N6 => ?_
        have Lg6_E := N6.le E
        have Dg1_g6 := N6.ne Bg1
        have Dg5_g6 := N6.ne Bg5
        have Da0_g6 := N6.own_ne Oa0
        replace Bg1 := Bg1.mod0 N6.mod
        replace Bg5 := Bg5.mod0 N6.mod
        replace E := E.then N6.mod
        replace Oa0 := Oa0.mod0 N6.mod
        have Bg6 := N6.blk
        refine s_append sl22 rfl rfl Oa0 (Src.own Try.underlying22 (Own.all (cs := [_, _, _]) Bg6 rfl (by omega)) (by simp [Value.oneCell'])) (by decide) (by simp only [List.length_append, List.length_singleton]; omega) (by simp only [List.length_append, List.length_singleton]; omega) rfl fun v3 w15 A3 => ?_
        have Dv3_g1 := A3.ne D0 Bg1
        have Dv3_g5 := A3.ne Da0_g5 Bg5
        have Dv3_g6 := A3.ne Da0_g6 Bg6
        have Lv3_E := A3.ge L0 E
        replace Bg1 := Bg1.mod A3.mod (fun hx => D0 _ hx rfl)
        replace Bg5 := Bg5.mod A3.mod (fun hx => Da0_g5 _ hx rfl)
        replace Bg6 := Bg6.mod A3.mod (fun hx => Da0_g6 _ hx rfl)
        replace E := E.trans' A3.mod (fun x hx => .inr (L0 x hx))
        replace Oa0 := A3.own
        refine sv (o_as rfl) rfl ?_
        refine l_nil ?_
        refine e_in (by simp) ?_
        refine e_K (hK15 _ _ _ _ ?_)
        refine c_region ?_
        refine sv (o_addN rfl rfl (by omega)) rfl ?_
        refine sv (o_mv rfl) rfl ?_
        refine l_nil ?_
        exact e_round (σ := Nat × Value) (s := ⟨k, v⟩) (⟨k + 1, v3⟩) ⟨rfl, rfl, rfl, rfl, rfl, trivial⟩ ⟨by omega, Oa0.snoc rfl (by rw [filter_snoc _ hx_x]; simp [h40]), Lv3_E, Dv3_g1, Bg1, E⟩ (by dsimp only; omega)
      · skip
        refine c_skip ?_
        refine e_in (by simp) ?_
        refine e_K (hK15 _ _ _ _ ?_)
        refine c_region ?_
        refine sv (o_addN rfl rfl (by omega)) rfl ?_
        refine sv (o_mv rfl) rfl ?_
        refine l_nil ?_
        exact e_round (σ := Nat × Value) (s := ⟨k, v⟩) (⟨k + 1, v⟩) ⟨rfl, rfl, rfl, rfl, rfl, trivial⟩ ⟨by omega, Oa0.same (by rw [filter_snoc _ hx_x]; simp [h40]) (by rw [filter_snoc _ hx_x]; simp [h40]), L0, D0, Bg1, E⟩ (by dsimp only; omega)
    · skip
      have hk2 : k = xs.length := by omega
      subst hk2
      refine c_exit ?_
      refine e_then (by simp) ?_
      refine e_then (by simp) ?_
      refine e_hit ?_
      refine e_K (hK11 _ _ _ _ ?_)
      refine c_seq fun K18 hK18 => ?_
      refine c_region ?_
      refine sv (o_mv rfl) rfl ?_
      refine sv (o_as rfl) rfl ?_
      refine l_nil ?_
      refine e_K (hK18 _ _ _ _ ?_)
      refine c_ret ?_
      exact ret1 rfl rfl ⟨Oa0.same (by simp [putS]) (by simp [putS]), L0, E⟩

theorem c_clone (A : List Nat) (w : World) (xs : List Slot) (v : Value) (R : Rep A w (slotsD xs) v) (hn : xs.length ≤ 1000000) : Calls Try.prog 26 [v].toArray w (Ret fun u w' => Own w' 24 3 u (xs).length (((xs).map Slot.cells).flatten) ∧ (∀ x ∈ ob u, w.heap.size ≤ x) ∧ Mod [] w w') := by
  refine enter Try.func26 rfl rfl rfl (l := [(0, _)]) ⟨rfl, trivial⟩ ?_
  have E := Mod.refl [] w
  obtain ⟨ad, c, rfl, hc1, hc2⟩ := flat_len R
  have hne : ad = none → xs = [] := fun h => by subst h; exact flat_none R
  refine c_seq fun K1 hK1 => ?_
  refine c_region ?_
  refine sv (o_as rfl) rfl ?_
  refine l_nil ?_
  refine e_K (hK1 _ _ _ _ ?_)
  refine c_seq fun K2 hK2 => ?_
  refine c_seq fun K3 hK3 => ?_
  refine c_region ?_
  refine sv (o_mv rfl) rfl ?_
  refine sv (o_neqs Try.underlying22 rfl rfl) rfl ?_
  refine l_nil ?_
  refine e_K (hK3 _ _ _ _ ?_)
  refine c_cond rfl (fun h4 => ?_) (fun h4 => ?_)
  · skip
    have hx0 : xs = [] := hne (by cases ad with | none => rfl | some a => simp at h4)
    subst hx0
    refine c_seq fun K4 hK4 => ?_
    refine c_region ?_
    refine sv (o_as rfl) rfl ?_
    refine l_nil ?_
    refine e_K (hK4 _ _ _ _ ?_)
    refine c_ret ?_
    refine e_then (by simp) ?_
    exact ret1 rfl rfl ⟨by simpa using Own.nil _ 24 3, by simp [ob], E⟩
  · skip
    refine c_skip ?_
    refine e_K (hK2 _ _ _ _ ?_)
    refine c_seq fun K5 hK5 => ?_
    refine c_region ?_
    refine s_bslice (cs := []) sl22 zv24 rfl rfl rfl (by decide) rfl fun g1 w1 N1 => ?_
    have Lg1_E := N1.le E
    replace E := E.then N1.mod
    have Bg1 := N1.blk
    refine sv (o_mv rfl) rfl ?_
    refine s_append sl22 rfl rfl (Own.all (c := 0) (cs := []) Bg1 rfl (by omega)) (Src.flat Try.underlying22 (R.to0 E)) (by decide) (by omega) (by omega) rfl fun v1 w2 A1 => ?_
    replace E := E.trans' A1.mod (fun x hx => .inr (by simp [ob] at hx; subst hx; exact Lg1_E))
    have L1 : ∀ x ∈ ob v1, w.heap.size ≤ x := fun x hx => (A1.ob_ x hx).elim (fun h => by simp [ob] at h; subst h; exact Lg1_E) (fun h => Nat.le_trans (Nat.le_trans Lg1_E (Nat.le_of_lt Bg1.lt)) h)
    refine sv (o_as rfl) rfl ?_
    refine l_nil ?_
    refine e_K (hK5 _ _ _ _ ?_)
    refine c_ret ?_
    exact ret1 rfl rfl ⟨A1.own.same (by simp) (by simp), L1, E⟩

theorem c_ins (w : World) (xs : List Slot) (s : Slot) (i : Nat) (v u : Value) (O : Own w 24 3 v xs.length ((xs.map Slot.cells).flatten)) (O2 : Own w 24 3 u 1 s.cells) (hne : ∀ x ∈ ob v, ∀ y ∈ ob u, x ≠ y) (hi : i ≤ xs.length) (hn : xs.length ≤ 1000000) : Calls Try.prog 29 [v, .int .i64 (i : Int), u].toArray w (Ret fun r w' => Own w' 24 3 r (xs.take i ++ [s] ++ xs.drop i).length (((xs.take i ++ [s] ++ xs.drop i).map Slot.cells).flatten) ∧ (∀ x ∈ ob r, x ∈ ob v ∨ w.heap.size ≤ x) ∧ Mod (ob v) w w') := by
  refine enter Try.func29 rfl rfl rfl (l := [(0, _), (1, _), (2, _)]) ⟨rfl, rfl, rfl, trivial⟩ ?_
  have E := Mod.refl [] w
  obtain ⟨ad, c, rfl, hc1, hc2⟩ := O.form
  rcases O2.2 with ⟨_, h0⟩ | ⟨g2, o2, c2, cs2, rfl, B2, _⟩
  · omega
  have hvl := O.1
  have hone : ∀ u ∈ (xs.map Slot.cells).flatten, u.oneCell' = true := by
    intro u hu
    obtain ⟨l, hl, hu⟩ := List.mem_flatten.1 hu
    obtain ⟨x, _, rfl⟩ := List.mem_map.1 hl
    simp at hu
    rcases hu with rfl | rfl | rfl <;> rfl
  have hlen3 : ∀ x : Slot, (Slot.cells x).length = 3 := fun _ => rfl
  have hs1 : ∀ u ∈ s.cells, u.oneCell' = true := by simp [Value.oneCell']
  have hins : ((xs.map Slot.cells).flatten).take (i * 3) ++ s.cells ++ ((xs.map Slot.cells).flatten).drop (i * 3) = ((xs.take i ++ [s] ++ xs.drop i).map Slot.cells).flatten := by
    rw [flat_take_ hlen3, flat_drop_ hlen3]
    simp
  have hlin : (xs.take i ++ [s] ++ xs.drop i).length = xs.length + 1 := by
    simp only [List.length_append, List.length_take, List.length_drop, List.length_singleton]
    omega
  refine c_seq fun K1 hK1 => ?_
  refine c_region ?_
  refine sv (o_as rfl) rfl ?_
  refine l_nil ?_
  refine e_K (hK1 _ _ _ _ ?_)
  refine c_seq fun K2 hK2 => ?_
  refine c_region ?_
  refine sv (o_mv rfl) rfl ?_
  refine sv (o_mv rfl) rfl ?_
  refine sv (o_slfrom sl22 rfl rfl (by omega) (by omega)) rfl ?_
  refine l_nil ?_
  refine e_K (hK2 _ _ _ _ ?_)
  refine c_seq fun K3 hK3 => ?_
  refine c_region ?_
  refine sv (o_mv rfl) rfl ?_
  refine sv (o_len Try.underlying22 rfl) rfl ?_
  refine sv (o_as rfl) rfl ?_
  refine l_nil ?_
  refine e_K (hK3 _ _ _ _ ?_)
  refine c_seq fun K4 hK4 => ?_
  refine c_seq fun K5 hK5 => ?_
  refine c_region ?_
  refine sv (o_mv rfl) rfl ?_
  refine sv (o_eql rfl rfl) rfl ?_
  refine l_nil ?_
  refine e_K (hK5 _ _ _ _ ?_)
  refine c_false rfl ?_
  refine c_skip ?_
  refine e_K (hK4 _ _ _ _ ?_)
  refine c_seq fun K6 hK6 => ?_
  refine c_region ?_
  refine sv (o_mv rfl) rfl ?_
  refine sv (o_len Try.underlying22 rfl) rfl ?_
  refine sv (o_as rfl) rfl ?_
  refine l_nil ?_
  refine e_K (hK6 _ _ _ _ ?_)
  refine c_seq fun K7 hK7 => ?_
  refine c_seq fun K8 hK8 => ?_
  refine c_region ?_
  refine sv (o_mv rfl) rfl ?_
  refine sv (o_mv rfl) rfl ?_
  refine sv (o_eql rfl rfl) rfl ?_
  refine l_nil ?_
  refine e_K (hK8 _ _ _ _ ?_)
  refine c_if rfl (fun h22 => ?_) (fun h22 => ?_)
  · skip
    have hi2 : i = xs.length := by omega
    refine c_seq fun K9 hK9 => ?_
    refine c_region ?_
    refine sv (o_mv rfl) rfl ?_
    refine sv (o_mv rfl) rfl ?_
    refine s_append sl22 rfl rfl O (Src.own Try.underlying22 O2 hs1) (by decide) (by omega) (by omega) rfl fun v1 w1 A1 => ?_
    refine sv (o_as rfl) rfl ?_
    refine l_nil ?_
    refine e_K (hK9 _ _ _ _ ?_)
    refine c_ret ?_
    refine e_then (by simp) ?_
    exact ret1 rfl rfl ⟨A1.own.same hlin.symm (by subst hi2; rw [← hins]; simp [List.take_of_length_le, List.drop_eq_nil_of_le, hvl]), A1.ob_, A1.mod⟩
  · skip
    refine c_skip ?_
    refine e_K (hK7 _ _ _ _ ?_)
    refine c_seq fun K10 hK10 => ?_
    refine c_seq fun K11 hK11 => ?_
    refine c_region ?_
    refine sv (o_mv rfl) rfl ?_
    refine sv (o_mv rfl) rfl ?_
    refine sv (o_addN rfl rfl (by omega)) rfl ?_
    refine sv (o_mv rfl) rfl ?_
    refine sv (o_cap Try.underlying22 rfl) rfl ?_
    refine sv (o_gtr rfl rfl) rfl ?_
    refine l_nil ?_
    refine e_K (hK11 _ _ _ _ ?_)
    refine c_if rfl (fun h31 => ?_) (fun h31 => ?_)
    · skip
      refine c_seq fun K12 hK12 => ?_
      refine c_region ?_
      refine sv (o_mv rfl) rfl ?_
      refine sv (o_mv rfl) rfl ?_
      refine sv (o_slto sl22 rfl rfl (by omega) (by omega)) rfl ?_
      refine sv (o_mv rfl) rfl ?_
      refine sv (o_mv rfl) rfl ?_
      refine sv (o_addN rfl rfl (by omega)) rfl ?_
      refine sv (o_mv rfl) rfl ?_
      refine sv (o_subE (r := ((xs.length + 1 - i : Nat) : Int)) rfl rfl (by rw [wrap64_in _ (by omega)]; omega)) rfl ?_
      refine s_appendz sl22 zv24 rfl Try.underlying3 rfl rfl (O.take (by omega)) (by decide) (by simp [Value.oneCell']) (by omega) (by omega) rfl fun v1 w1 news A1 hnl h1n hgr => ?_
      obtain ⟨Lv1, E1⟩ := hgr (fun ad' cc e => by injection e with _ _ e3; subst e3; omega)
      replace E := E1
      have hO1 := A1.own
      rcases hO1.2 with ⟨_, h0⟩ | ⟨g3, o3, c3, cs3, hv1, B3, hc31, _⟩
      · omega
      subst hv1
      have hN : i + (xs.length + 1 - i) = xs.length + 1 := by omega
      rw [hN] at hO1 hc31 ⊢
      have hn3 : w.heap.size ≤ g3 := Lv1 g3 (by simp [ob])
      have hvO : ∀ x ∈ ob (.slice ad xs.length c), x < w.heap.size := O.lt
      have hg2 : g2 < w.heap.size := B2.lt
      have hm3 : (9223372036854775807 : Nat) ≥ c3 := by obtain ⟨_, _, hq, hq1, hq2⟩ := hO1.form; injection hq with _ _ hq; subst hq; exact hq2
      refine sv (o_as rfl) rfl ?_
      refine l_nil ?_
      refine e_K (hK12 _ _ _ _ ?_)
      refine c_seq fun K13 hK13 => ?_
      refine c_region ?_
      refine sv (o_mv rfl) rfl ?_
      refine sv (o_mv rfl) rfl ?_
      refine sv (o_slfrom (c := xs.length + 1) sl22 rfl rfl (by omega) (by omega)) rfl ?_
      refine sv (o_mv rfl) rfl ?_
      have hS2 : Src Try.prog 3 22 (.slice (some ⟨g2, o2, none⟩) 1 c2) 1 s.cells w1 := Src.own Try.underlying22 (O2.mod0 E) hs1
      refine s_copyat sl22 hO1 rfl rfl (hS2.len _) (k := 1) (Nat.min_eq_left (by omega)) hS2.cells rfl hs1 (by omega) rfl fun w2 hO2 E2 hz2 => ?_
      replace E := E.own E2 hn3
      refine l_nil ?_
      refine e_K (hK13 _ _ _ _ ?_)
      refine c_seq fun K14 hK14 => ?_
      refine c_drawp [] [0, 1, 2, 3, 4, 5, 6, 7] 8 [] wide (by kernel_rfl) (fun _ _ _ h => h.2) ?_
      refine pw_nil ?_
      refine tv (fun w_ E_ => (o_mv rfl)) rfl rfl ?_
      refine tv (fun w_ E_ => (o_mv rfl)) rfl rfl ?_
      refine tv (fun w_ E_ => (o_mv rfl)) rfl rfl ?_
      refine tv (fun w_ E_ => (o_addE (r := ((i + 1 : Nat) : Int)) rfl rfl (by rw [wrap64_in _ (by omega)]; omega))) rfl rfl ?_
      refine tv (fun w_ E_ => (o_slfrom (c := xs.length + 1) sl22 rfl rfl (by omega) (by omega))) rfl rfl ?_
      refine tv (fun w_ E_ => (o_mv rfl)) rfl rfl ?_
      refine tv (fun w_ E_ => (o_mv rfl)) rfl rfl ?_
      refine tv (fun w_ E_ => (o_slfrom sl22 rfl rfl (by omega) (by omega))) rfl rfl ?_
      refine tw_tail rfl fun w1 E_ => ?_
      replace E := E.then E_
      have hS3 := Src.own (P := Try.prog) Try.underlying22 ((O.mod0 E).cut (lo := i) (hi := xs.length) (by omega) (by omega)) (fun u hu => hone u (List.mem_of_mem_drop (List.mem_of_mem_take hu)))
      replace hO2 := hO2.mod0 E_
      refine s_copyat (lo := i + 1) sl22 hO2 rfl rfl (hS3.len _) (k := xs.length - i) (Nat.min_eq_left (by omega)) hS3.cells hS3.newsLen hS3.one (by omega) rfl fun w3 hO3 E3 hz3 => ?_
      replace E := E.own E3 hn3
      refine l_nil ?_
      refine e_K (hK14 _ _ _ _ ?_)
      refine c_seq fun K15 hK15 => ?_
      refine c_region ?_
      refine sv (o_mv rfl) rfl ?_
      refine sv (o_as rfl) rfl ?_
      refine l_nil ?_
      refine e_K (hK15 _ _ _ _ ?_)
      refine c_ret ?_
      refine e_then (by simp) ?_
      exact ret1 rfl rfl ⟨hO3.same hlin.symm (by rw [← hins]; exact ins_grow hvl hnl rfl hi), fun x hx => .inr (Lv1 x (by simpa [ob] using hx)), E.mono (by simp)⟩
    · skip
      have hroom : xs.length + 1 ≤ c := by omega
      rcases O.2 with ⟨h0, _⟩ | ⟨go, oo, co, cso, hvo, BO, hco1, hco2, hco3, hco4⟩
      · injection h0 with _ _ h0; omega
      injection hvo with e1 e2 e3
      subst e1; subst e3
      have hgne : g2 ≠ go := fun e => hne go (by simp [ob]) g2 (by simp [ob]) e.symm
      have hcne : cso ≠ [] := by rintro rfl; simp at hco3; omega
      obtain ⟨oA, hoA⟩ := adS_some go oo c (i + 1) 3
      have hob2 : ∀ x ∈ ob (.slice (some ⟨g2, o2, none⟩) 1 c2), x ∉ ob (.slice (some ⟨go, oo, none⟩) xs.length c) := fun x hx => by simp [ob] at hx ⊢; subst hx; exact hgne
      obtain ⟨vs', O3, h3t⟩ := O.extend (m := xs.length + 1) (by omega) hroom
      replace E := Mod.refl (ob (.slice (some ⟨go, oo, none⟩) xs.length c)) w
      refine c_skip ?_
      refine e_K (hK10 _ _ _ _ ?_)
      refine c_seq fun K16 hK16 => ?_
      refine c_region ?_
      refine sv (o_mv rfl) rfl ?_
      refine sv (o_mv rfl) rfl ?_
      refine sv (o_mv rfl) rfl ?_
      refine sv (o_addE (r := ((xs.length + 1 : Nat) : Int)) rfl rfl (by rw [wrap64_in _ (by omega)]; omega)) rfl ?_
      refine sv (o_slto sl22 rfl rfl (by omega) (by omega)) rfl ?_
      refine sv (o_as rfl) rfl ?_
      refine l_nil ?_
      refine e_K (hK16 _ _ _ _ ?_)
      refine c_seq fun K17 hK17 => ?_
      refine c_seq fun K18 hK18 => ?_
      refine c_region ?_
      refine sv (o_mv rfl) rfl ?_
      refine sv (o_mv rfl) rfl ?_
      refine sv (o_mv rfl) rfl ?_
      refine sv (o_mv rfl) rfl ?_
      refine sv (o_addE (r := ((i + 1 : Nat) : Int)) rfl rfl (by rw [wrap64_in _ (by omega)]; omega)) rfl ?_
      refine sv ((o_slfrom sl22 rfl rfl (by omega) (by omega)).to (by rw [hoA])) rfl ?_
      refine sv (o_overlaps ovl41 sl22 rfl rfl rfl rfl B2 BO hgne hcne) rfl ?_
      refine sv (o_not rfl) rfl ?_
      refine l_nil ?_
      refine e_K (hK18 _ _ _ _ ?_)
      refine c_true rfl ?_
      refine c_seq fun K19 hK19 => ?_
      refine c_drawp [] [0, 1, 2, 3, 4, 5, 6, 7] 8 [] wide (by kernel_rfl) (fun _ _ _ h => h.2) ?_
      refine pw_nil ?_
      refine tv (fun w_ E_ => (o_mv rfl)) rfl rfl ?_
      refine tv (fun w_ E_ => (o_mv rfl)) rfl rfl ?_
      refine tv (fun w_ E_ => (o_mv rfl)) rfl rfl ?_
      refine tv (fun w_ E_ => (o_addE (r := ((i + 1 : Nat) : Int)) rfl rfl (by rw [wrap64_in _ (by omega)]; omega))) rfl rfl ?_
      refine tv (fun w_ E_ => (o_slfrom sl22 rfl rfl (by omega) (by omega))) rfl rfl ?_
      refine tv (fun w_ E_ => (o_mv rfl)) rfl rfl ?_
      refine tv (fun w_ E_ => (o_mv rfl)) rfl rfl ?_
      refine tv (fun w_ E_ => (o_slfrom sl22 rfl rfl (by omega) (by omega))) rfl rfl ?_
      refine tw_tail rfl fun w2 E_ => ?_
      replace E := E.then E_
      replace O3 := O3.mod0 E_
      have hS3 := Src.own (P := Try.prog) Try.underlying22 (O3.cut (lo := i) (hi := xs.length) (by omega) (by omega)) (fun u hu => hone u (by
        rw [Nat.sub_mul, ← List.drop_take, h3t] at hu
        exact List.mem_of_mem_drop hu))
      refine s_copyat (lo := i + 1) sl22 O3 rfl rfl rfl (k := xs.length - i) (c' := xs.length + 1 - i) ((Nat.min_eq_right (by omega)).trans (by omega)) (by rw [firstCells_any _ _ _ _ _ (xs.length - i) (c - i)]; exact hS3.cells) hS3.newsLen hS3.one (by omega) rfl fun w2 hO4 E4 hz4 => ?_
      replace E := (E.trans' E4 (fun x hx => .inl (by simpa [ob] using hx)))
      refine l_nil ?_
      refine e_K (hK19 _ _ _ _ ?_)
      refine c_seq fun K20 hK20 => ?_
      refine c_region ?_
      refine sv (o_mv rfl) rfl ?_
      refine sv (o_mv rfl) rfl ?_
      refine sv (o_slfrom sl22 rfl rfl (by omega) (by omega)) rfl ?_
      refine sv (o_mv rfl) rfl ?_
      have hS2 : Src Try.prog 3 22 (.slice (some ⟨g2, o2, none⟩) 1 c2) 1 s.cells w2 := Src.own Try.underlying22 (O2.mod E hob2) hs1
      refine s_copyat sl22 hO4 rfl rfl (hS2.len _) (k := 1) (Nat.min_eq_left (by omega)) hS2.cells rfl hs1 (by omega) rfl fun w3 hO5 E5 hz5 => ?_
      replace E := (E.trans' E5 (fun x hx => .inl (by simpa [ob] using hx)))
      refine l_nil ?_
      refine e_K (hK20 _ _ _ _ ?_)
      refine c_seq fun K21 hK21 => ?_
      refine c_region ?_
      refine sv (o_mv rfl) rfl ?_
      refine sv (o_as rfl) rfl ?_
      refine l_nil ?_
      refine e_K (hK21 _ _ _ _ ?_)
      refine c_ret ?_
      refine e_then (by simp) ?_
      exact ret1 rfl rfl ⟨hO5.same hlin.symm (by rw [← hins]; exact ins_room hvl O3.1 h3t rfl hi), fun x hx => .inl (by simpa [ob] using hx), E⟩

end Go.Proofs.Ytccjjkdogljmpaa.V
