/-
  A part of the proof: walks of functions, and the plain laws of what they compute. No condition of its own.
-/
import Derived.Test.YtccjjkdogljmpaaJ7
import Derived.Test.YtccjjkdogljmpaaU9
set_option linter.unusedVariables false
set_option linter.unusedSimpArgs false
set_option maxRecDepth 10000
namespace Go.Proofs.Ytccjjkdogljmpaa.V
open Go Go.Proofs
theorem sl45 : slB Try.prog 45 9 1 16 = true := by kernel_rfl
theorem zv9 : zvB Try.prog 9 ([S []]) := by unfold zvB; kernel_rfl
theorem c_text (w : World) (s : Str) : Calls Try.prog 32 [S s].toArray w (Ret fun u w' => u = .agg #[.int .i64 3, .bool false, .int .i64 0, S s, .slice none 0 0, .slice none 0 0] ∧ Mod [] w w') := by
  refine enter Try.func32 rfl rfl rfl (l := [(0, _)]) ⟨rfl, trivial⟩ ?_
  have E := Mod.refl [] w
  refine c_seq fun K1 hK1 => ?_
  refine c_region ?_
  refine s_alloc zv38 rfl fun g1 w1 N1 => ?_
  have Lg1_E := N1.le E
  replace E := E.then N1.mod
  have Bg1 := N1.blk
  refine l_nil ?_
  refine e_K (hK1 _ _ _ _ ?_)
  refine c_seq fun K2 hK2 => ?_
  refine c_region ?_
  refine sv (o_mv rfl) rfl ?_
  refine sv (o_build (cs := [_, _, _, _, _, _]) pl38 zv38 rfl rfl) rfl ?_
  refine s_sta (vs := [_, _, _, _, _, _]) ag38 Bg1 rfl rfl rfl (by simp [Value.oneCell']) (by simp) fun w2 P2 => ?_
  replace E := E.own P2.mod Lg1_E
  replace Bg1 : Blk w2 g1 _ [_, _, _, _, _, _] := P2.blk
  refine l_nil ?_
  refine e_K (hK2 _ _ _ _ ?_)
  refine c_ret ?_
  exact retc (vs := [_, _, _, _, _, _]) rfl ag38 rfl rfl (Bg1.cs rfl) ⟨rfl, E⟩

theorem c_kept (A : List Nat) (w : World) (hA : ∀ a ∈ A, a < w.heap.size) (kind : Str) : Calls Try.prog 33 [S kind].toArray w (Ret fun u w' => ∃ u1, u = .tuple #[u1, .bool (decide (kind = kCreate))] ∧ Rep A w' (strD (keptK kind)) u1 ∧ Mod [] w w') := by
  refine enter Try.func33 rfl rfl rfl (l := [(0, _)]) ⟨rfl, trivial⟩ ?_
  have E := Mod.refl [] w
  refine c_seq fun K1 hK1 => ?_
  refine c_region ?_
  refine sv (o_as rfl) rfl ?_
  refine sv (o_as rfl) rfl ?_
  refine l_nil ?_
  refine e_K (hK1 _ _ _ _ ?_)
  refine c_seq fun K2 hK2 => ?_
  refine c_seq fun K3 hK3 => ?_
  refine c_region ?_
  refine sv (o_mv rfl) rfl ?_
  refine l_nil ?_
  refine e_K (hK3 _ _ _ _ ?_)
  refine c_block ?_
  refine c_seq fun K4 hK4 => ?_
  refine c_region ?_
  refine sv (o_seq rfl rfl) rfl ?_
  refine sv (o_as rfl) rfl ?_
  refine l_nil ?_
  refine e_K (hK4 _ _ _ _ ?_)
  refine c_if rfl (fun h5 => ?_) (fun h5 => ?_)
  · skip
    refine c_seq fun K5 hK5 => ?_
    refine c_region ?_
    refine sv (o_as rfl) rfl ?_
    refine sv (o_as rfl) rfl ?_
    refine l_nil ?_
    refine e_K (hK5 _ _ _ _ ?_)
    refine c_ret ?_
    refine e_in (by simp) ?_
    refine e_then (by simp) ?_
    exact ret2 rfl rfl rfl ⟨_, by rw [decide_eq_true h5], by rw [h5]; exact Rep.nilf A _, E⟩
  · skip
    refine c_seq fun K6 hK6 => ?_
    refine c_region ?_
    refine sv (o_seq rfl rfl) rfl ?_
    refine sv (o_as rfl) rfl ?_
    refine l_nil ?_
    refine e_K (hK6 _ _ _ _ ?_)
    refine c_if rfl (fun h7 => ?_) (fun h7 => ?_)
    · skip
      have hK : keptK kind = l_member := by
        unfold keptK
        rw [if_pos h7]
      refine c_seq fun K7 hK7 => ?_
      refine c_region ?_
      refine s_bslice (cs := [_, _]) sl45 zv9 rfl rfl rfl (by decide) rfl fun g1 w1 N1 => ?_
      have Lg1_E := N1.le E
      replace E := E.then N1.mod
      have Bg1 := N1.blk
      refine sv (o_as rfl) rfl ?_
      refine sv (o_as rfl) rfl ?_
      refine l_nil ?_
      refine e_K (hK7 _ _ _ _ ?_)
      refine c_ret ?_
      refine e_in (by simp) ?_
      refine e_then (by simp) ?_
      exact ret2 rfl rfl rfl ⟨_, by rw [decide_eq_false h5], by rw [hK]; exact strs_blk (xs := l_member) Bg1 (by decide) (fun h => by have := hA _ h; have := Lg1_E; omega), E⟩
    · skip
      refine c_seq fun K8 hK8 => ?_
      refine c_region ?_
      refine sv (o_seq rfl rfl) rfl ?_
      refine sv (o_as rfl) rfl ?_
      refine l_nil ?_
      refine e_K (hK8 _ _ _ _ ?_)
      refine c_if rfl (fun h10 => ?_) (fun h10 => ?_)
      · skip
        have hK : keptK kind = l_join_rules := by
          unfold keptK
          rw [if_neg h7, if_pos h10]
        refine c_seq fun K9 hK9 => ?_
        refine c_region ?_
        refine s_bslice (cs := [_, _]) sl45 zv9 rfl rfl rfl (by decide) rfl fun g2 w2 N2 => ?_
        have Lg2_E := N2.le E
        replace E := E.then N2.mod
        have Bg2 := N2.blk
        refine sv (o_as rfl) rfl ?_
        refine sv (o_as rfl) rfl ?_
        refine l_nil ?_
        refine e_K (hK9 _ _ _ _ ?_)
        refine c_ret ?_
        refine e_in (by simp) ?_
        refine e_then (by simp) ?_
        exact ret2 rfl rfl rfl ⟨_, by rw [decide_eq_false h5], by rw [hK]; exact strs_blk (xs := l_join_rules) Bg2 (by decide) (fun h => by have := hA _ h; have := Lg2_E; omega), E⟩
      · skip
        refine c_seq fun K10 hK10 => ?_
        refine c_region ?_
        refine sv (o_seq rfl rfl) rfl ?_
        refine sv (o_as rfl) rfl ?_
        refine l_nil ?_
        refine e_K (hK10 _ _ _ _ ?_)
        refine c_if rfl (fun h13 => ?_) (fun h13 => ?_)
        · skip
          have hK : keptK kind = l_power_levels := by
            unfold keptK
            rw [if_neg h7, if_neg h10, if_pos h13]
          refine c_seq fun K11 hK11 => ?_
          refine c_region ?_
          refine s_bslice (cs := [_, _, _, _, _, _, _, _, _]) sl45 zv9 rfl rfl rfl (by decide) rfl fun g3 w3 N3 => ?_
          have Lg3_E := N3.le E
          replace E := E.then N3.mod
          have Bg3 := N3.blk
          refine sv (o_as rfl) rfl ?_
          refine sv (o_as rfl) rfl ?_
          refine l_nil ?_
          refine e_K (hK11 _ _ _ _ ?_)
          refine c_ret ?_
          refine e_in (by simp) ?_
          refine e_then (by simp) ?_
          exact ret2 rfl rfl rfl ⟨_, by rw [decide_eq_false h5], by rw [hK]; exact strs_blk (xs := l_power_levels) Bg3 (by decide) (fun h => by have := hA _ h; have := Lg3_E; omega), E⟩
        · skip
          refine c_seq fun K12 hK12 => ?_
          refine c_region ?_
          refine sv (o_seq rfl rfl) rfl ?_
          refine sv (o_as rfl) rfl ?_
          refine l_nil ?_
          refine e_K (hK12 _ _ _ _ ?_)
          refine c_if rfl (fun h16 => ?_) (fun h16 => ?_)
          · skip
            have hK : keptK kind = l_history_visibility := by
              unfold keptK
              rw [if_neg h7, if_neg h10, if_neg h13, if_pos h16]
            refine c_seq fun K13 hK13 => ?_
            refine c_region ?_
            refine s_bslice (cs := [_]) sl45 zv9 rfl rfl rfl (by decide) rfl fun g4 w4 N4 => ?_
            have Lg4_E := N4.le E
            replace E := E.then N4.mod
            have Bg4 := N4.blk
            refine sv (o_as rfl) rfl ?_
            refine sv (o_as rfl) rfl ?_
            refine l_nil ?_
            refine e_K (hK13 _ _ _ _ ?_)
            refine c_ret ?_
            refine e_in (by simp) ?_
            refine e_then (by simp) ?_
            exact ret2 rfl rfl rfl ⟨_, by rw [decide_eq_false h5], by rw [hK]; exact strs_blk (xs := l_history_visibility) Bg4 (by decide) (fun h => by have := hA _ h; have := Lg4_E; omega), E⟩
          · skip
            refine c_seq fun K14 hK14 => ?_
            refine c_region ?_
            refine sv (o_seq rfl rfl) rfl ?_
            refine sv (o_as rfl) rfl ?_
            refine l_nil ?_
            refine e_K (hK14 _ _ _ _ ?_)
            refine c_if rfl (fun h19 => ?_) (fun h19 => ?_)
            · skip
              have hK : keptK kind = l_redaction := by
                unfold keptK
                rw [if_neg h7, if_neg h10, if_neg h13, if_neg h16, if_pos h19]
              refine c_seq fun K15 hK15 => ?_
              refine c_region ?_
              refine s_bslice (cs := [_]) sl45 zv9 rfl rfl rfl (by decide) rfl fun g5 w5 N5 => ?_
              have Lg5_E := N5.le E
              replace E := E.then N5.mod
              have Bg5 := N5.blk
              refine sv (o_as rfl) rfl ?_
              refine sv (o_as rfl) rfl ?_
              refine l_nil ?_
              refine e_K (hK15 _ _ _ _ ?_)
              refine c_ret ?_
              refine e_in (by simp) ?_
              refine e_then (by simp) ?_
              exact ret2 rfl rfl rfl ⟨_, by rw [decide_eq_false h5], by rw [hK]; exact strs_blk (xs := l_redaction) Bg5 (by decide) (fun h => by have := hA _ h; have := Lg5_E; omega), E⟩
            · skip
              have hK : keptK kind = [] := by
                unfold keptK
                rw [if_neg h7, if_neg h10, if_neg h13, if_neg h16, if_neg h19]
              refine c_skip ?_
              refine e_in (by simp) ?_
              refine e_K (hK2 _ _ _ _ ?_)
              refine c_seq fun K16 hK16 => ?_
              refine c_region ?_
              refine sv (o_as rfl) rfl ?_
              refine sv (o_as rfl) rfl ?_
              refine l_nil ?_
              refine e_K (hK16 _ _ _ _ ?_)
              refine c_ret ?_
              exact ret2 rfl rfl rfl ⟨_, by rw [decide_eq_false h5], by rw [hK]; exact Rep.nilf A _, E⟩

theorem c_keptR (A : List Nat) (w : World) (hA : ∀ a ∈ A, a < w.heap.size) (kind : Str) : Calls Try.prog 23 [S kind].toArray w (Ret fun u w' => Rep A w' (strD (keptK kind)) u ∧ Mod [] w w') := by
  refine enter Try.func23 rfl rfl rfl (l := [(0, _)]) ⟨rfl, trivial⟩ ?_
  have E := Mod.refl [] w
  refine c_seq fun K1 hK1 => ?_
  refine c_region ?_
  refine sv (o_as rfl) rfl ?_
  refine l_nil ?_
  refine e_K (hK1 _ _ _ _ ?_)
  refine c_seq fun K2 hK2 => ?_
  refine c_seq fun K3 hK3 => ?_
  refine c_region ?_
  refine sv (o_mv rfl) rfl ?_
  refine l_nil ?_
  refine e_K (hK3 _ _ _ _ ?_)
  refine c_block ?_
  refine c_seq fun K4 hK4 => ?_
  refine c_region ?_
  refine sv (o_seq rfl rfl) rfl ?_
  refine sv (o_as rfl) rfl ?_
  refine l_nil ?_
  refine e_K (hK4 _ _ _ _ ?_)
  refine c_if rfl (fun h4 => ?_) (fun h4 => ?_)
  · skip
    have hK : keptK kind = l_member := by
      unfold keptK
      rw [if_pos h4]
    refine c_seq fun K5 hK5 => ?_
    refine c_region ?_
    refine s_bslice (cs := [_, _]) sl45 zv9 rfl rfl rfl (by decide) rfl fun g1 w1 N1 => ?_
    have Lg1_E := N1.le E
    replace E := E.then N1.mod
    have Bg1 := N1.blk
    refine sv (o_as rfl) rfl ?_
    refine l_nil ?_
    refine e_K (hK5 _ _ _ _ ?_)
    refine c_ret ?_
    refine e_in (by simp) ?_
    refine e_then (by simp) ?_
    exact ret1 rfl rfl ⟨by rw [hK]; exact strs_blk (xs := l_member) Bg1 (by decide) (fun h => by have := hA _ h; have := Lg1_E; omega), E⟩
  · skip
    refine c_seq fun K6 hK6 => ?_
    refine c_region ?_
    refine sv (o_seq rfl rfl) rfl ?_
    refine sv (o_as rfl) rfl ?_
    refine l_nil ?_
    refine e_K (hK6 _ _ _ _ ?_)
    refine c_if rfl (fun h7 => ?_) (fun h7 => ?_)
    · skip
      have hK : keptK kind = l_join_rules := by
        unfold keptK
        rw [if_neg h4, if_pos h7]
      refine c_seq fun K7 hK7 => ?_
      refine c_region ?_
      refine s_bslice (cs := [_, _]) sl45 zv9 rfl rfl rfl (by decide) rfl fun g2 w2 N2 => ?_
      have Lg2_E := N2.le E
      replace E := E.then N2.mod
      have Bg2 := N2.blk
      refine sv (o_as rfl) rfl ?_
      refine l_nil ?_
      refine e_K (hK7 _ _ _ _ ?_)
      refine c_ret ?_
      refine e_in (by simp) ?_
      refine e_then (by simp) ?_
      exact ret1 rfl rfl ⟨by rw [hK]; exact strs_blk (xs := l_join_rules) Bg2 (by decide) (fun h => by have := hA _ h; have := Lg2_E; omega), E⟩
    · skip
      refine c_seq fun K8 hK8 => ?_
      refine c_region ?_
      refine sv (o_seq rfl rfl) rfl ?_
      refine sv (o_as rfl) rfl ?_
      refine l_nil ?_
      refine e_K (hK8 _ _ _ _ ?_)
      refine c_if rfl (fun h10 => ?_) (fun h10 => ?_)
      · skip
        have hK : keptK kind = l_power_levels := by
          unfold keptK
          rw [if_neg h4, if_neg h7, if_pos h10]
        refine c_seq fun K9 hK9 => ?_
        refine c_region ?_
        refine s_bslice (cs := [_, _, _, _, _, _, _, _, _]) sl45 zv9 rfl rfl rfl (by decide) rfl fun g3 w3 N3 => ?_
        have Lg3_E := N3.le E
        replace E := E.then N3.mod
        have Bg3 := N3.blk
        refine sv (o_as rfl) rfl ?_
        refine l_nil ?_
        refine e_K (hK9 _ _ _ _ ?_)
        refine c_ret ?_
        refine e_in (by simp) ?_
        refine e_then (by simp) ?_
        exact ret1 rfl rfl ⟨by rw [hK]; exact strs_blk (xs := l_power_levels) Bg3 (by decide) (fun h => by have := hA _ h; have := Lg3_E; omega), E⟩
      · skip
        refine c_seq fun K10 hK10 => ?_
        refine c_region ?_
        refine sv (o_seq rfl rfl) rfl ?_
        refine sv (o_as rfl) rfl ?_
        refine l_nil ?_
        refine e_K (hK10 _ _ _ _ ?_)
        refine c_if rfl (fun h13 => ?_) (fun h13 => ?_)
        · skip
          have hK : keptK kind = l_history_visibility := by
            unfold keptK
            rw [if_neg h4, if_neg h7, if_neg h10, if_pos h13]
          refine c_seq fun K11 hK11 => ?_
          refine c_region ?_
          refine s_bslice (cs := [_]) sl45 zv9 rfl rfl rfl (by decide) rfl fun g4 w4 N4 => ?_
          have Lg4_E := N4.le E
          replace E := E.then N4.mod
          have Bg4 := N4.blk
          refine sv (o_as rfl) rfl ?_
          refine l_nil ?_
          refine e_K (hK11 _ _ _ _ ?_)
          refine c_ret ?_
          refine e_in (by simp) ?_
          refine e_then (by simp) ?_
          exact ret1 rfl rfl ⟨by rw [hK]; exact strs_blk (xs := l_history_visibility) Bg4 (by decide) (fun h => by have := hA _ h; have := Lg4_E; omega), E⟩
        · skip
          refine c_seq fun K12 hK12 => ?_
          refine c_region ?_
          refine sv (o_seq rfl rfl) rfl ?_
          refine sv (o_as rfl) rfl ?_
          refine l_nil ?_
          refine e_K (hK12 _ _ _ _ ?_)
          refine c_if rfl (fun h16 => ?_) (fun h16 => ?_)
          · skip
            have hK : keptK kind = l_redaction := by
              unfold keptK
              rw [if_neg h4, if_neg h7, if_neg h10, if_neg h13, if_pos h16]
            refine c_seq fun K13 hK13 => ?_
            refine c_region ?_
            refine s_bslice (cs := [_]) sl45 zv9 rfl rfl rfl (by decide) rfl fun g5 w5 N5 => ?_
            have Lg5_E := N5.le E
            replace E := E.then N5.mod
            have Bg5 := N5.blk
            refine sv (o_as rfl) rfl ?_
            refine l_nil ?_
            refine e_K (hK13 _ _ _ _ ?_)
            refine c_ret ?_
            refine e_in (by simp) ?_
            refine e_then (by simp) ?_
            exact ret1 rfl rfl ⟨by rw [hK]; exact strs_blk (xs := l_redaction) Bg5 (by decide) (fun h => by have := hA _ h; have := Lg5_E; omega), E⟩
          · skip
            have hK : keptK kind = [] := by
              unfold keptK
              rw [if_neg h4, if_neg h7, if_neg h10, if_neg h13, if_neg h16]
            refine c_skip ?_
            refine e_in (by simp) ?_
            refine e_K (hK2 _ _ _ _ ?_)
            refine c_seq fun K14 hK14 => ?_
            refine c_region ?_
            refine sv (o_as rfl) rfl ?_
            refine l_nil ?_
            refine e_K (hK14 _ _ _ _ ?_)
            refine c_ret ?_
            exact ret1 rfl rfl ⟨by rw [hK]; exact Rep.nilf A _, E⟩

theorem c_jwith (A : List Nat) (w : World) (hA : ∀ a ∈ A, a < w.heap.size) (m : List (Str × JV)) (v0 : Value) (R : Rep A w (.sl 7 (m.map JV.Dp)) v0) (kk : Str) (x : JV) (us : List Value) (Rx : Reps A w x.D us) (hn : m.length ≤ 1353245080310) : Calls Try.prog 24 [v0, .agg (S kk :: us).toArray].toArray w (Ret fun u w' => Rep A w' (.sl 7 ((putM m kk x).map JV.Dp)) u ∧ Mod [] w w') := by
  refine enter Try.func24 rfl rfl rfl (l := [(0, _), (1, _)]) ⟨rfl, rfl, trivial⟩ ?_
  have E := Mod.refl [] w
  obtain ⟨ad, c, rfl, hc1, hc2⟩ : ∃ ad c, v0 = .slice ad m.length c ∧ m.length ≤ c ∧ c ≤ 9223372036854775807 := by
    obtain ⟨ad, c, h1, h2, h3⟩ := R.sl_
    rw [List.length_map] at h1 h2
    exact ⟨ad, c, h1, h2, h3⟩
  obtain ⟨alx, clx, amx, cmx, rfl, Rlx, Rmx⟩ := JV.cells_ Rx
  have Rx := JV.reps_ Rlx Rmx
  refine c_seq fun K1 hK1 => ?_
  refine c_region ?_
  refine s_box rfl rfl rfl fun g1 w1 N1 => ?_
  have Lg1_E := N1.le E
  replace E := E.then N1.mod
  have Bg1 := N1.blk
  refine sv (o_as rfl) rfl ?_
  refine l_nil ?_
  refine e_K (hK1 _ _ _ _ ?_)
  refine c_seq fun K2 hK2 => ?_
  refine c_region ?_
  refine sv (o_as rfl) rfl ?_
  refine l_nil ?_
  refine e_K (hK2 _ _ _ _ ?_)
  refine c_seq fun K3 hK3 => ?_
  refine c_seq fun K4 hK4 => ?_
  refine c_region ?_
  refine sv (o_mv rfl) rfl ?_
  refine sv (o_len Try.underlying36 rfl) rfl ?_
  refine sv (o_mv rfl) rfl ?_
  refine l_nil ?_
  refine e_K (hK4 _ _ _ _ ?_)
  refine c_block ?_
  refine c_loop (σ := Nat × Value × List Value) (fun ⟨k, v, vs⟩ => [(0, .slice ad m.length c), (3, .pointer (some ⟨g1, 0, none⟩)), (5, v), (10, .slice ad m.length c), (11, .int .i64 m.length), (12, .int .i64 (k : Int))]) (fun ⟨k, v, vs⟩ w1 => k ≤ m.length ∧ Own w1 49 7 v (((m.take k).filter fun p => bl p.1 kk)).length vs ∧ Reps A w ((((m.take k).filter fun p => bl p.1 kk)).map JV.Dp).flatten vs ∧ (∀ x ∈ ob v, w.heap.size ≤ x) ∧ (∀ x ∈ ob v, x ≠ g1) ∧ Blk w1 g1 49 [S kk, .int .i64 x.kind, .bool x.is, .int .i64 x.num, S x.str, .slice alx x.list.length clx, .slice amx x.map.length cmx] ∧ Mod [] w w1) (fun ⟨k, v, vs⟩ => m.length - k) (⟨0, .slice none 0 0, []⟩) ⟨rfl, rfl, rfl, rfl, rfl, rfl, trivial⟩ (⟨by omega, by simpa using Own.nil w1 49 7, Reps.nil_, by simp [ob], by simp [ob], Bg1, E⟩) ?_
  rintro ⟨k, v, vs⟩ w2 ⟨hk, Oa0, hvs, L0, D0, Bg1, E⟩
  refine c_seq fun K5 hK5 => ?_
  refine c_region ?_
  refine sv (o_lss rfl rfl) rfl ?_
  refine l_nil ?_
  refine e_K (hK5 _ _ _ _ ?_)
  refine c_seq fun K6 hK6 => ?_
  refine c_if rfl (fun h13 => ?_) (fun h13 => ?_)
  · skip
    have hlt : k < m.length := by omega
    obtain ⟨y, hx_y⟩ : ∃ x, m[k]? = some x := ⟨_, List.getElem?_eq_getElem (by omega)⟩
    obtain ⟨a_y, us_y, ha_y, R_y, hcs0_y⟩ := JV.at_m R hx_y
    obtain ⟨al_y, cl_y, am_y, cm_y, rfl, Rl_y, Rm_y⟩ := JV.cells_ R_y
    have hcs_y := hcs0_y.mod0 E
    have hcap_y := JV.cap_m R
    obtain rfl := ha_y
    have hf1 := List.length_filter_le (fun p => bl p.1 kk) (m.take k)
    have hf2 := List.length_filter_le (fun p => bl kk p.1) (m.take k)
    have hf3 := List.length_filter_le (fun p => bl p.1 kk) m
    have hf4 : (m.take k).length ≤ m.length := by rw [List.length_take]; omega
    have hf5 := flt_len (k := kk) (r := m)
    have hf6 := flt_take (q := fun p => bl kk p.1) (m := m) (k := k)
    have hf7 := flt_take (q := fun p => bl p.1 kk) (m := m) (k := k)
    refine c_skip ?_
    refine e_K (hK6 _ _ _ _ ?_)
    refine c_seq fun K7 hK7 => ?_
    refine c_block ?_
    refine c_seq fun K8 hK8 => ?_
    refine c_region ?_
    refine sv (o_ix sl36 rfl rfl (by omega)) rfl ?_
    refine sv (o_lda ag49 rfl rfl hcs_y) rfl ?_
    refine s_alloc zv49 rfl fun g2 w3 N2 => ?_
    have Lg2_E := N2.le E
    have Dg1_g2 := N2.ne Bg1
    have Da0_g2 := N2.own_ne Oa0
    replace Bg1 := Bg1.mod0 N2.mod
    replace E := E.then N2.mod
    replace Oa0 := Oa0.mod0 N2.mod
    have Bg2 := N2.blk
    refine s_sta (vs := [_, _, _, _, _, _, _]) ag49 Bg2 rfl rfl rfl (by simp [Value.oneCell']) (by simp) fun w4 P4 => ?_
    replace Bg1 := Bg1.ne P4.mod (Ne.symm (Ne.symm Dg1_g2))
    replace E := E.own P4.mod Lg2_E
    replace Oa0 := Oa0.put P4.mod Da0_g2
    replace Bg2 : Blk w4 g2 _ [_, _, _, _, _, _, _] := P4.blk
    refine l_nil ?_
    refine e_K (hK8 _ _ _ _ ?_)
    refine c_seq fun K9 hK9 => ?_
    refine c_region ?_
    refine sv (o_fa0 fd49_0 rfl) rfl ?_
    refine sv (o_ld sc9 rfl (Bg2.cell rfl)) rfl ?_
    refine sv (o_fa0 fd49_0 rfl) rfl ?_
    refine sv (o_ld sc9 rfl (Bg1.cell rfl)) rfl ?_
    refine sv (o_slt rfl rfl) rfl ?_
    refine l_nil ?_
    refine e_K (hK9 _ _ _ _ ?_)
    refine c_cond rfl (fun h20 => ?_) (fun h20 => ?_)
    · skip
      refine c_region ?_
      refine sv (o_mv rfl) rfl ?_
      refine sv (o_lda (vs := [_, _, _, _, _, _, _]) ag49 rfl rfl (Bg2.cs rfl)) rfl ?_
      refine s_bslice (cs := [_, _, _, _, _, _, _]) sl36 zv49 rfl rfl rfl (by decide) rfl fun g3 w5 N3 => ?_
      have Lg3_E := N3.le E
      have Dg1_g3 := N3.ne Bg1
      have Dg2_g3 := N3.ne Bg2
      have Da0_g3 := N3.own_ne Oa0
      replace Bg1 := Bg1.mod0 N3.mod
      replace Bg2 := Bg2.mod0 N3.mod
      replace E := E.then N3.mod
      replace Oa0 := Oa0.mod0 N3.mod
      have Bg3 := N3.blk
      refine s_append sl36 rfl rfl Oa0 (Src.own Try.underlying36 (Own.all (cs := [_, _, _, _, _, _, _]) Bg3 rfl (by omega)) (by simp [Value.oneCell'])) (by decide) (by omega) (by omega) rfl fun v1 w6 A1 => ?_
      have Dv1_g1 := A1.ne D0 Bg1
      have Dv1_g2 := A1.ne Da0_g2 Bg2
      have Dv1_g3 := A1.ne Da0_g3 Bg3
      have Lv1_E := A1.ge L0 E
      replace Bg1 := Bg1.mod A1.mod (fun hx => D0 _ hx rfl)
      replace Bg2 := Bg2.mod A1.mod (fun hx => Da0_g2 _ hx rfl)
      replace Bg3 := Bg3.mod A1.mod (fun hx => Da0_g3 _ hx rfl)
      replace E := E.trans' A1.mod (fun x hx => .inr (L0 x hx))
      replace Oa0 := A1.own
      refine sv (o_as rfl) rfl ?_
      refine l_nil ?_
      refine e_in (by simp) ?_
      refine e_K (hK7 _ _ _ _ ?_)
      refine c_region ?_
      refine sv (o_addN rfl rfl (by omega)) rfl ?_
      refine sv (o_mv rfl) rfl ?_
      refine l_nil ?_
      exact e_round (σ := Nat × Value × List Value) (s := ⟨k, v, vs⟩) (⟨k + 1, v1, vs ++ [S y.1, .int .i64 y.2.kind, .bool y.2.is, .int .i64 y.2.num, S y.2.str, .slice al_y y.2.list.length cl_y, .slice am_y y.2.map.length cm_y]⟩) ⟨rfl, rfl, rfl, rfl, rfl, rfl, trivial⟩ ⟨by omega, Oa0.same (by rw [filter_snoc _ hx_y]; simp [h20]) rfl, by rw [filter_snoc _ hx_y, if_pos h20]; exact JV.rows_snoc hvs (JV.Dp_reps R_y), Lv1_E, Dv1_g1, Bg1, E⟩ (by dsimp only; omega)
    · skip
      refine c_skip ?_
      refine e_in (by simp) ?_
      refine e_K (hK7 _ _ _ _ ?_)
      refine c_region ?_
      refine sv (o_addN rfl rfl (by omega)) rfl ?_
      refine sv (o_mv rfl) rfl ?_
      refine l_nil ?_
      exact e_round (σ := Nat × Value × List Value) (s := ⟨k, v, vs⟩) (⟨k + 1, v, vs⟩) ⟨rfl, rfl, rfl, rfl, rfl, rfl, trivial⟩ ⟨by omega, Oa0.same (by rw [filter_snoc _ hx_y]; simp [h20]) rfl, by rw [filter_snoc _ hx_y, if_neg (by rw [h20]; decide), List.append_nil]; exact hvs, L0, D0, Bg1, E⟩ (by dsimp only; omega)
  · skip
    have hf1 := List.length_filter_le (fun p => bl p.1 kk) (m.take k)
    have hf2 := List.length_filter_le (fun p => bl kk p.1) (m.take k)
    have hf3 := List.length_filter_le (fun p => bl p.1 kk) m
    have hf4 : (m.take k).length ≤ m.length := by rw [List.length_take]; omega
    have hf5 := flt_len (k := kk) (r := m)
    have hf6 := flt_take (q := fun p => bl kk p.1) (m := m) (k := k)
    have hf7 := flt_take (q := fun p => bl p.1 kk) (m := m) (k := k)
    refine c_exit ?_
    refine e_then (by simp) ?_
    refine e_then (by simp) ?_
    refine e_hit ?_
    refine e_K (hK3 _ _ _ _ ?_)
    refine c_seq fun K10 hK10 => ?_
    refine c_region ?_
    refine sv (o_mv rfl) rfl ?_
    refine sv (o_lda (vs := [_, _, _, _, _, _, _]) ag49 rfl rfl (Bg1.cs rfl)) rfl ?_
    refine s_bslice (cs := [_, _, _, _, _, _, _]) sl36 zv49 rfl rfl rfl (by decide) rfl fun g4 w7 N4 => ?_
    have Lg4_E := N4.le E
    have Dg1_g4 := N4.ne Bg1
    have Da0_g4 := N4.own_ne Oa0
    replace Bg1 := Bg1.mod0 N4.mod
    replace E := E.then N4.mod
    replace Oa0 := Oa0.mod0 N4.mod
    have Bg4 := N4.blk
    refine s_append sl36 rfl rfl Oa0 (Src.own Try.underlying36 (Own.all (cs := [_, _, _, _, _, _, _]) Bg4 rfl (by omega)) (by simp [Value.oneCell'])) (by decide) (by omega) (by omega) rfl fun v2 w8 A2 => ?_
    have Dv2_g1 := A2.ne D0 Bg1
    have Dv2_g4 := A2.ne Da0_g4 Bg4
    have Lv2_E := A2.ge L0 E
    replace Bg1 := Bg1.mod A2.mod (fun hx => D0 _ hx rfl)
    replace Bg4 := Bg4.mod A2.mod (fun hx => Da0_g4 _ hx rfl)
    replace E := E.trans' A2.mod (fun x hx => .inr (L0 x hx))
    replace Oa0 := A2.own
    refine sv (o_as rfl) rfl ?_
    refine l_nil ?_
    refine e_K (hK10 _ _ _ _ ?_)
    refine c_seq fun K11 hK11 => ?_
    refine c_seq fun K12 hK12 => ?_
    refine c_region ?_
    refine sv (o_mv rfl) rfl ?_
    refine sv (o_len Try.underlying36 rfl) rfl ?_
    refine sv (o_mv rfl) rfl ?_
    refine l_nil ?_
    refine e_K (hK12 _ _ _ _ ?_)
    refine c_block ?_
    refine c_loop (σ := Nat × Value × List Value) (fun ⟨k, v, vs⟩ => [(3, .pointer (some ⟨g1, 0, none⟩)), (5, v), (30, .slice ad m.length c), (31, .int .i64 m.length), (32, .int .i64 (k : Int))]) (fun ⟨k, v, vs⟩ w1 => k ≤ m.length ∧ Own w1 49 7 v (((m.filter fun p => bl p.1 kk) ++ [(kk, x)] ++ (m.take k).filter fun p => bl kk p.1)).length vs ∧ Reps A w ((((m.filter fun p => bl p.1 kk) ++ [(kk, x)] ++ (m.take k).filter fun p => bl kk p.1)).map JV.Dp).flatten vs ∧ (∀ x ∈ ob v, w.heap.size ≤ x) ∧ (∀ x ∈ ob v, x ≠ g1) ∧ Blk w1 g1 49 [S kk, .int .i64 x.kind, .bool x.is, .int .i64 x.num, S x.str, .slice alx x.list.length clx, .slice amx x.map.length cmx] ∧ Mod [] w w1) (fun ⟨k, v, vs⟩ => m.length - k) (⟨0, v2, vs ++ [S kk, .int .i64 x.kind, .bool x.is, .int .i64 x.num, S x.str, .slice alx x.list.length clx, .slice amx x.map.length cmx]⟩) ⟨rfl, rfl, rfl, rfl, rfl, trivial⟩ (⟨by omega, Oa0.same (by rw [List.take_of_length_le (by omega)]; simp) rfl, by rw [List.take_of_length_le (by omega)] at hvs; simpa using JV.rows_snoc hvs (JV.Dp_reps (p := (kk, x)) Rx), Lv2_E, Dv2_g1, Bg1, E⟩) ?_
    rintro ⟨k, v, vs⟩ w9 ⟨hk, Oa0, hvs, L0, D0, Bg1, E⟩
    refine c_seq fun K13 hK13 => ?_
    refine c_region ?_
    refine sv (o_lss rfl rfl) rfl ?_
    refine l_nil ?_
    refine e_K (hK13 _ _ _ _ ?_)
    refine c_seq fun K14 hK14 => ?_
    refine c_if rfl (fun h33 => ?_) (fun h33 => ?_)
    · skip
      have hlt : k < m.length := by omega
      obtain ⟨y, hx_y⟩ : ∃ x, m[k]? = some x := ⟨_, List.getElem?_eq_getElem (by omega)⟩
      obtain ⟨a_y, us_y, ha_y, R_y, hcs0_y⟩ := JV.at_m R hx_y
      obtain ⟨al_y, cl_y, am_y, cm_y, rfl, Rl_y, Rm_y⟩ := JV.cells_ R_y
      have hcs_y := hcs0_y.mod0 E
      have hcap_y := JV.cap_m R
      obtain rfl := ha_y
      have hf1 := List.length_filter_le (fun p => bl p.1 kk) (m.take k)
      have hf2 := List.length_filter_le (fun p => bl kk p.1) (m.take k)
      have hf3 := List.length_filter_le (fun p => bl p.1 kk) m
      have hf4 : (m.take k).length ≤ m.length := by rw [List.length_take]; omega
      have hf5 := flt_len (k := kk) (r := m)
      have hf6 := flt_take (q := fun p => bl kk p.1) (m := m) (k := k)
      have hf7 := flt_take (q := fun p => bl p.1 kk) (m := m) (k := k)
      refine c_skip ?_
      refine e_K (hK14 _ _ _ _ ?_)
      refine c_seq fun K15 hK15 => ?_
      refine c_block ?_
      refine c_seq fun K16 hK16 => ?_
      refine c_region ?_
      refine sv (o_ix sl36 rfl rfl (by omega)) rfl ?_
      refine sv (o_lda ag49 rfl rfl hcs_y) rfl ?_
      refine s_alloc zv49 rfl fun g5 w10 N5 => ?_
      have Lg5_E := N5.le E
      have Dg1_g5 := N5.ne Bg1
      have Da0_g5 := N5.own_ne Oa0
      replace Bg1 := Bg1.mod0 N5.mod
      replace E := E.then N5.mod
      replace Oa0 := Oa0.mod0 N5.mod
      have Bg5 := N5.blk
      refine s_sta (vs := [_, _, _, _, _, _, _]) ag49 Bg5 rfl rfl rfl (by simp [Value.oneCell']) (by simp) fun w11 P11 => ?_
      replace Bg1 := Bg1.ne P11.mod (Ne.symm (Ne.symm Dg1_g5))
      replace E := E.own P11.mod Lg5_E
      replace Oa0 := Oa0.put P11.mod Da0_g5
      replace Bg5 : Blk w11 g5 _ [_, _, _, _, _, _, _] := P11.blk
      refine l_nil ?_
      refine e_K (hK16 _ _ _ _ ?_)
      refine c_seq fun K17 hK17 => ?_
      refine c_region ?_
      refine sv (o_fa0 fd49_0 rfl) rfl ?_
      refine sv (o_ld sc9 rfl (Bg5.cell rfl)) rfl ?_
      refine sv (o_fa0 fd49_0 rfl) rfl ?_
      refine sv (o_ld sc9 rfl (Bg1.cell rfl)) rfl ?_
      refine sv ((o_sgt rfl rfl).to (by rw [gt_bl])) rfl ?_
      refine l_nil ?_
      refine e_K (hK17 _ _ _ _ ?_)
      refine c_cond rfl (fun h40 => ?_) (fun h40 => ?_)
      · skip
        refine c_region ?_
        refine sv (o_mv rfl) rfl ?_
        refine sv (o_lda (vs := [_, _, _, _, _, _, _]) ag49 rfl rfl (Bg5.cs rfl)) rfl ?_
        refine s_bslice (cs := [_, _, _, _, _, _, _]) sl36 zv49 rfl rfl rfl (by decide) rfl fun g6 w12 N6 => ?_
        have Lg6_E := N6.le E
        have Dg1_g6 := N6.ne Bg1
        have Dg5_g6 := N6.ne Bg5
        have Da0_g6 := N6.own_ne Oa0
        replace Bg1 := Bg1.mod0 N6.mod
        replace Bg5 := Bg5.mod0 N6.mod
        replace E := E.then N6.mod
        replace Oa0 := Oa0.mod0 N6.mod
        have Bg6 := N6.blk
        refine s_append sl36 rfl rfl Oa0 (Src.own Try.underlying36 (Own.all (cs := [_, _, _, _, _, _, _]) Bg6 rfl (by omega)) (by simp [Value.oneCell'])) (by decide) (by simp only [List.length_append, List.length_singleton]; omega) (by simp only [List.length_append, List.length_singleton]; omega) rfl fun v3 w13 A3 => ?_
        have Dv3_g1 := A3.ne D0 Bg1
        have Dv3_g5 := A3.ne Da0_g5 Bg5
        have Dv3_g6 := A3.ne Da0_g6 Bg6
        have Lv3_E := A3.ge L0 E
        replace Bg1 := Bg1.mod A3.mod (fun hx => D0 _ hx rfl)
        replace Bg5 := Bg5.mod A3.mod (fun hx => Da0_g5 _ hx rfl)
        replace Bg6 := Bg6.mod A3.mod (fun hx => Da0_g6 _ hx rfl)
        replace E := E.trans' A3.mod (fun x hx => .inr (L0 x hx))
        replace Oa0 := A3.own
        refine sv (o_as rfl) rfl ?_
        refine l_nil ?_
        refine e_in (by simp) ?_
        refine e_K (hK15 _ _ _ _ ?_)
        refine c_region ?_
        refine sv (o_addN rfl rfl (by omega)) rfl ?_
        refine sv (o_mv rfl) rfl ?_
        refine l_nil ?_
        exact e_round (σ := Nat × Value × List Value) (s := ⟨k, v, vs⟩) (⟨k + 1, v3, vs ++ [S y.1, .int .i64 y.2.kind, .bool y.2.is, .int .i64 y.2.num, S y.2.str, .slice al_y y.2.list.length cl_y, .slice am_y y.2.map.length cm_y]⟩) ⟨rfl, rfl, rfl, rfl, rfl, trivial⟩ ⟨by omega, Oa0.same (by rw [filter_snoc _ hx_y]; simp [h40]; omega) rfl, by rw [filter_snoc _ hx_y, if_pos h40]; rw [← List.append_assoc]; exact JV.rows_snoc hvs (JV.Dp_reps R_y), Lv3_E, Dv3_g1, Bg1, E⟩ (by dsimp only; omega)
      · skip
        refine c_skip ?_
        refine e_in (by simp) ?_
        refine e_K (hK15 _ _ _ _ ?_)
        refine c_region ?_
        refine sv (o_addN rfl rfl (by omega)) rfl ?_
        refine sv (o_mv rfl) rfl ?_
        refine l_nil ?_
        exact e_round (σ := Nat × Value × List Value) (s := ⟨k, v, vs⟩) (⟨k + 1, v, vs⟩) ⟨rfl, rfl, rfl, rfl, rfl, trivial⟩ ⟨by omega, Oa0.same (by rw [filter_snoc _ hx_y]; simp [h40]) rfl, by rw [filter_snoc _ hx_y, if_neg (by rw [h40]; decide), List.append_nil]; exact hvs, L0, D0, Bg1, E⟩ (by dsimp only; omega)
    · skip
      have hk2 : k = m.length := by omega
      subst hk2
      refine c_exit ?_
      refine e_then (by simp) ?_
      refine e_then (by simp) ?_
      refine e_hit ?_
      refine e_K (hK11 _ _ _ _ ?_)
      refine c_seq fun K18 hK18 => ?_
      refine c_region ?_
      refine sv (o_mv rfl) rfl ?_
      refine sv (o_as rfl) rfl ?_
      refine l_nil ?_
      refine e_K (hK18 _ _ _ _ ?_)
      refine c_ret ?_
      exact ret1 rfl rfl ⟨Own.mem_ (m := putM m kk x) Oa0 ((by simpa [putM] using hvs : Reps A w _ _).to0 E) (by simp [putM]) (fun y hy h => by have := L0 y hy; have := hA y h; omega), E⟩
end Go.Proofs.Ytccjjkdogljmpaa.V
