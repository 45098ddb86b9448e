/-
  A part of the proof: walks of functions, and the plain laws of what they compute. No condition of its own.
-/
import Derived.Test.YtccjjkdogljmpaaDoorD4
import Derived.Test.YtccjjkdogljmpaaDoorTZ
set_option linter.unusedVariables false
set_option linter.unusedSimpArgs false
set_option maxRecDepth 10000
namespace Go.Proofs.YtccjjkdogljmpaaDoor.V
open Go Go.Proofs
theorem ag24 : agB Tryd.prog 24 32 = true := by kernel_rfl
theorem zv24 : zvB Tryd.prog 24 (List.replicate 32 (.int .u8 0)) := by unfold zvB; kernel_rfl
theorem zv5 : zvB Tryd.prog 5 ([.int .u8 0]) := by unfold zvB; kernel_rfl
theorem ar24 : arB Tryd.prog 24 32 5 1 = true := by kernel_rfl
theorem c_sum (w : World) (s : S8) (wt : List UInt8) (n : Nat) (gh : Nat) (wv : Value) (Bgh : Blk w gh 53 [W4 s.a, W4 s.b, W4 s.c, W4 s.d, W4 s.e, W4 s.f, W4 s.g, W4 s.h, wv, .int .u64 (n : Int)]) (Ow : Own w 5 1 wv wt.length ((wt.map bcells).flatten)) (hT : Cs w ⟨0, 0, none⟩ (numsK.map W4)) (hw0 : 0 < w.heap.size) (hl : wt.length ≤ 1000000) (hn : n ≤ 1000000) : Calls Tryd.prog 13 [.pointer (some ⟨gh, 0, none⟩)].toArray w (Ret fun u w' => u = .agg ((outB (fin64 s wt n) 32).map B8).toArray ∧ Mod [] w w') := by
  refine enter Tryd.func13 rfl rfl rfl (l := [(0, _)]) ⟨rfl, trivial⟩ ?_
  have E := Mod.refl [] w
  have flat_one : ∀ u ∈ (wt.map bcells).flatten, u.oneCell' = true := by
    intro u hu
    obtain ⟨l, hl, hu⟩ := List.mem_flatten.1 hu
    obtain ⟨x, _, rfl⟩ := List.mem_map.1 hl
    simp at hu
    subst hu
    rfl
  refine c_seq fun K1 hK1 => ?_
  refine c_region ?_
  refine s_alloc zv24 rfl fun g1 w1 N1 => ?_
  have Lg1_E := N1.le E
  have Dgh_g1 := N1.ne Bgh
  replace Bgh := Bgh.mod0 N1.mod
  replace E := E.then N1.mod
  have Bg1 := N1.blk
  refine l_nil ?_
  refine e_K (hK1 _ _ _ _ ?_)
  refine c_seq fun K2 hK2 => ?_
  refine c_region ?_
  refine s_alloc zv24 rfl fun g2 w2 N2 => ?_
  have Lg2_E := N2.le E
  have Dgh_g2 := N2.ne Bgh
  have Dg1_g2 := N2.ne Bg1
  replace Bgh := Bgh.mod0 N2.mod
  replace Bg1 := Bg1.mod0 N2.mod
  replace E := E.then N2.mod
  have Bg2 := N2.blk
  refine l_nil ?_
  refine e_K (hK2 _ _ _ _ ?_)
  refine c_seq fun K3 hK3 => ?_
  refine c_seq fun K4 hK4 => ?_
  refine c_region ?_
  refine sv (o_mv rfl) rfl ?_
  refine sv (o_peq Tryd.underlying30 rfl rfl) rfl ?_
  refine l_nil ?_
  refine e_K (hK4 _ _ _ _ ?_)
  refine c_false rfl ?_
  refine c_skip ?_
  refine e_K (hK3 _ _ _ _ ?_)
  refine c_seq fun K5 hK5 => ?_
  refine c_region ?_
  refine sv (o_mv rfl) rfl ?_
  refine sv (o_nilc rfl) rfl ?_
  refine sv (o_fa0 fd53_0 rfl) rfl ?_
  refine sv (o_lda (vs := [_, _, _, _, _, _, _, _]) ag50 rfl rfl (Bgh.cs rfl)) rfl ?_
  refine sv (o_build (cs := [_, _, _, _, _, _, _, _, _, _]) pl53 zv53 rfl rfl) rfl ?_
  refine s_box rfl rfl rfl fun g3 w3 N3 => ?_
  have Lg3_E := N3.le E
  have Dgh_g3 := N3.ne Bgh
  have Dg1_g3 := N3.ne Bg1
  have Dg2_g3 := N3.ne Bg2
  replace Bgh := Bgh.mod0 N3.mod
  replace Bg1 := Bg1.mod0 N3.mod
  replace Bg2 := Bg2.mod0 N3.mod
  replace E := E.then N3.mod
  have Bg3 := N3.blk
  refine sv (o_as rfl) rfl ?_
  refine l_nil ?_
  refine e_K (hK5 _ _ _ _ ?_)
  refine c_seq fun K6 hK6 => ?_
  refine c_region ?_
  refine s_bslice (cs := []) sl22 zv5 rfl rfl rfl (by decide) rfl fun g4 w4 N4 => ?_
  have Lg4_E := N4.le E
  have Dgh_g4 := N4.ne Bgh
  have Dg1_g4 := N4.ne Bg1
  have Dg2_g4 := N4.ne Bg2
  have Dg3_g4 := N4.ne Bg3
  replace Bgh := Bgh.mod0 N4.mod
  replace Bg1 := Bg1.mod0 N4.mod
  replace Bg2 := Bg2.mod0 N4.mod
  replace Bg3 := Bg3.mod0 N4.mod
  replace E := E.then N4.mod
  have Bg4 := N4.blk
  refine sv (o_mv rfl) rfl ?_
  refine sv (o_nilc rfl) rfl ?_
  refine sv (o_fa0 fd53_1 rfl) rfl ?_
  refine sv (o_ld sc22 rfl (Bgh.cell rfl)) rfl ?_
  replace Ow := Ow.mod0 E
  refine s_append sl22 rfl rfl (Own.all (c := 0) (cs := []) Bg4 rfl (by omega)) (Src.own Tryd.underlying22 Ow flat_one) (by decide) (by omega) (by omega) rfl fun v1 w5 A1 => ?_
  have D1_gh : ∀ x ∈ ob v1, x ≠ gh := fun x hx e => (A1.ob_ x hx).elim (fun h => by simp [ob] at h; exact (Ne.symm (Ne.symm Dgh_g4)) (e.symm.trans h)) (fun h => by have := Bgh.lt; omega)
  have D1_g1 : ∀ x ∈ ob v1, x ≠ g1 := fun x hx e => (A1.ob_ x hx).elim (fun h => by simp [ob] at h; exact (Ne.symm (Ne.symm Dg1_g4)) (e.symm.trans h)) (fun h => by have := Bg1.lt; omega)
  have D1_g2 : ∀ x ∈ ob v1, x ≠ g2 := fun x hx e => (A1.ob_ x hx).elim (fun h => by simp [ob] at h; exact (Ne.symm (Ne.symm Dg2_g4)) (e.symm.trans h)) (fun h => by have := Bg2.lt; omega)
  have D1_g3 : ∀ x ∈ ob v1, x ≠ g3 := fun x hx e => (A1.ob_ x hx).elim (fun h => by simp [ob] at h; exact (Ne.symm (Ne.symm Dg3_g4)) (e.symm.trans h)) (fun h => by have := Bg3.lt; omega)
  have L1 : ∀ x ∈ ob v1, w.heap.size ≤ x := fun x hx => (A1.ob_ x hx).elim (fun h => by simp [ob] at h; subst h; exact Lg4_E) (fun h => Nat.le_trans (Nat.le_trans Lg4_E (Nat.le_of_lt Bg4.lt)) h)
  replace Bgh := Bgh.mod A1.mod (fun hx => (Ne.symm (Ne.symm Dgh_g4)) (by simpa [ob] using hx))
  replace Bg1 := Bg1.mod A1.mod (fun hx => (Ne.symm (Ne.symm Dg1_g4)) (by simpa [ob] using hx))
  replace Bg2 := Bg2.mod A1.mod (fun hx => (Ne.symm (Ne.symm Dg2_g4)) (by simpa [ob] using hx))
  replace Bg3 := Bg3.mod A1.mod (fun hx => (Ne.symm (Ne.symm Dg3_g4)) (by simpa [ob] using hx))
  replace E := E.trans' A1.mod (fun x hx => .inr (by simp [ob] at hx; subst hx; exact Lg4_E))
  have Ot := A1.own.as (Nat.zero_add _) (List.nil_append _)
  refine s_bslice (cs := [_]) sl22 zv5 rfl rfl rfl (by decide) rfl fun g5 w6 N5 => ?_
  have Lg5_E := N5.le E
  have Dgh_g5 := N5.ne Bgh
  have Dg1_g5 := N5.ne Bg1
  have Dg2_g5 := N5.ne Bg2
  have Dg3_g5 := N5.ne Bg3
  have Dot_g5 := N5.own_ne Ot
  replace Bgh := Bgh.mod0 N5.mod
  replace Bg1 := Bg1.mod0 N5.mod
  replace Bg2 := Bg2.mod0 N5.mod
  replace Bg3 := Bg3.mod0 N5.mod
  replace E := E.then N5.mod
  replace Ot := Ot.mod0 N5.mod
  have Bg5 := N5.blk
  refine s_append sl22 rfl rfl Ot (Src.own Tryd.underlying22 (Own.all (cs := [_]) Bg5 rfl (by omega)) (by simp [B8, Value.oneCell'])) (by decide) (by omega) (by omega) rfl fun v1 w7 A1 => ?_
  have Dv1_gh := A1.ne D1_gh Bgh
  have Dv1_g1 := A1.ne D1_g1 Bg1
  have Dv1_g2 := A1.ne D1_g2 Bg2
  have Dv1_g3 := A1.ne D1_g3 Bg3
  have Dv1_g5 := A1.ne Dot_g5 Bg5
  have Lv1_E := A1.ge L1 E
  replace Bgh := Bgh.mod A1.mod (fun hx => D1_gh _ hx rfl)
  replace Bg1 := Bg1.mod A1.mod (fun hx => D1_g1 _ hx rfl)
  replace Bg2 := Bg2.mod A1.mod (fun hx => D1_g2 _ hx rfl)
  replace Bg3 := Bg3.mod A1.mod (fun hx => D1_g3 _ hx rfl)
  replace Bg5 := Bg5.mod A1.mod (fun hx => Dot_g5 _ hx rfl)
  replace E := E.trans' A1.mod (fun x hx => .inr (L1 x hx))
  replace Ot := A1.own
  refine sv (o_as rfl) rfl ?_
  refine l_nil ?_
  refine e_K (hK6 _ _ _ _ ?_)
  refine c_seq fun K7 hK7 => ?_
  refine c_block ?_
  refine c_loop (σ := Nat × Value) (fun ⟨j, v⟩ => [(0, .pointer (some ⟨gh, 0, none⟩)), (2, .pointer (some ⟨g1, 0, none⟩)), (3, .pointer (some ⟨g2, 0, none⟩)), (4, .pointer (some ⟨g3, 0, none⟩)), (5, v)]) (fun ⟨j, v⟩ w1 => j ≤ padz wt.length ∧ Own w1 5 1 v (wt.length + 1 + j) (((wt ++ 128 :: List.replicate j 0).map bcells).flatten) ∧ (∀ x ∈ ob v, w.heap.size ≤ x) ∧ (∀ x ∈ ob v, x ≠ gh ∧ x ≠ g1 ∧ x ≠ g2 ∧ x ≠ g3) ∧ Blk w1 gh 53 [W4 s.a, W4 s.b, W4 s.c, W4 s.d, W4 s.e, W4 s.f, W4 s.g, W4 s.h, wv, .int .u64 (n : Int)] ∧ Blk w1 g1 24 (List.replicate 32 (.int .u8 0)) ∧ Blk w1 g2 24 (List.replicate 32 (.int .u8 0)) ∧ Blk w1 g3 53 (s.cells ++ [.slice none 0 0, .int .u64 0]) ∧ Mod [] w w1) (fun ⟨j, v⟩ => 100 - j) (⟨0, v1⟩) ⟨rfl, rfl, rfl, rfl, rfl, trivial⟩ (⟨by omega, byt_snoc 128 Ot (by simp) (by omega), Lv1_E, fun x hx => ⟨Dv1_gh x hx, Dv1_g1 x hx, Dv1_g2 x hx, Dv1_g3 x hx⟩, Bgh, Bg1, Bg2, Bg3, E⟩) ?_
  rintro ⟨j, v⟩ w8 ⟨hj, Ot, Lt, Da, Bgh, Bg1, Bg2, Bg3, E⟩
  obtain ⟨adt, ct, rfl, ht1, ht2⟩ := Ot.form
  have hpz2 : padz wt.length < 64 := Nat.mod_lt (119 - wt.length % 64) (show 64 > 0 by decide)
  refine c_seq fun K8 hK8 => ?_
  refine c_seq fun K9 hK9 => ?_
  refine c_region ?_
  refine sv (o_mv rfl) rfl ?_
  refine sv (o_len Tryd.underlying22 rfl) rfl ?_
  refine sv (o_remN rfl rfl (by omega)) rfl ?_
  refine sv (o_neq rfl rfl) rfl ?_
  refine l_nil ?_
  refine e_K (hK9 _ _ _ _ ?_)
  refine c_if rfl (fun h28 => ?_) (fun h28 => ?_)
  · skip
    have hjn : j + 1 ≤ padz wt.length := by
      rcases Nat.lt_or_eq_of_le hj with h | h
      · exact h
      · exact absurd ((padz_at hj).2 h) (by omega)
    refine c_skip ?_
    refine e_K (hK8 _ _ _ _ ?_)
    refine c_block ?_
    refine c_region ?_
    refine sv (o_mv rfl) rfl ?_
    refine s_bslice (cs := [_]) sl22 zv5 rfl rfl rfl (by decide) rfl fun g6 w9 N6 => ?_
    have Lg6_E := N6.le E
    have Dgh_g6 := N6.ne Bgh
    have Dg1_g6 := N6.ne Bg1
    have Dg2_g6 := N6.ne Bg2
    have Dg3_g6 := N6.ne Bg3
    have Dot_g6 := N6.own_ne Ot
    replace Bgh := Bgh.mod0 N6.mod
    replace Bg1 := Bg1.mod0 N6.mod
    replace Bg2 := Bg2.mod0 N6.mod
    replace Bg3 := Bg3.mod0 N6.mod
    replace E := E.then N6.mod
    replace Ot := Ot.mod0 N6.mod
    have Bg6 := N6.blk
    refine s_append sl22 rfl rfl Ot (Src.own Tryd.underlying22 (Own.all (cs := [_]) Bg6 rfl (by omega)) (by simp [B8, Value.oneCell'])) (by decide) (by omega) (by omega) rfl fun v2 w10 A2 => ?_
    have Dv2_gh := A2.ne (fun x hx => (Da x hx).1) Bgh
    have Dv2_g1 := A2.ne (fun x hx => (Da x hx).2.1) Bg1
    have Dv2_g2 := A2.ne (fun x hx => (Da x hx).2.2.1) Bg2
    have Dv2_g3 := A2.ne (fun x hx => (Da x hx).2.2.2) Bg3
    have Dv2_g6 := A2.ne Dot_g6 Bg6
    have Lv2_E := A2.ge Lt E
    replace Bgh := Bgh.mod A2.mod (fun hx => (fun x hx => (Da x hx).1) _ hx rfl)
    replace Bg1 := Bg1.mod A2.mod (fun hx => (fun x hx => (Da x hx).2.1) _ hx rfl)
    replace Bg2 := Bg2.mod A2.mod (fun hx => (fun x hx => (Da x hx).2.2.1) _ hx rfl)
    replace Bg3 := Bg3.mod A2.mod (fun hx => (fun x hx => (Da x hx).2.2.2) _ hx rfl)
    replace Bg6 := Bg6.mod A2.mod (fun hx => Dot_g6 _ hx rfl)
    replace E := E.trans' A2.mod (fun x hx => .inr (Lt x hx))
    replace Ot := A2.own
    refine sv (o_as rfl) rfl ?_
    refine l_nil ?_
    refine e_in (by simp) ?_
    exact e_round (σ := Nat × Value) (s := ⟨j, .slice adt (wt.length + 1 + j) ct⟩) (⟨j + 1, v2⟩) ⟨rfl, rfl, rfl, rfl, rfl, trivial⟩ ⟨hjn, byt_snoc 0 Ot (by simp [List.replicate_succ']) (by omega), Lv2_E, fun x hx => ⟨Dv2_gh x hx, Dv2_g1 x hx, Dv2_g2 x hx, Dv2_g3 x hx⟩, Bgh, Bg1, Bg2, Bg3, E⟩ (by have := Nat.mod_lt (119 - wt.length % 64) (show 64 > 0 by decide); unfold padz at hj; dsimp only; omega)
  · skip
    have hjp : j = padz wt.length := (padz_at hj).1 (by omega)
    subst hjp
    refine c_exit ?_
    refine e_then (by simp) ?_
    refine e_then (by simp) ?_
    refine e_hit ?_
    refine e_K (hK7 _ _ _ _ ?_)
    refine c_seq fun K10 hK10 => ?_
    refine c_seq fun K11 hK11 => ?_
    refine c_region ?_
    refine sv (o_as rfl) rfl ?_
    refine l_nil ?_
    refine e_K (hK11 _ _ _ _ ?_)
    refine c_block ?_
    refine c_loop (σ := Nat × Value) (fun ⟨k, v⟩ => [(0, .pointer (some ⟨gh, 0, none⟩)), (2, .pointer (some ⟨g1, 0, none⟩)), (3, .pointer (some ⟨g2, 0, none⟩)), (4, .pointer (some ⟨g3, 0, none⟩)), (5, v), (6, .int .i64 (7 - (k : Int)))]) (fun ⟨k, v⟩ w1 => k ≤ 8 ∧ Own w1 5 1 v (wt.length + (1 + padz wt.length + k)) (((wt ++ (128 :: List.replicate (padz wt.length) 0 ++ lens n k)).map bcells).flatten) ∧ (∀ x ∈ ob v, w.heap.size ≤ x) ∧ (∀ x ∈ ob v, x ≠ gh ∧ x ≠ g1 ∧ x ≠ g2 ∧ x ≠ g3) ∧ Blk w1 gh 53 [W4 s.a, W4 s.b, W4 s.c, W4 s.d, W4 s.e, W4 s.f, W4 s.g, W4 s.h, wv, .int .u64 (n : Int)] ∧ Blk w1 g1 24 (List.replicate 32 (.int .u8 0)) ∧ Blk w1 g2 24 (List.replicate 32 (.int .u8 0)) ∧ Blk w1 g3 53 (s.cells ++ [.slice none 0 0, .int .u64 0]) ∧ Mod [] w w1) (fun ⟨k, v⟩ => 8 - k) (⟨0, .slice adt (wt.length + 1 + padz wt.length) ct⟩) ⟨rfl, rfl, rfl, rfl, rfl, rfl, trivial⟩ (⟨by omega, Ot.as (by omega) (by simp [lens]), Lt, Da, Bgh, Bg1, Bg2, Bg3, E⟩) ?_
    rintro ⟨k, v⟩ w11 ⟨hk, Ot, Lt, Da, Bgh, Bg1, Bg2, Bg3, E⟩
    obtain ⟨adt, ct, rfl, ht1, ht2⟩ := Ot.form
    have hpz := Nat.mod_lt (119 - wt.length % 64) (show 64 > 0 by decide)
    have hpz2 : padz wt.length < 64 := hpz
    refine c_seq fun K12 hK12 => ?_
    refine c_seq fun K13 hK13 => ?_
    refine c_region ?_
    refine sv (o_mv rfl) rfl ?_
    refine sv (o_geq rfl rfl) rfl ?_
    refine l_nil ?_
    refine e_K (hK13 _ _ _ _ ?_)
    refine c_if rfl (fun h33 => ?_) (fun h33 => ?_)
    · skip
      have hlt : k < 8 := by omega
      refine c_skip ?_
      refine e_K (hK12 _ _ _ _ ?_)
      refine c_seq fun K14 hK14 => ?_
      refine c_block ?_
      refine c_region ?_
      refine sv (o_mv rfl) rfl ?_
      refine sv (o_mv rfl) rfl ?_
      refine sv (o_nilc rfl) rfl ?_
      refine sv (o_fa0 fd53_2 rfl) rfl ?_
      refine sv (o_ld sc51 rfl (Bgh.cell rfl)) rfl ?_
      refine sv (o_shlE (r := ((n * 8 : Nat) : Int)) rfl rfl (by omega) (by show IntKind.u64.wrap ((n : Int) * 8) = _; rw [wrapu64_in _ (by omega)]; omega)) rfl ?_
      refine sv (o_mv rfl) rfl ?_
      refine sv (o_mulE (r := ((8 * (7 - k) : Nat) : Int)) rfl rfl (by rw [wrap64_in _ (by omega)]; omega)) rfl ?_
      refine sv (o_shrE (r := ((n * 8 / 256 ^ (7 - k) : Nat) : Int)) rfl rfl (by omega) (shr_len n (7 - k) (by omega))) rfl ?_
      refine sv (o_convE (r := ((lenb n (7 - k)).toNat : Int)) Tryd.underlying51 Tryd.underlying5 rfl (conv_len n (7 - k) hn)) rfl ?_
      refine s_bslice (cs := [_]) sl22 zv5 rfl rfl rfl (by decide) rfl fun g7 w12 N7 => ?_
      have Lg7_E := N7.le E
      have Dgh_g7 := N7.ne Bgh
      have Dg1_g7 := N7.ne Bg1
      have Dg2_g7 := N7.ne Bg2
      have Dg3_g7 := N7.ne Bg3
      have Dot_g7 := N7.own_ne Ot
      replace Bgh := Bgh.mod0 N7.mod
      replace Bg1 := Bg1.mod0 N7.mod
      replace Bg2 := Bg2.mod0 N7.mod
      replace Bg3 := Bg3.mod0 N7.mod
      replace E := E.then N7.mod
      replace Ot := Ot.mod0 N7.mod
      have Bg7 := N7.blk
      refine s_append sl22 rfl rfl Ot (Src.own Tryd.underlying22 (Own.all (cs := [_]) Bg7 rfl (by omega)) (by simp [B8, Value.oneCell'])) (by decide) (by omega) (by omega) rfl fun v3 w13 A3 => ?_
      have Dv3_gh := A3.ne (fun x hx => (Da x hx).1) Bgh
      have Dv3_g1 := A3.ne (fun x hx => (Da x hx).2.1) Bg1
      have Dv3_g2 := A3.ne (fun x hx => (Da x hx).2.2.1) Bg2
      have Dv3_g3 := A3.ne (fun x hx => (Da x hx).2.2.2) Bg3
      have Dv3_g7 := A3.ne Dot_g7 Bg7
      have Lv3_E := A3.ge Lt E
      replace Bgh := Bgh.mod A3.mod (fun hx => (fun x hx => (Da x hx).1) _ hx rfl)
      replace Bg1 := Bg1.mod A3.mod (fun hx => (fun x hx => (Da x hx).2.1) _ hx rfl)
      replace Bg2 := Bg2.mod A3.mod (fun hx => (fun x hx => (Da x hx).2.2.1) _ hx rfl)
      replace Bg3 := Bg3.mod A3.mod (fun hx => (fun x hx => (Da x hx).2.2.2) _ hx rfl)
      replace Bg7 := Bg7.mod A3.mod (fun hx => Dot_g7 _ hx rfl)
      replace E := E.trans' A3.mod (fun x hx => .inr (Lt x hx))
      replace Ot := A3.own
      refine sv (o_as rfl) rfl ?_
      refine l_nil ?_
      refine e_in (by simp) ?_
      refine e_K (hK14 _ _ _ _ ?_)
      refine c_region ?_
      refine sv (o_mv rfl) rfl ?_
      refine sv (o_subE (r := 7 - ((k + 1 : Nat) : Int)) rfl rfl (by rw [wrap64_in _ (by omega)]; omega)) rfl ?_
      refine sv (o_as rfl) rfl ?_
      refine l_nil ?_
      exact e_round (σ := Nat × Value) (s := ⟨k, .slice adt (wt.length + (1 + padz wt.length + k)) ct⟩) (⟨k + 1, v3⟩) ⟨rfl, rfl, rfl, rfl, rfl, rfl, trivial⟩ ⟨by omega, byt_snoc (lenb n (7 - k)) Ot (by rw [lens_succ]; simp) (by omega), Lv3_E, fun x hx => ⟨Dv3_gh x hx, Dv3_g1 x hx, Dv3_g2 x hx, Dv3_g3 x hx⟩, Bgh, Bg1, Bg2, Bg3, E⟩ (by dsimp only; omega)
    · skip
      have hk8 : k = 8 := by omega
      subst hk8
      refine c_exit ?_
      refine e_then (by simp) ?_
      refine e_then (by simp) ?_
      refine e_hit ?_
      refine e_K (hK10 _ _ _ _ ?_)
      refine c_seq fun K15 hK15 => ?_
      refine c_block ?_
      refine c_loop (σ := Nat × Value) (fun ⟨k, v⟩ => [(0, .pointer (some ⟨gh, 0, none⟩)), (2, .pointer (some ⟨g1, 0, none⟩)), (3, .pointer (some ⟨g2, 0, none⟩)), (4, .pointer (some ⟨g3, 0, none⟩)), (5, v)]) (fun ⟨k, v⟩ w1 => 64 * k ≤ (wt ++ padL wt.length n).length ∧ Own w1 5 1 v ((wt ++ padL wt.length n).length - 64 * k) ((((wt ++ padL wt.length n).drop (64 * k)).map bcells).flatten) ∧ (∀ x ∈ ob v, w.heap.size ≤ x) ∧ (∀ x ∈ ob v, x ≠ gh ∧ x ≠ g1 ∧ x ≠ g2 ∧ x ≠ g3) ∧ Blk w1 gh 53 [W4 s.a, W4 s.b, W4 s.c, W4 s.d, W4 s.e, W4 s.f, W4 s.g, W4 s.h, wv, .int .u64 (n : Int)] ∧ Blk w1 g1 24 (List.replicate 32 (.int .u8 0)) ∧ Blk w1 g2 24 (List.replicate 32 (.int .u8 0)) ∧ Blk w1 g3 53 ((abs64 s (wt ++ padL wt.length n) k).cells ++ [.slice none 0 0, .int .u64 0]) ∧ Mod [] w w1) (fun ⟨k, v⟩ => (wt ++ padL wt.length n).length - 64 * k) (⟨0, .slice adt (wt.length + (1 + padz wt.length + 8)) ct⟩) ⟨rfl, rfl, rfl, rfl, rfl, trivial⟩ (⟨by omega, Ot.as (by simp [padL, lens]; omega) (by simp [padL]), Lt, Da, Bgh, Bg1, Bg2, Bg3, E⟩) ?_
      rintro ⟨k, v⟩ w14 ⟨hk, Ot, Lt, Da, Bgh, Bg1, Bg2, Bg3, E⟩
      obtain ⟨adt, ct, rfl, ht1, ht2⟩ := Ot.form
      have hTT : (wt ++ padL wt.length n).length = wt.length + (padL wt.length n).length := List.length_append
      have hmod := padL_len wt.length n
      rw [← hTT] at hmod
      refine c_seq fun K16 hK16 => ?_
      refine c_seq fun K17 hK17 => ?_
      refine c_region ?_
      refine sv (o_mv rfl) rfl ?_
      refine sv (o_len Tryd.underlying22 rfl) rfl ?_
      refine sv (o_gtr rfl rfl) rfl ?_
      refine l_nil ?_
      refine e_K (hK17 _ _ _ _ ?_)
      refine c_if rfl (fun h50 => ?_) (fun h50 => ?_)
      · skip
        have hlt : 64 * k + 64 ≤ (wt ++ padL wt.length n).length := by omega
        refine c_skip ?_
        refine e_K (hK16 _ _ _ _ ?_)
        refine c_block ?_
        refine c_seq fun K18 hK18 => ?_
        refine c_region ?_
        refine sv (o_mv rfl) rfl ?_
        refine sv (o_mv rfl) rfl ?_
        have RW := Own.byts [g3] Ot (by rw [List.length_drop]) (fun x hx => by simpa using (Da x hx).2.2.2)
        have hg30 : g3 ≠ 0 := by have := Lg3_E; omega
        refine sc (o_call ent20 rfl) (c_blk64 [g3] _ (abs64 s (wt ++ padL wt.length n) k) ((wt ++ padL wt.length n).drop (64 * k)) g3 _ _ _ Bg3 (hT.mod0 E) hg30 RW (by simp) (by rw [List.length_drop]; omega)) rfl fun v_ w15 h_ => ?_
        obtain ⟨Bg3_, Eb⟩ := h_
        clear Bg3
        have Bg3 := Bg3_
        replace E := E.own Eb Lg3_E
        replace Ot := Ot.put Eb (fun x hx => (Da x hx).2.2.2)
        replace Bgh := Bgh.ne Eb Dgh_g3
        replace Bg1 := Bg1.ne Eb Dg1_g3
        replace Bg2 := Bg2.ne Eb Dg2_g3
        refine l_nil ?_
        refine e_K (hK18 _ _ _ _ ?_)
        refine c_region ?_
        refine sv (o_mv rfl) rfl ?_
        refine sv (o_slfrom (lo := 64) sl22 rfl rfl (by omega) (by omega)) rfl ?_
        refine sv (o_as rfl) rfl ?_
        refine l_nil ?_
        refine e_in (by simp) ?_
        exact e_round (σ := Nat × Value) (s := ⟨k, .slice adt ((wt ++ padL wt.length n).length - 64 * k) ct⟩) (⟨k + 1, .slice (adS adt ct 64 1) ((wt ++ padL wt.length n).length - 64 * k - 64) (ct - 64)⟩) ⟨rfl, rfl, rfl, rfl, rfl, trivial⟩ ⟨by omega, (Own.drop64 Ot (by omega)).as (by omega) rfl, fun x hx => Lt x (ob_adS x hx), fun x hx => Da x (ob_adS x hx), Bgh, Bg1, Bg2, Bg3, E⟩ (by dsimp only; omega)
      · skip
        have hkk : k = (wt ++ padL wt.length n).length / 64 := by omega
        obtain ⟨F, hF⟩ : ∃ F, F = fin64 s wt n := ⟨_, rfl⟩
        rw [hkk, show abs64 s (wt ++ padL wt.length n) ((wt ++ padL wt.length n).length / 64) = F from hF.symm] at Bg3
        refine c_exit ?_
        refine e_then (by simp) ?_
        refine e_then (by simp) ?_
        refine e_hit ?_
        refine e_K (hK15 _ _ _ _ ?_)
        refine c_seq fun K19 hK19 => ?_
        refine c_seq fun K20 hK20 => ?_
        refine c_region ?_
        refine sv (o_mv rfl) rfl ?_
        refine l_nil ?_
        refine e_K (hK20 _ _ _ _ ?_)
        refine c_block ?_
        refine c_loop (σ := Nat) (fun k => [(2, .pointer (some ⟨g1, 0, none⟩)), (3, .pointer (some ⟨g2, 0, none⟩)), (4, .pointer (some ⟨g3, 0, none⟩)), (56, .int .i64 (k : Int))]) (fun k w1 => k ≤ 32 ∧ Blk w1 g1 24 (List.replicate 32 (.int .u8 0)) ∧ Blk w1 g2 24 (rowB (outB F k) 32) ∧ Blk w1 g3 53 (F.cells ++ [.slice none 0 0, .int .u64 0]) ∧ Mod [] w w1) (fun k => 32 - k) (0) ⟨rfl, rfl, rfl, rfl, trivial⟩ (⟨by omega, Bg1, by rw [show rowB (outB F 0) 32 = List.replicate 32 (.int .u8 0) from rowB_nil]; exact Bg2, Bg3, E⟩) ?_
        rintro k w16 ⟨hk, Bg1, Bg2, Bg3, E⟩
        refine c_seq fun K21 hK21 => ?_
        refine c_region ?_
        refine sv (o_lss rfl rfl) rfl ?_
        refine l_nil ?_
        refine e_K (hK21 _ _ _ _ ?_)
        refine c_seq fun K22 hK22 => ?_
        refine c_if rfl (fun h57 => ?_) (fun h57 => ?_)
        · skip
          have hlt : k < 32 := by omega
          refine c_skip ?_
          refine e_K (hK22 _ _ _ _ ?_)
          refine c_seq fun K23 hK23 => ?_
          refine c_block ?_
          refine c_seq fun K24 hK24 => ?_
          refine c_region ?_
          refine sv (o_mv rfl) rfl ?_
          refine sv (o_as rfl) rfl ?_
          refine l_nil ?_
          refine e_K (hK24 _ _ _ _ ?_)
          refine c_region ?_
          refine sv (o_mv rfl) rfl ?_
          refine sv (o_mv rfl) rfl ?_
          refine sv (o_mv rfl) rfl ?_
          refine sv ((o_quoN rfl rfl (by omega)).to (v' := .int .i64 ((k / 4 : Nat) : Int)) (by rw [Int.natCast_ediv]; rfl)) rfl ?_
          refine sv (o_nilc rfl) rfl ?_
          refine sv (o_fa0 fd53_0 rfl) rfl ?_
          refine sv (o_ixa ar50 rfl rfl (by omega)) rfl ?_
          refine sv (o_ld sc44 rfl (Bg3.c1 (s8_get' (by omega)))) rfl ?_
          refine sv (o_mv rfl) rfl ?_
          refine sv (o_remN rfl rfl (by omega)) rfl ?_
          refine sv (o_mulN rfl rfl (by omega)) rfl ?_
          refine sv (o_subE (r := ((8 * (3 - k % 4) : Nat) : Int)) rfl rfl (by rw [wrap64_in _ (by omega)]; omega)) rfl ?_
          refine sv (o_shr4 (m := 8 * (3 - k % 4)) rfl rfl (by omega)) rfl ?_
          refine sv (o_conv48 Tryd.underlying44 Tryd.underlying5 rfl) rfl ?_
          refine sv (o_ixa ar24 rfl rfl (by omega)) rfl ?_
          refine s_st1 (i := k) sc5 Bg2 rfl rfl rfl (by rw [rowB_len (by rw [outB_len]; omega)]; exact hlt) fun wS P1 => ?_
          replace E := E.own P1.mod Lg2_E
          replace Bg1 := Bg1.ne P1.mod Dg1_g2
          replace Bg3 := Bg3.ne P1.mod (Ne.symm Dg2_g3)
          replace Bg2 := P1.blk
          refine l_nil ?_
          refine e_in (by simp) ?_
          refine e_K (hK23 _ _ _ _ ?_)
          refine c_region ?_
          refine sv (o_addN rfl rfl (by omega)) rfl ?_
          refine sv (o_mv rfl) rfl ?_
          refine l_nil ?_
          exact e_round (σ := Nat) (s := k) (k + 1) ⟨rfl, rfl, rfl, rfl, trivial⟩ ⟨by omega, Bg1, out_step hlt Bg2, Bg3, E⟩ (by omega)
        · skip
          have hk32 : k = 32 := by omega
          subst hk32
          have Bf : Blk w16 g2 24 ((outB F 32).map B8) := by rw [← rowB_all (outB_len F 32)]; exact Bg2
          refine c_exit ?_
          refine e_then (by simp) ?_
          refine e_then (by simp) ?_
          refine e_hit ?_
          refine e_K (hK19 _ _ _ _ ?_)
          refine c_seq fun K25 hK25 => ?_
          refine c_region ?_
          refine sv (o_lda (vs := (outB F 32).map B8) ag24 rfl (by simp [outB_len]) (Bf.cs (o := 0) (by rw [List.drop_zero, List.take_length]))) rfl ?_
          refine s_sta (vs := (outB F 32).map B8) ag24 Bg1 rfl rfl (by simp [outB_len]) (by intro v hv; obtain ⟨x, _, rfl⟩ := List.mem_map.1 hv; rfl) (by simp [outB_len]) fun wS P1 => ?_
          replace E := E.own P1.mod Lg1_E
          replace Bg1 := P1.blk
          rw [splice, List.take_zero, List.nil_append, List.drop_eq_nil_of_le (by simp [outB_len]), List.append_nil] at Bg1
          refine l_nil ?_
          refine e_K (hK25 _ _ _ _ ?_)
          refine c_ret ?_
          exact retc (vs := (outB F 32).map B8) rfl ag24 rfl (by simp [outB_len]) (Bg1.cs (o := 0) (by rw [List.drop_zero, List.take_length])) ⟨by rw [hF], E⟩

end Go.Proofs.YtccjjkdogljmpaaDoor.V
