/-
  A part of the proof: bytes as letters, six bits by six; six bits out of a number, a byte put behind a number, in the words of the machine's kinds. No condition of its own.
-/
import Derived.Test.YtknndpjacklkeaaGreatDoorM23
import Derived.Test.YtknndpjacklkeaaGreatDoorM13
import Derived.Test.YtknndpjacklkeaaGreatDoorM4
import Derived.Test.YtknndpjacklkeaaGreatDoorM2
import Derived.Test.YtknndpjacklkeaaGreatDoorM22
set_option linter.unusedVariables false
set_option linter.unusedSimpArgs false
set_option maxRecDepth 10000
namespace Go.Proofs.YtknndpjacklkeaaGreatDoor.V
open Go Go.Proofs
theorem ag103 : agB Tryz.prog 103 32 = true := by kernel_rfl
theorem zv103 : zvB Tryz.prog 103 (List.replicate 32 (.int .u8 0)) := by unfold zvB; kernel_rfl
theorem ar103 : arB Tryz.prog 103 32 5 1 = true := by kernel_rfl
theorem c_dSum (w : World) (s : S8) (wt : List UInt8) (n : Nat) (gh : Nat) (wv : Value) (Bgh : Blk w gh 184 [W4 s.a, W4 s.b, W4 s.c, W4 s.d, W4 s.e, W4 s.f, W4 s.g, W4 s.h, wv, .int .u64 (n : Int)]) (Ow : Own w 5 1 wv wt.length ((wt.map bcells).flatten)) (hT : Cs w ⟨gD, 0, none⟩ (numsK.map W4)) (hw0 : gD < w.heap.size) (hl : wt.length ≤ 1000000) (hn : n ≤ 1000000) : Calls Tryz.prog 132 [.pointer (some ⟨gh, 0, none⟩)].toArray w (Ret fun u w' => u = .agg ((outB (fin64 s wt n) 32).map B8).toArray ∧ Mod [] w w') := by
 refine enter Tryz.func132 rfl rfl rfl (l := [(0, _)]) ⟨rfl, trivial⟩ ?_
 have E := Mod.refl [] w
 have flat_one : ∀ u ∈ (wt.map bcells).flatten, u.oneCell' = true := by
  intro u hu
  obtain ⟨l, hl, hu⟩ := List.mem_flatten.1 hu
  obtain ⟨x, _, rfl⟩ := List.mem_map.1 hl
  simp at hu
  subst hu
  rfl
 refine Cq fun K1 hK1 => Cr (s_alloc zv103 rfl fun g1 w1 N1 => ?_)
 have Lg1_E := N1.le E
 have Dgh_g1 := N1.ne Bgh
 replace Bgh := Bgh.mod0 N1.mod
 replace E := E.then N1.mod
 have Bg1 := N1.blk
 refine Ln (e_K (hK1 _ _ _ _ (Cq fun K2 hK2 => Cr (s_alloc zv103 rfl fun g2 w2 N2 => ?_))))
 have Lg2_E := N2.le E
 have Dgh_g2 := N2.ne Bgh
 have Dg1_g2 := N2.ne Bg1
 replace Bgh := Bgh.mod0 N2.mod
 replace Bg1 := Bg1.mod0 N2.mod
 replace E := E.then N2.mod
 have Bg2 := N2.blk
 refine Ln (e_K (hK2 _ _ _ _ (Cq fun K3 hK3 => Cq fun K4 hK4 => Cr (Zm rfl (Sv (o_peq Tryz.underlying140 rfl rfl) (Ln (e_K (hK4 _ _ _ _ (c_false rfl (cK (e_K (hK3 _ _ _ _ (Cq fun K5 hK5 => Cr ?_)))))))))))))
 refine tW 2 rfl (Sv (oA0 fd184_0 rfl) (Sv (o_lda (vs := [_, _, _, _, _, _, _, _]) ag181 rfl rfl (Bgh.cs rfl)) (Sv (o_build (cs := [_, _, _, _, _, _, _, _, _, _]) pl184 zv184 rfl rfl) (s_box rfl rfl rfl fun g3 w3 N3 => ?_))))
 have Lg3_E := N3.le E
 have Dgh_g3 := N3.ne Bgh
 have Dg1_g3 := N3.ne Bg1
 have Dg2_g3 := N3.ne Bg2
 replace Bgh := Bgh.mod0 N3.mod
 replace Bg1 := Bg1.mod0 N3.mod
 replace Bg2 := Bg2.mod0 N3.mod
 replace E := E.then N3.mod
 have Bg3 := N3.blk
 refine Za rfl (Ln (e_K (hK5 _ _ _ _ (Cq fun K6 hK6 => Cr (s_bslice (cs := []) sl74 zv5 rfl rfl rfl (by decide) rfl fun g4 w4 N4 => ?_)))))
 have Lg4_E := N4.le E
 have Dgh_g4 := N4.ne Bgh
 have Dg1_g4 := N4.ne Bg1
 have Dg2_g4 := N4.ne Bg2
 have Dg3_g4 := N4.ne Bg3
 replace Bgh := Bgh.mod0 N4.mod
 replace Bg1 := Bg1.mod0 N4.mod
 replace Bg2 := Bg2.mod0 N4.mod
 replace Bg3 := Bg3.mod0 N4.mod
 replace E := E.then N4.mod
 have Bg4 := N4.blk
 refine tW 2 rfl (Sv (oA0 fd184_1 rfl) (Sv (oL sc74 rfl (Bgh.cell rfl)) ?_))
 replace Ow := Ow.mod0 E
 refine s_append sl74 rfl rfl (Own.all (c := 0) (cs := []) Bg4 rfl (by omega)) (Src.own Tryz.underlying74 Ow flat_one) (by decide) (by omega) (by omega) rfl fun v1 w5 A1 => ?_
 have D1_gh : ∀ x ∈ ob v1, x ≠ gh := fun x hx e => (A1.ob_ x hx).elim (fun h => by simp [ob] at h; exact (Ne.symm (Ne.symm Dgh_g4)) (e.symm.trans h)) (fun h => by have := Bgh.lt; omega)
 have D1_g1 : ∀ x ∈ ob v1, x ≠ g1 := fun x hx e => (A1.ob_ x hx).elim (fun h => by simp [ob] at h; exact (Ne.symm (Ne.symm Dg1_g4)) (e.symm.trans h)) (fun h => by have := Bg1.lt; omega)
 have D1_g2 : ∀ x ∈ ob v1, x ≠ g2 := fun x hx e => (A1.ob_ x hx).elim (fun h => by simp [ob] at h; exact (Ne.symm (Ne.symm Dg2_g4)) (e.symm.trans h)) (fun h => by have := Bg2.lt; omega)
 have D1_g3 : ∀ x ∈ ob v1, x ≠ g3 := fun x hx e => (A1.ob_ x hx).elim (fun h => by simp [ob] at h; exact (Ne.symm (Ne.symm Dg3_g4)) (e.symm.trans h)) (fun h => by have := Bg3.lt; omega)
 have L1 : ∀ x ∈ ob v1, w.heap.size ≤ x := fun x hx => (A1.ob_ x hx).elim (fun h => by simp [ob] at h; subst h; exact Lg4_E) (fun h => Nat.le_trans (Nat.le_trans Lg4_E (Nat.le_of_lt Bg4.lt)) h)
 replace Bgh := Bgh.mod A1.mod (fun hx => (Ne.symm (Ne.symm Dgh_g4)) (by simpa [ob] using hx))
 replace Bg1 := Bg1.mod A1.mod (fun hx => (Ne.symm (Ne.symm Dg1_g4)) (by simpa [ob] using hx))
 replace Bg2 := Bg2.mod A1.mod (fun hx => (Ne.symm (Ne.symm Dg2_g4)) (by simpa [ob] using hx))
 replace Bg3 := Bg3.mod A1.mod (fun hx => (Ne.symm (Ne.symm Dg3_g4)) (by simpa [ob] using hx))
 replace E := E.trans' A1.mod (fun x hx => .inr (by simp [ob] at hx; subst hx; exact Lg4_E))
 have Ot := A1.own.as (Nat.zero_add _) (List.nil_append _)
 refine s_bslice (cs := [_]) sl74 zv5 rfl rfl rfl (by decide) rfl fun g5 w6 N5 => ?_
 have Lg5_E := N5.le E
 have Dgh_g5 := N5.ne Bgh
 have Dg1_g5 := N5.ne Bg1
 have Dg2_g5 := N5.ne Bg2
 have Dg3_g5 := N5.ne Bg3
 have Dot_g5 := N5.own_ne Ot
 replace Bgh := Bgh.mod0 N5.mod
 replace Bg1 := Bg1.mod0 N5.mod
 replace Bg2 := Bg2.mod0 N5.mod
 replace Bg3 := Bg3.mod0 N5.mod
 replace E := E.then N5.mod
 replace Ot := Ot.mod0 N5.mod
 have Bg5 := N5.blk
 refine s_append sl74 rfl rfl Ot (Src.own Tryz.underlying74 (Own.all (cs := [_]) Bg5 rfl (by omega)) (by simp [B8, Value.oneCell'])) (by decide) (by omega) (by omega) rfl fun v1 w7 A1 => ?_
 have Dv1_gh := A1.ne D1_gh Bgh
 have Dv1_g1 := A1.ne D1_g1 Bg1
 have Dv1_g2 := A1.ne D1_g2 Bg2
 have Dv1_g3 := A1.ne D1_g3 Bg3
 have Dv1_g5 := A1.ne Dot_g5 Bg5
 have Lv1_E := A1.ge L1 E
 replace Bgh := Bgh.mod A1.mod (fun hx => D1_gh _ hx rfl)
 replace Bg1 := Bg1.mod A1.mod (fun hx => D1_g1 _ hx rfl)
 replace Bg2 := Bg2.mod A1.mod (fun hx => D1_g2 _ hx rfl)
 replace Bg3 := Bg3.mod A1.mod (fun hx => D1_g3 _ hx rfl)
 replace Bg5 := Bg5.mod A1.mod (fun hx => Dot_g5 _ hx rfl)
 replace E := E.trans' A1.mod (fun x hx => .inr (L1 x hx))
 replace Ot := A1.own
 refine Za rfl (Ln (e_K (hK6 _ _ _ _ (Cq fun K7 hK7 => cB (c_loop (σ := Nat × Value) (fun ⟨j, v⟩ => [(0, .pointer (some ⟨gh, 0, none⟩)), (2, .pointer (some ⟨g1, 0, none⟩)), (3, .pointer (some ⟨g2, 0, none⟩)), (4, .pointer (some ⟨g3, 0, none⟩)), (5, v)]) (fun ⟨j, v⟩ w1 => j ≤ padz wt.length ∧ Own w1 5 1 v (wt.length + 1 + j) (((wt ++ 128 :: List.replicate j 0).map bcells).flatten) ∧ (∀ x ∈ ob v, w.heap.size ≤ x) ∧ (∀ x ∈ ob v, x ≠ gh ∧ x ≠ g1 ∧ x ≠ g2 ∧ x ≠ g3) ∧ Blk w1 gh 184 [W4 s.a, W4 s.b, W4 s.c, W4 s.d, W4 s.e, W4 s.f, W4 s.g, W4 s.h, wv, .int .u64 (n : Int)] ∧ Blk w1 g1 103 (List.replicate 32 (.int .u8 0)) ∧ Blk w1 g2 103 (List.replicate 32 (.int .u8 0)) ∧ Blk w1 g3 184 (s.cells ++ [.slice none 0 0, .int .u64 0]) ∧ Mod [] w w1) (fun ⟨j, v⟩ => 100 - j) (⟨0, v1⟩) ⟨rfl, rfl, rfl, rfl, rfl, trivial⟩ (⟨by omega, byt_snoc 128 Ot (by simp) (by omega), Lv1_E, fun x hx => ⟨Dv1_gh x hx, Dv1_g1 x hx, Dv1_g2 x hx, Dv1_g3 x hx⟩, Bgh, Bg1, Bg2, Bg3, E⟩) ?_)))))
 rintro ⟨j, v⟩ w8 ⟨hj, Ot, Lt, Da, Bgh, Bg1, Bg2, Bg3, E⟩
 obtain ⟨adt, ct, rfl, ht1, ht2⟩ := Ot.form
 have hpz2 : padz wt.length < 64 := Nat.mod_lt (119 - wt.length % 64) (show 64 > 0 by decide)
 refine Cq fun K8 hK8 => Cq fun K9 hK9 => Cr (Zm rfl (Sv (o_len Tryz.underlying74 rfl) (Sv (o_remN rfl rfl (by omega)) (Sv (o_neq rfl rfl) (Ln (e_K (hK9 _ _ _ _ ?_)))))))
 refine c_if rfl (fun h28 => ?_) (fun h28 => ?_)
 ·have hjn : j + 1 ≤ padz wt.length := by
   rcases Nat.lt_or_eq_of_le hj with h | h
   ·exact h
   ·exact absurd ((padz_at hj).2 h) (by omega)
  refine cK (e_K (hK8 _ _ _ _ (cB (Cr (Zm rfl (s_bslice (cs := [_]) sl74 zv5 rfl rfl rfl (by decide) rfl fun g6 w9 N6 => ?_))))))
  have Lg6_E := N6.le E
  have Dgh_g6 := N6.ne Bgh
  have Dg1_g6 := N6.ne Bg1
  have Dg2_g6 := N6.ne Bg2
  have Dg3_g6 := N6.ne Bg3
  have Dot_g6 := N6.own_ne Ot
  replace Bgh := Bgh.mod0 N6.mod
  replace Bg1 := Bg1.mod0 N6.mod
  replace Bg2 := Bg2.mod0 N6.mod
  replace Bg3 := Bg3.mod0 N6.mod
  replace E := E.then N6.mod
  replace Ot := Ot.mod0 N6.mod
  have Bg6 := N6.blk
  refine s_append sl74 rfl rfl Ot (Src.own Tryz.underlying74 (Own.all (cs := [_]) Bg6 rfl (by omega)) (by simp [B8, Value.oneCell'])) (by decide) (by omega) (by omega) rfl fun v2 w10 A2 => ?_
  have Dv2_gh := A2.ne (fun x hx => (Da x hx).1) Bgh
  have Dv2_g1 := A2.ne (fun x hx => (Da x hx).2.1) Bg1
  have Dv2_g2 := A2.ne (fun x hx => (Da x hx).2.2.1) Bg2
  have Dv2_g3 := A2.ne (fun x hx => (Da x hx).2.2.2) Bg3
  have Dv2_g6 := A2.ne Dot_g6 Bg6
  have Lv2_E := A2.ge Lt E
  replace Bgh := Bgh.mod A2.mod (fun hx => (fun x hx => (Da x hx).1) _ hx rfl)
  replace Bg1 := Bg1.mod A2.mod (fun hx => (fun x hx => (Da x hx).2.1) _ hx rfl)
  replace Bg2 := Bg2.mod A2.mod (fun hx => (fun x hx => (Da x hx).2.2.1) _ hx rfl)
  replace Bg3 := Bg3.mod A2.mod (fun hx => (fun x hx => (Da x hx).2.2.2) _ hx rfl)
  replace Bg6 := Bg6.mod A2.mod (fun hx => Dot_g6 _ hx rfl)
  replace E := E.trans' A2.mod (fun x hx => .inr (Lt x hx))
  replace Ot := A2.own
  exact Za rfl (Ln (eI (by simp) (eR (σ := Nat × Value) (s := ⟨j, .slice adt (wt.length + 1 + j) ct⟩) (⟨j + 1, v2⟩) ⟨rfl, rfl, rfl, rfl, rfl, trivial⟩ ⟨hjn, byt_snoc 0 Ot (by simp [List.replicate_succ']) (by omega), Lv2_E, fun x hx => ⟨Dv2_gh x hx, Dv2_g1 x hx, Dv2_g2 x hx, Dv2_g3 x hx⟩, Bgh, Bg1, Bg2, Bg3, E⟩ (by have := Nat.mod_lt (119 - wt.length % 64) (show 64 > 0 by decide); unfold padz at hj; dsimp only; omega))))
 ·have hjp : j = padz wt.length := (padz_at hj).1 (by omega)
  subst hjp
  refine c_exit (eT (by simp) (eT (by simp) (e_hit (e_K (hK7 _ _ _ _ (Cq fun K10 hK10 => Cq fun K11 hK11 => Cr (Za rfl (Ln (e_K (hK11 _ _ _ _ (cB (c_loop (σ := Nat × Value) (fun ⟨k, v⟩ => [(0, .pointer (some ⟨gh, 0, none⟩)), (2, .pointer (some ⟨g1, 0, none⟩)), (3, .pointer (some ⟨g2, 0, none⟩)), (4, .pointer (some ⟨g3, 0, none⟩)), (5, v), (6, .int .i64 (7 - (k : Int)))]) (fun ⟨k, v⟩ w1 => k ≤ 8 ∧ Own w1 5 1 v (wt.length + (1 + padz wt.length + k)) (((wt ++ (128 :: List.replicate (padz wt.length) 0 ++ lens n k)).map bcells).flatten) ∧ (∀ x ∈ ob v, w.heap.size ≤ x) ∧ (∀ x ∈ ob v, x ≠ gh ∧ x ≠ g1 ∧ x ≠ g2 ∧ x ≠ g3) ∧ Blk w1 gh 184 [W4 s.a, W4 s.b, W4 s.c, W4 s.d, W4 s.e, W4 s.f, W4 s.g, W4 s.h, wv, .int .u64 (n : Int)] ∧ Blk w1 g1 103 (List.replicate 32 (.int .u8 0)) ∧ Blk w1 g2 103 (List.replicate 32 (.int .u8 0)) ∧ Blk w1 g3 184 (s.cells ++ [.slice none 0 0, .int .u64 0]) ∧ Mod [] w w1) (fun ⟨k, v⟩ => 8 - k) (⟨0, .slice adt (wt.length + 1 + padz wt.length) ct⟩) ⟨rfl, rfl, rfl, rfl, rfl, rfl, trivial⟩ (⟨by omega, Ot.as (by omega) (by simp [lens]), Lt, Da, Bgh, Bg1, Bg2, Bg3, E⟩) ?_))))))))))))
  rintro ⟨k, v⟩ w11 ⟨hk, Ot, Lt, Da, Bgh, Bg1, Bg2, Bg3, E⟩
  obtain ⟨adt, ct, rfl, ht1, ht2⟩ := Ot.form
  have hpz := Nat.mod_lt (119 - wt.length % 64) (show 64 > 0 by decide)
  have hpz2 : padz wt.length < 64 := hpz
  refine Cq fun K12 hK12 => Cq fun K13 hK13 => Cr (Zm rfl (Sv (o_geq rfl rfl) (Ln (e_K (hK13 _ _ _ _ ?_)))))
  refine c_if rfl (fun h33 => ?_) (fun h33 => ?_)
  ·have hlt : k < 8 := by omega
   refine cK (e_K (hK12 _ _ _ _ (Cq fun K14 hK14 => cB (Cr (tW 3 rfl (Sv (oA0 fd184_2 rfl) (Sv (oL sc182 rfl (Bgh.cell rfl)) (Sv (o_shlE (r := ((n * 8 : Nat) : Int)) rfl rfl (by omega) (by show IntKind.u64.wrap ((n : Int) * 8) = _; rw [wrapu64_in _ (by omega)]; omega)) (Zm rfl (Sv (o_mulE (r := ((8 * (7 - k) : Nat) : Int)) rfl rfl (by rw [wrap64_in _ (by omega)]; omega)) (Sv (o_shrE (r := ((n * 8 / 256 ^ (7 - k) : Nat) : Int)) rfl rfl (by omega) (shr_len n (7 - k) (by omega))) (Sv (o_convE (r := ((lenb n (7 - k)).toNat : Int)) Tryz.underlying182 Tryz.underlying5 rfl (conv_len n (7 - k) hn)) (s_bslice (cs := [_]) sl74 zv5 rfl rfl rfl (by decide) rfl fun g7 w12 N7 => ?_)))))))))))))
   have Lg7_E := N7.le E
   have Dgh_g7 := N7.ne Bgh
   have Dg1_g7 := N7.ne Bg1
   have Dg2_g7 := N7.ne Bg2
   have Dg3_g7 := N7.ne Bg3
   have Dot_g7 := N7.own_ne Ot
   replace Bgh := Bgh.mod0 N7.mod
   replace Bg1 := Bg1.mod0 N7.mod
   replace Bg2 := Bg2.mod0 N7.mod
   replace Bg3 := Bg3.mod0 N7.mod
   replace E := E.then N7.mod
   replace Ot := Ot.mod0 N7.mod
   have Bg7 := N7.blk
   refine s_append sl74 rfl rfl Ot (Src.own Tryz.underlying74 (Own.all (cs := [_]) Bg7 rfl (by omega)) (by simp [B8, Value.oneCell'])) (by decide) (by omega) (by omega) rfl fun v3 w13 A3 => ?_
   have Dv3_gh := A3.ne (fun x hx => (Da x hx).1) Bgh
   have Dv3_g1 := A3.ne (fun x hx => (Da x hx).2.1) Bg1
   have Dv3_g2 := A3.ne (fun x hx => (Da x hx).2.2.1) Bg2
   have Dv3_g3 := A3.ne (fun x hx => (Da x hx).2.2.2) Bg3
   have Dv3_g7 := A3.ne Dot_g7 Bg7
   have Lv3_E := A3.ge Lt E
   replace Bgh := Bgh.mod A3.mod (fun hx => (fun x hx => (Da x hx).1) _ hx rfl)
   replace Bg1 := Bg1.mod A3.mod (fun hx => (fun x hx => (Da x hx).2.1) _ hx rfl)
   replace Bg2 := Bg2.mod A3.mod (fun hx => (fun x hx => (Da x hx).2.2.1) _ hx rfl)
   replace Bg3 := Bg3.mod A3.mod (fun hx => (fun x hx => (Da x hx).2.2.2) _ hx rfl)
   replace Bg7 := Bg7.mod A3.mod (fun hx => Dot_g7 _ hx rfl)
   replace E := E.trans' A3.mod (fun x hx => .inr (Lt x hx))
   replace Ot := A3.own
   exact Za rfl (Ln (eI (by simp) (e_K (hK14 _ _ _ _ (Cr (Zm rfl (Sv (o_subE (r := 7 - ((k + 1 : Nat) : Int)) rfl rfl (by rw [wrap64_in _ (by omega)]; omega)) (Za rfl (Ln (eR (σ := Nat × Value) (s := ⟨k, .slice adt (wt.length + (1 + padz wt.length + k)) ct⟩) (⟨k + 1, v3⟩) ⟨rfl, rfl, rfl, rfl, rfl, rfl, trivial⟩ ⟨by omega, byt_snoc (lenb n (7 - k)) Ot (by rw [lens_succ]; simp) (by omega), Lv3_E, fun x hx => ⟨Dv3_gh x hx, Dv3_g1 x hx, Dv3_g2 x hx, Dv3_g3 x hx⟩, Bgh, Bg1, Bg2, Bg3, E⟩ (by dsimp only; omega)))))))))))
  ·have hk8 : k = 8 := by omega
   subst hk8
   refine c_exit (eT (by simp) (eT (by simp) (e_hit (e_K (hK10 _ _ _ _ (Cq fun K15 hK15 => cB (c_loop (σ := Nat × Value) (fun ⟨k, v⟩ => [(0, .pointer (some ⟨gh, 0, none⟩)), (2, .pointer (some ⟨g1, 0, none⟩)), (3, .pointer (some ⟨g2, 0, none⟩)), (4, .pointer (some ⟨g3, 0, none⟩)), (5, v)]) (fun ⟨k, v⟩ w1 => 64 * k ≤ (wt ++ padL wt.length n).length ∧ Own w1 5 1 v ((wt ++ padL wt.length n).length - 64 * k) ((((wt ++ padL wt.length n).drop (64 * k)).map bcells).flatten) ∧ (∀ x ∈ ob v, w.heap.size ≤ x) ∧ (∀ x ∈ ob v, x ≠ gh ∧ x ≠ g1 ∧ x ≠ g2 ∧ x ≠ g3) ∧ Blk w1 gh 184 [W4 s.a, W4 s.b, W4 s.c, W4 s.d, W4 s.e, W4 s.f, W4 s.g, W4 s.h, wv, .int .u64 (n : Int)] ∧ Blk w1 g1 103 (List.replicate 32 (.int .u8 0)) ∧ Blk w1 g2 103 (List.replicate 32 (.int .u8 0)) ∧ Blk w1 g3 184 ((abs64 s (wt ++ padL wt.length n) k).cells ++ [.slice none 0 0, .int .u64 0]) ∧ Mod [] w w1) (fun ⟨k, v⟩ => (wt ++ padL wt.length n).length - 64 * k) (⟨0, .slice adt (wt.length + (1 + padz wt.length + 8)) ct⟩) ⟨rfl, rfl, rfl, rfl, rfl, trivial⟩ (⟨by omega, Ot.as (by simp [padL, lens]; omega) (by simp [padL]), Lt, Da, Bgh, Bg1, Bg2, Bg3, E⟩) ?_)))))))
   rintro ⟨k, v⟩ w14 ⟨hk, Ot, Lt, Da, Bgh, Bg1, Bg2, Bg3, E⟩
   obtain ⟨adt, ct, rfl, ht1, ht2⟩ := Ot.form
   have hTT : (wt ++ padL wt.length n).length = wt.length + (padL wt.length n).length := List.length_append
   have hmod := padL_len wt.length n
   rw [← hTT] at hmod
   refine Cq fun K16 hK16 => Cq fun K17 hK17 => Cr (Zm rfl (Sv (o_len Tryz.underlying74 rfl) (Sv (o_gtr rfl rfl) (Ln (e_K (hK17 _ _ _ _ ?_))))))
   refine c_if rfl (fun h50 => ?_) (fun h50 => ?_)
   ·have hlt : 64 * k + 64 ≤ (wt ++ padL wt.length n).length := by omega
    refine cK (e_K (hK16 _ _ _ _ (cB (Cq fun K18 hK18 => Cr (tW 2 rfl ?_)))))
    have RW := Own.byts [g3] Ot (by rw [List.length_drop]) (fun x hx => by simpa using (Da x hx).2.2.2)
    have hg30 : g3 ≠ gD := by have := Lg3_E; omega
    refine sc (oC ent172 rfl) (c_blk64 [g3] _ (abs64 s (wt ++ padL wt.length n) k) ((wt ++ padL wt.length n).drop (64 * k)) g3 _ _ _ Bg3 (hT.mod0 E) hg30 RW (by simp) (by rw [List.length_drop]; omega)) rfl fun v_ w15 h_ => ?_
    obtain ⟨Bg3_, Eb⟩ := h_
    clear Bg3
    have Bg3 := Bg3_
    replace E := E.own Eb Lg3_E
    replace Ot := Ot.put Eb (fun x hx => (Da x hx).2.2.2)
    replace Bgh := Bgh.ne Eb Dgh_g3
    replace Bg1 := Bg1.ne Eb Dg1_g3
    replace Bg2 := Bg2.ne Eb Dg2_g3
    exact Ln (e_K (hK18 _ _ _ _ (Cr (Zm rfl (Sv (o_slfrom (lo := 64) sl74 rfl rfl (by omega) (by omega)) (Za rfl (Ln (eI (by simp) (eR (σ := Nat × Value) (s := ⟨k, .slice adt ((wt ++ padL wt.length n).length - 64 * k) ct⟩) (⟨k + 1, .slice (adS adt ct 64 1) ((wt ++ padL wt.length n).length - 64 * k - 64) (ct - 64)⟩) ⟨rfl, rfl, rfl, rfl, rfl, trivial⟩ ⟨by omega, (Own.drop64 Ot (by omega)).as (by omega) rfl, fun x hx => Lt x (ob_adS x hx), fun x hx => Da x (ob_adS x hx), Bgh, Bg1, Bg2, Bg3, E⟩ (by dsimp only; omega))))))))))
   ·have hkk : k = (wt ++ padL wt.length n).length / 64 := by omega
    obtain ⟨F, hF⟩ : ∃ F, F = fin64 s wt n := ⟨_, rfl⟩
    rw [hkk, show abs64 s (wt ++ padL wt.length n) ((wt ++ padL wt.length n).length / 64) = F from hF.symm] at Bg3
    refine c_exit (eT (by simp) (eT (by simp) (e_hit (e_K (hK15 _ _ _ _ (Cq fun K19 hK19 => Cq fun K20 hK20 => Cr (Zm rfl (Ln (e_K (hK20 _ _ _ _ (cB (c_loop (σ := Nat) (fun k => [(2, .pointer (some ⟨g1, 0, none⟩)), (3, .pointer (some ⟨g2, 0, none⟩)), (4, .pointer (some ⟨g3, 0, none⟩)), (56, .int .i64 (k : Int))]) (fun k w1 => k ≤ 32 ∧ Blk w1 g1 103 (List.replicate 32 (.int .u8 0)) ∧ Blk w1 g2 103 (rowB (outB F k) 32) ∧ Blk w1 g3 184 (F.cells ++ [.slice none 0 0, .int .u64 0]) ∧ Mod [] w w1) (fun k => 32 - k) (0) ⟨rfl, rfl, rfl, rfl, trivial⟩ (⟨by omega, Bg1, by rw [show rowB (outB F 0) 32 = List.replicate 32 (.int .u8 0) from rowB_nil]; exact Bg2, Bg3, E⟩) ?_))))))))))))
    rintro k w16 ⟨hk, Bg1, Bg2, Bg3, E⟩
    refine Cq fun K21 hK21 => Cr (Sv (o_lss rfl rfl) (Ln (e_K (hK21 _ _ _ _ (Cq fun K22 hK22 => ?_)))))
    refine c_if rfl (fun h57 => ?_) (fun h57 => ?_)
    ·have hlt : k < 32 := by omega
     refine cK (e_K (hK22 _ _ _ _ (Cq fun K23 hK23 => cB (Cq fun K24 hK24 => Cr (tW 2 rfl (Ln (e_K (hK24 _ _ _ _ (Cr (tW 3 rfl (Sv ((o_quoN rfl rfl (by omega)).to (v' := .int .i64 ((k / 4 : Nat) : Int)) (by rw [Int.natCast_ediv]; rfl)) (Sv (o_nilc rfl) (Sv (oA0 fd184_0 rfl) ?_)))))))))))))
     refine Sv (o_ixa ar181 rfl rfl (by omega)) (Sv (oL sc147 rfl (Bg3.c1 (s8_get' (by omega)))) (Zm rfl (Sv (o_remN rfl rfl (by omega)) (Sv (o_mulN rfl rfl (by omega)) (Sv (o_subE (r := ((8 * (3 - k % 4) : Nat) : Int)) rfl rfl (by rw [wrap64_in _ (by omega)]; omega)) (Sv (o_shr4 (m := 8 * (3 - k % 4)) rfl rfl (by omega)) (Sv (o_conv48 Tryz.underlying147 Tryz.underlying5 rfl) (Sv (o_ixa ar103 rfl rfl (by omega)) (s_st1 (i := k) sc5 Bg2 rfl rfl rfl (by rw [rowB_len (by rw [outB_len]; omega)]; exact hlt) fun wS P1 => ?_)))))))))
     replace E := E.own P1.mod Lg2_E
     replace Bg1 := Bg1.ne P1.mod Dg1_g2
     replace Bg3 := Bg3.ne P1.mod (Ne.symm Dg2_g3)
     replace Bg2 := P1.blk
     exact Ln (eI (by simp) (e_K (hK23 _ _ _ _ (Cr (Sv (o_addN rfl rfl (by omega)) (Zm rfl (Ln (eR (σ := Nat) (s := k) (k + 1) ⟨rfl, rfl, rfl, rfl, trivial⟩ ⟨by omega, Bg1, out_step hlt Bg2, Bg3, E⟩ (by omega)))))))))
    ·have hk32 : k = 32 := by omega
     subst hk32
     have Bf : Blk w16 g2 103 ((outB F 32).map B8) := by rw [← rowB_all (outB_len F 32)]; exact Bg2
     refine c_exit (eT (by simp) (eT (by simp) (e_hit (e_K (hK19 _ _ _ _ (Cq fun K25 hK25 => Cr (Sv (o_lda (vs := (outB F 32).map B8) ag103 rfl (by simp [outB_len]) (Bf.cs (o := 0) (by rw [List.drop_zero, List.take_length]))) (s_sta (vs := (outB F 32).map B8) ag103 Bg1 rfl rfl (by simp [outB_len]) (by intro v hv; obtain ⟨x, _, rfl⟩ := List.mem_map.1 hv; rfl) (by simp [outB_len]) fun wS P1 => ?_))))))))
     replace E := E.own P1.mod Lg1_E
     replace Bg1 := P1.blk
     rw [splice, List.take_zero, List.nil_append, List.drop_eq_nil_of_le (by simp [outB_len]), List.append_nil] at Bg1
     exact Ln (e_K (hK25 _ _ _ _ (cR (retc (vs := (outB F 32).map B8) rfl ag103 rfl (by simp [outB_len]) (Bg1.cs (o := 0) (by rw [List.drop_zero, List.take_length])) ⟨by rw [hF], E⟩))))
end Go.Proofs.YtknndpjacklkeaaGreatDoor.V

set_option linter.unusedVariables false
set_option linter.unusedSimpArgs false
set_option maxRecDepth 10000
namespace Go.Proofs.YtknndpjacklkeaaGreatDoor.V
open Go Go.Proofs
theorem ent130 : Ent Tryz.prog 130 := Ent.of Tryz.func130 (by kernel_rfl) (by kernel_rfl)
theorem ent131 : Ent Tryz.prog 131 := Ent.of Tryz.func131 (by kernel_rfl) (by kernel_rfl)
theorem ent132 : Ent Tryz.prog 132 := Ent.of Tryz.func132 (by kernel_rfl) (by kernel_rfl)
theorem c_dOf (A : List Nat) (w : World) (b : List UInt8) (v : Value) (R : Rep A w (byD b) v) (hT : Cs w ⟨gD, 0, none⟩ (numsK.map W4)) (hw0 : gD < w.heap.size) (hb : b.length ≤ 1000000) : Calls Tryz.prog 87 [v].toArray w (Ret fun u w' => u = .agg ((sha b).map B8).toArray ∧ Mod [] w w') := by
 refine enter Tryz.func87 rfl rfl rfl (l := [(0, _)]) ⟨rfl, trivial⟩ ?_
 have E := Mod.refl [] w
 refine Cq fun K1 hK1 => Cr (s_alloc zv103 rfl fun g1 w1 N1 => ?_)
 have Lg1_E := N1.le E
 replace E := E.then N1.mod
 have Bg1 := N1.blk
 refine Ln (e_K (hK1 _ _ _ _ (Cq fun K2 hK2 => ?_)))
 have Bg1_lt := Bg1.lt
 refine Cr ?_
 have hszA := E.size
 refine sc (oC ent130 rfl) (c_dNew _) rfl fun v_ w2 h_ => ?_
 obtain ⟨gh, rfl, Bgh, Lgh, E_⟩ := h_
 replace Bg1 := Bg1.mod0 E_
 replace E := E.then E_
 have hghw : w.heap.size ≤ gh := by omega
 have hgh0 : gh ≠ gD := by omega
 have Dg : g1 ≠ gh := fun e => by have := Bg1_lt; omega
 refine Za rfl (Ln (e_K (hK2 _ _ _ _ (Cq fun K3 hK3 => Cr (tW 2 rfl (sc (oC ent131 rfl) (c_dWrite [gh] _ s8of [] b 0 gh _ _ Bgh (Own.nil _ 5 1) (by simp [ob]) (by simp [ob]) (hT.mod0 E) hgh0 ((R.more (A' := [gh]) (fun x hx => .inr (by simp at hx; subst hx; exact hghw))).to0 E) (by simp [ob]) (by simp; omega) (by omega) Bgh.lt) rfl fun v_ w3 h_ => ?_))))))
 obtain ⟨k, wv, hk1, hk2, Bgh2, Ow, Dw, Hw, Ew⟩ := h_
 rw [List.nil_append] at hk1 hk2 Bgh2 Ow
 have hk : k = b.length / 64 := by omega
 replace Bg1 := Bg1.mod Ew (by simp [ob]; exact Dg)
 replace E := E.trans' Ew (fun x hx => .inr (by simp [ob] at hx; subst hx; exact hghw))
 refine Ln (e_K (hK3 _ _ _ _ (Cq fun K4 hK4 => Cr (Zm rfl (sc (oC ent132 rfl) (c_dSum _ (abs64 s8of b k) (b.drop (64 * k)) b.length gh wv (by have := Bgh2; rw [Int.zero_add] at this; exact this) (Ow.as (by rw [List.length_drop]) rfl) (hT.mod0 E) (Nat.lt_of_lt_of_le hw0 E.size) (by rw [List.length_drop]; omega) hb) rfl fun v_ w4 h_ => ?_)))))
 obtain ⟨rfl, E_⟩ := h_
 replace Bg1 := Bg1.mod0 E_
 replace E := E.then E_
 rw [hk, show outB (fin64 (abs64 s8of b (b.length / 64)) (b.drop (64 * (b.length / 64))) b.length) 32 = sha b from rfl]
 have hsl : (sha b).length = 32 := outB_len _ _
 refine s_sta (vs := (sha b).map B8) ag103 Bg1 rfl rfl (by rw [List.length_map, hsl]) (by intro v hv; obtain ⟨x, _, rfl⟩ := List.mem_map.1 hv; rfl) (by simp [hsl]) fun wS P1 => ?_
 replace E := E.own P1.mod Lg1_E
 replace Bg1 := P1.blk
 rw [splice, List.take_zero, List.nil_append, List.drop_eq_nil_of_le (by simp [hsl]), List.append_nil] at Bg1
 exact Ln (e_K (hK4 _ _ _ _ (cR (retc (vs := (sha b).map B8) rfl ag103 rfl (by rw [List.length_map, hsl]) (Bg1.cs (o := 0) (by rw [List.drop_zero, List.take_length])) ⟨rfl, E⟩))))
end Go.Proofs.YtknndpjacklkeaaGreatDoor.V

set_option linter.unusedVariables false
set_option linter.unusedSimpArgs false
set_option maxRecDepth 10000
namespace Go.Proofs.YtknndpjacklkeaaGreatDoor.V
open Go Go.Proofs

theorem c_padded (A : List Nat) (w : World) (b : List UInt8) (v : Value) (R : Rep A w (byD b) v) (hb : b.length ≤ 1000000) : Calls Tryz.prog 136 [v].toArray w (Ret fun u w' => Own w' 5 1 u (b ++ padL b.length b.length).length (((b ++ padL b.length b.length).map bcells).flatten) ∧ (∀ x ∈ ob u, w.heap.size ≤ x) ∧ Mod [] w w') := by
 refine enter Tryz.func136 rfl rfl rfl (l := [(0, _)]) ⟨rfl, trivial⟩ ?_
 have E := Mod.refl [] w
 obtain ⟨ad, c, rfl, hc1, hc2⟩ := flat_len R
 refine Cq fun K1 hK1 => Cr (Za rfl (Ln (e_K (hK1 _ _ _ _ (Cq fun K2 hK2 => Cr (s_bslice (cs := []) sl74 zv5 rfl rfl rfl (by decide) rfl fun g1 w1 N1 => ?_))))))
 have Lg1_E := N1.le E
 replace E := E.then N1.mod
 have Bg1 := N1.blk
 refine Zm rfl (s_append sl74 rfl rfl (Own.all (c := 0) (cs := []) Bg1 rfl (by omega)) (Src.flat Tryz.underlying74 (R.to0 E)) (by decide) (by omega) (by omega) rfl fun v1 w2 A1 => ?_)
 have L1 : ∀ x ∈ ob v1, w.heap.size ≤ x := fun x hx => (A1.ob_ x hx).elim (fun h => by simp [ob] at h; subst h; exact Lg1_E) (fun h => Nat.le_trans (Nat.le_trans Lg1_E (Nat.le_of_lt Bg1.lt)) h)
 replace E := E.trans' A1.mod (fun x hx => .inr (by simp [ob] at hx; subst hx; exact Lg1_E))
 have O3 := A1.own.as (Nat.zero_add _) (List.nil_append _)
 refine s_bslice (cs := [_]) sl74 zv5 rfl rfl rfl (by decide) rfl fun g2 w3 N2 => ?_
 have Lg2_E := N2.le E
 have Do3_g2 := N2.own_ne O3
 replace E := E.then N2.mod
 replace O3 := O3.mod0 N2.mod
 have Bg2 := N2.blk
 refine s_append sl74 rfl rfl O3 (Src.own Tryz.underlying74 (Own.all (cs := [_]) Bg2 rfl (by omega)) (by simp [B8, Value.oneCell'])) (by decide) (by omega) (by omega) rfl fun v1 w4 A1 => ?_
 have Dv1_g2 := A1.ne Do3_g2 Bg2
 have Lv1_E := A1.ge L1 E
 replace Bg2 := Bg2.mod A1.mod (fun hx => Do3_g2 _ hx rfl)
 replace E := E.trans' A1.mod (fun x hx => .inr (L1 x hx))
 replace O3 := A1.own
 refine Za rfl (Ln (e_K (hK2 _ _ _ _ (Cq fun K3 hK3 => cB (c_loop (σ := Nat × Value) (fun ⟨j, v⟩ => [(0, .slice ad b.length c), (3, v)]) (fun ⟨j, v⟩ w1 => j ≤ padz b.length ∧ Own w1 5 1 v (b.length + 1 + j) (((b ++ 128 :: List.replicate j 0).map bcells).flatten) ∧ (∀ x ∈ ob v, w.heap.size ≤ x) ∧ Mod [] w w1) (fun ⟨j, v⟩ => 100 - j) (⟨0, v1⟩) ⟨rfl, rfl, trivial⟩ (⟨by omega, byt_snoc 128 O3 (by simp) (by omega), Lv1_E, E⟩) ?_)))))
 rintro ⟨j, v⟩ w5 ⟨hj, O3, L3, E⟩
 obtain ⟨adt, ct, rfl, ht1, ht2⟩ := O3.form
 have hpz2 : padz b.length < 64 := Nat.mod_lt (119 - b.length % 64) (show 64 > 0 by decide)
 refine Cq fun K4 hK4 => Cq fun K5 hK5 => Cr (Zm rfl (Sv (o_len Tryz.underlying74 rfl) (Sv (o_remN rfl rfl (by omega)) (Sv (o_neq rfl rfl) (Ln (e_K (hK5 _ _ _ _ ?_)))))))
 refine c_if rfl (fun h15 => ?_) (fun h15 => ?_)
 ·have hjn : j + 1 ≤ padz b.length := by
   rcases Nat.lt_or_eq_of_le hj with h | h
   ·exact h
   ·exact absurd ((padz_at hj).2 h) (by omega)
  refine cK (e_K (hK4 _ _ _ _ (cB (Cr (Zm rfl (s_bslice (cs := [_]) sl74 zv5 rfl rfl rfl (by decide) rfl fun g3 w6 N3 => ?_))))))
  have Lg3_E := N3.le E
  have Do3_g3 := N3.own_ne O3
  replace E := E.then N3.mod
  replace O3 := O3.mod0 N3.mod
  have Bg3 := N3.blk
  refine s_append sl74 rfl rfl O3 (Src.own Tryz.underlying74 (Own.all (cs := [_]) Bg3 rfl (by omega)) (by simp [B8, Value.oneCell'])) (by decide) (by omega) (by omega) rfl fun v2 w7 A2 => ?_
  have Dv2_g3 := A2.ne Do3_g3 Bg3
  have Lv2_E := A2.ge L3 E
  replace Bg3 := Bg3.mod A2.mod (fun hx => Do3_g3 _ hx rfl)
  replace E := E.trans' A2.mod (fun x hx => .inr (L3 x hx))
  replace O3 := A2.own
  exact Za rfl (Ln (eI (by simp) (eR (σ := Nat × Value) (s := ⟨j, .slice adt (b.length + 1 + j) ct⟩) (⟨j + 1, v2⟩) ⟨rfl, rfl, trivial⟩ ⟨hjn, byt_snoc 0 O3 (by simp [List.replicate_succ']) (by omega), Lv2_E, E⟩ (by dsimp only; omega))))
 ·have hjp : j = padz b.length := (padz_at hj).1 (by omega)
  subst hjp
  refine c_exit (eT (by simp) (eT (by simp) (e_hit (e_K (hK3 _ _ _ _ (Cq fun K6 hK6 => Cr (Zm rfl (Sv (o_len Tryz.underlying74 rfl) (Za rfl (Ln (e_K (hK6 _ _ _ _ (Cq fun K7 hK7 => Cr ?_)))))))))))))
  refine Za rfl (Ln (e_K (hK7 _ _ _ _ (Cq fun K8 hK8 => Cq fun K9 hK9 => Cr (Za rfl (Ln (e_K (hK9 _ _ _ _ (cB (c_loop (σ := Nat × Value) (fun ⟨k, v⟩ => [(3, .slice adt (b.length + 1 + padz b.length) ct), (4, .int .i64 ((restN b.length k : Nat) : Int)), (5, v), (6, .int .i64 (k : Int))]) (fun ⟨k, v⟩ w1 => k ≤ 8 ∧ Own w1 5 1 (.slice adt (b.length + 1 + padz b.length) ct) (b.length + 1 + padz b.length) (((b ++ 128 :: List.replicate (padz b.length) 0).map bcells).flatten) ∧ Own w1 5 1 v k (((lensR b.length k).map bcells).flatten) ∧ (∀ x ∈ ob v, w.heap.size ≤ x) ∧ Mod [] w w1) (fun ⟨k, v⟩ => 8 - k) (⟨0, .slice none 0 0⟩) ⟨rfl, rfl, rfl, rfl, trivial⟩ (⟨by omega, O3, Own.nil _ 5 1, by simp [ob], E⟩) ?_))))))))))
  rintro ⟨k, v⟩ w8 ⟨hk, O3, O5, L5, E⟩
  refine Cq fun K10 hK10 => Cq fun K11 hK11 => Cr (tW 2 rfl (Ln (e_K (hK11 _ _ _ _ ?_))))
  refine c_if rfl (fun h22 => ?_) (fun h22 => ?_)
  ·have hlt : k < 8 := by omega
   have hrs := restN_le b.length k
   have hll := lensR_len b.length k
   refine cK (e_K (hK10 _ _ _ _ (Cq fun K12 hK12 => cB (Cq fun K13 hK13 => Cr (tW 2 rfl (Ln (e_K (hK13 _ _ _ _ ?_))))))))
   refine c_if rfl (fun h26 => ?_) (fun h26 => ?_)
   ·have hk0 : k = 0 := by omega
    have hr0 : restN b.length k = b.length := by rw [hk0]; rfl
    refine Cq fun K14 hK14 => Cr (Zm rfl (Sv ((o_remN rfl rfl (by omega)).to (v' := .int .i64 ((b.length % 32 : Nat) : Int)) (by rw [hr0, Int.natCast_emod]; rfl)) (Sv (o_mulE (r := ((b.length % 32 * 8 : Nat) : Int)) rfl rfl (by rw [wrap64_in _ (by omega)]; omega)) (Sv (o_convE (r := ((lenb b.length k).toNat : Int)) Tryz.underlying3 Tryz.underlying5 rfl (by rw [hk0]; exact conv_first b.length)) (s_bslice (cs := [_]) sl74 zv5 rfl rfl rfl (by decide) rfl fun g4 w9 N4 => ?_)))))
    have Lg4_E := N4.le E
    have Do3_g4 := N4.own_ne O3
    have Do5_g4 := N4.own_ne O5
    replace E := E.then N4.mod
    replace O3 := O3.mod0 N4.mod
    replace O5 := O5.mod0 N4.mod
    have Bg4 := N4.blk
    refine Zm rfl (s_append sl74 rfl rfl (Own.all (c := 1) (cs := [_]) Bg4 rfl (by omega)) (Src.own Tryz.underlying74 O5 flat_b1) (by decide) (by omega) (by omega) rfl fun vN w10 AN => ?_)
    have LN : ∀ x ∈ ob vN, w.heap.size ≤ x := fun x hx => (AN.ob_ x hx).elim (fun h => by simp [ob] at h; subst h; exact Lg4_E) (fun h => Nat.le_trans (Nat.le_trans Lg4_E (Nat.le_of_lt Bg4.lt)) h)
    replace O3 := O3.put AN.mod Do3_g4
    replace E := E.trans' AN.mod (fun x hx => .inr (by simp [ob] at hx; subst hx; exact Lg4_E))
    clear O5
    have O5 := AN.own.as (m := k + 1) (us := ((lensR b.length (k + 1)).map bcells).flatten) (by omega) (by rfl)
    refine Za rfl (Ln (e_K (hK14 _ _ _ _ (Cr (Zm rfl (Sv ((o_quoN rfl rfl (by omega)).to (v' := .int .i64 ((restN b.length (k + 1) : Nat) : Int)) (by rw [hr0, hk0, ← restN_first, Int.natCast_ediv]; rfl)) (Za rfl (Ln (eI (by simp) (e_K (hK12 _ _ _ _ (Cr (Zm rfl (Sv (o_addN rfl rfl (by omega)) (Za rfl ?_)))))))))))))))
    exact Ln (eR (σ := Nat × Value) (s := ⟨k, v⟩) (⟨k + 1, vN⟩) ⟨rfl, rfl, rfl, rfl, trivial⟩ ⟨by omega, O3, O5, LN, E⟩ (by dsimp only; omega))
   ·have hk0 : k ≠ 0 := by omega
    refine Cq fun K15 hK15 => Cr (Zm rfl (Sv ((o_remN rfl rfl (by omega)).to (v' := .int .i64 ((restN b.length k % 256 : Nat) : Int)) (by rw [Int.natCast_emod]; rfl)) (Sv (o_convE (r := ((lenb b.length k).toNat : Int)) Tryz.underlying3 Tryz.underlying5 rfl (conv_next b.length k hk0)) (s_bslice (cs := [_]) sl74 zv5 rfl rfl rfl (by decide) rfl fun g5 w11 N5 => ?_))))
    have Lg5_E := N5.le E
    have Do3_g5 := N5.own_ne O3
    have Do5_g5 := N5.own_ne O5
    replace E := E.then N5.mod
    replace O3 := O3.mod0 N5.mod
    replace O5 := O5.mod0 N5.mod
    have Bg5 := N5.blk
    refine Zm rfl (s_append sl74 rfl rfl (Own.all (c := 1) (cs := [_]) Bg5 rfl (by omega)) (Src.own Tryz.underlying74 O5 flat_b1) (by decide) (by omega) (by omega) rfl fun vN w12 AN => ?_)
    have LN : ∀ x ∈ ob vN, w.heap.size ≤ x := fun x hx => (AN.ob_ x hx).elim (fun h => by simp [ob] at h; subst h; exact Lg5_E) (fun h => Nat.le_trans (Nat.le_trans Lg5_E (Nat.le_of_lt Bg5.lt)) h)
    replace O3 := O3.put AN.mod Do3_g5
    replace E := E.trans' AN.mod (fun x hx => .inr (by simp [ob] at hx; subst hx; exact Lg5_E))
    clear O5
    have O5 := AN.own.as (m := k + 1) (us := ((lensR b.length (k + 1)).map bcells).flatten) (by omega) (by rfl)
    refine Za rfl (Ln (e_K (hK15 _ _ _ _ (Cr (Zm rfl (Sv ((o_quoN rfl rfl (by omega)).to (v' := .int .i64 ((restN b.length (k + 1) : Nat) : Int)) (by rw [← restN_succ b.length k hk0, Int.natCast_ediv]; rfl)) (Za rfl (Ln (eI (by simp) (e_K (hK12 _ _ _ _ (Cr (Zm rfl (Sv (o_addN rfl rfl (by omega)) (Za rfl ?_)))))))))))))))
    exact Ln (eR (σ := Nat × Value) (s := ⟨k, v⟩) (⟨k + 1, vN⟩) ⟨rfl, rfl, rfl, rfl, trivial⟩ ⟨by omega, O3, O5, LN, E⟩ (by dsimp only; omega))
  ·have hk8 : k = 8 := by omega
   subst hk8
   rw [lensR_all] at O5
   refine c_exit (eT (by simp) (eT (by simp) (e_hit (e_K (hK8 _ _ _ _ (Cq fun K16 hK16 => Cr (tW 2 rfl (s_append sl74 rfl rfl O3 (Src.own Tryz.underlying74 O5 flat_b1) (by decide) (by omega) (by omega) rfl fun v3 w13 A3 => ?_))))))))
   have Lv3_E := A3.ge L3 E
   replace E := E.trans' A3.mod (fun x hx => .inr (L3 x hx))
   replace O3 := A3.own
   exact Za rfl (Ln (e_K (hK16 _ _ _ _ (cR (ret1 rfl rfl ⟨O3.as (by simp [padL, lens]; omega) (by simp [padL]), Lv3_E, E⟩)))))
end Go.Proofs.YtknndpjacklkeaaGreatDoor.V

set_option linter.unusedVariables false
set_option linter.unusedSimpArgs false
set_option maxRecDepth 10000
namespace Go.Proofs.YtknndpjacklkeaaGreatDoor.V
open Go Go.Proofs
theorem ent136 : Ent Tryz.prog 136 := Ent.of Tryz.func136 (by kernel_rfl) (by kernel_rfl)
theorem ent137 : Ent Tryz.prog 137 := Ent.of Tryz.func137 (by kernel_rfl) (by kernel_rfl)
theorem ent138 : Ent Tryz.prog 138 := Ent.of Tryz.func138 (by kernel_rfl) (by kernel_rfl)
theorem c_ofR (A : List Nat) (w : World) (b : List UInt8) (v : Value) (R : Rep A w (byD b) v) (hb : b.length ≤ 1000000) : Calls Tryz.prog 91 [v].toArray w (Ret fun u w' => u = S (sha b) ∧ Mod [] w w') := by
 refine enter Tryz.func91 rfl rfl rfl (l := [(0, _)]) ⟨rfl, trivial⟩ ?_
 have E := Mod.refl [] w
 have hTT : (b ++ padL b.length b.length).length = b.length + (padL b.length b.length).length := List.length_append
 have hmod := padL_len b.length b.length
 rw [← hTT] at hmod
 have hTl : (b ++ padL b.length b.length).length ≤ 1000200 := by rw [hTT]; have h1 : padz b.length < 64 := Nat.mod_lt (119 - b.length % 64) (show 64 > 0 by decide); simp [padL, lens]; omega
 refine Cq fun K1 hK1 => Cr (Za rfl (Ln (e_K (hK1 _ _ _ _ (Cq fun K2 hK2 => Cr (s_bslice (cs := [_, _, _, _, _, _, _, _]) sl148 zv147 rfl rfl rfl (by decide) rfl fun g1 w1 N1 => ?_))))))
 have Lg1_E := N1.le E
 replace E := E.then N1.mod
 have Bg1 := N1.blk
 refine Za rfl (Ln (e_K (hK2 _ _ _ _ (Cq fun K3 hK3 => ?_))))
 have Os0 : Own _ 147 1 (.slice (some ⟨g1, 0, none⟩) 8 8) 8 s8of.cells := Own.all (cs := [_, _, _, _, _, _, _, _]) Bg1 rfl (by omega)
 refine Cr (Zm rfl (sc (oC ent136 rfl) (c_padded A _ b _ (R.to0 E) hb) rfl fun v_ w2 h_ => ?_))
 obtain ⟨Oa, La, E_⟩ := h_
 replace Bg1 := Bg1.mod0 E_
 replace E := E.then E_
 replace Os0 := Os0.mod0 E_
 have Lq := trivial
 obtain ⟨ada, ca, rfl, ha1, ha2⟩ := Oa.form
 refine Za rfl (Ln (e_K (hK3 _ _ _ _ (Cq fun K4 hK4 => Cr (sc (oC ent137 rfl) (c_nums _) rfl fun v_ w3 h_ => ?_)))))
 obtain ⟨Ok, Lk, E_⟩ := h_
 replace E := E.then E_
 replace Os0 := Os0.mod0 E_
 replace Oa := Oa.mod0 E_
 obtain ⟨adk, ck, rfl, hk1, hk2⟩ := Ok.form
 refine Za rfl (Ln (e_K (hK4 _ _ _ _ (Cq fun K5 hK5 => Cq fun K6 hK6 => Cr (Za rfl (Ln (e_K (hK6 _ _ _ _ (cB (c_loop (σ := Nat × Value) (fun ⟨i, v⟩ => [(3, v), (4, .slice ada (b ++ padL b.length b.length).length ca), (5, .slice adk 64 ck), (6, .int .i64 ((64 * i : Nat) : Int))]) (fun ⟨i, v⟩ w1 => 64 * i ≤ (b ++ padL b.length b.length).length ∧ Own w1 147 1 v 8 (abs64 s8of (b ++ padL b.length b.length) i).cells ∧ Own w1 5 1 (.slice ada (b ++ padL b.length b.length).length ca) (b ++ padL b.length b.length).length (((b ++ padL b.length b.length).map bcells).flatten) ∧ Own w1 147 1 (.slice adk 64 ck) 64 ((numsK.map wcells).flatten) ∧ Mod [] w w1) (fun ⟨i, v⟩ => (b ++ padL b.length b.length).length - 64 * i) (⟨0, .slice (some ⟨g1, 0, none⟩) 8 8⟩) ⟨rfl, rfl, rfl, rfl, trivial⟩ (⟨by omega, Os0, Oa, Ok, E⟩) ?_))))))))))
 rintro ⟨i, v⟩ w4 ⟨hi, Os, Oa, Ok, E⟩
 refine Cq fun K7 hK7 => Cq fun K8 hK8 => Cr (tW 2 rfl (Sv (o_len Tryz.underlying74 rfl) (Sv (o_lss rfl rfl) (Ln (e_K (hK8 _ _ _ _ ?_))))))
 refine c_if rfl (fun h18 => ?_) (fun h18 => ?_)
 ·have hlt : 64 * i + 64 ≤ (b ++ padL b.length b.length).length := by omega
  refine cK (e_K (hK7 _ _ _ _ (Cq fun K9 hK9 => cB (Cr (tW 4 rfl (Sv (o_addE (r := ((64 * i + 64 : Nat) : Int)) rfl rfl (by rw [wrap64_in _ (by omega)]; omega)) (Sv (o_slft (lo := 64 * i) (hi := 64 * i + 64) sl74 rfl rfl rfl (by omega) (by omega)) (Zm rfl (sc (oC ent138 rfl) (c_next [] _ (abs64 s8of (b ++ padL b.length b.length) i) (((b ++ padL b.length b.length).drop (64 * i)).take 64) _ _ _ (Own.words (xs := (abs64 s8of (b ++ padL b.length b.length) i).list) Os rfl) (Own.block Oa (by omega)) (Own.words (xs := numsK) Ok rfl) (by rw [List.length_take, List.length_drop]; omega)) rfl fun v_ w5 h_ => ?_)))))))))
  obtain ⟨Os2, Ls2, E_⟩ := h_
  replace E := E.then E_
  replace Os := Os.mod0 E_
  replace Oa := Oa.mod0 E_
  replace Ok := Ok.mod0 E_
  clear Os
  rw [comp_take] at Os2
  have Os := Os2
  exact Za rfl (Ln (eI (by simp) (e_K (hK9 _ _ _ _ (Cr (Zm rfl (Sv (o_addE (r := ((64 * (i + 1) : Nat) : Int)) rfl rfl (by rw [wrap64_in _ (by omega)]; omega)) (Za rfl (Ln (eR (σ := Nat × Value) (s := ⟨i, v⟩) (⟨i + 1, v_⟩) ⟨rfl, rfl, rfl, rfl, trivial⟩ ⟨by omega, Os, Oa, Ok, E⟩ (by dsimp only; omega)))))))))))
 ·have hii : i = (b ++ padL b.length b.length).length / 64 := by omega
  obtain ⟨F, hF⟩ : ∃ F, F = abs64 s8of (b ++ padL b.length b.length) ((b ++ padL b.length b.length).length / 64) := ⟨_, rfl⟩
  rw [hii, ← hF] at Os
  obtain ⟨ads0, cs_, rfl, hs1, hs2⟩ := Os.form
  have R0 := Own.words (xs := F.list) Os rfl
  obtain ⟨ads, ha0, _, _⟩ := flat_at (i := 0) R0 rfl
  subst ha0
  have hos : ∀ x ∈ ob (.slice (some ads) 8 cs_), x < w4.heap.size := Os.lt
  obtain ⟨w0, hw0⟩ : ∃ w0, w0 = w4 := ⟨_, rfl⟩
  rw [← hw0] at hos
  refine c_exit (eT (by simp) (eT (by simp) (e_hit (e_K (hK5 _ _ _ _ (Cq fun K10 hK10 => Cr (Za rfl (Ln (e_K (hK10 _ _ _ _ (Cq fun K11 hK11 => Cq fun K12 hK12 => Cr (Zm rfl ?_))))))))))))
  refine Sv (o_len Tryz.underlying148 rfl) (Zm rfl (Ln (e_K (hK12 _ _ _ _ (cB (c_loop (σ := Nat × Value) (fun ⟨i, v⟩ => [(7, v), (29, .slice (some ads) 8 cs_), (30, .int .i64 8), (31, .int .i64 (i : Int))]) (fun ⟨i, v⟩ w1 => i ≤ 8 ∧ Own w1 147 1 (.slice (some ads) 8 cs_) 8 F.cells ∧ Own w1 5 1 v (4 * i) (((outB F (4 * i)).map bcells).flatten) ∧ (∀ x ∈ ob v, w.heap.size ≤ x) ∧ (∀ x ∈ ob v, w0.heap.size ≤ x) ∧ Mod [] w0 w1 ∧ Mod [] w w1) (fun ⟨i, v⟩ => 8 - i) (⟨0, .slice none 0 0⟩) ⟨rfl, rfl, rfl, rfl, trivial⟩ (⟨by omega, Os, Own.nil _ 5 1, by simp [ob], by simp [ob], by rw [hw0]; exact Mod.refl [] _, E⟩) ?_))))))
  rintro ⟨i, v⟩ w6 ⟨hi, Os, Oo, Lo, D0, E0, E⟩
  refine Cq fun K13 hK13 => Cr (Sv (o_lss rfl rfl) (Ln (e_K (hK13 _ _ _ _ (Cq fun K14 hK14 => ?_)))))
  refine c_if rfl (fun h32 => ?_) (fun h32 => ?_)
  ·have hlt : i < 8 := by omega
   have RO := Own.words (xs := F.list) Os rfl
   obtain ⟨a_x, ha_x, hcs_x, _⟩ := flat_at (cells := wcells) (i := i) RO (at32_get hlt)
   injection ha_x with ha_x
   subst ha_x
   refine cK (e_K (hK14 _ _ _ _ (Cq fun K15 hK15 => cB (Cq fun K16 hK16 => Cr (Sv (o_ix sl148 rfl rfl (by omega)) (Sv (oL sc147 rfl hcs_x.first) (Za rfl (Ln (e_K (hK16 _ _ _ _ (Cq fun K17 hK17 => Cr (Za rfl ?_))))))))))))
   refine Ln (e_K (hK17 _ _ _ _ (cB (c_loop (σ := Nat × Value) (fun ⟨m, v⟩ => [(7, v), (9, W4 (at32 F.list i)), (10, .int .i64 (3 - (m : Int))), (29, .slice (some ads) 8 cs_), (30, .int .i64 8), (31, .int .i64 (i : Int))]) (fun ⟨m, v⟩ w1 => m ≤ 4 ∧ Own w1 147 1 (.slice (some ads) 8 cs_) 8 F.cells ∧ Own w1 5 1 v (4 * i + m) (((outB F (4 * i + m)).map bcells).flatten) ∧ (∀ x ∈ ob v, w.heap.size ≤ x) ∧ (∀ x ∈ ob v, w0.heap.size ≤ x) ∧ Mod [] w0 w1 ∧ Mod [] w w1) (fun ⟨m, v⟩ => 4 - m) (⟨0, v⟩) ⟨rfl, rfl, rfl, rfl, rfl, rfl, trivial⟩ (⟨by omega, Os, Oo, Lo, D0, E0, E⟩) ?_))))
   rintro ⟨m, v⟩ w7 ⟨hm, Os, Oo, Lo, D0, E0, E⟩
   refine Cq fun K18 hK18 => Cq fun K19 hK19 => Cr (Zm rfl (Sv (o_geq rfl rfl) (Ln (e_K (hK19 _ _ _ _ ?_)))))
   refine c_if rfl (fun h36 => ?_) (fun h36 => ?_)
   ·have hltm : m < 4 := by omega
    refine cK (e_K (hK18 _ _ _ _ (Cq fun K20 hK20 => cB (Cr (tW 3 rfl (Sv (o_mulE (r := ((8 * (3 - m) : Nat) : Int)) rfl rfl (by rw [wrap64_in _ (by omega)]; omega)) (Sv (o_convE (r := ((8 * (3 - m) : Nat) : Int)) Tryz.underlying3 Tryz.underlying144 rfl (wrapu64_in _ (by omega))) (Sv (o_shr4 (m := 8 * (3 - m)) rfl rfl (by omega)) (Sv (o_conv48 Tryz.underlying147 Tryz.underlying5 rfl) (s_bslice (cs := [_]) sl74 zv5 rfl rfl rfl (by decide) rfl fun g2 w8 N2 => ?_))))))))))
    have Lg2_E := N2.le E
    have Lg2_E0 := N2.le E0
    have Dos_g2 := N2.own_ne Os
    have Doo_g2 := N2.own_ne Oo
    replace E := E.then N2.mod
    replace E0 := E0.then N2.mod
    replace Os := Os.mod0 N2.mod
    replace Oo := Oo.mod0 N2.mod
    have Bg2 := N2.blk
    refine s_append sl74 rfl rfl Oo (Src.own Tryz.underlying74 (Own.all (cs := [_]) Bg2 rfl (by omega)) (by simp [B8, Value.oneCell'])) (by decide) (by omega) (by omega) rfl fun vN w9 AN => ?_
    have LN := AN.ge Lo E
    have DN : ∀ x ∈ ob vN, w0.heap.size ≤ x := fun x hx => (AN.ob_ x hx).elim (fun h => D0 x h) (fun h => by have := E0.size; omega)
    replace Os := Os.mod AN.mod (fun x hx hx2 => by have := D0 x hx2; have := hos x hx; omega)
    replace E := E.trans' AN.mod (fun x hx => .inr (Lo x hx))
    replace E0 := E0.trans' AN.mod (fun x hx => .inr (D0 x hx))
    clear Oo
    have Oo := byt_snoc (n' := 4 * i + (m + 1)) (l' := outB F (4 * i + (m + 1))) (wb (at32 F.list i) (3 - m)) AN.own (by rw [show 4 * i + (m + 1) = (4 * i + m) + 1 from rfl, outB_succ, show (4 * i + m) / 4 = i by omega, show (4 * i + m) % 4 = m by omega]) (by omega)
    exact Za rfl (Ln (eI (by simp) (e_K (hK20 _ _ _ _ (Cr (Zm rfl (Sv (o_subE (r := 3 - ((m + 1 : Nat) : Int)) rfl rfl (by rw [wrap64_in _ (by omega)]; omega)) (Za rfl (Ln (eR (σ := Nat × Value) (s := ⟨m, v⟩) (⟨m + 1, vN⟩) ⟨rfl, rfl, rfl, rfl, rfl, rfl, trivial⟩ ⟨by omega, Os, Oo, LN, DN, E0, E⟩ (by dsimp only; omega)))))))))))
   ·have hm4 : m = 4 := by omega
    subst hm4
    exact c_exit (eT (by simp) (eT (by simp) (e_hit (eI (by simp) (e_K (hK15 _ _ _ _ (Cr (Sv (o_addN rfl rfl (by omega)) (Zm rfl (Ln (eR (σ := Nat × Value) (s := ⟨i, v⟩) (⟨i + 1, v⟩) ⟨rfl, rfl, rfl, rfl, trivial⟩ ⟨by omega, Os, Oo, Lo, D0, E0, E⟩ (by dsimp only; omega))))))))))))
  ·have hi8 : i = 8 := by omega
   subst hi8
   exact c_exit (eT (by simp) (eT (by simp) (e_hit (e_K (hK11 _ _ _ _ (Cq fun K21 hK21 => Cr (Zm rfl (Sv (o_b2s_own (u := outB F 32) Tryz.underlying74 Tryz.underlying5 Tryz.underlying9 rfl (Oo.as (outB_len F 32).symm (flat_B8 _))) (Za rfl (Ln (e_K (hK21 _ _ _ _ (cR (ret1 rfl rfl ⟨by rw [hF, sha_eq], E⟩))))))))))))))
end Go.Proofs.YtknndpjacklkeaaGreatDoor.V

set_option linter.unusedVariables false
set_option linter.unusedSimpArgs false
namespace Go.Proofs.YtknndpjacklkeaaGreatDoor.V
open Go
def numG (b : List UInt8) : Nat := b.foldl (fun n c => n * 256 + c.toNat) 0
theorem numG_snoc (b : List UInt8) (c : UInt8) : numG (b ++ [c]) = numG b * 256 + c.toNat := by simp [numG, List.foldl_append]
theorem numG_succ {b : List UInt8} {k : Nat} {c : UInt8} (h : b[k]? = some c) : numG (b.take (k + 1)) = numG (b.take k) * 256 + c.toNat := by
 rw [List.take_add_one, h]
 exact numG_snoc _ _
def bitL (b : List UInt8) (i : Nat) : Nat := if i / 8 < b.length then (b[i / 8]?.getD 0).toNat / 2 ^ (7 - i % 8) % 2 else 0
theorem div_pow_add (a m r : Nat) : a / 2 ^ (m + r) = a / 2 ^ m / 2 ^ r := by rw [Nat.pow_add, Nat.div_div_eq_div_mul]
theorem bitL_num (b : List UInt8) : ∀ k, k ≤ b.length → ∀ p, p < 8 * k → bitL b p = numG (b.take k) / 2 ^ (8 * k - 1 - p) % 2
 | 0, _, p, hp => by omega
 | k + 1, hk, p, hp => by
  have hc : b[k]? = some b[k] := List.getElem?_eq_getElem (by omega)
  rw [numG_succ hc]
  have hlt : (b[k]).toNat < 256 := UInt8.toNat_lt _
  by_cases h : p < 8 * k
  ·rw [bitL_num b k (by omega) p h, show 8 * (k + 1) - 1 - p = 8 + (8 * k - 1 - p) by omega, div_pow_add _ 8]
   congr 2
   omega
  ·obtain ⟨r, rfl⟩ : ∃ r, p = 8 * k + r := ⟨p - 8 * k, by omega⟩
   have h1 : (8 * k + r) / 8 = k := by omega
   have h2 : (8 * k + r) % 8 = r := by omega
   unfold bitL
   rw [h1, h2, if_pos (by omega), hc, Option.getD_some, show 8 * (k + 1) - 1 - (8 * k + r) = 7 - r by omega]
   have hr : r < 8 := by omega
   have h7 : r = 0 ∨ r = 1 ∨ r = 2 ∨ r = 3 ∨ r = 4 ∨ r = 5 ∨ r = 6 ∨ r = 7 := by omega
   rcases h7 with rfl | rfl | rfl | rfl | rfl | rfl | rfl | rfl <;> simp only [Nat.sub_zero, Nat.reduceSub, Nat.reducePow] <;> omega
def sixL (b : List UInt8) (i : Nat) : Nat := 2 * (2 * (2 * (2 * (2 * (2 * 0 + bitL b i) + bitL b (i + 1)) + bitL b (i + 2)) + bitL b (i + 3)) + bitL b (i + 4)) + bitL b (i + 5)
theorem bitL_two (b : List UInt8) (i : Nat) : bitL b i < 2 := by unfold bitL; split <;> omega
theorem sixL_lt (b : List UInt8) (i : Nat) : sixL b i < 64 := by
 have h0 := bitL_two b i; have h1 := bitL_two b (i + 1); have h2 := bitL_two b (i + 2); have h3 := bitL_two b (i + 3); have h4 := bitL_two b (i + 4); have h5 := bitL_two b (i + 5)
 unfold sixL; omega
theorem sixL_num (b : List UInt8) {k i : Nat} (hk : k ≤ b.length) (hi : i + 6 ≤ 8 * k) : sixL b i = numG (b.take k) / 2 ^ (8 * k - 6 - i) % 64 := by
 have B := bitL_num b k hk
 unfold sixL
 rw [B i (by omega), B (i + 1) (by omega), B (i + 2) (by omega), B (i + 3) (by omega), B (i + 4) (by omega), B (i + 5) (by omega)]
 generalize numG (b.take k) = N
 obtain ⟨m, hm⟩ : ∃ m, m = 8 * k - 6 - i := ⟨_, rfl⟩
 rw [show 8 * k - 1 - i = m + 5 by omega, show 8 * k - 1 - (i + 1) = m + 4 by omega, show 8 * k - 1 - (i + 2) = m + 3 by omega, show 8 * k - 1 - (i + 3) = m + 2 by omega, show 8 * k - 1 - (i + 4) = m + 1 by omega, show 8 * k - 1 - (i + 5) = m by omega, ← hm]
 rw [div_pow_add, div_pow_add N m 4, div_pow_add N m 3, div_pow_add N m 2, div_pow_add N m 1]
 generalize N / 2 ^ m = X
 simp only [Nat.reducePow, Nat.pow_one]
 omega
theorem bitL_off (b : List UInt8) {i : Nat} (h : 8 * b.length ≤ i) : bitL b i = 0 := by
 unfold bitL
 rw [if_neg (by omega)]
theorem sixL_end2 (b : List UInt8) {i : Nat} (h : i + 2 = 8 * b.length) : sixL b i = numG b * 16 % 64 := by
 have B := bitL_num b b.length (Nat.le_refl _)
 unfold sixL
 rw [bitL_off b (i := i + 2) (by omega), bitL_off b (i := i + 3) (by omega), bitL_off b (i := i + 4) (by omega), bitL_off b (i := i + 5) (by omega), B i (by omega), B (i + 1) (by omega), List.take_length, show 8 * b.length - 1 - i = 1 by omega, show 8 * b.length - 1 - (i + 1) = 0 by omega]
 simp only [Nat.reducePow, Nat.pow_one, Nat.pow_zero, Nat.div_one]
 omega
theorem sixL_end4 (b : List UInt8) {i : Nat} (h : i + 4 = 8 * b.length) : sixL b i = numG b * 4 % 64 := by
 have B := bitL_num b b.length (Nat.le_refl _)
 unfold sixL
 rw [bitL_off b (i := i + 4) (by omega), bitL_off b (i := i + 5) (by omega), B i (by omega), B (i + 1) (by omega), B (i + 2) (by omega), B (i + 3) (by omega), List.take_length, show 8 * b.length - 1 - i = 3 by omega, show 8 * b.length - 1 - (i + 1) = 2 by omega, show 8 * b.length - 1 - (i + 2) = 1 by omega, show 8 * b.length - 1 - (i + 3) = 0 by omega]
 simp only [Nat.reducePow, Nat.pow_one, Nat.pow_zero, Nat.div_one]
 omega
def letL (n : Nat) (url : Bool) : UInt8 := if n < 26 then 65 + UInt8.ofNat n else if n < 52 then 97 + UInt8.ofNat (n - 26) else if n < 62 then 48 + UInt8.ofNat (n - 52) else if n = 62 then (if url then 45 else 43) else (if url then 95 else 47)
def ltrL (b : List UInt8) (url : Bool) : List UInt8 := (List.range ((8 * b.length + 5) / 6)).map fun i => letL (sixL b (6 * i)) url
theorem ltrL_len (b : List UInt8) (url : Bool) : (ltrL b url).length = (8 * b.length + 5) / 6 := by simp [ltrL]
def ltrT (b : List UInt8) (url : Bool) (i : Nat) : List UInt8 := (List.range i).map fun i => letL (sixL b (6 * i)) url
theorem ltrT_succ (b : List UInt8) (url : Bool) (i : Nat) : ltrT b url (i + 1) = ltrT b url i ++ [letL (sixL b (6 * i)) url] := by simp [ltrT, List.range_succ]
end Go.Proofs.YtknndpjacklkeaaGreatDoor.V

set_option linter.unusedVariables false
set_option linter.unusedSimpArgs false
namespace Go.Proofs.YtknndpjacklkeaaGreatDoor.V
open Go
theorem and63G {m : Nat} (hm : m < 18446744073709551616) : IntKind.u64.wrap ((BitVec.ofInt IntKind.u64.bits (m : Int) &&& BitVec.ofInt IntKind.u64.bits 63).toNat) = ((m % 64 : Nat) : Int) := by
 have h : (BitVec.ofInt 64 (m : Int) &&& BitVec.ofInt 64 63).toNat = m % 64 := by
  rw [BitVec.toNat_and]
  have h1 : (BitVec.ofInt 64 (m : Int)).toNat = m := by
   rw [BitVec.toNat_ofInt]; omega
  have h2 : (BitVec.ofInt 64 63).toNat = 2 ^ 6 - 1 := by decide
  rw [h1, h2, Nat.and_two_pow_sub_one_eq_mod]
 show IntKind.u64.wrap ((BitVec.ofInt 64 (m : Int) &&& BitVec.ofInt 64 63).toNat : Int) = _
 rw [h, wrapu64_in _ (by omega)]
theorem and1G {m : Nat} (hm : m < 256) : IntKind.i64.wrap ((BitVec.ofInt IntKind.i64.bits (m : Int) &&& BitVec.ofInt IntKind.i64.bits 1).toNat) = ((m % 2 : Nat) : Int) := by
 have h : (BitVec.ofInt 64 (m : Int) &&& BitVec.ofInt 64 1).toNat = m % 2 := by
  rw [BitVec.toNat_and]
  have h1 : (BitVec.ofInt 64 (m : Int)).toNat = m := by
   rw [BitVec.toNat_ofInt]; omega
  have h2 : (BitVec.ofInt 64 1).toNat = 2 ^ 1 - 1 := by decide
  rw [h1, h2, Nat.and_two_pow_sub_one_eq_mod]
 show IntKind.i64.wrap ((BitVec.ofInt 64 (m : Int) &&& BitVec.ofInt 64 1).toNat : Int) = _
 rw [h, wrap64_in _ (by omega)]
theorem or256 {m c : Nat} (hm : m * 256 < 18446744073709551616) (hc : c < 256) : IntKind.u64.wrap ((BitVec.ofInt IntKind.u64.bits ((m * 256 : Nat) : Int) ||| BitVec.ofInt IntKind.u64.bits (c : Int)).toNat) = ((m * 256 + c : Nat) : Int) := by
 have h : (BitVec.ofInt 64 ((m * 256 : Nat) : Int) ||| BitVec.ofInt 64 (c : Int)).toNat = m * 256 + c := by
  rw [BitVec.toNat_or]
  have h1 : (BitVec.ofInt 64 ((m * 256 : Nat) : Int)).toNat = m * 256 := by
   rw [BitVec.toNat_ofInt]; omega
  have h2 : (BitVec.ofInt 64 (c : Int)).toNat = c := by
   rw [BitVec.toNat_ofInt]; omega
  rw [h1, h2, Nat.mul_comm]
  exact (Nat.two_pow_add_eq_or_of_lt (i := 8) hc m).symm
 show IntKind.u64.wrap ((BitVec.ofInt 64 ((m * 256 : Nat) : Int) ||| BitVec.ofInt 64 (c : Int)).toNat : Int) = _
 rw [h, wrapu64_in _ (by omega)]
def accL (b : List UInt8) (k : Nat) : Nat := numG (b.take k) % 18446744073709551616
theorem accL_succ {b : List UInt8} {k : Nat} {c : UInt8} (h : b[k]? = some c) : accL b (k + 1) = accL b k % 72057594037927936 * 256 + c.toNat := by
 have hc : c.toNat < 256 := UInt8.toNat_lt _
 unfold accL
 rw [numG_succ h]
 generalize numG (b.take k) = N
 omega
theorem accL_six (b : List UInt8) {k i r : Nat} (hk : k ≤ b.length) (hi : 8 * k = i + 6 + r) (hr : r ≤ 12) : accL b k / 2 ^ r % 64 = sixL b i := by
 rw [sixL_num b hk (by omega), show 8 * k - 6 - i = r by omega]
 unfold accL
 generalize numG (b.take k) = N
 have h7 : r = 0 ∨ r = 1 ∨ r = 2 ∨ r = 3 ∨ r = 4 ∨ r = 5 ∨ r = 6 ∨ r = 7 ∨ r = 8 ∨ r = 9 ∨ r = 10 ∨ r = 11 ∨ r = 12 := by omega
 rcases h7 with rfl | rfl | rfl | rfl | rfl | rfl | rfl | rfl | rfl | rfl | rfl | rfl | rfl <;> simp only [Nat.reducePow] <;> omega
theorem shr_acc {m r : Nat} (h : r ≤ 64) : (m : Int).fdiv (2 ^ (min ((r : Int)).toNat IntKind.u64.bits)) = ((m / 2 ^ r : Nat) : Int) := by
 have : min ((r : Int)).toNat IntKind.u64.bits = r := by show min ((r : Int)).toNat 64 = r; omega
 rw [this]
 have e : (2 : Int) ^ r = ((2 ^ r : Nat) : Int) := by simp
 rw [e]
 rw [Int.fdiv_eq_ediv_of_nonneg _ (Int.natCast_nonneg _)]
 rfl
theorem shr_lt (x : UInt8) (r : Nat) : x.toNat / 2 ^ r < 256 := Nat.lt_of_le_of_lt (Nat.div_le_self _ _) (UInt8.toNat_lt _)
theorem shr_byte {x : UInt8} {r : Nat} (h : r ≤ 7) : (x.toNat : Int).fdiv (2 ^ (min ((r : Int)).toNat IntKind.u8.bits)) = ((x.toNat / 2 ^ r : Nat) : Int) := by
 have : min ((r : Int)).toNat IntKind.u8.bits = r := by show min ((r : Int)).toNat 8 = r; omega
 rw [this]
 have e : (2 : Int) ^ r = ((2 ^ r : Nat) : Int) := by simp
 rw [e, Int.fdiv_eq_ediv_of_nonneg _ (Int.natCast_nonneg _)]
 rfl
def alphaL (url : Bool) : List UInt8 := (List.range 64).map fun n => letL n url
theorem let_a {n : Nat} {url : Bool} (h : n < 26) : Value.int .u8 ((65 + n : Nat) : Int) = B8 (letL n url) := by
 unfold letL B8
 rw [if_pos h]
 congr 1
 have : ∀ m : Fin 26, ((65 + m.1 : Nat) : Int) = ((65 + UInt8.ofNat m.1 : UInt8).toNat : Int) := by decide
 exact this ⟨n, h⟩
theorem let_b {n : Nat} {url : Bool} (h0 : 26 ≤ n) (h : n < 52) : Value.int .u8 ((97 + (n - 26) : Nat) : Int) = B8 (letL n url) := by
 unfold letL B8
 rw [if_neg (by omega), if_pos h]
 congr 1
 have : ∀ m : Fin 26, ((97 + m.1 : Nat) : Int) = ((97 + UInt8.ofNat m.1 : UInt8).toNat : Int) := by decide
 exact this ⟨n - 26, by omega⟩
theorem let_c {n : Nat} {url : Bool} (h0 : 52 ≤ n) (h : n < 62) : Value.int .u8 ((48 + (n - 52) : Nat) : Int) = B8 (letL n url) := by
 unfold letL B8
 rw [if_neg (by omega), if_neg (by omega), if_pos h]
 congr 1
 have : ∀ m : Fin 10, ((48 + m.1 : Nat) : Int) = ((48 + UInt8.ofNat m.1 : UInt8).toNat : Int) := by decide
 exact this ⟨n - 52, by omega⟩
theorem let_url {n : Nat} {url : Bool} (hn : n < 64) (h0 : 62 ≤ n) (hu : url = true) : ([45, 95] : List UInt8)[(((n - 62 : Nat) : Int)).toNat]? = some (letL n url) := by
 have : n = 62 ∨ n = 63 := by omega
 subst hu
 rcases this with rfl | rfl <;> rfl
theorem let_std {n : Nat} {url : Bool} (hn : n < 64) (h0 : 62 ≤ n) (hu : url = false) : ([43, 47] : List UInt8)[(((n - 62 : Nat) : Int)).toNat]? = some (letL n url) := by
 have : n = 62 ∨ n = 63 := by omega
 subst hu
 rcases this with rfl | rfl <;> rfl
def sixP (b : List UInt8) (i : Nat) : Nat → Nat
 | 0 => 0
 | k + 1 => 2 * sixP b i k + bitL b (i + k)
theorem sixP_six (b : List UInt8) (i : Nat) : sixP b i 6 = sixL b i := rfl
theorem sixP_lt (b : List UInt8) (i k : Nat) (hk : k ≤ 6) : sixP b i k < 64 := by
 have h0 := bitL_two b (i + 0); have h1 := bitL_two b (i + 1); have h2 := bitL_two b (i + 2); have h3 := bitL_two b (i + 3); have h4 := bitL_two b (i + 4); have h5 := bitL_two b (i + 5)
 have : k = 0 ∨ k = 1 ∨ k = 2 ∨ k = 3 ∨ k = 4 ∨ k = 5 ∨ k = 6 := by omega
 rcases this with rfl | rfl | rfl | rfl | rfl | rfl | rfl <;> simp only [sixP] <;> omega
theorem ltrT_len (b : List UInt8) (url : Bool) (i : Nat) : (ltrT b url i).length = i := by simp [ltrT]
theorem ltr_B8 (l : List UInt8) : (l.map bcells).flatten = l.map B8 := by
 induction l with
 | nil => rfl
 | cons a l ih => simp [ih]
theorem wrapu64 (z : Int) : IntKind.u64.wrap z = z % 18446744073709551616 := by
 unfold IntKind.wrap
 simp [IntKind.signed, IntKind.bits]
theorem shl_acc {m r : Nat} (h : r ≤ 64) : IntKind.u64.wrap ((m : Int) * 2 ^ (min ((r : Int)).toNat IntKind.u64.bits)) = ((m * 2 ^ r % 18446744073709551616 : Nat) : Int) := by
 have : min ((r : Int)).toNat IntKind.u64.bits = r := by show min ((r : Int)).toNat 64 = r; omega
 rw [this, wrapu64]
 have e : (2 : Int) ^ r = ((2 ^ r : Nat) : Int) := by simp
 rw [e, ← Int.natCast_mul]
 rfl
theorem shl_eight (m : Nat) : IntKind.u64.wrap ((m : Int) * 2 ^ (min ((8 : Int)).toNat IntKind.u64.bits)) = ((m % 72057594037927936 * 256 : Nat) : Int) := by
 have := @shl_acc m 8 (by decide)
 refine this.trans ?_
 congr 1
 simp only [Nat.reducePow]
 omega
theorem alpha_at {n : Nat} (url : Bool) (h : n < 64) : (alphaL url)[((n : Int)).toNat]? = some (letL n url) := by
 simp [alphaL, h]
theorem accL_lt (b : List UInt8) (k : Nat) : accL b k < 18446744073709551616 := Nat.mod_lt _ (by decide)
theorem accL_div (b : List UInt8) (k r : Nat) : accL b k / 2 ^ r < 18446744073709551616 := Nat.lt_of_le_of_lt (Nat.div_le_self _ _) (accL_lt b k)
theorem end_six (b : List UInt8) {r : Nat} (hr : r = 8 * b.length - 6 * (8 * b.length / 6)) (h0 : 0 < r) : accL b b.length * 2 ^ (6 - r) % 18446744073709551616 % 64 = sixL b (6 * (8 * b.length / 6)) := by
 have h : r = 2 ∨ r = 4 := by omega
 unfold accL
 rw [List.take_length]
 rcases h with rfl | rfl
 ·rw [sixL_end2 b (by omega)]
  generalize numG b = N
  simp only [Nat.reduceSub, Nat.reducePow]
  omega
 ·rw [sixL_end4 b (by omega)]
  generalize numG b = N
  simp only [Nat.reduceSub, Nat.reducePow]
  omega
theorem ltr_end {b : List UInt8} {url : Bool} {q : Nat} (h : (8 * b.length + 5) / 6 = q) : ltrL b url = ltrT b url q := by subst h; rfl
end Go.Proofs.YtknndpjacklkeaaGreatDoor.V
