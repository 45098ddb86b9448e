/-
  A part of the proof: walks of functions, and the plain laws of what they compute. No condition of its own.
-/
import Derived.Test.YtccjjkdogljmpaaDoorD6
set_option linter.unusedVariables false
set_option linter.unusedSimpArgs false
set_option maxRecDepth 10000
namespace Go.Proofs.YtccjjkdogljmpaaDoor.V
open Go Go.Proofs

theorem c_padded (A : List Nat) (w : World) (b : List UInt8) (v : Value) (R : Rep A w (byD b) v) (hb : b.length ≤ 1000000) : Calls Tryd.prog 17 [v].toArray w (Ret fun u w' => Own w' 5 1 u (b ++ padL b.length b.length).length (((b ++ padL b.length b.length).map bcells).flatten) ∧ (∀ x ∈ ob u, w.heap.size ≤ x) ∧ Mod [] w w') := by
  refine enter Tryd.func17 rfl rfl rfl (l := [(0, _)]) ⟨rfl, trivial⟩ ?_
  have E := Mod.refl [] w
  obtain ⟨ad, c, rfl, hc1, hc2⟩ := flat_len R
  refine c_seq fun K1 hK1 => ?_
  refine c_region ?_
  refine sv (o_as rfl) rfl ?_
  refine l_nil ?_
  refine e_K (hK1 _ _ _ _ ?_)
  refine c_seq fun K2 hK2 => ?_
  refine c_region ?_
  refine s_bslice (cs := []) sl22 zv5 rfl rfl rfl (by decide) rfl fun g1 w1 N1 => ?_
  have Lg1_E := N1.le E
  replace E := E.then N1.mod
  have Bg1 := N1.blk
  refine sv (o_mv rfl) rfl ?_
  refine s_append sl22 rfl rfl (Own.all (c := 0) (cs := []) Bg1 rfl (by omega)) (Src.flat Tryd.underlying22 (R.to0 E)) (by decide) (by omega) (by omega) rfl fun v1 w2 A1 => ?_
  have L1 : ∀ x ∈ ob v1, w.heap.size ≤ x := fun x hx => (A1.ob_ x hx).elim (fun h => by simp [ob] at h; subst h; exact Lg1_E) (fun h => Nat.le_trans (Nat.le_trans Lg1_E (Nat.le_of_lt Bg1.lt)) h)
  replace E := E.trans' A1.mod (fun x hx => .inr (by simp [ob] at hx; subst hx; exact Lg1_E))
  have O3 := A1.own.as (Nat.zero_add _) (List.nil_append _)
  refine s_bslice (cs := [_]) sl22 zv5 rfl rfl rfl (by decide) rfl fun g2 w3 N2 => ?_
  have Lg2_E := N2.le E
  have Do3_g2 := N2.own_ne O3
  replace E := E.then N2.mod
  replace O3 := O3.mod0 N2.mod
  have Bg2 := N2.blk
  refine s_append sl22 rfl rfl O3 (Src.own Tryd.underlying22 (Own.all (cs := [_]) Bg2 rfl (by omega)) (by simp [B8, Value.oneCell'])) (by decide) (by omega) (by omega) rfl fun v1 w4 A1 => ?_
  have Dv1_g2 := A1.ne Do3_g2 Bg2
  have Lv1_E := A1.ge L1 E
  replace Bg2 := Bg2.mod A1.mod (fun hx => Do3_g2 _ hx rfl)
  replace E := E.trans' A1.mod (fun x hx => .inr (L1 x hx))
  replace O3 := A1.own
  refine sv (o_as rfl) rfl ?_
  refine l_nil ?_
  refine e_K (hK2 _ _ _ _ ?_)
  refine c_seq fun K3 hK3 => ?_
  refine c_block ?_
  refine c_loop (σ := Nat × Value) (fun ⟨j, v⟩ => [(0, .slice ad b.length c), (3, v)]) (fun ⟨j, v⟩ w1 => j ≤ padz b.length ∧ Own w1 5 1 v (b.length + 1 + j) (((b ++ 128 :: List.replicate j 0).map bcells).flatten) ∧ (∀ x ∈ ob v, w.heap.size ≤ x) ∧ Mod [] w w1) (fun ⟨j, v⟩ => 100 - j) (⟨0, v1⟩) ⟨rfl, rfl, trivial⟩ (⟨by omega, byt_snoc 128 O3 (by simp) (by omega), Lv1_E, E⟩) ?_
  rintro ⟨j, v⟩ w5 ⟨hj, O3, L3, E⟩
  obtain ⟨adt, ct, rfl, ht1, ht2⟩ := O3.form
  have hpz2 : padz b.length < 64 := Nat.mod_lt (119 - b.length % 64) (show 64 > 0 by decide)
  refine c_seq fun K4 hK4 => ?_
  refine c_seq fun K5 hK5 => ?_
  refine c_region ?_
  refine sv (o_mv rfl) rfl ?_
  refine sv (o_len Tryd.underlying22 rfl) rfl ?_
  refine sv (o_remN rfl rfl (by omega)) rfl ?_
  refine sv (o_neq rfl rfl) rfl ?_
  refine l_nil ?_
  refine e_K (hK5 _ _ _ _ ?_)
  refine c_if rfl (fun h15 => ?_) (fun h15 => ?_)
  · skip
    have hjn : j + 1 ≤ padz b.length := by
      rcases Nat.lt_or_eq_of_le hj with h | h
      · exact h
      · exact absurd ((padz_at hj).2 h) (by omega)
    refine c_skip ?_
    refine e_K (hK4 _ _ _ _ ?_)
    refine c_block ?_
    refine c_region ?_
    refine sv (o_mv rfl) rfl ?_
    refine s_bslice (cs := [_]) sl22 zv5 rfl rfl rfl (by decide) rfl fun g3 w6 N3 => ?_
    have Lg3_E := N3.le E
    have Do3_g3 := N3.own_ne O3
    replace E := E.then N3.mod
    replace O3 := O3.mod0 N3.mod
    have Bg3 := N3.blk
    refine s_append sl22 rfl rfl O3 (Src.own Tryd.underlying22 (Own.all (cs := [_]) Bg3 rfl (by omega)) (by simp [B8, Value.oneCell'])) (by decide) (by omega) (by omega) rfl fun v2 w7 A2 => ?_
    have Dv2_g3 := A2.ne Do3_g3 Bg3
    have Lv2_E := A2.ge L3 E
    replace Bg3 := Bg3.mod A2.mod (fun hx => Do3_g3 _ hx rfl)
    replace E := E.trans' A2.mod (fun x hx => .inr (L3 x hx))
    replace O3 := A2.own
    refine sv (o_as rfl) rfl ?_
    refine l_nil ?_
    refine e_in (by simp) ?_
    exact e_round (σ := Nat × Value) (s := ⟨j, .slice adt (b.length + 1 + j) ct⟩) (⟨j + 1, v2⟩) ⟨rfl, rfl, trivial⟩ ⟨hjn, byt_snoc 0 O3 (by simp [List.replicate_succ']) (by omega), Lv2_E, E⟩ (by dsimp only; omega)
  · skip
    have hjp : j = padz b.length := (padz_at hj).1 (by omega)
    subst hjp
    refine c_exit ?_
    refine e_then (by simp) ?_
    refine e_then (by simp) ?_
    refine e_hit ?_
    refine e_K (hK3 _ _ _ _ ?_)
    refine c_seq fun K6 hK6 => ?_
    refine c_region ?_
    refine sv (o_mv rfl) rfl ?_
    refine sv (o_len Tryd.underlying22 rfl) rfl ?_
    refine sv (o_as rfl) rfl ?_
    refine l_nil ?_
    refine e_K (hK6 _ _ _ _ ?_)
    refine c_seq fun K7 hK7 => ?_
    refine c_region ?_
    refine sv (o_as rfl) rfl ?_
    refine l_nil ?_
    refine e_K (hK7 _ _ _ _ ?_)
    refine c_seq fun K8 hK8 => ?_
    refine c_seq fun K9 hK9 => ?_
    refine c_region ?_
    refine sv (o_as rfl) rfl ?_
    refine l_nil ?_
    refine e_K (hK9 _ _ _ _ ?_)
    refine c_block ?_
    refine c_loop (σ := Nat × Value) (fun ⟨k, v⟩ => [(3, .slice adt (b.length + 1 + padz b.length) ct), (4, .int .i64 ((restN b.length k : Nat) : Int)), (5, v), (6, .int .i64 (k : Int))]) (fun ⟨k, v⟩ w1 => k ≤ 8 ∧ Own w1 5 1 (.slice adt (b.length + 1 + padz b.length) ct) (b.length + 1 + padz b.length) (((b ++ 128 :: List.replicate (padz b.length) 0).map bcells).flatten) ∧ Own w1 5 1 v k (((lensR b.length k).map bcells).flatten) ∧ (∀ x ∈ ob v, w.heap.size ≤ x) ∧ Mod [] w w1) (fun ⟨k, v⟩ => 8 - k) (⟨0, .slice none 0 0⟩) ⟨rfl, rfl, rfl, rfl, trivial⟩ (⟨by omega, O3, Own.nil _ 5 1, by simp [ob], E⟩) ?_
    rintro ⟨k, v⟩ w8 ⟨hk, O3, O5, L5, E⟩
    refine c_seq fun K10 hK10 => ?_
    refine c_seq fun K11 hK11 => ?_
    refine c_region ?_
    refine sv (o_mv rfl) rfl ?_
    refine sv (o_lss rfl rfl) rfl ?_
    refine l_nil ?_
    refine e_K (hK11 _ _ _ _ ?_)
    refine c_if rfl (fun h22 => ?_) (fun h22 => ?_)
    · skip
      have hlt : k < 8 := by omega
      have hrs := restN_le b.length k
      have hll := lensR_len b.length k
      refine c_skip ?_
      refine e_K (hK10 _ _ _ _ ?_)
      refine c_seq fun K12 hK12 => ?_
      refine c_block ?_
      refine c_seq fun K13 hK13 => ?_
      refine c_region ?_
      refine sv (o_mv rfl) rfl ?_
      refine sv (o_eql rfl rfl) rfl ?_
      refine l_nil ?_
      refine e_K (hK13 _ _ _ _ ?_)
      refine c_if rfl (fun h26 => ?_) (fun h26 => ?_)
      · skip
        have hk0 : k = 0 := by omega
        have hr0 : restN b.length k = b.length := by rw [hk0]; rfl
        refine c_seq fun K14 hK14 => ?_
        refine c_region ?_
        refine sv (o_mv rfl) rfl ?_
        refine sv ((o_remN rfl rfl (by omega)).to (v' := .int .i64 ((b.length % 32 : Nat) : Int)) (by rw [hr0, Int.natCast_emod]; rfl)) rfl ?_
        refine sv (o_mulE (r := ((b.length % 32 * 8 : Nat) : Int)) rfl rfl (by rw [wrap64_in _ (by omega)]; omega)) rfl ?_
        refine sv (o_convE (r := ((lenb b.length k).toNat : Int)) Tryd.underlying3 Tryd.underlying5 rfl (by rw [hk0]; exact conv_first b.length)) rfl ?_
        refine s_bslice (cs := [_]) sl22 zv5 rfl rfl rfl (by decide) rfl fun g4 w9 N4 => ?_
        have Lg4_E := N4.le E
        have Do3_g4 := N4.own_ne O3
        have Do5_g4 := N4.own_ne O5
        replace E := E.then N4.mod
        replace O3 := O3.mod0 N4.mod
        replace O5 := O5.mod0 N4.mod
        have Bg4 := N4.blk
        refine sv (o_mv rfl) rfl ?_
        refine s_append sl22 rfl rfl (Own.all (c := 1) (cs := [_]) Bg4 rfl (by omega)) (Src.own Tryd.underlying22 O5 flat_b1) (by decide) (by omega) (by omega) rfl fun vN w10 AN => ?_
        have LN : ∀ x ∈ ob vN, w.heap.size ≤ x := fun x hx => (AN.ob_ x hx).elim (fun h => by simp [ob] at h; subst h; exact Lg4_E) (fun h => Nat.le_trans (Nat.le_trans Lg4_E (Nat.le_of_lt Bg4.lt)) h)
        replace O3 := O3.put AN.mod Do3_g4
        replace E := E.trans' AN.mod (fun x hx => .inr (by simp [ob] at hx; subst hx; exact Lg4_E))
        clear O5
        have O5 := AN.own.as (m := k + 1) (us := ((lensR b.length (k + 1)).map bcells).flatten) (by omega) (by rfl)
        refine sv (o_as rfl) rfl ?_
        refine l_nil ?_
        refine e_K (hK14 _ _ _ _ ?_)
        refine c_region ?_
        refine sv (o_mv rfl) rfl ?_
        refine sv ((o_quoN rfl rfl (by omega)).to (v' := .int .i64 ((restN b.length (k + 1) : Nat) : Int)) (by rw [hr0, hk0, ← restN_first, Int.natCast_ediv]; rfl)) rfl ?_
        refine sv (o_as rfl) rfl ?_
        refine l_nil ?_
        refine e_in (by simp) ?_
        refine e_K (hK12 _ _ _ _ ?_)
        refine c_region ?_
        refine sv (o_mv rfl) rfl ?_
        refine sv (o_addN rfl rfl (by omega)) rfl ?_
        refine sv (o_as rfl) rfl ?_
        refine l_nil ?_
        exact e_round (σ := Nat × Value) (s := ⟨k, v⟩) (⟨k + 1, vN⟩) ⟨rfl, rfl, rfl, rfl, trivial⟩ ⟨by omega, O3, O5, LN, E⟩ (by dsimp only; omega)
      · skip
        have hk0 : k ≠ 0 := by omega
        refine c_seq fun K15 hK15 => ?_
        refine c_region ?_
        refine sv (o_mv rfl) rfl ?_
        refine sv ((o_remN rfl rfl (by omega)).to (v' := .int .i64 ((restN b.length k % 256 : Nat) : Int)) (by rw [Int.natCast_emod]; rfl)) rfl ?_
        refine sv (o_convE (r := ((lenb b.length k).toNat : Int)) Tryd.underlying3 Tryd.underlying5 rfl (conv_next b.length k hk0)) rfl ?_
        refine s_bslice (cs := [_]) sl22 zv5 rfl rfl rfl (by decide) rfl fun g5 w11 N5 => ?_
        have Lg5_E := N5.le E
        have Do3_g5 := N5.own_ne O3
        have Do5_g5 := N5.own_ne O5
        replace E := E.then N5.mod
        replace O3 := O3.mod0 N5.mod
        replace O5 := O5.mod0 N5.mod
        have Bg5 := N5.blk
        refine sv (o_mv rfl) rfl ?_
        refine s_append sl22 rfl rfl (Own.all (c := 1) (cs := [_]) Bg5 rfl (by omega)) (Src.own Tryd.underlying22 O5 flat_b1) (by decide) (by omega) (by omega) rfl fun vN w12 AN => ?_
        have LN : ∀ x ∈ ob vN, w.heap.size ≤ x := fun x hx => (AN.ob_ x hx).elim (fun h => by simp [ob] at h; subst h; exact Lg5_E) (fun h => Nat.le_trans (Nat.le_trans Lg5_E (Nat.le_of_lt Bg5.lt)) h)
        replace O3 := O3.put AN.mod Do3_g5
        replace E := E.trans' AN.mod (fun x hx => .inr (by simp [ob] at hx; subst hx; exact Lg5_E))
        clear O5
        have O5 := AN.own.as (m := k + 1) (us := ((lensR b.length (k + 1)).map bcells).flatten) (by omega) (by rfl)
        refine sv (o_as rfl) rfl ?_
        refine l_nil ?_
        refine e_K (hK15 _ _ _ _ ?_)
        refine c_region ?_
        refine sv (o_mv rfl) rfl ?_
        refine sv ((o_quoN rfl rfl (by omega)).to (v' := .int .i64 ((restN b.length (k + 1) : Nat) : Int)) (by rw [← restN_succ b.length k hk0, Int.natCast_ediv]; rfl)) rfl ?_
        refine sv (o_as rfl) rfl ?_
        refine l_nil ?_
        refine e_in (by simp) ?_
        refine e_K (hK12 _ _ _ _ ?_)
        refine c_region ?_
        refine sv (o_mv rfl) rfl ?_
        refine sv (o_addN rfl rfl (by omega)) rfl ?_
        refine sv (o_as rfl) rfl ?_
        refine l_nil ?_
        exact e_round (σ := Nat × Value) (s := ⟨k, v⟩) (⟨k + 1, vN⟩) ⟨rfl, rfl, rfl, rfl, trivial⟩ ⟨by omega, O3, O5, LN, E⟩ (by dsimp only; omega)
    · skip
      have hk8 : k = 8 := by omega
      subst hk8
      rw [lensR_all] at O5
      refine c_exit ?_
      refine e_then (by simp) ?_
      refine e_then (by simp) ?_
      refine e_hit ?_
      refine e_K (hK8 _ _ _ _ ?_)
      refine c_seq fun K16 hK16 => ?_
      refine c_region ?_
      refine sv (o_mv rfl) rfl ?_
      refine sv (o_mv rfl) rfl ?_
      refine s_append sl22 rfl rfl O3 (Src.own Tryd.underlying22 O5 flat_b1) (by decide) (by omega) (by omega) rfl fun v3 w13 A3 => ?_
      have Lv3_E := A3.ge L3 E
      replace E := E.trans' A3.mod (fun x hx => .inr (L3 x hx))
      replace O3 := A3.own
      refine sv (o_as rfl) rfl ?_
      refine l_nil ?_
      refine e_K (hK16 _ _ _ _ ?_)
      refine c_ret ?_
      exact ret1 rfl rfl ⟨O3.as (by simp [padL, lens]; omega) (by simp [padL]), Lv3_E, E⟩

end Go.Proofs.YtccjjkdogljmpaaDoor.V
