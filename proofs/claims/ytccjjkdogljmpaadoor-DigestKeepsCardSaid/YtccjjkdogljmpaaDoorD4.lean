/-
  A part of the proof: walks of functions, and the plain laws of what they compute. No condition of its own.
-/
import Derived.Test.YtccjjkdogljmpaaDoorD3
import Derived.Test.YtccjjkdogljmpaaDoorTY
set_option linter.unusedVariables false
set_option linter.unusedSimpArgs false
set_option maxRecDepth 10000
namespace Go.Proofs.YtccjjkdogljmpaaDoor.V
open Go Go.Proofs
theorem pl53 : plB Tryd.prog 53 [(0, 8), (8, 1), (9, 1)] = true := by kernel_rfl
theorem zv53 : zvB Tryd.prog 53 ([.int .u32 0, .int .u32 0, .int .u32 0, .int .u32 0, .int .u32 0, .int .u32 0, .int .u32 0, .int .u32 0, .slice none 0 0, .int .u64 0]) := by unfold zvB; kernel_rfl
theorem fd53_2 : fdB Tryd.prog 53 2 9 1 = true := by kernel_rfl
theorem sc51 : scB Tryd.prog 51 = true := by kernel_rfl
theorem fd53_1 : fdB Tryd.prog 53 1 8 1 = true := by kernel_rfl
theorem sc22 : scB Tryd.prog 22 = true := by kernel_rfl
theorem ent20 : Ent Tryd.prog 20 := Ent.of Tryd.func20 (by kernel_rfl) (by kernel_rfl)
theorem c_new (w : World) : Calls Tryd.prog 11 [].toArray w (Ret fun u w' => ∃ gh, u = .pointer (some ⟨gh, 0, none⟩) ∧ Blk w' gh 53 (s8of.cells ++ [.slice none 0 0, .int .u64 0]) ∧ w.heap.size ≤ gh ∧ Mod [] w w') := by
  refine enter Tryd.func11 rfl rfl rfl (l := []) trivial ?_
  have E := Mod.refl [] w
  refine c_seq fun K1 hK1 => ?_
  refine c_region ?_
  refine sv (o_as rfl) rfl ?_
  refine l_nil ?_
  refine e_K (hK1 _ _ _ _ ?_)
  refine c_seq fun K2 hK2 => ?_
  refine c_region ?_
  refine sv (o_builda (cs := [_, _, _, _, _, _, _, _]) ar50 zv50 rfl rfl) rfl ?_
  refine sv (o_build (cs := [_, _, _, _, _, _, _, _, _, _]) pl53 zv53 rfl rfl) rfl ?_
  refine s_box rfl rfl rfl fun g1 w1 N1 => ?_
  have Lg1_E := N1.le E
  replace E := E.then N1.mod
  have Bg1 := N1.blk
  refine sv (o_as rfl) rfl ?_
  refine l_nil ?_
  refine e_K (hK2 _ _ _ _ ?_)
  refine c_ret ?_
  exact ret1 rfl rfl ⟨_, rfl, Bg1, Lg1_E, E⟩

theorem c_write (A : List Nat) (w : World) (s : S8) (wt b : List UInt8) (n : Int) (gh : Nat) (wv v1 : Value) (Bgh : Blk w gh 53 [W4 s.a, W4 s.b, W4 s.c, W4 s.d, W4 s.e, W4 s.f, W4 s.g, W4 s.h, wv, .int .u64 n]) (Ow : Own w 5 1 wv wt.length ((wt.map bcells).flatten)) (Dw : ∀ x ∈ ob wv, x ≠ gh) (D0 : ∀ x ∈ ob wv, x ≠ 0) (hT : Cs w ⟨0, 0, none⟩ (numsK.map W4)) (h0 : gh ≠ 0) (Rb : Rep A w (byD b) v1) (hA : ∀ x ∈ gh :: ob wv, x ∈ A) (hl : wt.length + b.length ≤ 1000000) (hn : 0 ≤ n ∧ n ≤ 1000000) (hgt : gh < w.heap.size) : Calls Tryd.prog 12 [.pointer (some ⟨gh, 0, none⟩), v1].toArray w (Ret fun _ w' => ∃ k wv', (wt ++ b).length < 64 * k + 64 ∧ 64 * k ≤ (wt ++ b).length ∧ Blk w' gh 53 ((abs64 s (wt ++ b) k).cells ++ [wv', .int .u64 (n + b.length)]) ∧ Own w' 5 1 wv' ((wt ++ b).length - 64 * k) ((((wt ++ b).drop (64 * k)).map bcells).flatten) ∧ (∀ x ∈ ob wv', x ≠ gh) ∧ (∀ x ∈ ob wv', x ∈ ob wv ∨ w.heap.size ≤ x) ∧ Mod (gh :: ob wv) w w') := by
  refine enter Tryd.func12 rfl rfl rfl (l := [(0, _), (1, _)]) ⟨rfl, rfl, trivial⟩ ?_
  have E := Mod.refl (gh :: ob wv) w
  obtain ⟨adb, cb, rfl, hb1, hb2⟩ := flat_len Rb
  have h0m : (0 : Nat) ∉ gh :: ob wv := by
    intro h
    rcases List.mem_cons.1 h with h | h
    · exact h0 h.symm
    · exact D0 0 h rfl
  refine c_seq fun K1 hK1 => ?_
  refine c_seq fun K2 hK2 => ?_
  refine c_region ?_
  refine sv (o_mv rfl) rfl ?_
  refine sv (o_peq Tryd.underlying30 rfl rfl) rfl ?_
  refine l_nil ?_
  refine e_K (hK2 _ _ _ _ ?_)
  refine c_false rfl ?_
  refine c_skip ?_
  refine e_K (hK1 _ _ _ _ ?_)
  refine c_seq fun K3 hK3 => ?_
  refine c_region ?_
  refine sv (o_mv rfl) rfl ?_
  refine sv (o_nilc rfl) rfl ?_
  refine sv (o_fa0 fd53_2 rfl) rfl ?_
  refine sv (o_ld sc51 rfl (Bgh.cell rfl)) rfl ?_
  refine sv (o_mv rfl) rfl ?_
  refine sv (o_len Tryd.underlying22 rfl) rfl ?_
  refine sv (o_convE (r := (b.length : Int)) Tryd.underlying3 Tryd.underlying51 rfl (wrapu64_in _ (by omega))) rfl ?_
  refine sv (o_addE (r := n + b.length) rfl rfl (wrapu64_in _ (by omega))) rfl ?_
  refine sv (o_nilc rfl) rfl ?_
  refine sv (o_fa0 fd53_2 rfl) rfl ?_
  refine s_st sc51 Bgh rfl rfl rfl (by simp) fun w1 P1 => ?_
  replace Ow := Ow.put P1.mod Dw
  replace Bgh : Blk w1 gh _ [_, _, _, _, _, _, _, _, _, _] := P1.blk
  replace E := E.trans' P1.mod (fun x hx => .inl (by simp at hx; simp [hx]))
  refine l_nil ?_
  refine e_K (hK3 _ _ _ _ ?_)
  refine c_seq fun K4 hK4 => ?_
  refine c_region ?_
  refine sv (o_mv rfl) rfl ?_
  refine sv (o_mv rfl) rfl ?_
  refine sv (o_nilc rfl) rfl ?_
  refine sv (o_fa0 fd53_1 rfl) rfl ?_
  refine sv (o_ld sc22 rfl (Bgh.cell rfl)) rfl ?_
  refine sv (o_mv rfl) rfl ?_
  have hsz0 := E.size
  refine s_append sl22 rfl rfl Ow (Src.flat Tryd.underlying22 (Rb.toM E hA)) (by decide) (by omega) (by omega) rfl fun v1 w2 A1 => ?_
  have Dv1_gh := A1.ne Dw Bgh
  replace Bgh := Bgh.mod A1.mod (fun hx => Dw _ hx rfl)
  replace Ow := A1.own
  obtain ⟨adv, cv, rfl, hv1, hv2⟩ := Ow.form
  have hob : ∀ x ∈ ob (.slice adv (wt.length + b.length) cv), x ∈ ob wv ∨ w.heap.size ≤ x := fun x hx => (A1.ob_ x hx).elim .inl (fun h => .inr (Nat.le_trans hsz0 h))
  replace E := E.trans' A1.mod (fun x hx => .inl (by simp [hx]))
  refine sv (o_nilc rfl) rfl ?_
  refine sv (o_fa0 fd53_1 rfl) rfl ?_
  refine s_st sc22 Bgh rfl rfl rfl (by simp) fun w3 P3 => ?_
  replace Ow := Ow.put P3.mod Dv1_gh
  replace Bgh : Blk w3 gh _ [_, _, _, _, _, _, _, _, _, _] := P3.blk
  replace E := E.trans' P3.mod (fun x hx => .inl (by simp at hx; simp [hx]))
  refine l_nil ?_
  refine e_K (hK4 _ _ _ _ ?_)
  refine c_block ?_
  refine c_loop (σ := Nat × Value) (fun ⟨k, v⟩ => [(0, .pointer (some ⟨gh, 0, none⟩))]) (fun ⟨k, v⟩ w1 => 64 * k ≤ (wt ++ b).length ∧ Blk w1 gh 53 ((abs64 s (wt ++ b) k).cells ++ [v, .int .u64 (n + b.length)]) ∧ Own w1 5 1 v ((wt ++ b).length - 64 * k) ((((wt ++ b).drop (64 * k)).map bcells).flatten) ∧ (∀ x ∈ ob v, x ≠ gh) ∧ (∀ x ∈ ob v, x ∈ ob wv ∨ w.heap.size ≤ x) ∧ Mod (gh :: ob wv) w w1) (fun ⟨k, v⟩ => (wt ++ b).length - 64 * k) (⟨0, .slice adv (wt.length + b.length) cv⟩) ⟨rfl, trivial⟩ (⟨by omega, Bgh, Ow.as (by simp) (by simp), Dv1_gh, hob, E⟩) ?_
  rintro ⟨k, v⟩ w4 ⟨hk, Bgh, Ow, Dw2, hob, E⟩
  obtain ⟨adv, cv, rfl, hv1, hv2⟩ := Ow.form
  have hll : (wt ++ b).length = wt.length + b.length := List.length_append
  refine c_seq fun K5 hK5 => ?_
  refine c_seq fun K6 hK6 => ?_
  refine c_region ?_
  refine sv (o_mv rfl) rfl ?_
  refine sv (o_nilc rfl) rfl ?_
  refine sv (o_fa0 fd53_1 rfl) rfl ?_
  refine sv (o_ld sc22 rfl (Bgh.cell rfl)) rfl ?_
  refine sv (o_len Tryd.underlying22 rfl) rfl ?_
  refine sv (o_geq rfl rfl) rfl ?_
  refine l_nil ?_
  refine e_K (hK6 _ _ _ _ ?_)
  refine c_if rfl (fun h30 => ?_) (fun h30 => ?_)
  · skip
    refine c_skip ?_
    refine e_K (hK5 _ _ _ _ ?_)
    refine c_block ?_
    refine c_seq fun K7 hK7 => ?_
    refine c_region ?_
    refine sv (o_mv rfl) rfl ?_
    refine sv (o_mv rfl) rfl ?_
    refine sv (o_nilc rfl) rfl ?_
    refine sv (o_fa0 fd53_1 rfl) rfl ?_
    refine sv (o_ld sc22 rfl (Bgh.cell rfl)) rfl ?_
    have RW := Own.byts [gh] Ow (by rw [List.length_drop]) (fun x hx => by simpa using Dw2 x hx)
    refine sc (o_call ent20 rfl) (c_blk64 [gh] _ (abs64 s (wt ++ b) k) ((wt ++ b).drop (64 * k)) gh _ _ _ Bgh (hT.mod E h0m) h0 RW (by simp) (by rw [List.length_drop]; omega)) rfl fun v_ w5 h_ => ?_
    obtain ⟨Bgh2, Eb⟩ := h_
    clear Bgh
    have Bgh := Bgh2
    replace Ow := Ow.put Eb Dw2
    replace E := E.trans' Eb (fun x hx => .inl (by simp at hx; simp [hx]))
    refine l_nil ?_
    refine e_K (hK7 _ _ _ _ ?_)
    refine c_region ?_
    refine sv (o_mv rfl) rfl ?_
    refine sv (o_mv rfl) rfl ?_
    refine sv (o_nilc rfl) rfl ?_
    refine sv (o_fa0 fd53_1 rfl) rfl ?_
    refine sv (o_ld sc22 rfl (Bgh.cell rfl)) rfl ?_
    refine sv (o_slfrom (lo := 64) sl22 rfl rfl (by omega) (by omega)) rfl ?_
    refine sv (o_nilc rfl) rfl ?_
    refine sv (o_fa0 fd53_1 rfl) rfl ?_
    refine s_st sc22 Bgh rfl rfl rfl (by simp) fun w6 P6 => ?_
    replace Ow := Ow.put P6.mod Dw2
    replace Bgh : Blk w6 gh _ [_, _, _, _, _, _, _, _, _, _] := P6.blk
    replace E := E.trans' P6.mod (fun x hx => .inl (by simp at hx; simp [hx]))
    refine l_nil ?_
    refine e_in (by simp) ?_
    exact e_round (σ := Nat × Value) (s := ⟨k, .slice adv ((wt ++ b).length - 64 * k) cv⟩) (⟨k + 1, .slice (adS adv cv 64 1) ((wt ++ b).length - 64 * k - 64) (cv - 64)⟩) ⟨rfl, trivial⟩ ⟨by omega, Bgh, (Own.drop64 Ow (by omega)).as (by omega) rfl, fun x hx => Dw2 x (ob_adS x hx), fun x hx => hob x (ob_adS x hx), E⟩ (by dsimp only; omega)
  · skip
    refine c_exit ?_
    refine e_then (by simp) ?_
    refine e_then (by simp) ?_
    refine e_hit ?_
    exact end0 rfl ⟨k, _, by omega, hk, Bgh, Ow, Dw2, hob, E⟩

end Go.Proofs.YtccjjkdogljmpaaDoor.V
