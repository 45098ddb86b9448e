/-
  A part of the proof: walks of functions, and the plain laws of what they compute. No condition of its own.
-/
import Derived.Test.YtccjjkdogljmpaaDoorD7
import Derived.Test.YtccjjkdogljmpaaDoorTV
set_option linter.unusedVariables false
set_option linter.unusedSimpArgs false
set_option maxRecDepth 10000
namespace Go.Proofs.YtccjjkdogljmpaaDoor.V
open Go Go.Proofs
theorem ent17 : Ent Tryd.prog 17 := Ent.of Tryd.func17 (by kernel_rfl) (by kernel_rfl)
theorem ent18 : Ent Tryd.prog 18 := Ent.of Tryd.func18 (by kernel_rfl) (by kernel_rfl)
theorem ent19 : Ent Tryd.prog 19 := Ent.of Tryd.func19 (by kernel_rfl) (by kernel_rfl)
theorem c_ofR (A : List Nat) (w : World) (b : List UInt8) (v : Value) (R : Rep A w (byD b) v) (hb : b.length ≤ 1000000) : Calls Tryd.prog 10 [v].toArray w (Ret fun u w' => u = S (sha b) ∧ Mod [] w w') := by
  refine enter Tryd.func10 rfl rfl rfl (l := [(0, _)]) ⟨rfl, trivial⟩ ?_
  have E := Mod.refl [] w
  have hTT : (b ++ padL b.length b.length).length = b.length + (padL b.length b.length).length := List.length_append
  have hmod := padL_len b.length b.length
  rw [← hTT] at hmod
  have hTl : (b ++ padL b.length b.length).length ≤ 1000200 := by rw [hTT]; have h1 : padz b.length < 64 := Nat.mod_lt (119 - b.length % 64) (show 64 > 0 by decide); simp [padL, lens]; omega
  refine c_seq fun K1 hK1 => ?_
  refine c_region ?_
  refine sv (o_as rfl) rfl ?_
  refine l_nil ?_
  refine e_K (hK1 _ _ _ _ ?_)
  refine c_seq fun K2 hK2 => ?_
  refine c_region ?_
  refine s_bslice (cs := [_, _, _, _, _, _, _, _]) sl45 zv44 rfl rfl rfl (by decide) rfl fun g1 w1 N1 => ?_
  have Lg1_E := N1.le E
  replace E := E.then N1.mod
  have Bg1 := N1.blk
  refine sv (o_as rfl) rfl ?_
  refine l_nil ?_
  refine e_K (hK2 _ _ _ _ ?_)
  refine c_seq fun K3 hK3 => ?_
  have Os0 : Own _ 44 1 (.slice (some ⟨g1, 0, none⟩) 8 8) 8 s8of.cells := Own.all (cs := [_, _, _, _, _, _, _, _]) Bg1 rfl (by omega)
  refine c_region ?_
  refine sv (o_mv rfl) rfl ?_
  refine sc (o_call ent17 rfl) (c_padded A _ b _ (R.to0 E) hb) rfl fun v_ w2 h_ => ?_
  obtain ⟨Oa, La, E_⟩ := h_
  replace Bg1 := Bg1.mod0 E_
  replace E := E.then E_
  replace Os0 := Os0.mod0 E_
  have Lq := trivial
  obtain ⟨ada, ca, rfl, ha1, ha2⟩ := Oa.form
  refine sv (o_as rfl) rfl ?_
  refine l_nil ?_
  refine e_K (hK3 _ _ _ _ ?_)
  refine c_seq fun K4 hK4 => ?_
  refine c_region ?_
  refine sc (o_call ent18 rfl) (c_nums _) rfl fun v_ w3 h_ => ?_
  obtain ⟨Ok, Lk, E_⟩ := h_
  replace E := E.then E_
  replace Os0 := Os0.mod0 E_
  replace Oa := Oa.mod0 E_
  obtain ⟨adk, ck, rfl, hk1, hk2⟩ := Ok.form
  refine sv (o_as rfl) rfl ?_
  refine l_nil ?_
  refine e_K (hK4 _ _ _ _ ?_)
  refine c_seq fun K5 hK5 => ?_
  refine c_seq fun K6 hK6 => ?_
  refine c_region ?_
  refine sv (o_as rfl) rfl ?_
  refine l_nil ?_
  refine e_K (hK6 _ _ _ _ ?_)
  refine c_block ?_
  refine c_loop (σ := Nat × Value) (fun ⟨i, v⟩ => [(3, v), (4, .slice ada (b ++ padL b.length b.length).length ca), (5, .slice adk 64 ck), (6, .int .i64 ((64 * i : Nat) : Int))]) (fun ⟨i, v⟩ w1 => 64 * i ≤ (b ++ padL b.length b.length).length ∧ Own w1 44 1 v 8 (abs64 s8of (b ++ padL b.length b.length) i).cells ∧ Own w1 5 1 (.slice ada (b ++ padL b.length b.length).length ca) (b ++ padL b.length b.length).length (((b ++ padL b.length b.length).map bcells).flatten) ∧ Own w1 44 1 (.slice adk 64 ck) 64 ((numsK.map wcells).flatten) ∧ Mod [] w w1) (fun ⟨i, v⟩ => (b ++ padL b.length b.length).length - 64 * i) (⟨0, .slice (some ⟨g1, 0, none⟩) 8 8⟩) ⟨rfl, rfl, rfl, rfl, trivial⟩ (⟨by omega, Os0, Oa, Ok, E⟩) ?_
  rintro ⟨i, v⟩ w4 ⟨hi, Os, Oa, Ok, E⟩
  refine c_seq fun K7 hK7 => ?_
  refine c_seq fun K8 hK8 => ?_
  refine c_region ?_
  refine sv (o_mv rfl) rfl ?_
  refine sv (o_mv rfl) rfl ?_
  refine sv (o_len Tryd.underlying22 rfl) rfl ?_
  refine sv (o_lss rfl rfl) rfl ?_
  refine l_nil ?_
  refine e_K (hK8 _ _ _ _ ?_)
  refine c_if rfl (fun h18 => ?_) (fun h18 => ?_)
  · skip
    have hlt : 64 * i + 64 ≤ (b ++ padL b.length b.length).length := by omega
    refine c_skip ?_
    refine e_K (hK7 _ _ _ _ ?_)
    refine c_seq fun K9 hK9 => ?_
    refine c_block ?_
    refine c_region ?_
    refine sv (o_mv rfl) rfl ?_
    refine sv (o_mv rfl) rfl ?_
    refine sv (o_mv rfl) rfl ?_
    refine sv (o_mv rfl) rfl ?_
    refine sv (o_addE (r := ((64 * i + 64 : Nat) : Int)) rfl rfl (by rw [wrap64_in _ (by omega)]; omega)) rfl ?_
    refine sv (o_slft (lo := 64 * i) (hi := 64 * i + 64) sl22 rfl rfl rfl (by omega) (by omega)) rfl ?_
    refine sv (o_mv rfl) rfl ?_
    refine sc (o_call ent19 rfl) (c_next [] _ (abs64 s8of (b ++ padL b.length b.length) i) (((b ++ padL b.length b.length).drop (64 * i)).take 64) _ _ _ (Own.words (xs := (abs64 s8of (b ++ padL b.length b.length) i).list) Os rfl) (Own.block Oa (by omega)) (Own.words (xs := numsK) Ok rfl) (by rw [List.length_take, List.length_drop]; omega)) rfl fun v_ w5 h_ => ?_
    obtain ⟨Os2, Ls2, E_⟩ := h_
    replace E := E.then E_
    replace Os := Os.mod0 E_
    replace Oa := Oa.mod0 E_
    replace Ok := Ok.mod0 E_
    clear Os
    rw [comp_take] at Os2
    have Os := Os2
    refine sv (o_as rfl) rfl ?_
    refine l_nil ?_
    refine e_in (by simp) ?_
    refine e_K (hK9 _ _ _ _ ?_)
    refine c_region ?_
    refine sv (o_mv rfl) rfl ?_
    refine sv (o_addE (r := ((64 * (i + 1) : Nat) : Int)) rfl rfl (by rw [wrap64_in _ (by omega)]; omega)) rfl ?_
    refine sv (o_as rfl) rfl ?_
    refine l_nil ?_
    exact e_round (σ := Nat × Value) (s := ⟨i, v⟩) (⟨i + 1, v_⟩) ⟨rfl, rfl, rfl, rfl, trivial⟩ ⟨by omega, Os, Oa, Ok, E⟩ (by dsimp only; omega)
  · skip
    have hii : i = (b ++ padL b.length b.length).length / 64 := by omega
    obtain ⟨F, hF⟩ : ∃ F, F = abs64 s8of (b ++ padL b.length b.length) ((b ++ padL b.length b.length).length / 64) := ⟨_, rfl⟩
    rw [hii, ← hF] at Os
    obtain ⟨ads0, cs_, rfl, hs1, hs2⟩ := Os.form
    have R0 := Own.words (xs := F.list) Os rfl
    obtain ⟨ads, ha0, _, _⟩ := flat_at (i := 0) R0 rfl
    subst ha0
    have hos : ∀ x ∈ ob (.slice (some ads) 8 cs_), x < w4.heap.size := Os.lt
    obtain ⟨w0, hw0⟩ : ∃ w0, w0 = w4 := ⟨_, rfl⟩
    rw [← hw0] at hos
    refine c_exit ?_
    refine e_then (by simp) ?_
    refine e_then (by simp) ?_
    refine e_hit ?_
    refine e_K (hK5 _ _ _ _ ?_)
    refine c_seq fun K10 hK10 => ?_
    refine c_region ?_
    refine sv (o_as rfl) rfl ?_
    refine l_nil ?_
    refine e_K (hK10 _ _ _ _ ?_)
    refine c_seq fun K11 hK11 => ?_
    refine c_seq fun K12 hK12 => ?_
    refine c_region ?_
    refine sv (o_mv rfl) rfl ?_
    refine sv (o_len Tryd.underlying45 rfl) rfl ?_
    refine sv (o_mv rfl) rfl ?_
    refine l_nil ?_
    refine e_K (hK12 _ _ _ _ ?_)
    refine c_block ?_
    refine c_loop (σ := Nat × Value) (fun ⟨i, v⟩ => [(7, v), (29, .slice (some ads) 8 cs_), (30, .int .i64 8), (31, .int .i64 (i : Int))]) (fun ⟨i, v⟩ w1 => i ≤ 8 ∧ Own w1 44 1 (.slice (some ads) 8 cs_) 8 F.cells ∧ Own w1 5 1 v (4 * i) (((outB F (4 * i)).map bcells).flatten) ∧ (∀ x ∈ ob v, w.heap.size ≤ x) ∧ (∀ x ∈ ob v, w0.heap.size ≤ x) ∧ Mod [] w0 w1 ∧ Mod [] w w1) (fun ⟨i, v⟩ => 8 - i) (⟨0, .slice none 0 0⟩) ⟨rfl, rfl, rfl, rfl, trivial⟩ (⟨by omega, Os, Own.nil _ 5 1, by simp [ob], by simp [ob], by rw [hw0]; exact Mod.refl [] _, E⟩) ?_
    rintro ⟨i, v⟩ w6 ⟨hi, Os, Oo, Lo, D0, E0, E⟩
    refine c_seq fun K13 hK13 => ?_
    refine c_region ?_
    refine sv (o_lss rfl rfl) rfl ?_
    refine l_nil ?_
    refine e_K (hK13 _ _ _ _ ?_)
    refine c_seq fun K14 hK14 => ?_
    refine c_if rfl (fun h32 => ?_) (fun h32 => ?_)
    · skip
      have hlt : i < 8 := by omega
      have RO := Own.words (xs := F.list) Os rfl
      obtain ⟨a_x, ha_x, hcs_x, _⟩ := flat_at (cells := wcells) (i := i) RO (at32_get hlt)
      injection ha_x with ha_x
      subst ha_x
      refine c_skip ?_
      refine e_K (hK14 _ _ _ _ ?_)
      refine c_seq fun K15 hK15 => ?_
      refine c_block ?_
      refine c_seq fun K16 hK16 => ?_
      refine c_region ?_
      refine sv (o_ix sl45 rfl rfl (by omega)) rfl ?_
      refine sv (o_ld sc44 rfl hcs_x.first) rfl ?_
      refine sv (o_as rfl) rfl ?_
      refine l_nil ?_
      refine e_K (hK16 _ _ _ _ ?_)
      refine c_seq fun K17 hK17 => ?_
      refine c_region ?_
      refine sv (o_as rfl) rfl ?_
      refine l_nil ?_
      refine e_K (hK17 _ _ _ _ ?_)
      refine c_block ?_
      refine c_loop (σ := Nat × Value) (fun ⟨m, v⟩ => [(7, v), (9, W4 (at32 F.list i)), (10, .int .i64 (3 - (m : Int))), (29, .slice (some ads) 8 cs_), (30, .int .i64 8), (31, .int .i64 (i : Int))]) (fun ⟨m, v⟩ w1 => m ≤ 4 ∧ Own w1 44 1 (.slice (some ads) 8 cs_) 8 F.cells ∧ Own w1 5 1 v (4 * i + m) (((outB F (4 * i + m)).map bcells).flatten) ∧ (∀ x ∈ ob v, w.heap.size ≤ x) ∧ (∀ x ∈ ob v, w0.heap.size ≤ x) ∧ Mod [] w0 w1 ∧ Mod [] w w1) (fun ⟨m, v⟩ => 4 - m) (⟨0, v⟩) ⟨rfl, rfl, rfl, rfl, rfl, rfl, trivial⟩ (⟨by omega, Os, Oo, Lo, D0, E0, E⟩) ?_
      rintro ⟨m, v⟩ w7 ⟨hm, Os, Oo, Lo, D0, E0, E⟩
      refine c_seq fun K18 hK18 => ?_
      refine c_seq fun K19 hK19 => ?_
      refine c_region ?_
      refine sv (o_mv rfl) rfl ?_
      refine sv (o_geq rfl rfl) rfl ?_
      refine l_nil ?_
      refine e_K (hK19 _ _ _ _ ?_)
      refine c_if rfl (fun h36 => ?_) (fun h36 => ?_)
      · skip
        have hltm : m < 4 := by omega
        refine c_skip ?_
        refine e_K (hK18 _ _ _ _ ?_)
        refine c_seq fun K20 hK20 => ?_
        refine c_block ?_
        refine c_region ?_
        refine sv (o_mv rfl) rfl ?_
        refine sv (o_mv rfl) rfl ?_
        refine sv (o_mv rfl) rfl ?_
        refine sv (o_mulE (r := ((8 * (3 - m) : Nat) : Int)) rfl rfl (by rw [wrap64_in _ (by omega)]; omega)) rfl ?_
        refine sv (o_convE (r := ((8 * (3 - m) : Nat) : Int)) Tryd.underlying3 Tryd.underlying49 rfl (wrapu64_in _ (by omega))) rfl ?_
        refine sv (o_shr4 (m := 8 * (3 - m)) rfl rfl (by omega)) rfl ?_
        refine sv (o_conv48 Tryd.underlying44 Tryd.underlying5 rfl) rfl ?_
        refine s_bslice (cs := [_]) sl22 zv5 rfl rfl rfl (by decide) rfl fun g2 w8 N2 => ?_
        have Lg2_E := N2.le E
        have Lg2_E0 := N2.le E0
        have Dos_g2 := N2.own_ne Os
        have Doo_g2 := N2.own_ne Oo
        replace E := E.then N2.mod
        replace E0 := E0.then N2.mod
        replace Os := Os.mod0 N2.mod
        replace Oo := Oo.mod0 N2.mod
        have Bg2 := N2.blk
        refine s_append sl22 rfl rfl Oo (Src.own Tryd.underlying22 (Own.all (cs := [_]) Bg2 rfl (by omega)) (by simp [B8, Value.oneCell'])) (by decide) (by omega) (by omega) rfl fun vN w9 AN => ?_
        have LN := AN.ge Lo E
        have DN : ∀ x ∈ ob vN, w0.heap.size ≤ x := fun x hx => (AN.ob_ x hx).elim (fun h => D0 x h) (fun h => by have := E0.size; omega)
        replace Os := Os.mod AN.mod (fun x hx hx2 => by have := D0 x hx2; have := hos x hx; omega)
        replace E := E.trans' AN.mod (fun x hx => .inr (Lo x hx))
        replace E0 := E0.trans' AN.mod (fun x hx => .inr (D0 x hx))
        clear Oo
        have Oo := byt_snoc (n' := 4 * i + (m + 1)) (l' := outB F (4 * i + (m + 1))) (wb (at32 F.list i) (3 - m)) AN.own (by rw [show 4 * i + (m + 1) = (4 * i + m) + 1 from rfl, outB_succ, show (4 * i + m) / 4 = i by omega, show (4 * i + m) % 4 = m by omega]) (by omega)
        refine sv (o_as rfl) rfl ?_
        refine l_nil ?_
        refine e_in (by simp) ?_
        refine e_K (hK20 _ _ _ _ ?_)
        refine c_region ?_
        refine sv (o_mv rfl) rfl ?_
        refine sv (o_subE (r := 3 - ((m + 1 : Nat) : Int)) rfl rfl (by rw [wrap64_in _ (by omega)]; omega)) rfl ?_
        refine sv (o_as rfl) rfl ?_
        refine l_nil ?_
        exact e_round (σ := Nat × Value) (s := ⟨m, v⟩) (⟨m + 1, vN⟩) ⟨rfl, rfl, rfl, rfl, rfl, rfl, trivial⟩ ⟨by omega, Os, Oo, LN, DN, E0, E⟩ (by dsimp only; omega)
      · skip
        have hm4 : m = 4 := by omega
        subst hm4
        refine c_exit ?_
        refine e_then (by simp) ?_
        refine e_then (by simp) ?_
        refine e_hit ?_
        refine e_in (by simp) ?_
        refine e_K (hK15 _ _ _ _ ?_)
        refine c_region ?_
        refine sv (o_addN rfl rfl (by omega)) rfl ?_
        refine sv (o_mv rfl) rfl ?_
        refine l_nil ?_
        exact e_round (σ := Nat × Value) (s := ⟨i, v⟩) (⟨i + 1, v⟩) ⟨rfl, rfl, rfl, rfl, trivial⟩ ⟨by omega, Os, Oo, Lo, D0, E0, E⟩ (by dsimp only; omega)
    · skip
      have hi8 : i = 8 := by omega
      subst hi8
      refine c_exit ?_
      refine e_then (by simp) ?_
      refine e_then (by simp) ?_
      refine e_hit ?_
      refine e_K (hK11 _ _ _ _ ?_)
      refine c_seq fun K21 hK21 => ?_
      refine c_region ?_
      refine sv (o_mv rfl) rfl ?_
      refine sv (o_b2s_own (u := outB F 32) Tryd.underlying22 Tryd.underlying5 Tryd.underlying9 rfl (Oo.as (outB_len F 32).symm (flat_B8 _))) rfl ?_
      refine sv (o_as rfl) rfl ?_
      refine l_nil ?_
      refine e_K (hK21 _ _ _ _ ?_)
      refine c_ret ?_
      exact ret1 rfl rfl ⟨by rw [hF, sha_eq], E⟩

end Go.Proofs.YtccjjkdogljmpaaDoor.V
