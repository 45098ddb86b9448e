/-
  A part of the proof: states put together slot by slot; pairs in order; insertion; doubled neighbours left out; the pairs that every event needs; a member's value written in place; members put one by one; what stays of a content, as the program and as the document tell it: the same; lists of texts that are built; strings the other way round; the pairs by which an event is allowed: the program's way and the document's way are the same; what Select and Right answer, in plain Lean; events that can be, in plain Lean. No condition of its own.
-/
import Derived.Test.YtkhbnhdlelmbnaaGreatDoorM17
import Derived.Test.YtkhbnhdlelmbnaaGreatDoorM3
import Derived.Test.YtkhbnhdlelmbnaaGreatDoorM13
import Derived.Test.YtkhbnhdlelmbnaaGreatDoorM8
set_option linter.unusedVariables false
set_option linter.unusedSimpArgs false
set_option maxRecDepth 10000
namespace Go.Proofs.YtkhbnhdlelmbnaaGreatDoor.V
open Go Go.Proofs
theorem ent54 : Ent Tryz.prog 54 := Ent.of Tryz.func54 (by kernel_rfl) (by kernel_rfl)
theorem sc5 : scB Tryz.prog 5 = true := by kernel_rfl
theorem c_letter (w : World) (url : Bool) (n : Nat) (hn : n < 64) : Calls Tryz.prog 54 [.int .i64 (n : Int), .bool url].toArray w (Ret fun u w' => u = .int .u8 (letB url n : Int) ∧ Mod [] w w') := by
 refine enter Tryz.func54 rfl rfl rfl (l := [(0, _), (1, _)]) ⟨rfl, rfl, trivial⟩ ?_
 have E := Mod.refl [] w
 refine Cq fun K1 hK1 => Cr (Za rfl (Ln (e_K (hK1 _ _ _ _ (Cq fun K2 hK2 => Cq fun K3 hK3 => Cr (Zm rfl (Sv (o_lss rfl rfl) (Ln (e_K (hK3 _ _ _ _ ?_))))))))))
 refine c_if rfl (fun h6 => ?_) (fun h6 => ?_)
 ·exact Cq fun K4 hK4 => Cr (Zm rfl (Sv (o_convN Tryz.underlying3 Tryz.underlying5 rfl (wrapu8_in _ (by omega))) (Sv ((o_add rfl rfl).to (v' := .int .u8 ((65 + n : Nat) : Int)) (by rw [wrapu8_in _ (by omega)]; rfl)) (Za rfl (Ln (e_K (hK4 _ _ _ _ (cR (eT (by simp) (ret1 rfl rfl ⟨by rw [letB, if_pos (by omega)], E⟩))))))))))
 ·refine cK (e_K (hK2 _ _ _ _ (Cq fun K5 hK5 => Cq fun K6 hK6 => Cr (Zm rfl (Sv (o_lss rfl rfl) (Ln (e_K (hK6 _ _ _ _ ?_))))))))
  refine c_if rfl (fun h11 => ?_) (fun h11 => ?_)
  ·exact Cq fun K7 hK7 => Cr (Zm rfl (Sv ((o_sub rfl rfl).to (v' := .int .i64 ((n - 26 : Nat) : Int)) (by rw [wrap64_in _ (by omega)]; congr 1; omega)) (Sv (o_convN Tryz.underlying3 Tryz.underlying5 rfl (wrapu8_in _ (by omega))) (Sv ((o_add rfl rfl).to (v' := .int .u8 ((97 + (n - 26) : Nat) : Int)) (by rw [wrapu8_in _ (by omega)]; rfl)) (Za rfl (Ln (e_K (hK7 _ _ _ _ (cR (eT (by simp) (ret1 rfl rfl ⟨by rw [letB, if_neg (by omega), if_pos (by omega)], E⟩)))))))))))
  ·refine cK (e_K (hK5 _ _ _ _ (Cq fun K8 hK8 => Cq fun K9 hK9 => Cr (Zm rfl (Sv (o_lss rfl rfl) (Ln (e_K (hK9 _ _ _ _ ?_))))))))
   refine c_if rfl (fun h17 => ?_) (fun h17 => ?_)
   ·exact Cq fun K10 hK10 => Cr (Zm rfl (Sv ((o_sub rfl rfl).to (v' := .int .i64 ((n - 52 : Nat) : Int)) (by rw [wrap64_in _ (by omega)]; congr 1; omega)) (Sv (o_convN Tryz.underlying3 Tryz.underlying5 rfl (wrapu8_in _ (by omega))) (Sv ((o_add rfl rfl).to (v' := .int .u8 ((48 + (n - 52) : Nat) : Int)) (by rw [wrapu8_in _ (by omega)]; rfl)) (Za rfl (Ln (e_K (hK10 _ _ _ _ (cR (eT (by simp) (ret1 rfl rfl ⟨by rw [letB, if_neg (by omega), if_neg (by omega), if_pos (by omega)], E⟩)))))))))))
   ·refine cK (e_K (hK8 _ _ _ _ (Cq fun K11 hK11 => Cq fun K12 hK12 => Cr (Zm rfl (Ln (e_K (hK12 _ _ _ _ ?_)))))))
    refine c_cond rfl (fun h22 => ?_) (fun h22 => ?_)
    ·refine Cq fun K13 hK13 => Cr (Zm rfl (Sv ((o_sub rfl rfl).to (v' := .int .i64 ((n - 62 : Nat) : Int)) (by rw [wrap64_in _ (by omega)]; congr 1; omega)) ?_))
     obtain ⟨q, hq, hq2⟩ : ∃ q : UInt8, ([45, 95] : Str)[n - 62]? = some q ∧ q.toNat = letB url n := by
      have : n = 62 ∨ n = 63 := by omega
      rw [h22]
      rcases this with rfl | rfl <;> exact ⟨_, rfl, rfl⟩
     exact Sv (o_sidx (u := [45, 95]) Tryz.underlying9 rfl rfl (by omega) (by rw [Int.toNat_natCast]; exact hq)) (Za rfl (Ln (e_K (hK13 _ _ _ _ (cR (eT (by simp) (ret1 rfl rfl ⟨by rw [hq2], E⟩)))))))
    ·refine cK (e_K (hK11 _ _ _ _ (Cq fun K14 hK14 => Cr (Zm rfl (Sv ((o_sub rfl rfl).to (v' := .int .i64 ((n - 62 : Nat) : Int)) (by rw [wrap64_in _ (by omega)]; congr 1; omega)) ?_)))))
     obtain ⟨q, hq, hq2⟩ : ∃ q : UInt8, ([43, 47] : Str)[n - 62]? = some q ∧ q.toNat = letB url n := by
      have : n = 62 ∨ n = 63 := by omega
      rw [h22]
      rcases this with rfl | rfl <;> exact ⟨_, rfl, rfl⟩
     exact Sv (o_sidx (u := [43, 47]) Tryz.underlying9 rfl rfl (by omega) (by rw [Int.toNat_natCast]; exact hq)) (Za rfl (Ln (e_K (hK14 _ _ _ _ (cR (ret1 rfl rfl ⟨by rw [hq2], E⟩))))))

theorem c_decodeR (w : World) (s : Str) (url : Bool) (hs : s.length ≤ 140737488351232) : Calls Tryz.prog 96 [S s, .bool url].toArray w (Ret fun u w' => DecR w w' url s u ∧ Mod [] w w') := by
 refine enter Tryz.func96 rfl rfl rfl (l := [(0, _), (1, _)]) ⟨rfl, rfl, trivial⟩ ?_
 have E := Mod.refl [] w
 refine Cq fun K1 hK1 => Cr (Za rfl (Za rfl (Ln (e_K (hK1 _ _ _ _ (Cq fun K2 hK2 => Cr (Zm rfl (Sv (o_slen Tryz.underlying9 rfl) (Sv (o_mulE (r := ((s.length * 6 : Nat) : Int)) rfl rfl (by rw [wrap64_in _ (by omega)]; omega)) (Sv ((o_quoN rfl rfl (by omega)).to (v' := .int .i64 ((s.length * 6 / 8 : Nat) : Int)) (by rw [Int.natCast_ediv]; rfl)) (s_make sl53 zv5 rfl rfl rfl (by omega) rfl fun gm w1 Nm => ?_)))))))))))
 have Lgm : w.heap.size ≤ gm := by have := Nm.at_; have := E.size; omega
 replace E := E.then Nm.mod
 have O : Own w1 5 1 (.slice (some ⟨gm, 0, none⟩) (s.length * 6 / 8) (s.length * 6 / 8)) (s.length * 6 / 8) (((List.replicate (s.length * 6 / 8) (0 : UInt8)).map b8c).flatten) := (Own.all (c := s.length * 6 / 8) (sz := 1) Nm.blk (by simp; omega) (by omega)).same rfl (by simp [B8]; omega)
 have hbl : (List.replicate (s.length * 6 / 8) (0 : UInt8)).length = s.length * 6 / 8 := by simp
 refine Za rfl (Ln (e_K (hK2 _ _ _ _ (Cq fun K3 hK3 => Cq fun K4 hK4 => Cr (Za rfl (Ln (e_K (hK4 _ _ _ _ (cB (c_loop (σ := Nat × Str) (fun ⟨i, bs⟩ => [(0, S s), (1, .bool url), (6, .slice (some ⟨gm, 0, none⟩) (s.length * 6 / 8) (s.length * 6 / 8)), (7, .int .i64 (i : Int))]) (fun ⟨i, bs⟩ w1 => i ≤ s.length ∧ (s.take i).all (fun b => (lv url b.toNat).isSome) = true ∧ (i = s.length → rest url s i = 0) ∧ Own w1 5 1 (.slice (some ⟨gm, 0, none⟩) (s.length * 6 / 8) (s.length * 6 / 8)) (s.length * 6 / 8) ((bs.map b8c).flatten) ∧ bs.length = s.length * 6 / 8 ∧ Mod [] w w1) (fun ⟨i, bs⟩ => s.length - i) (⟨0, List.replicate (s.length * 6 / 8) 0⟩) ⟨rfl, rfl, rfl, rfl, trivial⟩ (⟨by omega, by simp, fun _ => rfl, O, hbl, E⟩) ?_))))))))))
 rintro ⟨i, bs⟩ w2 ⟨hi, ha, hz, O, hbl, E⟩
 refine Cq fun K5 hK5 => Cq fun K6 hK6 => Cr (Zm rfl (Zm rfl (Sv (o_slen Tryz.underlying9 rfl) (Sv (o_lss rfl rfl) (Ln (e_K (hK6 _ _ _ _ ?_)))))))
 refine c_if rfl (fun h19 => ?_) (fun h19 => ?_)
 ·obtain ⟨b, hb⟩ : ∃ b, s[i]? = some b := ⟨_, List.getElem?_eq_getElem (by omega)⟩
  refine cK (e_K (hK5 _ _ _ _ (Cq fun K7 hK7 => cB (Cq fun K8 hK8 => Cr (Za rfl (Ln (e_K (hK8 _ _ _ _ (Cq fun K9 hK9 => cB (c_loop (σ := Nat) (fun n => [(0, S s), (1, .bool url), (6, .slice (some ⟨gm, 0, none⟩) (s.length * 6 / 8) (s.length * 6 / 8)), (7, .int .i64 (i : Int)), (8, .int .i64 (n : Int))]) (fun n w1 => n ≤ 64 ∧ (∀ y, y < n → letB url y ≠ b.toNat) ∧ Own w1 5 1 (.slice (some ⟨gm, 0, none⟩) (s.length * 6 / 8) (s.length * 6 / 8)) (s.length * 6 / 8) ((bs.map b8c).flatten) ∧ Mod [] w w1) (fun n => 64 - n) (0) ⟨rfl, rfl, rfl, rfl, rfl, trivial⟩ (⟨by omega, fun y h => absurd h (by omega), O, E⟩) ?_))))))))))
  rintro n w3 ⟨hn, hno, O, E⟩
  refine Cq fun K10 hK10 => Cq fun K11 hK11 => ?_
  by_cases hk0 : (n : Int) < 64
  ·by_cases hk1 : (letB url n : Int) ≠ (b.toNat : Int)
   ·refine c_draw wide (by kernel_rfl) (tv (fun w_ E_ => (oM rfl)) rfl rfl (tv (fun w_ E_ => (o_lss rfl rfl)) rfl rfl (tv (fun w_ E_ => (oM rfl)) rfl rfl (tvg rfl (dT hk0) (fun w_ E_ => (oM rfl)) rfl rfl (tvg rfl (dT hk0) (fun w_ E_ => (oM rfl)) rfl rfl (tcg rfl (dT hk0) (fun w_ E_ => oC ent54 rfl) (fun w_ E_ => c_letter _ url n (by omega)) rfl rfl (tvg rfl (dT hk0) (fun w_ E_ => (oM rfl)) rfl rfl (tvg rfl (dT hk0) (fun w_ E_ => (oM rfl)) rfl rfl (tvg rfl (dT hk0) (fun w_ E_ => (o_sidx Tryz.underlying9 rfl rfl (by omega) (by rw [Int.toNat_natCast]; exact hb))) rfl rfl (tvg rfl (dT hk0) (fun w_ E_ => (o_neq rfl rfl)) rfl rfl (tv (fun w_ E_ => (oT (dT hk0) rfl rfl)) rfl rfl (tw_nil rfl fun w4 E_ => ?_))))))))))))
    replace E := E.then E_
    replace O := O.mod0 E_
    refine e_K (hK11 _ _ _ _ ?_)
    refine c_if rfl (fun h32 => ?_) (fun h32 => absurd hk1 h32)
    have hne : letB url n ≠ b.toNat := by omega
    exact cK (e_K (hK10 _ _ _ _ (cB (Cr (Zm rfl (Sv (o_addN rfl rfl (by omega)) (Za rfl (Ln (eI (by simp) (eR (σ := Nat) (s := n) (n + 1) ⟨rfl, rfl, rfl, rfl, rfl, trivial⟩ ⟨by omega, fun y hy => (Nat.lt_succ_iff_lt_or_eq.1 hy).elim (hno y) (fun h => by subst h; exact hne), O, E⟩ (by omega)))))))))))
   ·refine c_draw wide (by kernel_rfl) (tv (fun w_ E_ => (oM rfl)) rfl rfl (tv (fun w_ E_ => (o_lss rfl rfl)) rfl rfl (tv (fun w_ E_ => (oM rfl)) rfl rfl (tvg rfl (dT hk0) (fun w_ E_ => (oM rfl)) rfl rfl (tvg rfl (dT hk0) (fun w_ E_ => (oM rfl)) rfl rfl (tcg rfl (dT hk0) (fun w_ E_ => oC ent54 rfl) (fun w_ E_ => c_letter _ url n (by omega)) rfl rfl (tvg rfl (dT hk0) (fun w_ E_ => (oM rfl)) rfl rfl (tvg rfl (dT hk0) (fun w_ E_ => (oM rfl)) rfl rfl (tvg rfl (dT hk0) (fun w_ E_ => (o_sidx Tryz.underlying9 rfl rfl (by omega) (by rw [Int.toNat_natCast]; exact hb))) rfl rfl (tvg rfl (dT hk0) (fun w_ E_ => (o_neq rfl rfl)) rfl rfl (tv (fun w_ E_ => (oT (dT hk0) rfl rfl)) rfl rfl (tw_nil rfl fun w5 E_ => ?_))))))))))))
    replace E := E.then E_
    replace O := O.mod0 E_
    refine e_K (hK11 _ _ _ _ (c_if rfl (fun h32 => absurd h32 hk1) (fun h32 => ?_)))
    have hx : lv url b.toNat = some n := lv_find (by omega) (by omega)
    refine c_exit (eT (by simp) (eT (by simp) (e_hit (e_K (hK9 _ _ _ _ (Cq fun K12 hK12 => Cq fun K13 hK13 => Cr (Zm rfl (Sv (oE rfl rfl) (Ln (e_K (hK13 _ _ _ _ ?_)))))))))))
    refine c_if rfl (fun h36 => ?_) (fun h36 => ?_)
    ·have hD : decOK url s = false := dec_no hb (lv_not (fun y hy => hno y (by omega)))
     exact Cq fun K14 hK14 => Cr (Za rfl (Za rfl (Ln (e_K (hK14 _ _ _ _ (cR (eT (by simp) (eI (by simp) (eT (by simp) (eT (by simp) (eI (by simp) (eT (by simp) (ret2 rfl rfl rfl ⟨DecR.no hD, E⟩)))))))))))))
    ·have hx : lv url b.toNat = some n := by first | assumption | (exfalso; omega)
     have hn6 : n < 64 := lv_lt hx
     refine cK (e_K (hK12 _ _ _ _ (Cq fun K15 hK15 => Cr (Za rfl (Ln (e_K (hK15 _ _ _ _ (cB (c_loop (σ := Nat × Str) (fun ⟨k, bs2⟩ => [(0, S s), (1, .bool url), (6, .slice (some ⟨gm, 0, none⟩) (s.length * 6 / 8) (s.length * 6 / 8)), (7, .int .i64 (i : Int)), (8, .int .i64 (n : Int)), (9, .int .i64 (k : Int))]) (fun ⟨k, bs2⟩ w1 => k ≤ 6 ∧ (∀ k', k' < k → 8 * (s.length * 6 / 8) ≤ 6 * i + k' → n / 2 ^ (5 - k') % 2 = 0) ∧ Own w1 5 1 (.slice (some ⟨gm, 0, none⟩) (s.length * 6 / 8) (s.length * 6 / 8)) (s.length * 6 / 8) ((bs2.map b8c).flatten) ∧ bs2.length = s.length * 6 / 8 ∧ Mod [] w w1) (fun ⟨k, bs2⟩ => 6 - k) (⟨0, bs⟩) ⟨rfl, rfl, rfl, rfl, rfl, rfl, trivial⟩ (⟨by omega, fun k' h => absurd h (by omega), O, hbl, E⟩) ?_)))))))))
     rintro ⟨k, bs2⟩ w6 ⟨hk, hkz, O, hbl2, E⟩
     refine Cq fun K16 hK16 => Cq fun K17 hK17 => Cr (Zm rfl (Sv (o_lss rfl rfl) (Ln (e_K (hK17 _ _ _ _ ?_)))))
     refine c_if rfl (fun h38 => ?_) (fun h38 => ?_)
     ·refine cK (e_K (hK16 _ _ _ _ (Cq fun K18 hK18 => cB (Cq fun K19 hK19 => Cr (Zm rfl (Sv (o_mulE (r := ((6 * i : Nat) : Int)) rfl rfl (by rw [wrap64_in _ (by omega)]; omega)) (Zm rfl (Sv (o_addE (r := ((6 * i + k : Nat) : Int)) rfl rfl (by rw [wrap64_in _ (by omega)]; omega)) (Za rfl (Ln (e_K (hK19 _ _ _ _ (Cq fun K20 hK20 => ?_)))))))))))))
      refine Cq fun K21 hK21 => Cr (Zm rfl (Zm rfl (Sv (o_subE (r := ((5 - k : Nat) : Int)) rfl rfl (by rw [wrap64_in _ (by omega)]; omega)) (Sv (o_convN Tryz.underlying3 Tryz.underlying102 rfl (wrapu64_in _ (by omega))) (Sv ((o_shr rfl rfl (by omega)).to (v' := .int .i64 ((n / 2 ^ (5 - k) : Nat) : Int)) (by rw [shr64 (by omega)])) ?_)))))
      have hnk : n / 2 ^ (5 - k) < 64 := Nat.lt_of_le_of_lt (Nat.div_le_self _ _) hn6
      refine Sv ((o_and rfl rfl).to (v' := .int .i64 ((n / 2 ^ (5 - k) % 2 : Nat) : Int)) (by rw [and1 hnk])) (Sv (oE rfl rfl) (Ln (e_K (hK21 _ _ _ _ ?_))))
      refine c_if rfl (fun h51 => ?_) (fun h51 => ?_)
      ·skip
       exact c_exit (eT (by simp) (e_hit (e_K (hK18 _ _ _ _ (Cr (Zm rfl (Sv (o_addN rfl rfl (by omega)) (Za rfl (Ln (eR (σ := Nat × Str) (s := ⟨k, bs2⟩) (⟨k + 1, bs2⟩) ⟨rfl, rfl, rfl, rfl, rfl, rfl, trivial⟩ ⟨by omega, fun k' h hh => (Nat.lt_succ_iff_lt_or_eq.1 h).elim (fun h => hkz k' h hh) (fun h => by subst h; omega), O, hbl2, E⟩ (by dsimp only; omega)))))))))))
      ·skip
       refine cK (e_K (hK20 _ _ _ _ (Cq fun K22 hK22 => Cq fun K23 hK23 => Cr (Zm rfl (Sv ((o_quoN rfl rfl (by omega)).to (v' := .int .i64 (((6 * i + k) / 8 : Nat) : Int)) (by rw [Int.natCast_ediv]; rfl)) (Zm rfl (Sv (o_len Tryz.underlying53 rfl) (Sv (o_geq rfl rfl) (Ln (e_K (hK23 _ _ _ _ ?_)))))))))))
       refine c_if rfl (fun h56 => ?_) (fun h56 => ?_)
       ·have hD : decOK url s = false := rest_bad (k := k) hb hx (by omega) (by omega) (by omega)
        refine Cq fun K24 hK24 => Cr (Za rfl (Za rfl (Ln (e_K (hK24 _ _ _ _ (cR (eT (by simp) (eI (by simp) (eT (by simp) (eT (by simp) (eI (by simp) (eI (by simp) (eT (by simp) ?_)))))))))))))
        exact eT (by simp) (eI (by simp) (eT (by simp) (ret2 rfl rfl rfl ⟨DecR.no hD, E⟩)))
       ·refine cK (e_K (hK22 _ _ _ _ (Cr ?_)))
        obtain ⟨bb, hbb⟩ : ∃ bb, bs2[(6 * i + k) / 8]? = some bb := ⟨_, List.getElem?_eq_getElem (by omega)⟩
        refine Zm rfl (Zm rfl (Sv ((o_quoN rfl rfl (by omega)).to (v' := .int .i64 (((6 * i + k) / 8 : Nat) : Int)) (by rw [Int.natCast_ediv]; rfl)) (Zm rfl (Zm rfl (Sv ((o_quoN rfl rfl (by omega)).to (v' := .int .i64 (((6 * i + k) / 8 : Nat) : Int)) (by rw [Int.natCast_ediv]; rfl)) (Sv (o_ix sl53 rfl rfl (by omega)) (Sv (oL sc5 rfl (own_at O hbb)) (Zm rfl (Sv (o_remN rfl rfl (by omega)) (Sv (o_convN Tryz.underlying3 Tryz.underlying102 rfl (wrapu64_in _ (by omega))) (Sv (o_shr rfl rfl (by omega)) (Sv (o_or rfl rfl) (Sv (o_ix sl53 rfl rfl (by omega)) ?_)))))))))))))
        refine s_stown1 (i := (6 * i + k) / 8) sc5 O rfl rfl rfl (by omega) fun wS O2 ES hzS => ?_
        replace E := E.own ES Lgm
        obtain ⟨cb, O3⟩ := own_set O2
        clear O O2
        have O := O3
        exact Ln (eI (by simp) (e_K (hK18 _ _ _ _ (Cr (Zm rfl (Sv (o_addN rfl rfl (by omega)) (Za rfl (Ln (eR (σ := Nat × Str) (s := ⟨k, bs2⟩) (⟨k + 1, (bs2.set ((6 * i + k) / 8) cb)⟩) ⟨rfl, rfl, rfl, rfl, rfl, rfl, trivial⟩ ⟨by omega, fun k' h hh => (Nat.lt_succ_iff_lt_or_eq.1 h).elim (fun h => hkz k' h hh) (fun h => by subst h; omega), O, by rw [List.length_set]; exact hbl2, E⟩ (by dsimp only; omega))))))))))
     ·have hnx : (s.take (i + 1)).all (fun b => (lv url b.toNat).isSome) = true := all_succ (q := fun c => (lv url c).isSome) hb ha (by rw [hx]; rfl)
      have hzn := rest_last hb hx (fun k' h hh => hkz k' (by omega) hh)
      exact c_exit (eT (by simp) (eT (by simp) (e_hit (eI (by simp) (e_K (hK7 _ _ _ _ (Cr (Zm rfl (Sv (o_addN rfl rfl (by omega)) (Za rfl (Ln (eR (σ := Nat × Str) (s := ⟨i, bs⟩) (⟨i + 1, bs2⟩) ⟨rfl, rfl, rfl, rfl, trivial⟩ ⟨by omega, hnx, hzn, O, hbl2, E⟩ (by dsimp only; omega)))))))))))))
  ·refine c_draw wide (by kernel_rfl) (tv (fun w_ E_ => (oM rfl)) rfl rfl (tv (fun w_ E_ => (o_lss rfl rfl)) rfl rfl (tv (fun w_ E_ => (oM rfl)) rfl rfl (Tx rfl (dF hk0) (Tx rfl (dF hk0) (Tx rfl (dF hk0) (Tx rfl (dF hk0) (Tx rfl (dF hk0) (Tx rfl (dF hk0) (Tx rfl (dF hk0) (tv (fun w_ E_ => (oF (dF hk0) rfl rfl)) rfl rfl (tw_nil rfl fun w7 E_ => ?_))))))))))))
   replace E := E.then E_
   replace O := O.mod0 E_
   refine e_K (hK11 _ _ _ _ (c_false rfl ?_))
   have hx : lv url b.toNat = none := lv_not (fun y hy => hno y (by omega))
   refine c_exit (eT (by simp) (eT (by simp) (e_hit (e_K (hK9 _ _ _ _ (Cq fun K25 hK25 => Cq fun K26 hK26 => Cr (Zm rfl (Sv (oE rfl rfl) (Ln (e_K (hK26 _ _ _ _ ?_)))))))))))
   refine c_if rfl (fun h36 => ?_) (fun h36 => ?_)
   ·have hD : decOK url s = false := dec_no hb (lv_not (fun y hy => hno y (by omega)))
    exact Cq fun K27 hK27 => Cr (Za rfl (Za rfl (Ln (e_K (hK27 _ _ _ _ (cR (eT (by simp) (eI (by simp) (eT (by simp) (eT (by simp) (eI (by simp) (eT (by simp) (ret2 rfl rfl rfl ⟨DecR.no hD, E⟩)))))))))))))
   ·have hx : lv url b.toNat = some n := by first | assumption | (exfalso; omega)
    have hn6 : n < 64 := lv_lt hx
    refine cK (e_K (hK25 _ _ _ _ (Cq fun K28 hK28 => Cr (Za rfl (Ln (e_K (hK28 _ _ _ _ (cB (c_loop (σ := Nat × Str) (fun ⟨k, bs2⟩ => [(0, S s), (1, .bool url), (6, .slice (some ⟨gm, 0, none⟩) (s.length * 6 / 8) (s.length * 6 / 8)), (7, .int .i64 (i : Int)), (8, .int .i64 (n : Int)), (9, .int .i64 (k : Int))]) (fun ⟨k, bs2⟩ w1 => k ≤ 6 ∧ (∀ k', k' < k → 8 * (s.length * 6 / 8) ≤ 6 * i + k' → n / 2 ^ (5 - k') % 2 = 0) ∧ Own w1 5 1 (.slice (some ⟨gm, 0, none⟩) (s.length * 6 / 8) (s.length * 6 / 8)) (s.length * 6 / 8) ((bs2.map b8c).flatten) ∧ bs2.length = s.length * 6 / 8 ∧ Mod [] w w1) (fun ⟨k, bs2⟩ => 6 - k) (⟨0, bs⟩) ⟨rfl, rfl, rfl, rfl, rfl, rfl, trivial⟩ (⟨by omega, fun k' h => absurd h (by omega), O, hbl, E⟩) ?_)))))))))
    rintro ⟨k, bs2⟩ w8 ⟨hk, hkz, O, hbl2, E⟩
    refine Cq fun K29 hK29 => Cq fun K30 hK30 => Cr (Zm rfl (Sv (o_lss rfl rfl) (Ln (e_K (hK30 _ _ _ _ ?_)))))
    refine c_if rfl (fun h38 => ?_) (fun h38 => ?_)
    ·refine cK (e_K (hK29 _ _ _ _ (Cq fun K31 hK31 => cB (Cq fun K32 hK32 => Cr (Zm rfl (Sv (o_mulE (r := ((6 * i : Nat) : Int)) rfl rfl (by rw [wrap64_in _ (by omega)]; omega)) (Zm rfl (Sv (o_addE (r := ((6 * i + k : Nat) : Int)) rfl rfl (by rw [wrap64_in _ (by omega)]; omega)) (Za rfl (Ln (e_K (hK32 _ _ _ _ (Cq fun K33 hK33 => ?_)))))))))))))
     refine Cq fun K34 hK34 => Cr (Zm rfl (Zm rfl (Sv (o_subE (r := ((5 - k : Nat) : Int)) rfl rfl (by rw [wrap64_in _ (by omega)]; omega)) (Sv (o_convN Tryz.underlying3 Tryz.underlying102 rfl (wrapu64_in _ (by omega))) (Sv ((o_shr rfl rfl (by omega)).to (v' := .int .i64 ((n / 2 ^ (5 - k) : Nat) : Int)) (by rw [shr64 (by omega)])) ?_)))))
     have hnk : n / 2 ^ (5 - k) < 64 := Nat.lt_of_le_of_lt (Nat.div_le_self _ _) hn6
     refine Sv ((o_and rfl rfl).to (v' := .int .i64 ((n / 2 ^ (5 - k) % 2 : Nat) : Int)) (by rw [and1 hnk])) (Sv (oE rfl rfl) (Ln (e_K (hK34 _ _ _ _ ?_))))
     refine c_if rfl (fun h51 => ?_) (fun h51 => ?_)
     ·skip
      exact c_exit (eT (by simp) (e_hit (e_K (hK31 _ _ _ _ (Cr (Zm rfl (Sv (o_addN rfl rfl (by omega)) (Za rfl (Ln (eR (σ := Nat × Str) (s := ⟨k, bs2⟩) (⟨k + 1, bs2⟩) ⟨rfl, rfl, rfl, rfl, rfl, rfl, trivial⟩ ⟨by omega, fun k' h hh => (Nat.lt_succ_iff_lt_or_eq.1 h).elim (fun h => hkz k' h hh) (fun h => by subst h; omega), O, hbl2, E⟩ (by dsimp only; omega)))))))))))
     ·skip
      refine cK (e_K (hK33 _ _ _ _ (Cq fun K35 hK35 => Cq fun K36 hK36 => Cr (Zm rfl (Sv ((o_quoN rfl rfl (by omega)).to (v' := .int .i64 (((6 * i + k) / 8 : Nat) : Int)) (by rw [Int.natCast_ediv]; rfl)) (Zm rfl (Sv (o_len Tryz.underlying53 rfl) (Sv (o_geq rfl rfl) (Ln (e_K (hK36 _ _ _ _ ?_)))))))))))
      refine c_if rfl (fun h56 => ?_) (fun h56 => ?_)
      ·have hD : decOK url s = false := rest_bad (k := k) hb hx (by omega) (by omega) (by omega)
       refine Cq fun K37 hK37 => Cr (Za rfl (Za rfl (Ln (e_K (hK37 _ _ _ _ (cR (eT (by simp) (eI (by simp) (eT (by simp) (eT (by simp) (eI (by simp) (eI (by simp) (eT (by simp) ?_)))))))))))))
       exact eT (by simp) (eI (by simp) (eT (by simp) (ret2 rfl rfl rfl ⟨DecR.no hD, E⟩)))
      ·refine cK (e_K (hK35 _ _ _ _ (Cr ?_)))
       obtain ⟨bb, hbb⟩ : ∃ bb, bs2[(6 * i + k) / 8]? = some bb := ⟨_, List.getElem?_eq_getElem (by omega)⟩
       refine Zm rfl (Zm rfl (Sv ((o_quoN rfl rfl (by omega)).to (v' := .int .i64 (((6 * i + k) / 8 : Nat) : Int)) (by rw [Int.natCast_ediv]; rfl)) (Zm rfl (Zm rfl (Sv ((o_quoN rfl rfl (by omega)).to (v' := .int .i64 (((6 * i + k) / 8 : Nat) : Int)) (by rw [Int.natCast_ediv]; rfl)) (Sv (o_ix sl53 rfl rfl (by omega)) (Sv (oL sc5 rfl (own_at O hbb)) (Zm rfl (Sv (o_remN rfl rfl (by omega)) (Sv (o_convN Tryz.underlying3 Tryz.underlying102 rfl (wrapu64_in _ (by omega))) (Sv (o_shr rfl rfl (by omega)) (Sv (o_or rfl rfl) (Sv (o_ix sl53 rfl rfl (by omega)) ?_)))))))))))))
       refine s_stown1 (i := (6 * i + k) / 8) sc5 O rfl rfl rfl (by omega) fun wS O2 ES hzS => ?_
       replace E := E.own ES Lgm
       obtain ⟨cb, O3⟩ := own_set O2
       clear O O2
       have O := O3
       exact Ln (eI (by simp) (e_K (hK31 _ _ _ _ (Cr (Zm rfl (Sv (o_addN rfl rfl (by omega)) (Za rfl (Ln (eR (σ := Nat × Str) (s := ⟨k, bs2⟩) (⟨k + 1, (bs2.set ((6 * i + k) / 8) cb)⟩) ⟨rfl, rfl, rfl, rfl, rfl, rfl, trivial⟩ ⟨by omega, fun k' h hh => (Nat.lt_succ_iff_lt_or_eq.1 h).elim (fun h => hkz k' h hh) (fun h => by subst h; omega), O, by rw [List.length_set]; exact hbl2, E⟩ (by dsimp only; omega))))))))))
    ·have hnx : (s.take (i + 1)).all (fun b => (lv url b.toNat).isSome) = true := all_succ (q := fun c => (lv url c).isSome) hb ha (by rw [hx]; rfl)
     have hzn := rest_last hb hx (fun k' h hh => hkz k' (by omega) hh)
     exact c_exit (eT (by simp) (eT (by simp) (e_hit (eI (by simp) (e_K (hK7 _ _ _ _ (Cr (Zm rfl (Sv (o_addN rfl rfl (by omega)) (Za rfl (Ln (eR (σ := Nat × Str) (s := ⟨i, bs⟩) (⟨i + 1, bs2⟩) ⟨rfl, rfl, rfl, rfl, trivial⟩ ⟨by omega, hnx, hzn, O, hbl2, E⟩ (by dsimp only; omega)))))))))))))
 ·have hil : i = s.length := by omega
  have hr0 := hz hil
  have hall : s.all (fun b => (lv url b.toNat).isSome) = true := by rw [List.take_of_length_le (by omega)] at ha; exact ha
  refine c_exit (eT (by simp) (eT (by simp) (e_hit (e_K (hK3 _ _ _ _ (Cq fun K38 hK38 => Cq fun K39 hK39 => Cr (Zm rfl (Sv (o_slen Tryz.underlying9 rfl) (Sv (o_remN rfl rfl (by omega)) (Sv (oE rfl rfl) (Ln (e_K (hK39 _ _ _ _ ?_)))))))))))))
  refine c_if rfl (fun h74 => ?_) (fun h74 => ?_)
  ·have hD : decOK url s = false := by
    unfold decOK
    rw [show decide (((6 * s.length % 8 : Nat) : Int) ≥ 6) = true from dT (by omega)]
    simp
   exact Cq fun K40 hK40 => Cr (Za rfl (Za rfl (Ln (e_K (hK40 _ _ _ _ (cR (eT (by simp) (ret2 rfl rfl rfl ⟨DecR.no hD, E⟩))))))))
  ·have hD : decOK url s = true := by
    unfold decOK
    rw [hall, ← hil, hr0, show decide (((6 * i % 8 : Nat) : Int) ≥ 6) = false from dF (by omega)]
    rfl
   exact cK (e_K (hK38 _ _ _ _ (Cq fun K41 hK41 => Cr (Zm rfl (Za rfl (Za rfl (Ln (e_K (hK41 _ _ _ _ (cR (ret2 rfl rfl rfl ⟨DecR.yes hD (O.same (by rw [hbl]) rfl) hbl (by simp only [ob, List.mem_singleton]; intro x hx; subst hx; exact Lgm), E⟩)))))))))))
end Go.Proofs.YtkhbnhdlelmbnaaGreatDoor.V

set_option linter.unusedVariables false
set_option linter.unusedSimpArgs false
namespace Go.Proofs.YtkhbnhdlelmbnaaGreatDoor.V
open Go
end Go.Proofs.YtkhbnhdlelmbnaaGreatDoor.V

set_option linter.unusedVariables false
set_option linter.unusedSimpArgs false
namespace Go.Proofs.YtkhbnhdlelmbnaaGreatDoor.V
open Go
theorem pairs_one {xs : List Pair} : ∀ x ∈ xs, ∀ c ∈ Pair.cells x, c.oneCell' = true := by
  intro x _ c hc
  simp at hc
  rcases hc with rfl | rfl <;> rfl
theorem Own.pairs {w : World} {e : Nat} {v : Value} {xs : List Pair} (A : List Nat) (h : Own w e 2 v xs.length ((xs.map Pair.cells).flatten)) (hA : ∀ x ∈ ob v, x ∉ A) : Rep A w (pairsD xs) v := Own.flat h (fun _ _ => rfl) pairs_one rfl hA
/-- insertion behind all that don't stand above -/
def insP (x : Pair) (S : List Pair) : List Pair := S.filter (fun y => !plt x y) ++ [x] ++ S.filter (fun y => plt x y)
def isortP (xs : List Pair) (k : Nat) : List Pair := (xs.take k).foldl (fun S x => insP x S) []
end Go.Proofs.YtkhbnhdlelmbnaaGreatDoor.V

set_option linter.unusedVariables false
set_option linter.unusedSimpArgs false
namespace Go.Proofs.YtkhbnhdlelmbnaaGreatDoor.V
open Go
def crS : Str := [109, 46, 114, 111, 111, 109, 46, 99, 114, 101, 97, 116, 101]
def pwS : Str := [109, 46, 114, 111, 111, 109, 46, 112, 111, 119, 101, 114, 95, 108, 101, 118, 101, 108, 115]
def mbS : Str := [109, 46, 114, 111, 111, 109, 46, 109, 101, 109, 98, 101, 114]
def ndP (snd : Str) : List Pair := [⟨crS, []⟩, ⟨pwS, []⟩, ⟨mbS, snd⟩]
end Go.Proofs.YtkhbnhdlelmbnaaGreatDoor.V

set_option linter.unusedVariables false
set_option linter.unusedSimpArgs false
namespace Go.Proofs.YtkhbnhdlelmbnaaGreatDoor.V
open Go
theorem JV.rows_setv {A : List Nat} {w : World} {m : List (Str × JV)} {y : Str × JV} {x : JV} {vs us : List Value} {i : Nat} (h : Reps A w (m.map JV.Dp).flatten vs) (hy : m[i]? = some y) (hx : Reps A w x.D us) :
    Reps A w ((m.set i (y.1, x)).map JV.Dp).flatten (vs.take (i * 7 + 1) ++ us ++ vs.drop (i * 7 + 1 + 6)) := by
  have hi := (List.getElem?_eq_some_iff.1 hy).1
  have h1 := JV.rows_set (p := (y.1, x)) h hi (JV.Dp_reps (p := (y.1, x)) hx)
  have h2 := Reps.row_of_flat (JV.Dp_all m) h i (JV.Dp y) (by simp [hy])
  obtain ⟨u, us', he, h3, _⟩ := h2
  obtain rfl := h3.v_eq
  have h4 : vs[i * 7]? = some (S y.1) := by
    have := congrArg (fun l => l[0]?) he
    simpa [List.getElem?_take, List.getElem?_drop] using this
  have h5 : vs.take (i * 7 + 1) = vs.take (i * 7) ++ [S y.1] := by rw [List.take_add_one, h4]; rfl
  rw [h5, show i * 7 + 1 + 6 = (i + 1) * 7 by omega]
  simpa using h1
theorem JV.obj_repsN {A : List Nat} {w : World} {m : List (Str × JV)} {am : Option Addr} {cm n : Nat} (hn : m.length = n) (R : Rep A w (.sl 7 (m.map JV.Dp)) (.slice am n cm)) : Reps A w (JV.obj m).D [.int .i64 5, .bool false, .int .i64 0, S [], .slice none 0 0, .slice am n cm] := by
  subst hn
  exact JV.obj_reps R
end Go.Proofs.YtkhbnhdlelmbnaaGreatDoor.V

set_option linter.unusedVariables false
set_option linter.unusedSimpArgs false
namespace Go.Proofs.YtkhbnhdlelmbnaaGreatDoor.V
open Go
theorem JV.tbl_obj (m : List (Str × JV)) : (JV.obj m).tbl = m := by simp [JV.tbl, JV.obj, JV.kind, JV.map]
theorem putM_len {β : Type} {m : List (Str × β)} {k : Str} {x : β} (h : ascM m) : (putM m k x).length ≤ m.length + 1 := by
  have key : ∀ {r : List (Str × β)}, (r.filter fun p => bl p.1 k).length + (r.filter fun p => bl k p.1).length ≤ r.length := by
    intro r
    induction r with
    | nil => simp
    | cons p r ih =>
      by_cases h1 : bl p.1 k = true
      · have h2 := bl_asymm h1
        simp [h1, h2]
        omega
      · by_cases h2 : bl k p.1 = true
        · simp [h1, h2]
          omega
        · simp [h1, h2]
          omega
  have := key (r := m)
  simp only [putM, List.length_append, List.length_singleton]
  omega
def putAll (m : List (Str × JV)) (k : Nat) : List (Str × JV) := (m.take k).foldl (fun a p => putM a p.1 p.2) []
theorem putAll_zero (m : List (Str × JV)) : putAll m 0 = [] := by simp [putAll]
theorem putAll_succ {m : List (Str × JV)} {k : Nat} {p : Str × JV} (h : m[k]? = some p) : putAll m (k + 1) = putM (putAll m k) p.1 p.2 := by
  have hlt := (List.getElem?_eq_some_iff.1 h).1
  rw [putAll, List.take_succ_eq_append_getElem hlt, (List.getElem?_eq_some_iff.1 h).2, List.foldl_append]
  rfl
theorem putAll_asc (m : List (Str × JV)) (k : Nat) : ascM (putAll m k) := by
  unfold putAll
  generalize m.take k = l
  suffices ∀ (l a : List (Str × JV)), ascM a → ascM (l.foldl (fun a p => putM a p.1 p.2) a) from this l [] List.Pairwise.nil
  intro l
  induction l with
  | nil => intro a h; exact h
  | cons p r ih => intro a h; exact ih _ (ascM_put h)
theorem putAll_len (m : List (Str × JV)) (k : Nat) : (putAll m k).length ≤ k := by
  induction k with
  | zero => simp [putAll]
  | succ k ih =>
    rcases Nat.lt_or_ge k m.length with h | h
    · rw [putAll_succ (List.getElem?_eq_getElem h)]
      have := putM_len (k := (m[k]).1) (x := (m[k]).2) (putAll_asc m k)
      omega
    · have : putAll m (k + 1) = putAll m k := by rw [putAll, putAll, List.take_of_length_le h, List.take_of_length_le (by omega)]
      rw [this]
      omega
end Go.Proofs.YtkhbnhdlelmbnaaGreatDoor.V

set_option linter.unusedVariables false
set_option linter.unusedSimpArgs false
namespace Go.Proofs.YtkhbnhdlelmbnaaGreatDoor.V
open Go
abbrev kCreate : Str := [109, 46, 114, 111, 111, 109, 46, 99, 114, 101, 97, 116, 101]
abbrev kThird : Str := [116, 104, 105, 114, 100, 95, 112, 97, 114, 116, 121, 95, 105, 110, 118, 105, 116, 101]
abbrev kSigned : Str := [115, 105, 103, 110, 101, 100]
abbrev k_member : Str := [109, 46, 114, 111, 111, 109, 46, 109, 101, 109, 98, 101, 114]
abbrev l_member : List Str := [[106, 111, 105, 110, 95, 97, 117, 116, 104, 111, 114, 105, 115, 101, 100, 95, 118, 105, 97, 95, 117, 115, 101, 114, 115, 95, 115, 101, 114, 118, 101, 114], [109, 101, 109, 98, 101, 114, 115, 104, 105, 112]]
abbrev k_join_rules : Str := [109, 46, 114, 111, 111, 109, 46, 106, 111, 105, 110, 95, 114, 117, 108, 101, 115]
abbrev l_join_rules : List Str := [[97, 108, 108, 111, 119], [106, 111, 105, 110, 95, 114, 117, 108, 101]]
abbrev k_power_levels : Str := [109, 46, 114, 111, 111, 109, 46, 112, 111, 119, 101, 114, 95, 108, 101, 118, 101, 108, 115]
abbrev l_power_levels : List Str := [[98, 97, 110], [101, 118, 101, 110, 116, 115], [101, 118, 101, 110, 116, 115, 95, 100, 101, 102, 97, 117, 108, 116], [105, 110, 118, 105, 116, 101], [107, 105, 99, 107], [114, 101, 100, 97, 99, 116], [115, 116, 97, 116, 101, 95, 100, 101, 102, 97, 117, 108, 116], [117, 115, 101, 114, 115], [117, 115, 101, 114, 115, 95, 100, 101, 102, 97, 117, 108, 116]]
abbrev k_history_visibility : Str := [109, 46, 114, 111, 111, 109, 46, 104, 105, 115, 116, 111, 114, 121, 95, 118, 105, 115, 105, 98, 105, 108, 105, 116, 121]
abbrev l_history_visibility : List Str := [[104, 105, 115, 116, 111, 114, 121, 95, 118, 105, 115, 105, 98, 105, 108, 105, 116, 121]]
abbrev k_redaction : Str := [109, 46, 114, 111, 111, 109, 46, 114, 101, 100, 97, 99, 116, 105, 111, 110]
abbrev l_redaction : List Str := [[114, 101, 100, 97, 99, 116, 115]]
def keptK (kind : Str) : List Str :=
  if kind = k_member then l_member else
  if kind = k_join_rules then l_join_rules else
  if kind = k_power_levels then l_power_levels else
  if kind = k_history_visibility then l_history_visibility else
  if kind = k_redaction then l_redaction else
  []
namespace JV
def putG (v : JV) (acc : List (Str × JV)) (k : Str) : List (Str × JV) := match v.get k with
  | some x => putM acc k x
  | none => acc
/-- the members of a content that stay, put one by one -/
def keep (v : JV) (K : List Str) : List (Str × JV) := K.foldl (putG v) []
def third (v : JV) : JV := (v.get kThird).getD nul
def contentM (kind : Str) (v : JV) : List (Str × JV) := match v.third.get kSigned with
  | some y => if kind = k_member then putM (v.keep (keptK kind)) kThird (obj [(kSigned, y)]) else v.keep (keptK kind)
  | none => v.keep (keptK kind)
/-- what the program's Content answers -/
def content (kind : Str) (v : JV) : JV := if kind = kCreate then v else obj (contentM kind v)
def stay0 (kind : Str) (p : Str × JV) : Option (Str × JV) := if p.1 ∈ keptK kind then some p else none
def stay (kind : Str) (p : Str × JV) : Option (Str × JV) :=
  if p.1 = kThird ∧ kind = k_member ∧ p.2.kind = 5 then match look p.2.map kSigned with
    | some y => some (p.1, obj [(kSigned, y)])
    | none => stay0 kind p
  else stay0 kind p
/-- .. and the document's -/
def contentR (kind : Str) (v : JV) : JV := if kind = kCreate then v else if v.kind ≠ 5 then obj [] else obj (v.map.filterMap (stay kind))
end JV
section
variable {β : Type}
theorem look_filterMap {f : Str × β → Option (Str × β)} (hf : ∀ p q, f p = some q → q.1 = p.1) : ∀ {m : List (Str × β)} {k : Str}, ascM m → look (m.filterMap f) k = ((look m k).bind fun x => f (k, x)).map (·.2)
  | [], k, _ => rfl
  | p :: r, k, h => by
    have ih := look_filterMap hf (m := r) (k := k) (List.Pairwise.of_cons h)
    cases hp : f p with
    | none =>
      rw [List.filterMap_cons_none hp, ih]
      by_cases hk : p.1 = k
      · subst hk
        have hn : look r p.1 = none := look_none_of fun j y hy e => by
          have := List.rel_of_pairwise_cons h (List.mem_of_getElem? hy)
          rw [e, bl_irrefl] at this
          cases this
        rw [hn, look, if_pos rfl]
        show _ = Option.map _ (f p)
        rw [hp]
        rfl
      · rw [look, if_neg hk]
    | some q =>
      rw [List.filterMap_cons_some hp, look]
      have hq := hf p q hp
      by_cases hk : p.1 = k
      · subst hk
        rw [if_pos hq, look, if_pos rfl]
        show _ = Option.map _ (f p)
        rw [hp]
        rfl
      · rw [if_neg (by rw [hq]; exact hk), ih, look, if_neg hk]
theorem ascM_filterMap {f : Str × β → Option (Str × β)} (hf : ∀ p q, f p = some q → q.1 = p.1) {m : List (Str × β)} (h : ascM m) : ascM (m.filterMap f) := by
  unfold ascM at h ⊢
  rw [List.pairwise_filterMap]
  refine h.imp ?_
  intro a b hab c hc d hd
  rw [hf a c hc, hf b d hd]
  exact hab
end
namespace JV
theorem stay0_key {kind : Str} {p q : Str × JV} (h : stay0 kind p = some q) : q.1 = p.1 := by
  unfold stay0 at h
  split at h
  · injection h with h; rw [h]
  · cases h
theorem stay_key (kind : Str) (p q : Str × JV) (h : stay kind p = some q) : q.1 = p.1 := by
  unfold stay at h
  split at h
  · split at h
    · injection h with h; rw [← h]
    · exact stay0_key h
  · exact stay0_key h
theorem putG_asc {v : JV} {a : List (Str × JV)} {k : Str} (h : ascM a) : ascM (putG v a k) := by
  unfold putG
  split
  · exact ascM_put h
  · exact h
theorem foldG_asc {v : JV} : ∀ {K : List Str} {a : List (Str × JV)}, ascM a → ascM (K.foldl (putG v) a)
  | [], a, h => h
  | k :: K, a, h => foldG_asc (K := K) (a := putG v a k) (putG_asc h)
theorem keep_asc (v : JV) (K : List Str) : ascM (v.keep K) := foldG_asc List.Pairwise.nil
theorem look_putG {v : JV} {a : List (Str × JV)} {k k' : Str} : look (putG v a k) k' = if k' = k then (v.get k).or (look a k') else look a k' := by
  unfold putG
  cases h : v.get k with
  | none => simp
  | some x =>
    simp only [look_put]
    by_cases hk : k' = k <;> simp [hk]
theorem look_foldG {v : JV} {k' : Str} : ∀ {K : List Str} {a : List (Str × JV)}, look (K.foldl (putG v) a) k' = if k' ∈ K then (v.get k').or (look a k') else look a k'
  | [], a => by simp
  | k :: K, a => by
    rw [List.foldl_cons, look_foldG, look_putG]
    by_cases hk : k' = k
    · subst hk
      by_cases h : k' ∈ K <;> simp [h]
      cases v.get k' <;> simp
    · by_cases h : k' ∈ K <;> simp [h, hk]
theorem look_keep {v : JV} {k' : Str} {K : List Str} : look (v.keep K) k' = if k' ∈ K then v.get k' else none := by
  rw [keep, look_foldG]
  simp [look]
theorem content_eq {kind : Str} {v : JV} (h : ascM v.map) : content kind v = contentR kind v := by
  unfold content contentR
  split
  · rfl
  · by_cases h5 : v.kind = 5
    · rw [if_neg (by simp [h5])]
      congr 1
      refine ascM_ext ?_ (ascM_filterMap (stay_key kind) h) fun k => ?_
      · unfold contentM
        split
        · split
          · exact ascM_put (keep_asc _ _)
          · exact keep_asc _ _
        · exact keep_asc _ _
      · rw [look_filterMap (stay_key kind) h]
        have hg : ∀ k, v.get k = look v.map k := fun k => by simp [JV.get, h5]
        have hk0 : ∀ x, (stay0 kind (k, x)).map (·.2) = if k ∈ keptK kind then some x else none := fun x => by
          unfold stay0
          split <;> simp_all
        have hkeep : look (v.keep (keptK kind)) k = (look v.map k).bind fun x => (stay0 kind (k, x)).map (·.2) := by
          rw [look_keep, hg]
          cases look v.map k with
          | none => simp
          | some x => simp only [Option.bind_some, hk0]
        by_cases hkt : k = kThird
        · subst hkt
          cases hl : look v.map kThird with
          | none =>
            have ht : v.third.get kSigned = none := by simp [third, hg, hl, JV.get, nul, JV.kind]
            simp only [contentM, ht, hkeep, hl]
            rfl
          | some x =>
            have ht : v.third = x := by simp [third, hg, hl]
            have hx : v.third.get kSigned = if x.kind = 5 then look x.map kSigned else none := by rw [ht]; rfl
            simp only [Option.bind_some]
            by_cases hx5 : x.kind = 5
            · rw [if_pos hx5] at hx
              cases hy : look x.map kSigned with
              | none =>
                rw [hy] at hx
                have hs : stay kind (kThird, x) = stay0 kind (kThird, x) := by
                  unfold stay
                  split
                  · simp [hy]
                  · rfl
                simp only [contentM, hx, hkeep, hl, hs]
                rfl
              | some y =>
                rw [hy] at hx
                by_cases hm : kind = k_member
                · have hs : stay kind (kThird, x) = some (kThird, obj [(kSigned, y)]) := by
                    unfold stay
                    rw [if_pos ⟨rfl, hm, hx5⟩]
                    simp [hy]
                  simp only [contentM, hx, if_pos hm, look_put, hs]
                  simp
                · have hs : stay kind (kThird, x) = stay0 kind (kThird, x) := by
                    unfold stay
                    rw [if_neg (fun e => hm e.2.1)]
                  simp only [contentM, hx, if_neg hm, hkeep, hl, hs]
                  rfl
            · rw [if_neg hx5] at hx
              have hs : stay kind (kThird, x) = stay0 kind (kThird, x) := by
                unfold stay
                rw [if_neg (fun e => hx5 e.2.2)]
              simp only [contentM, hx, hkeep, hl, hs]
              rfl
        · have hs : ∀ x, stay kind (k, x) = stay0 kind (k, x) := fun x => by
            unfold stay
            rw [if_neg (fun e => hkt e.1)]
          have hc : look (contentM kind v) k = look (v.keep (keptK kind)) k := by
            unfold contentM
            split
            · split
              · rw [look_put, if_neg hkt]
              · rfl
            · rfl
          rw [hc, hkeep]
          cases look v.map k with
          | none => simp
          | some x => simp only [Option.bind_some, hs]
    · rw [if_pos h5]
      have hg : ∀ k, v.get k = none := fun k => by simp [JV.get, h5]
      have ht : v.third.get kSigned = none := by
        have : v.third = nul := by simp [third, hg]
        rw [this]
        simp [JV.get, nul, JV.kind]
      have hK : ∀ K : List Str, v.keep K = [] := fun K => by
        refine ascM_ext (keep_asc v K) List.Pairwise.nil fun k => ?_
        rw [look_keep, hg]
        simp [look]
      congr 1
      simp [contentM, ht, hK]
end JV
end Go.Proofs.YtkhbnhdlelmbnaaGreatDoor.V

set_option linter.unusedVariables false
set_option linter.unusedSimpArgs false
namespace Go.Proofs.YtkhbnhdlelmbnaaGreatDoor.V
open Go
theorem strs_blk {A : List Nat} {w : World} {g e : Nat} {xs : List Str} (B : Blk w g e (xs.map S)) (hl : xs.length ≤ 1000) (hA : g ∉ A) : Rep A w (strD xs) (.slice (some ⟨g, 0, none⟩) xs.length xs.length) := by
  have hf : ∀ ys : List Str, (ys.map fun s => [S s]).flatten = ys.map S := fun ys => by
    induction ys with
    | nil => rfl
    | cons a r ih => simp [ih]
  have O : Own w e 1 (.slice (some ⟨g, 0, none⟩) xs.length xs.length) xs.length ((xs.map fun s => [S s]).flatten) := by
    rw [hf]
    exact Own.all B (by simp) (by omega)
  exact Own.flat O (fun _ _ => rfl) (fun x _ c hc => by simp at hc; subst hc; rfl) rfl (by simpa [ob] using hA)
theorem gt_bl (a b : Str) : (!(bl a b || a == b)) = bl b a := by
  rcases bl_total a b with h | h | h
  · rw [h, bl_asymm h]; rfl
  · subst h; simp [bl_irrefl]
  · rw [h, bl_asymm h]
    have hne : (a == b) = false := by
      cases he : a == b with
      | false => rfl
      | true => have := eq_of_beq he; subst this; rw [bl_irrefl] at h; cases h
    simp [hne]
theorem flt_len {β : Type} {k : Str} : ∀ {r : List (Str × β)}, (r.filter fun p => bl p.1 k).length + (r.filter fun p => bl k p.1).length ≤ r.length
  | [] => by simp
  | p :: r => by
    have ih := flt_len (k := k) (r := r)
    by_cases h1 : bl p.1 k = true
    · have h2 := bl_asymm h1
      simp [h1, h2]
      omega
    · by_cases h2 : bl k p.1 = true
      · simp [h1, h2]
        omega
      · simp [h1, h2]
        omega
theorem flt_take {β : Type} {q : Str × β → Bool} {m : List (Str × β)} {k : Nat} : ((m.take k).filter q).length ≤ (m.filter q).length := ((List.take_sublist k m).filter q).length_le
end Go.Proofs.YtkhbnhdlelmbnaaGreatDoor.V

set_option linter.unusedVariables false
set_option linter.unusedSimpArgs false
namespace Go.Proofs.YtkhbnhdlelmbnaaGreatDoor.V
open Go
def jrS : Str := [109, 46, 114, 111, 111, 109, 46, 106, 111, 105, 110, 95, 114, 117, 108, 101, 115]
def tpS : Str := [109, 46, 114, 111, 111, 109, 46, 116, 104, 105, 114, 100, 95, 112, 97, 114, 116, 121, 95, 105, 110, 118, 105, 116, 101]
def kMem : Str := [109, 101, 109, 98, 101, 114, 115, 104, 105, 112]
def joS : Str := [106, 111, 105, 110]
def inS : Str := [105, 110, 118, 105, 116, 101]
def knS : Str := [107, 110, 111, 99, 107]
def kTpi : Str := [116, 104, 105, 114, 100, 95, 112, 97, 114, 116, 121, 95, 105, 110, 118, 105, 116, 101]
def kSgn : Str := [115, 105, 103, 110, 101, 100]
def kTok : Str := [116, 111, 107, 101, 110]
def kBy : Str := [106, 111, 105, 110, 95, 97, 117, 116, 104, 111, 114, 105, 115, 101, 100, 95, 118, 105, 97, 95, 117, 115, 101, 114, 115, 95, 115, 101, 114, 118, 101, 114]
namespace JV
def sub (v : JV) (k : Str) : JV := (v.get k).getD nul
def txt (v : JV) : Str := if v.kind = 3 then v.str else []
def text (v : JV) (ks : List Str) : Str := (ks.foldl sub v).txt
theorem ok_map {v : JV} (h : v.ok) : v.map.length ≤ 1353245080310 := by have := ((ok_eq v).1 h).2.2.1; omega
end JV
namespace JV
def step (v : JV) (ks : List Str) (k : Nat) : JV := (ks.take k).foldl sub v
end JV
/-! ### pairs in order, each once -/
/-- what the document's with answers -/
def withP (l : List Pair) (p : Pair) : List Pair := l.filter (fun x => plt x p) ++ [p] ++ l.filter (fun x => plt p x)
theorem foldW_snoc {m : List Pair} {p : Pair} : (m ++ [p]).foldl withP [] = withP (m.foldl withP []) p := by rw [List.foldl_append]; rfl
theorem Own.w_ {w : World} {e : Nat} {v : Value} {m m' : List Pair} {p : Pair} (h : Own w e 2 v (withP (m.foldl withP []) p).length (((withP (m.foldl withP []) p).map Pair.cells).flatten)) (hm : m ++ [p] = m') : Own w e 2 v (m'.foldl withP []).length (((m'.foldl withP []).map Pair.cells).flatten) := by
  subst hm
  rw [foldW_snoc]
  exact h
theorem Own.w1 {w : World} {e : Nat} {v : Value} {p : Pair} (h : Own w e 2 v 1 p.cells) : Rep [] w (pairsD ([p].foldl withP [])) v := Own.pairs (xs := [p]) [] h (by simp)
/-- doubled neighbours left out, behind p -/
def dn : Pair → List Pair → List Pair
  | _, [] => []
  | p, x :: r => if x = p then dn x r else x :: dn x r
def dd : List Pair → List Pair
  | [] => []
  | a :: r => a :: dn a r
namespace EV
def hw (e : EV) : Str := e.con.text [kMem]
def tok (e : EV) : Str := e.con.text [kTpi, kSgn, kTok]
def byw (e : EV) : Str := e.con.text [kBy]
/-- what a member event needs besides -/
def more (e : EV) : List Pair :=
  if e.hw = joS then ⟨jrS, []⟩ :: if e.byw = [] then [] else [⟨mbS, e.byw⟩]
  else if e.hw = inS then ⟨jrS, []⟩ :: if e.tok = [] then [] else [⟨tpS, e.tok⟩]
  else if e.hw = knS then [⟨jrS, []⟩]
  else []
def needs (e : EV) : List Pair := ndP e.snd ++ if e.ty = mbS then ⟨mbS, e.key⟩ :: e.more else []
def need (e : EV) : List Pair := if e.ty = crS then [] else dd (isortP e.needs e.needs.length)
end EV
end Go.Proofs.YtkhbnhdlelmbnaaGreatDoor.V

set_option linter.unusedVariables false
set_option linter.unusedSimpArgs false
namespace Go.Proofs.YtkhbnhdlelmbnaaGreatDoor.V
open Go
theorem Own.strs {w : World} {e : Nat} {v : Value} {l : List Str} (A : List Nat) (h : Own w e 1 v l.length ((l.map fun s => [S s]).flatten)) (hA : ∀ x ∈ ob v, x ∉ A) : Rep A w (strD l) v := Own.flat h (fun _ _ => rfl) (fun x _ c hc => by simp at hc; subst hc; rfl) rfl hA
namespace EV
abbrev pr (e : EV) : Pair := ⟨e.ty, e.key⟩
/-- each state, each needed, no pair twice -/
def gd (need : List Pair) (l : List EV) : Prop := (∀ x ∈ l, x.st = true ∧ x.pr ∈ need) ∧ (l.map pr).Nodup
open Classical in
/-- may an event name these? -/
noncomputable def right (e : EV) (l : List EV) : Bool := decide (gd e.need l ∧ (e.ty = crS ∨ ∃ x ∈ l, x.ty = crS))
end EV
end Go.Proofs.YtkhbnhdlelmbnaaGreatDoor.V

set_option linter.unusedVariables false
set_option linter.unusedSimpArgs false
namespace Go.Proofs.YtkhbnhdlelmbnaaGreatDoor.V
open Go
def shortB (s : Str) : Bool := decide ((s.length : Int) ≤ 255) && validR s
def numB (n : Int) : Bool := decide (0 ≤ n) && decide (n ≤ 9007199254740991)
def sigB (s : Sig3) : Bool := serverB s.srv && keyB s.key && bytesB s.sig 64
/-- does a signature not rise from the one ahead of it? -/
def sigBad (p s : Sig3) : Bool := !(bl p.srv s.srv || p.srv == s.srv) || (decide (p.srv = s.srv) && !bl p.key s.key)
def okP (p : Option Sig3) (s : Sig3) : Bool := match p with
  | none => true
  | some q => !sigBad q s
def sigsL : Option Sig3 → List Sig3 → Bool
  | _, [] => true
  | p, s :: r => sigB s && okP p s && sigsL (some s) r
def prevS (l : List Sig3) (k : Nat) : Option Sig3 := if k = 0 then none else l[k - 1]?
theorem sigsL_at {l : List Sig3} {k : Nat} {s : Sig3} (h : l[k]? = some s) : sigsL (prevS l k) (l.drop k) = (sigB s && okP (prevS l k) s && sigsL (prevS l (k + 1)) (l.drop (k + 1))) := by
  obtain ⟨hk, rfl⟩ := List.getElem?_eq_some_iff.1 h
  have h2 : prevS l (k + 1) = some l[k] := by simp [prevS, hk]
  rw [List.drop_eq_getElem_cons hk, h2, sigsL]
theorem sigsL_end {l : List Sig3} {k : Nat} (h : l.length ≤ k) (p : Option Sig3) : sigsL p (l.drop k) = true := by
  rw [List.drop_eq_nil_of_le h, sigsL]
theorem okP_0 {l : List Sig3} {k : Nat} {s : Sig3} (h : k = 0) : okP (prevS l k) s = true := by subst h; rfl
theorem okP_at {l : List Sig3} {k : Nat} {s q : Sig3} (hq : l[k - 1]? = some q) (h : 0 < k) : okP (prevS l k) s = !sigBad q s := by
  unfold prevS
  rw [if_neg (by omega), hq]
  rfl
/-- the texts that are looked for a colon aren't too long -/
def EV.lens (e : EV) : Prop := e.room.length < 4294967281 ∧ e.snd.length < 4294967281 ∧ ∀ s ∈ e.sigs, s.srv.length < 4294967281
namespace EV
def fine1 (e : EV) : Bool := namedB 33 qRoom e.room && namedB 64 qUser e.snd && decide (e.ty ≠ []) && shortB e.ty && shortB e.key && (e.st || decide (e.key = []))
noncomputable def fine2 (e : EV) : Bool := e.fine1 && decide (e.con.kind = 5) && decide (ern (e.con.wr 0 []) = 0) && numB e.dep && numB e.time && bytesB e.hash 32 && sigsL none e.sigs
noncomputable def fine (e : EV) : Bool := e.fine2 && (e.prev ++ e.auth).all eventB
/-- can it be? -/
noncomputable def chk (e : EV) : Int := if 20 < e.prev.length ∨ 10 < e.auth.length then 22 else if e.fine = true then 0 else 21
theorem chk_many {e : EV} (h : 20 < e.prev.length ∨ 10 < e.auth.length) : e.chk = 22 := if_pos h
theorem chk_no {e : EV} (h : ¬ (20 < e.prev.length ∨ 10 < e.auth.length)) (hf : e.fine = false) : e.chk = 21 := by unfold chk; rw [if_neg h, if_neg (by simp [hf])]
theorem chk_yes {e : EV} (h : ¬ (20 < e.prev.length ∨ 10 < e.auth.length)) (hf : e.fine = true) : e.chk = 0 := by unfold chk; rw [if_neg h, if_pos hf]
theorem addW_ge : ∀ (l : List Nat) (n most : Nat), n ≤ addW l n most
  | [], n, _ => Nat.le_refl n
  | x :: r, n, most => by
    unfold addW
    split
    · exact Nat.le_trans (Nat.le_add_right n x) (addW_ge r (n + x) most)
    · exact Nat.le_refl n
theorem addW_mem : ∀ (l : List Nat) (n most : Nat), addW l n most ≤ most → ∀ x ∈ l, x ≤ most
  | y :: r, n, most, h, x, hx => by
    unfold addW at h
    split at h
    · have h1 := addW_ge r (n + y) most
      rcases List.mem_cons.1 hx with rfl | hx
      · omega
      · exact addW_mem r (n + y) most h x hx
    · omega
theorem lens_of {e : EV} (h : e.great 8192 = false) : e.lens := by
  unfold great at h
  simp only [Bool.or_eq_false_iff, decide_eq_false_iff_not] at h
  have h3 : e.n3 8192 ≤ 8192 := by omega
  have h2 : e.n2 8192 ≤ e.n3 8192 := addW_ge _ _ _
  have h1 : e.n1 8192 ≤ e.n2 8192 := addW_ge _ _ _
  have h0 : e.n0 ≤ e.n1 8192 := addW_ge _ _ _
  have hr : e.room.length + e.snd.length ≤ e.n0 := by unfold n0; omega
  refine ⟨by omega, by omega, fun s hs => ?_⟩
  have := addW_mem _ _ _ h3 _ (List.mem_map_of_mem hs)
  omega
def names (e : EV) : Bool := namedB 33 qRoom e.room && namedB 64 qUser e.snd && decide (e.ty ≠ []) && shortB e.ty && shortB e.key
def nums (e : EV) : Bool := numB e.dep && numB e.time
theorem fine_eq (e : EV) : e.fine = (e.names && e.nums && (e.st || decide (e.key = [])) && decide (e.con.kind = 5) && decide (ern (e.con.wr 0 []) = 0) && bytesB e.hash 32 && sigsL none e.sigs && e.prev.all eventB && e.auth.all eventB) := by
  unfold fine fine2 fine1 names nums
  rw [List.all_append]
  generalize namedB 33 qRoom e.room = a1
  generalize namedB 64 qUser e.snd = a2
  generalize decide (e.ty ≠ []) = a3
  generalize shortB e.ty = a4
  generalize shortB e.key = a5
  generalize (e.st || decide (e.key = [])) = a6
  generalize decide (e.con.kind = 5) = a7
  generalize decide (ern (e.con.wr 0 []) = 0) = a8
  generalize numB e.dep = a9
  generalize numB e.time = a10
  generalize bytesB e.hash 32 = a11
  generalize sigsL none e.sigs = a12
  generalize e.prev.all eventB = a13
  generalize e.auth.all eventB = a14
  ac_rfl
theorem fine_prev {e : EV} (h : e.prev.all eventB = false) : e.fine = false := by rw [fine_eq, h]; simp
theorem fine_auth {e : EV} (h : e.auth.all eventB = false) : e.fine = false := by rw [fine_eq, h]; simp
theorem fine_sigs {e : EV} (h : sigsL none e.sigs = false) : e.fine = false := by rw [fine_eq, h]; simp
end EV
theorem all_succ2 {α : Type} {l : List α} {k : Nat} {y : α} (f : α → Bool) (h : l[k]? = some y) : (l.take (k + 1)).all f = ((l.take k).all f && f y) := by
  have hlt := (List.getElem?_eq_some_iff.1 h).1
  rw [List.take_succ_eq_append_getElem hlt, (List.getElem?_eq_some_iff.1 h).2, List.all_append]
  simp
theorem all_bad {α : Type} {l : List α} {k : Nat} {y : α} (f : α → Bool) (h : l[k]? = some y) (hf : f y = false) : l.all f = false := by
  rw [List.all_eq_false]
  exact ⟨y, List.mem_of_getElem? h, by simp [hf]⟩
theorem Rep.mod0 {A : List Nat} {w w' : World} {d : D} {u : Value} (R : Rep A w d u) (k : Mod [] w w') : Rep A w' d u := R.to0 k
end Go.Proofs.YtkhbnhdlelmbnaaGreatDoor.V
