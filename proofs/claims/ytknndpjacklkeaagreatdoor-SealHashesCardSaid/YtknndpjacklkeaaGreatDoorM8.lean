/-
  A part of the proof: the model's reading of a rune, and the document's: the same; the rest of a slice of the call's own is cleared; a drawn region's end with two slots of which something is known; panics that go through a call; a range over a string; bits of bytes; the letter behind a backslash; a text between quotes, rune by rune; the operations that make the bytes of a rune. No condition of its own.
-/
import Derived.Test.YtknndpjacklkeaaGreatDoorM4
import Derived.Laws.RangeString
import Derived.Test.YtknndpjacklkeaaGreatDoorM3
import Derived.Test.YtknndpjacklkeaaGreatDoorM6
import Derived.WalkSmall
import Derived.Test.YtknndpjacklkeaaGreatDoorM7
set_option linter.unusedVariables false
set_option linter.unusedSimpArgs false
namespace Go.Proofs.YtknndpjacklkeaaGreatDoor.V
open Go
def atL (l : Str) (k : Nat) : Nat := (l.getD k 0).toNat
def contL (l : Str) (k : Nat) : Bool := decide (k < l.length) && atL l k / 64 == 2
def decL (l : Str) : Nat × Nat :=
 if atL l 0 < 0x80 then (atL l 0, 1)
 else if atL l 0 / 32 == 6 && contL l 1 then
  if (atL l 0 % 32) * 64 + atL l 1 % 64 ≥ 0x80 then ((atL l 0 % 32) * 64 + atL l 1 % 64, 2) else (65533, 1)
 else if atL l 0 / 16 == 14 && contL l 1 && contL l 2 then
  if (atL l 0 % 16) * 4096 + (atL l 1 % 64) * 64 + atL l 2 % 64 ≥ 0x800 && Utf8.valid ((atL l 0 % 16) * 4096 + (atL l 1 % 64) * 64 + atL l 2 % 64 : Nat) then ((atL l 0 % 16) * 4096 + (atL l 1 % 64) * 64 + atL l 2 % 64, 3) else (65533, 1)
 else if atL l 0 / 8 == 30 && contL l 1 && contL l 2 && contL l 3 then
  if (atL l 0 % 8) * 262144 + (atL l 1 % 64) * 4096 + (atL l 2 % 64) * 64 + atL l 3 % 64 ≥ 0x10000 && Utf8.valid ((atL l 0 % 8) * 262144 + (atL l 1 % 64) * 4096 + (atL l 2 % 64) * 64 + atL l 3 % 64 : Nat) then ((atL l 0 % 8) * 262144 + (atL l 1 % 64) * 4096 + (atL l 2 % 64) * 64 + atL l 3 % 64, 4) else (65533, 1)
 else (65533, 1)
theorem get_at (s : Str) (i k : Nat) : ((⟨⟨s⟩⟩ : ByteArray).get! (i + k)).toNat = atL (s.drop i) k := by
 show ((⟨s⟩ : Array UInt8)[i + k]!).toNat = _
 unfold atL
 congr 1
 rw [List.getD_eq_getElem?_getD, List.getElem?_drop]
 by_cases h : i + k < s.length
 ·rw [getElem!_pos (⟨s⟩ : Array UInt8) (i + k) h]
  simp [h]
 ·rw [getElem!_neg (⟨s⟩ : Array UInt8) (i + k) h, List.getElem?_eq_none (by omega)]
  rfl
theorem cont_at (s : Str) (i k : Nat) : (decide (i + k < (⟨⟨s⟩⟩ : ByteArray).size) && atL (s.drop i) k / 64 == 2) = contL (s.drop i) k := by
 unfold contL
 have hs : (⟨⟨s⟩⟩ : ByteArray).size = s.length := rfl
 rw [hs, List.length_drop]
 congr 1
 by_cases h : i + k < s.length
 ·rw [decide_eq_true h, decide_eq_true (by omega)]
 ·rw [decide_eq_false h, decide_eq_false (by omega)]
theorem decode_eq (s : Str) (i : Nat) : Utf8.decode ⟨⟨s⟩⟩ i = decL (s.drop i) := by
 unfold Utf8.decode
 simp only [get_at, cont_at, Utf8.runeError]
 rfl
theorem valid_nat (c : Nat) : Utf8.valid (c : Int) = decide (c < 55296 ∨ (57344 ≤ c ∧ c ≤ 1114111)) := by
 unfold Utf8.valid
 rw [Bool.eq_iff_iff]
 simp only [Bool.or_eq_true, Bool.and_eq_true, decide_eq_true_eq]
 omega
def encL (c : Nat) : List Nat :=
 if c < 128 then [c] else if c < 2048 then [192 + c / 64, 128 + c % 64] else if c < 65536 then [224 + c / 4096, 128 + c / 64 % 64, 128 + c % 64] else [240 + c / 262144, 128 + c / 4096 % 64, 128 + c / 64 % 64, 128 + c % 64]
def okR (l : Str) : Prop := ((runeR l).2 = 0 ∧ decL l = (65533, 1)) ∨ ((runeR l).2 ≠ 0 ∧ decL l = runeR l ∧ (l.take (runeR l).2).map UInt8.toNat = encL (runeR l).1 ∧ (runeR l).1 ≤ 1114111 ∧ ¬ (55296 ≤ (runeR l).1 ∧ (runeR l).1 ≤ 57343) ∧ (runeR l).2 ≤ 4)
theorem dec_fail {l : Str} (h0 : ¬ atL l 0 < 128) (h1 : (atL l 0 / 32 == 6 && contL l 1) = false) (h2 : (atL l 0 / 16 == 14 && contL l 1 && contL l 2) = false) (h3 : (atL l 0 / 8 == 30 && contL l 1 && contL l 2 && contL l 3) = false) : decL l = (65533, 1) := by
 unfold decL
 rw [if_neg h0, h1, h2, h3]
 rfl
theorem beq_no {a b : Nat} (h : a ≠ b) : (a == b) = false := by simp [h]
theorem ok_one {b0 : UInt8} {r : Str} (h : b0.toNat < 128) : okR (b0 :: r) := by
 refine .inr ?_
 have hd : decL (b0 :: r) = (b0.toNat, 1) := by unfold decL; rw [if_pos (by simpa [atL] using h)]; rfl
 rw [runeR_small h, hd]
 refine ⟨by simp, rfl, by simp [encL, h], by dsimp only; omega, by dsimp only; omega, by simp⟩
theorem ok_none {b0 : UInt8} {r : Str} (h : 128 ≤ b0.toNat) (h' : b0.toNat < 192 ∨ 248 ≤ b0.toNat) : okR (b0 :: r) := by
 have hb := b0.toNat_lt
 have ha : atL (b0 :: r) 0 = b0.toNat := rfl
 have hH : runeH b0.toNat = (0, 0, b0.toNat) := by unfold runeH; rw [if_neg (by omega), if_neg (by omega), if_neg (by omega)]
 refine .inl ⟨by rw [runeR_short (by omega) hH (.inl rfl)], dec_fail (by omega) ?_ ?_ ?_⟩
 ·rw [ha, beq_no (by omega)]; rfl
 ·rw [ha, beq_no (by omega)]; rfl
 ·rw [ha, beq_no (by omega)]; rfl
theorem cont_iff {l : Str} {k : Nat} {b : UInt8} (h : l[k]? = some b) : contL l k = decide (128 ≤ b.toNat ∧ b.toNat < 192) ∧ atL l k = b.toNat := by
 obtain ⟨hk, rfl⟩ := List.getElem?_eq_some_iff.1 h
 have ha : atL l k = (l[k]).toNat := by simp [atL, hk]
 refine ⟨?_, ha⟩
 unfold contL
 rw [ha, decide_eq_true hk, Bool.eq_iff_iff]
 simp only [Bool.true_and, beq_iff_eq, decide_eq_true_eq]
 omega
theorem cont_no {l : Str} {k : Nat} (h : l.length ≤ k) : contL l k = false := by
 unfold contL
 rw [decide_eq_false (by omega)]
 rfl
theorem runeC_bad {b : UInt8} {r : Str} {c : Nat} (h : ¬ (128 ≤ b.toNat ∧ b.toNat < 192)) : runeC (b :: r) c = none := by rw [runeC, if_pos (by omega)]
theorem runeC_ok {b : UInt8} {r : Str} {c : Nat} (h : 128 ≤ b.toNat ∧ b.toNat < 192) : runeC (b :: r) c = runeC r (c * 64 + b.toNat % 64) := by rw [runeC, if_neg (by omega)]
theorem ok_two {b0 : UInt8} {r : Str} (h : 192 ≤ b0.toNat) (h' : b0.toNat < 224) : okR (b0 :: r) := by
 have ha : atL (b0 :: r) 0 = b0.toNat := rfl
 have hH : runeH b0.toNat = (2, 128, b0.toNat % 32) := by unfold runeH; rw [if_pos (by omega)]
 have e1 : (b0.toNat / 32 == 6) = true := by simp; omega
 have e2 : (b0.toNat / 16 == 14) = false := beq_no (by omega)
 have e3 : (b0.toNat / 8 == 30) = false := beq_no (by omega)
 have hf : contL (b0 :: r) 1 = false → decL (b0 :: r) = (65533, 1) := fun hc => dec_fail (by omega) (by rw [hc, Bool.and_false]) (by rw [ha, e2]; rfl) (by rw [ha, e3]; rfl)
 cases r with
 | nil => exact .inl ⟨by rw [runeR_short (by omega) hH (.inr (by simp))], hf (cont_no (by simp))⟩
 | cons b1 r =>
  obtain ⟨hc1, ha1⟩ := cont_iff (l := b0 :: b1 :: r) (k := 1) (b := b1) rfl
  have hln : ¬ (2 = 0 ∨ (b0 :: b1 :: r).length < 2) := by simp
  have htk : (b1 :: r).take (2 - 1) = [b1] := rfl
  by_cases hb : 128 ≤ b1.toNat ∧ b1.toNat < 192
  ·have hrc : runeC ((b1 :: r).take (2 - 1)) (b0.toNat % 32) = some (b0.toNat % 32 * 64 + b1.toNat % 64) := by rw [htk, runeC_ok hb]; rfl
   have hd : decL (b0 :: b1 :: r) = if b0.toNat % 32 * 64 + b1.toNat % 64 ≥ 128 then (b0.toNat % 32 * 64 + b1.toNat % 64, 2) else (65533, 1) := by
    unfold decL
    rw [if_neg (by omega), ha, ha1, e1, hc1, decide_eq_true hb]
    rfl
   by_cases hv : b0.toNat % 32 * 64 + b1.toNat % 64 ≥ 128
   ·have hR := runeR_good (by omega) hH hln hrc (by omega)
    refine .inr ?_
    rw [hR, hd, if_pos hv]
    refine ⟨by simp, rfl, ?_, by dsimp only; omega, by dsimp only; omega, by simp⟩
    unfold encL
    rw [if_neg (by dsimp only; omega), if_pos (by dsimp only; omega)]
    simp only [List.take_succ_cons, List.take_zero, List.map_cons, List.map_nil, List.cons.injEq, and_true]
    omega
   ·exact .inl ⟨by rw [runeR_bad (by omega) hH hln hrc (by omega)], by rw [hd, if_neg hv]⟩
  ·exact .inl ⟨by rw [runeR_none (by omega) hH hln (by rw [htk, runeC_bad hb])], hf (by rw [hc1, decide_eq_false hb])⟩
theorem ok_three {b0 : UInt8} {r : Str} (h : 224 ≤ b0.toNat) (h' : b0.toNat < 240) : okR (b0 :: r) := by
 have ha : atL (b0 :: r) 0 = b0.toNat := rfl
 have hH : runeH b0.toNat = (3, 2048, b0.toNat % 16) := by unfold runeH; rw [if_neg (by omega), if_pos (by omega)]
 have e1 : (b0.toNat / 32 == 6) = false := beq_no (by omega)
 have e2 : (b0.toNat / 16 == 14) = true := by simp; omega
 have e3 : (b0.toNat / 8 == 30) = false := beq_no (by omega)
 have hf : (contL (b0 :: r) 1 && contL (b0 :: r) 2) = false → decL (b0 :: r) = (65533, 1) := fun hc => dec_fail (by omega) (by rw [ha, e1]; rfl) (by rw [Bool.and_assoc, hc, Bool.and_false]) (by rw [ha, e3]; rfl)
 match r with
 | [] => exact .inl ⟨by rw [runeR_short (by omega) hH (.inr (by simp))], hf (by rw [cont_no (by simp)]; rfl)⟩
 | [b1] => exact .inl ⟨by rw [runeR_short (by omega) hH (.inr (by simp))], hf (by rw [cont_no (k := 2) (by simp), Bool.and_false])⟩
 | b1 :: b2 :: r =>
  obtain ⟨hc1, ha1⟩ := cont_iff (l := b0 :: b1 :: b2 :: r) (k := 1) (b := b1) rfl
  obtain ⟨hc2, ha2⟩ := cont_iff (l := b0 :: b1 :: b2 :: r) (k := 2) (b := b2) rfl
  have hln : ¬ (3 = 0 ∨ (b0 :: b1 :: b2 :: r).length < 3) := by simp
  have htk : (b1 :: b2 :: r).take (3 - 1) = [b1, b2] := rfl
  by_cases hb : 128 ≤ b1.toNat ∧ b1.toNat < 192
  ·by_cases hb2 : 128 ≤ b2.toNat ∧ b2.toNat < 192
   ·have hrc : runeC ((b1 :: b2 :: r).take (3 - 1)) (b0.toNat % 16) = some ((b0.toNat % 16 * 64 + b1.toNat % 64) * 64 + b2.toNat % 64) := by rw [htk, runeC_ok hb, runeC_ok hb2]; rfl
    have hd : decL (b0 :: b1 :: b2 :: r) = if (b0.toNat % 16 * 4096 + b1.toNat % 64 * 64 + b2.toNat % 64 ≥ 2048 && Utf8.valid (b0.toNat % 16 * 4096 + b1.toNat % 64 * 64 + b2.toNat % 64 : Nat)) = true then (b0.toNat % 16 * 4096 + b1.toNat % 64 * 64 + b2.toNat % 64, 3) else (65533, 1) := by
     unfold decL
     rw [if_neg (by omega), ha, ha1, ha2, e1, e2, hc1, hc2, decide_eq_true hb, decide_eq_true hb2]
     rfl
    rw [valid_nat] at hd
    by_cases hv : (b0.toNat % 16 * 64 + b1.toNat % 64) * 64 + b2.toNat % 64 < 2048 ∨ 1114111 < (b0.toNat % 16 * 64 + b1.toNat % 64) * 64 + b2.toNat % 64 ∨ (55296 ≤ (b0.toNat % 16 * 64 + b1.toNat % 64) * 64 + b2.toNat % 64 ∧ (b0.toNat % 16 * 64 + b1.toNat % 64) * 64 + b2.toNat % 64 ≤ 57343)
    ·refine .inl ⟨by rw [runeR_bad (by omega) hH hln hrc hv], ?_⟩
     rw [hd, if_neg]
     simp only [Bool.and_eq_true, decide_eq_true_eq]
     omega
    ·have hR := runeR_good (by omega) hH hln hrc hv
     refine .inr ?_
     rw [hR, hd, if_pos (by simp only [Bool.and_eq_true, decide_eq_true_eq]; omega)]
     refine ⟨by simp, by simp only [Prod.mk.injEq, and_true]; omega, ?_, by dsimp only; omega, by dsimp only; omega, by simp⟩
     unfold encL
     rw [if_neg (by dsimp only; omega), if_neg (by dsimp only; omega), if_pos (by dsimp only; omega)]
     simp only [List.take_succ_cons, List.take_zero, List.map_cons, List.map_nil, List.cons.injEq, and_true]
     omega
   ·exact .inl ⟨by rw [runeR_none (by omega) hH hln (by rw [htk, runeC_ok hb, runeC_bad hb2])], hf (by rw [hc2, decide_eq_false hb2, Bool.and_false])⟩
  ·exact .inl ⟨by rw [runeR_none (by omega) hH hln (by rw [htk, runeC_bad hb])], hf (by rw [hc1, decide_eq_false hb]; rfl)⟩
theorem ok_four {b0 : UInt8} {r : Str} (h : 240 ≤ b0.toNat) (h' : b0.toNat < 248) : okR (b0 :: r) := by
 have ha : atL (b0 :: r) 0 = b0.toNat := rfl
 have hH : runeH b0.toNat = (4, 65536, b0.toNat % 8) := by unfold runeH; rw [if_neg (by omega), if_neg (by omega), if_pos (by omega)]
 have e1 : (b0.toNat / 32 == 6) = false := beq_no (by omega)
 have e2 : (b0.toNat / 16 == 14) = false := beq_no (by omega)
 have e3 : (b0.toNat / 8 == 30) = true := by simp; omega
 have hf : (contL (b0 :: r) 1 && contL (b0 :: r) 2 && contL (b0 :: r) 3) = false → decL (b0 :: r) = (65533, 1) := fun hc => dec_fail (by omega) (by rw [ha, e1]; rfl) (by rw [ha, e2]; rfl) (by rw [Bool.and_assoc, Bool.and_assoc, ← Bool.and_assoc (contL (b0 :: r) 1), hc, Bool.and_false])
 match r with
 | [] => exact .inl ⟨by rw [runeR_short (by omega) hH (.inr (by simp))], hf (by rw [cont_no (by simp)]; rfl)⟩
 | [b1] => exact .inl ⟨by rw [runeR_short (by omega) hH (.inr (by simp))], hf (by rw [cont_no (k := 2) (by simp), Bool.and_false]; rfl)⟩
 | [b1, b2] => exact .inl ⟨by rw [runeR_short (by omega) hH (.inr (by simp))], hf (by rw [cont_no (k := 3) (by simp), Bool.and_false])⟩
 | b1 :: b2 :: b3 :: r =>
  obtain ⟨hc1, ha1⟩ := cont_iff (l := b0 :: b1 :: b2 :: b3 :: r) (k := 1) (b := b1) rfl
  obtain ⟨hc2, ha2⟩ := cont_iff (l := b0 :: b1 :: b2 :: b3 :: r) (k := 2) (b := b2) rfl
  obtain ⟨hc3, ha3⟩ := cont_iff (l := b0 :: b1 :: b2 :: b3 :: r) (k := 3) (b := b3) rfl
  have hln : ¬ (4 = 0 ∨ (b0 :: b1 :: b2 :: b3 :: r).length < 4) := by simp
  have htk : (b1 :: b2 :: b3 :: r).take (4 - 1) = [b1, b2, b3] := rfl
  by_cases hb : 128 ≤ b1.toNat ∧ b1.toNat < 192
  ·by_cases hb2 : 128 ≤ b2.toNat ∧ b2.toNat < 192
   ·by_cases hb3 : 128 ≤ b3.toNat ∧ b3.toNat < 192
    ·have hrc : runeC ((b1 :: b2 :: b3 :: r).take (4 - 1)) (b0.toNat % 8) = some (((b0.toNat % 8 * 64 + b1.toNat % 64) * 64 + b2.toNat % 64) * 64 + b3.toNat % 64) := by rw [htk, runeC_ok hb, runeC_ok hb2, runeC_ok hb3]; rfl
     have hd : decL (b0 :: b1 :: b2 :: b3 :: r) = if (b0.toNat % 8 * 262144 + b1.toNat % 64 * 4096 + b2.toNat % 64 * 64 + b3.toNat % 64 ≥ 65536 && Utf8.valid (b0.toNat % 8 * 262144 + b1.toNat % 64 * 4096 + b2.toNat % 64 * 64 + b3.toNat % 64 : Nat)) = true then (b0.toNat % 8 * 262144 + b1.toNat % 64 * 4096 + b2.toNat % 64 * 64 + b3.toNat % 64, 4) else (65533, 1) := by
      unfold decL
      rw [if_neg (by omega), ha, ha1, ha2, ha3, e1, e2, e3, hc1, hc2, hc3, decide_eq_true hb, decide_eq_true hb2, decide_eq_true hb3]
      rfl
     rw [valid_nat] at hd
     by_cases hv : ((b0.toNat % 8 * 64 + b1.toNat % 64) * 64 + b2.toNat % 64) * 64 + b3.toNat % 64 < 65536 ∨ 1114111 < ((b0.toNat % 8 * 64 + b1.toNat % 64) * 64 + b2.toNat % 64) * 64 + b3.toNat % 64 ∨ (55296 ≤ ((b0.toNat % 8 * 64 + b1.toNat % 64) * 64 + b2.toNat % 64) * 64 + b3.toNat % 64 ∧ ((b0.toNat % 8 * 64 + b1.toNat % 64) * 64 + b2.toNat % 64) * 64 + b3.toNat % 64 ≤ 57343)
     ·refine .inl ⟨by rw [runeR_bad (by omega) hH hln hrc hv], ?_⟩
      rw [hd, if_neg]
      simp only [Bool.and_eq_true, decide_eq_true_eq]
      omega
     ·have hR := runeR_good (by omega) hH hln hrc hv
      refine .inr ?_
      rw [hR, hd, if_pos (by simp only [Bool.and_eq_true, decide_eq_true_eq]; omega)]
      refine ⟨by simp, by simp only [Prod.mk.injEq, and_true]; omega, ?_, by dsimp only; omega, by dsimp only; omega, by simp⟩
      unfold encL
      rw [if_neg (by dsimp only; omega), if_neg (by dsimp only; omega), if_neg (by dsimp only; omega)]
      simp only [List.take_succ_cons, List.take_zero, List.map_cons, List.map_nil, List.cons.injEq, and_true]
      omega
    ·exact .inl ⟨by rw [runeR_none (by omega) hH hln (by rw [htk, runeC_ok hb, runeC_ok hb2, runeC_bad hb3])], hf (by rw [hc3, decide_eq_false hb3, Bool.and_false])⟩
   ·exact .inl ⟨by rw [runeR_none (by omega) hH hln (by rw [htk, runeC_ok hb, runeC_bad hb2])], hf (by rw [hc2, decide_eq_false hb2, Bool.and_false]; rfl)⟩
  ·exact .inl ⟨by rw [runeR_none (by omega) hH hln (by rw [htk, runeC_bad hb])], hf (by rw [hc1, decide_eq_false hb]; rfl)⟩
theorem ok_all {l : Str} (h : l ≠ []) : okR l := by
 cases l with
 | nil => exact absurd rfl h
 | cons b0 r =>
  have hb := b0.toNat_lt
  rcases Nat.lt_or_ge b0.toNat 128 with h1 | h1
  ·exact ok_one h1
  ·rcases Nat.lt_or_ge b0.toNat 192 with h2 | h2
   ·exact ok_none h1 (.inl h2)
   ·rcases Nat.lt_or_ge b0.toNat 224 with h3 | h3
    ·exact ok_two h2 h3
    ·rcases Nat.lt_or_ge b0.toNat 240 with h4 | h4
     ·exact ok_three h3 h4
     ·rcases Nat.lt_or_ge b0.toNat 248 with h5 | h5
      ·exact ok_four h4 h5
      ·exact ok_none h1 (.inr h5)
end Go.Proofs.YtknndpjacklkeaaGreatDoor.V

set_option linter.unusedVariables false
set_option linter.unusedSimpArgs false
namespace Go.Proofs.YtknndpjacklkeaaGreatDoor.V
open Go
section
variable {P : Program} {ops : Array Oper} {Q : Exit → Act → World → Prop} {n' : Nat} {ds : List Deferred} {l : List (Nat × Value)} {w w' : World}
variable {rest : List Oper} {ty : TypeId} {pos : String} {af : Array Edge} {x y : Operand} {t : TypeId}
theorem zero_one {zs : Array Value} {n : Nat} (h : ∀ u ∈ zs, u.oneCell' = true) (hs : 0 < zs.size) : ∀ u ∈ (Builtin.zeroCells zs n).toList, u.oneCell' = true := by
 intro u hu
 unfold Builtin.zeroCells at hu
 rw [Array.toList_map] at hu
 obtain ⟨i, _, rfl⟩ := List.mem_map.1 hu
 have : i % zs.size < zs.size := Nat.mod_lt _ hs
 rw [getElem!_pos zs _ this]
 exact h _ (Array.getElem_mem this)
theorem suv {op : Op} {v : Value} (hr : Runs P l ⟨none, op, ty, pos, af, none⟩ w v w') (h : WL P ops Q rest n' ds l w') :
  WL P ops Q (⟨none, op, ty, pos, af, none⟩ :: rest) n' ds l w := by
 intro a ha
 refine wpList_plain rfl fun K hK => ?_
 have := hr a.eval (fun x u hx => ha.ev hx)
 simp only [Oper.wp, this, Oper.upon]
 exact hK _ _ (h _ (by simpa [Act.put] using ha))
theorem s_clear {e sz by_ n c k : Nat} {ad : Addr} {vs zs : List Value} (ht : slB P t e sz by_ = true) (hz : zvB P e zs) (hzl : zs.length = sz) (hsz : 0 < sz) (h1c : ∀ u ∈ zs, u.oneCell' = true) (O : Own w e sz (.slice (some ad) n c) n vs) (hk : k ≤ n)
  (hx : evO l x = some (.slice (adS (some ad) c k sz) (n - k) (c - k)))
  (h : ∀ w', Own w' e sz (.slice (some ad) k c) k (vs.take (k * sz)) → Mod [ad.block] w w' → w'.heap.size = w.heap.size → WL P ops Q rest n' ds l w') :
  WL P ops Q (⟨none, .call { callee := .builtin .clear, args := #[x], argTypes := #[t] }, ty, pos, af, none⟩ :: rest) n' ds l w := by
 obtain ⟨i, z, h1, h2, h3, h4, h5, h6⟩ := slB_spec ht
 obtain ⟨i', z', h7, h8, h9⟩ := zvB_spec hz
 rcases Nat.eq_or_lt_of_le hk with rfl | hlt
 ·have hr : Runs P l ⟨none, .call { callee := .builtin .clear, args := #[x], argTypes := #[t] }, ty, pos, af, none⟩ w (.tuple #[]) w := fun ρ hρ => by
   have hv := hρ _ _ hx
   rw [Nat.sub_self] at hv
   simp only [execOp, resolve, invoke, builtin, Builtin.clear_]
   cases hc : adS (some ad) c k sz <;> rw [hc] at hv <;> simp [hv, run_underlying h1]
  exact suv hr (h w (O.take (Nat.le_refl _)) (Mod.refl _ w) rfl)
 ·rcases O.2 with ⟨h0, _⟩ | ⟨g, o, cap, cs, hv, hB, hc1, hc2, hc3, hc4⟩
  ·cases h0
  injection hv with e1 e2 e3
  injection e1 with e1
  subst e1; subst e3
  have hcz : (Builtin.zeroCells z'.cells (n - k)).size = (n - k) * sz := by
   simp [Builtin.zeroCells, h9, hzl]
  have hvl := O.1
  have hle : k * sz + (n - k) * sz = n * sz := by rw [← Nat.add_mul]; congr 1; omega
  have hle2 : n * sz ≤ c * sz := Nat.mul_le_mul_right _ hc1
  obtain ⟨w1, hst, hp⟩ := storeCells_put (P := P) hB (o := o + k * sz) (vs := (Builtin.zeroCells z'.cells (n - k)).toList) (by rw [Array.length_toList, hcz]; omega)
   (zero_one (by rw [h9]; simpa using h1c) (by rw [h9]; simp [hzl]; omega))
  have had : adS (some ⟨g, o, none⟩) c k sz = some ⟨g, o + k * sz, none⟩ := by
   unfold adS
   rw [if_neg (by omega)]
   simp [Addr.add_lit]
  rw [had] at hx
  have hr : Runs P l ⟨none, .call { callee := .builtin .clear, args := #[x], argTypes := #[t] }, ty, pos, af, none⟩ w (.tuple #[]) w1 := fun ρ hρ => by
   have hnk : ¬ n - k = 0 := by omega
   obtain ⟨m, hm⟩ : ∃ m, n - k = m + 1 := ⟨n - k - 1, by omega⟩
   have hv := hρ _ _ hx
   rw [hm] at hv hst
   simp [execOp, resolve, invoke, builtin, Builtin.clear_, hv, run_underlying h1, zeroValue, typeInfo, h7, h8, hst]
  refine suv hr (h w1 ⟨by rw [List.length_take, hvl]; omega, .inr ⟨g, o, c, _, rfl, hp.blk, by omega, hc2, by simp [splice, hcz]; omega, ?_⟩⟩ hp.mod hp.size)
  subst hc4
  apply List.ext_getElem?
  intro j
  simp only [splice]
  simp only [List.getElem?_take, List.getElem?_drop, List.getElem?_append, List.length_append, List.length_take, List.length_drop, Array.length_toList, hcz]
  repeat' split
  all_goals first
   | omega
   | rfl
   | (congr 1; omega)
   | skip
end
end Go.Proofs.YtknndpjacklkeaaGreatDoor.V

set_option linter.unusedVariables false
set_option linter.unusedSimpArgs false
namespace Go.Proofs.YtknndpjacklkeaaGreatDoor.V
open Go
section
variable {P : Program} {ops : Array Oper} {Q : Exit → Act → World → Prop} {n : Nat} {ds : List Deferred} {l : List (Nat × Value)} {M : List (Nat × (Value → World → Prop))} {w : World}
end
end Go.Proofs.YtknndpjacklkeaaGreatDoor.V

set_option linter.unusedVariables false
set_option linter.unusedSimpArgs false
namespace Go.Proofs.YtknndpjacklkeaaGreatDoor.V
open Go
section
variable {P : Program} {ops : Array Oper} {Q : Exit → Act → World → Prop} {n : Nat} {ds : List Deferred} {l : List (Nat × Value)} {w w' : World} {a : Act}
variable {rest : List Oper} {d : Nat} {op : Op} {ty : TypeId} {pos : String} {af : Array Edge} {x y : Operand} {t : TypeId}
theorem scp {f : FuncId} {args : Array Value} {R : Ending → World → Prop} (hr : RunsC P l ⟨some d, op, ty, pos, af, none⟩ w f args) (hc : Calls P f args w R) (hd : Nat.blt d n = true) (ho : ∀ w', ¬ R .outgrown w')
  (hp : ∀ c w', R (.panicked c) w' → WE Q (.panic c) n ds l w') (h : ∀ v w', R (.returned v) w' → WL P ops Q rest n ds ((d, v) :: l) w') :
  WL P ops Q (⟨some d, op, ty, pos, af, none⟩ :: rest) n ds l w := by
 intro a ha
 refine wpList_plain rfl fun K hK => ?_
 have := hr a.eval (fun x u hx => ha.ev hx)
 simp only [Oper.wp, this, Oper.upon]
 refine hc.mono fun e w' he => ?_
 cases e with
 | returned v => exact hK _ _ (h v w' he _ (ha.put hd v))
 | panicked c => exact hp c w' he a ha
 | outgrown => exact absurd he (ho w')
theorem s_panic {T : TypeId} {v : Value} (hx : evO l x = some (.iface T v)) (h : WE Q (.panic [{ v := .iface T v, recovered := false }]) n ds l w) :
  WL P ops Q (⟨none, .panic x, ty, pos, af, none⟩ :: rest) n ds l w := by
 intro a ha
 refine wpList_plain rfl fun K hK => ?_
 simp only [Oper.wp, execOp, ha.ev hx, Sem.run_bind, run_panic_iface, Oper.upon]
 exact h a ha
variable {fn : Func} {R : Ending → World → Prop}
theorem endp {c : List PanicEntry} (h : R (.panicked c) w) : WE (bodyPost P fn R) (.panic c) n [] l w := fun a ha => ⟨ha.defers, h⟩
theorem end0R (hr : fn.results = #[]) (h : R (.returned (.tuple #[])) w) : WE (bodyPost P fn R) .normal n [] l w := fun a ha => ⟨ha.defers, _, results_none hr _ _ _, h⟩
/-! ### a range over a string -/
def It (w : World) (g : Nat) (s : Str) (p : Nat) : Prop := w.heap[g]? = some (.stringIter ⟨⟨s⟩⟩ p)
theorem It.lt {g : Nat} {s : Str} {p : Nat} (h : It w g s p) : g < w.heap.size := (Array.getElem?_eq_some_iff.1 h).1
theorem It.mod {M : List Nat} {g : Nat} {s : Str} {p : Nat} (h : It w g s p) (k : Mod M w w') (hg : g ∉ M) : It w' g s p := (k.block g h.lt hg).trans h
theorem It.mod0 {g : Nat} {s : Str} {p : Nat} (h : It w g s p) (k : Mod [] w w') : It w' g s p := h.mod k (by simp)
theorem s_range {u : Str} (ht : P.underlying t = some .string) (hx : evO l x = some (S u)) (hd : Nat.blt d n = true)
  (h : ∀ g w', It w' g u 0 → g = w.heap.size → Mod [] w w' → WL P ops Q rest n ds ((d, .pointer (some ⟨g, 0, none⟩)) :: l) w') :
  WL P ops Q (⟨some d, .range t x, ty, pos, af, none⟩ :: rest) n ds l w := by
 refine sv (v := .pointer (some ⟨w.heap.size, 0, none⟩)) (w' := w.iter ⟨⟨u⟩⟩ 0) (fun ρ hρ => ?_) hd (h _ _ (World.iter_heap _ _ _) rfl ⟨rfl, rfl, rfl, ?_, fun i hi _ => ?_⟩)
 ·simp [execOp, hρ _ _ hx, run_range_string _ _ _ ht]
 ·show w.heap.size ≤ (w.heap.push _).size
  simp
 ·show (w.heap.push _)[i]? = _
  rw [Array.getElem?_push_lt hi, Array.getElem?_eq_getElem hi]
theorem s_next_end {g p : Nat} {u : Str} (hx : evO l x = some (.pointer (some ⟨g, 0, none⟩))) (I : It w g u p) (hp : ¬ p < u.length) (hd : Nat.blt d n = true)
  (h : WL P ops Q rest n ds ((d, .tuple #[.bool false]) :: l) w) : WL P ops Q (⟨some d, .next x true, ty, pos, af, none⟩ :: rest) n ds l w := by
 refine sv (v := .tuple #[.bool false]) (w' := w) (fun ρ hρ => ?_) hd h
 have hs : (⟨⟨u⟩⟩ : ByteArray).size = u.length := rfl
 unfold It at I
 simp [execOp, hρ _ _ hx, Instr.next, getObj, Sem.run, I, Result.andThen, hs, hp]
theorem s_next {g p c m : Nat} {u : Str} (hx : evO l x = some (.pointer (some ⟨g, 0, none⟩))) (I : It w g u p) (hp : p < u.length) (hdec : Utf8.decode ⟨⟨u⟩⟩ p = (c, m)) (hd : Nat.blt d n = true)
  (h : ∀ w', It w' g u (p + m) → Mod [g] w w' → w'.heap.size = w.heap.size → WL P ops Q rest n ds ((d, .tuple #[.bool true, .int .i64 (p : Int), .int .i32 (c : Int)]) :: l) w') :
  WL P ops Q (⟨some d, .next x true, ty, pos, af, none⟩ :: rest) n ds l w := by
 have hs : (⟨⟨u⟩⟩ : ByteArray).size = u.length := rfl
 have hlt := I.lt
 refine sv (v := .tuple #[.bool true, .int .i64 (p : Int), .int .i32 (c : Int)]) (w' := { w with heap := w.heap.setIfInBounds g (.stringIter ⟨⟨u⟩⟩ (p + m)) }) (fun ρ hρ => ?_) hd (h _ ?_ ⟨rfl, rfl, rfl, by simp, fun i hi hM => ?_⟩ (by simp))
 ·unfold It at I
  simp [execOp, hρ _ _ hx, Instr.next, getObj, setObj, Sem.run, I, Result.andThen, hs, hp, hdec, goInt]
 ·show (w.heap.setIfInBounds g _)[g]? = _
  simp [hlt]
 ·show (w.heap.setIfInBounds g _)[i]? = _
  have : g ≠ i := fun e => hM (by simp [e])
  simp [Array.getElem?_setIfInBounds_ne this]
theorem App.neI {e sz c g p : Nat} {s : Str} {v v' : Value} {vs : List Value} (h : App w w' e sz v v' c vs) (D : ∀ x ∈ ob v, x ≠ g) (B : It w g s p) : ∀ x ∈ ob v', x ≠ g := fun x hx => by
 rcases h.ob_ x hx with h1 | h1
 ·exact D x h1
 ·have := B.lt; omega
end
end Go.Proofs.YtknndpjacklkeaaGreatDoor.V

set_option linter.unusedVariables false
set_option linter.unusedSimpArgs false
namespace Go.Proofs.YtknndpjacklkeaaGreatDoor.V
open Go
section
variable {P : Program} {l : List (Nat × Value)} {w : World} {ty : TypeId} {pos : String} {af : Array Edge} {dd : Option Nat} {gg : Option (Nat × Bool)} {x y hi : Operand} {t : TypeId}
theorem o_ssto {u : List UInt8} {n : Nat} (ht : P.underlying t = some .string) (hx : evO l x = some (S u)) (hh : evO l hi = some (.int .i64 (n : Int))) (hb : n ≤ u.length) : Runs P l ⟨dd, .slice t x none (some hi) none, ty, pos, af, gg⟩ w (S (u.take n)) w :=
 (o_ssl (pl := none) (ph := some (.i64, (n : Int))) ht hx rfl (by simp [evS, hh]) (by simp only [loV, hiV]; omega)).to (by
  simp only [loV, hiV, Int.toNat_natCast]
  simp)
end
theorem or192 {m : Nat} (h : m < 32) : IntKind.u8.wrap (BitVec.ofInt IntKind.u8.bits 192 ||| BitVec.ofInt IntKind.u8.bits (m : Int)).toNat = ((192 + m : Nat) : Int) := by
 have : ∀ m : Fin 32, IntKind.u8.wrap (BitVec.ofInt IntKind.u8.bits 192 ||| BitVec.ofInt IntKind.u8.bits (m.val : Int)).toNat = ((192 + m.val : Nat) : Int) := by decide +kernel
 exact this ⟨m, h⟩
theorem or224 {m : Nat} (h : m < 16) : IntKind.u8.wrap (BitVec.ofInt IntKind.u8.bits 224 ||| BitVec.ofInt IntKind.u8.bits (m : Int)).toNat = ((224 + m : Nat) : Int) := by
 have : ∀ m : Fin 16, IntKind.u8.wrap (BitVec.ofInt IntKind.u8.bits 224 ||| BitVec.ofInt IntKind.u8.bits (m.val : Int)).toNat = ((224 + m.val : Nat) : Int) := by decide +kernel
 exact this ⟨m, h⟩
theorem or240 {m : Nat} (h : m < 8) : IntKind.u8.wrap (BitVec.ofInt IntKind.u8.bits 240 ||| BitVec.ofInt IntKind.u8.bits (m : Int)).toNat = ((240 + m : Nat) : Int) := by
 have : ∀ m : Fin 8, IntKind.u8.wrap (BitVec.ofInt IntKind.u8.bits 240 ||| BitVec.ofInt IntKind.u8.bits (m.val : Int)).toNat = ((240 + m.val : Nat) : Int) := by decide +kernel
 exact this ⟨m, h⟩
theorem or128 {m : Nat} (h : m < 64) : IntKind.u8.wrap (BitVec.ofInt IntKind.u8.bits 128 ||| BitVec.ofInt IntKind.u8.bits (m : Int)).toNat = ((128 + m : Nat) : Int) := by
 have : ∀ m : Fin 64, IntKind.u8.wrap (BitVec.ofInt IntKind.u8.bits 128 ||| BitVec.ofInt IntKind.u8.bits (m.val : Int)).toNat = ((128 + m.val : Nat) : Int) := by decide +kernel
 exact this ⟨m, h⟩
theorem and63 {m : Nat} (h : m < 256) : IntKind.u8.wrap (BitVec.ofInt IntKind.u8.bits (m : Int) &&& BitVec.ofInt IntKind.u8.bits 63).toNat = ((m % 64 : Nat) : Int) := by
 have : ∀ m : Fin 256, IntKind.u8.wrap (BitVec.ofInt IntKind.u8.bits (m.val : Int) &&& BitVec.ofInt IntKind.u8.bits 63).toNat = ((m.val % 64 : Nat) : Int) := by decide +kernel
 exact this ⟨m, h⟩
theorem and15 {m : Nat} (h : m < 32) : IntKind.i32.wrap (BitVec.ofInt IntKind.i32.bits (m : Int) &&& BitVec.ofInt IntKind.i32.bits 15).toNat = ((m % 16 : Nat) : Int) := by
 have : ∀ m : Fin 32, IntKind.i32.wrap (BitVec.ofInt IntKind.i32.bits (m.val : Int) &&& BitVec.ofInt IntKind.i32.bits 15).toNat = ((m.val % 16 : Nat) : Int) := by decide +kernel
 exact this ⟨m, h⟩
theorem shrN {c e : Nat} (he : e ≤ 31) : (c : Int).fdiv (2 ^ (min (e : Int).toNat IntKind.i32.bits)) = ((c / 2 ^ e : Nat) : Int) := by
 have h1 : min (e : Int).toNat IntKind.i32.bits = e := by
  show min e 32 = e
  omega
 rw [h1, Int.fdiv_eq_ediv_of_nonneg _ (by exact_mod_cast Nat.zero_le (2 ^ e)), Int.natCast_ediv]
 norm_cast
theorem convu8 (m : Nat) : IntKind.u8.wrap (m : Int) = ((m % 256 : Nat) : Int) := by
 have : ((m % 256 : Nat) : Int) = (m : Int) % 256 := Int.natCast_emod ..
 rw [this]
 rfl
theorem convu32 {m : Nat} (h : m < 4294967296) : IntKind.u32.wrap (m : Int) = (m : Int) := by
 show (m : Int) % 4294967296 = m
 exact Int.emod_eq_of_lt (by omega) (by omega)
def shq (c : Nat) : Nat := if c = 34 then 34 else if c = 92 then 92 else if c = 8 then 98 else if c = 9 then 116 else if c = 10 then 110 else if c = 12 then 102 else if c = 13 then 114 else 0
theorem shq_big {c : Nat} (h : 128 ≤ c) : shq c = 0 := by
 unfold shq
 rw [if_neg (by omega), if_neg (by omega), if_neg (by omega), if_neg (by omega), if_neg (by omega), if_neg (by omega), if_neg (by omega)]
theorem shq_esc {c : UInt8} (h : shq c.toNat ≠ 0) : (escQ c).map B8 = [.int .u8 92, .int .u8 (shq c.toNat : Int)] := by
 unfold shq at h ⊢
 repeat' split at h
 ·rename_i e; rw [if_pos e, escQ1 (by omega)]; simp [B8]; omega
 ·rename_i e0 e; rw [if_neg e0, if_pos e, escQ1 (by omega)]; simp [B8]; omega
 ·rename_i e0 e1 e; rw [if_neg e0, if_neg e1, if_pos e, escQ2 (by omega)]; simp [B8]
 ·rename_i e0 e1 e2 e; rw [if_neg e0, if_neg e1, if_neg e2, if_pos e, escQ3 (by omega)]; simp [B8]
 ·rename_i e0 e1 e2 e3 e; rw [if_neg e0, if_neg e1, if_neg e2, if_neg e3, if_pos e, escQ4 (by omega)]; simp [B8]
 ·rename_i e0 e1 e2 e3 e4 e; rw [if_neg e0, if_neg e1, if_neg e2, if_neg e3, if_neg e4, if_pos e, escQ5 (by omega)]; simp [B8]
 ·rename_i e0 e1 e2 e3 e4 e5 e; rw [if_neg e0, if_neg e1, if_neg e2, if_neg e3, if_neg e4, if_neg e5, if_pos e, escQ6 (by omega)]; simp [B8]
 ·exact absurd rfl h
theorem shq_none {c : UInt8} (h : ¬ shq c.toNat ≠ 0) : escQ c = if c.toNat < 32 then [92, 117, 48, 48, hexD.getD (c.toNat / 16) 0, hexD.getD (c.toNat % 16) 0] else [c] := by
 have h := Classical.not_not.1 h
 unfold shq at h
 repeat' split at h
 all_goals first | (exact absurd h (by decide)) | skip
 exact escQ7 (by omega) (by omega) (by omega) (by omega) (by omega) (by omega) (by omega)
theorem escs_big {l : Str} (h : ∀ b ∈ l, 128 ≤ b.toNat) : escs l = l := by
 induction l with
 | nil => rfl
 | cons b r ih =>
  have hb := h b (by simp)
  have h1 : escQ b = [b] := by rw [shq_none (by rw [shq_big hb]; simp), if_neg (by omega)]
  have h2 := ih fun x hx => h x (by simp [hx])
  simp only [escs, List.map_cons, List.flatten_cons, h1] at h2 ⊢
  rw [h2]
  rfl
theorem escs_add {s : Str} {p m : Nat} : escs (s.take (p + m)) = escs (s.take p) ++ escs ((s.drop p).take m) := by
 have : s.take (p + m) = s.take p ++ (s.drop p).take m := by
  rw [List.take_add]
 rw [this]
 simp [escs]
theorem encL_big {c : Nat} (h : 128 ≤ c) (h2 : c ≤ 1114111) : ∀ m ∈ encL c, 128 ≤ m ∧ m < 256 := by
 intro m hm
 unfold encL at hm
 rw [if_neg (by omega)] at hm
 split at hm
 ·simp at hm; omega
 ·split at hm
  ·simp at hm; omega
  ·simp at hm; omega
theorem enc_take {l : Str} (h : l ≠ []) (h0 : (runeR l).2 ≠ 0) : Utf8.decode ⟨⟨l⟩⟩ 0 = runeR l ∧ (l.take (runeR l).2).map B8 = (encL (runeR l).1).map (fun m : Nat => Value.int .u8 (m : Int)) ∧ (runeR l).1 ≤ 1114111 ∧ ¬ (55296 ≤ (runeR l).1 ∧ (runeR l).1 ≤ 57343) := by
 rcases ok_all h with ⟨h1, _⟩ | ⟨_, h2, h3, h4, h5, _⟩
 ·exact absurd h1 h0
 ·refine ⟨by rw [decode_eq]; exact h2, ?_, h4, h5⟩
  rw [← h3, List.map_map]
  rfl
theorem rune_byte {l : Str} (h : l ≠ []) (h0 : (runeR l).2 ≠ 0) (hc : (runeR l).1 < 128) : ∃ b, l.take (runeR l).2 = [b] ∧ b.toNat = (runeR l).1 := by
 rcases ok_all h with ⟨h1, _⟩ | ⟨_, h2, h3, h4, h5, _⟩
 ·exact absurd h1 h0
 ·unfold encL at h3
  rw [if_pos hc] at h3
  match hl : l.take (runeR l).2, h3 with
  | [b], h3 => exact ⟨b, rfl, by simpa using h3⟩
  | [], h3 => simp at h3
  | _ :: _ :: _, h3 => simp at h3
theorem rune_bytes {l : Str} (h : l ≠ []) (h0 : (runeR l).2 ≠ 0) (hc : 128 ≤ (runeR l).1) : ∀ b ∈ l.take (runeR l).2, 128 ≤ b.toNat := by
 rcases ok_all h with ⟨h1, _⟩ | ⟨_, h2, h3, h4, h5, _⟩
 ·exact absurd h1 h0
 ·intro b hb
  have : b.toNat ∈ encL (runeR l).1 := by rw [← h3]; exact List.mem_map_of_mem hb
  exact (encL_big hc h4 _ this).1
theorem no_pre {l : Str} (h0 : (runeR l).2 = 0) : ¬ (3 ≤ l.length ∧ l.take 3 = [239, 191, 189]) := by
 rintro ⟨h1, h2⟩
 match l, h1, h2 with
 | b0 :: b1 :: b2 :: r, _, h2 =>
  simp only [List.take_succ_cons, List.take_zero, List.cons.injEq, and_true] at h2
  obtain ⟨rfl, rfl, rfl⟩ := h2
  have : runeR (239 :: 191 :: 189 :: r) = (65533, 3) := runeR_good (n := 3) (l := 2048) (c := 15) (d := 65533) (by decide) (by decide) (by simp) rfl (by decide)
  rw [this] at h0
  cases h0
theorem is_pre {l : Str} (h : l ≠ []) (h0 : (runeR l).2 ≠ 0) (hc : (runeR l).1 = 65533) : 3 ≤ l.length ∧ l.take 3 = [239, 191, 189] := by
 rcases ok_all h with ⟨h1, _⟩ | ⟨_, h2, h3, h4, h5, _⟩
 ·exact absurd h1 h0
 ·rw [hc] at h3
  have e : encL 65533 = [239, 191, 189] := by decide
  rw [e] at h3
  have hl := congrArg List.length h3
  simp only [List.length_map, List.length_take, List.length_cons, List.length_nil] at hl
  have hle := runeR_le l
  have hm : (runeR l).2 = 3 := by omega
  rw [hm] at h3
  refine ⟨by omega, ?_⟩
  match l, h3 with
  | b0 :: b1 :: b2 :: r, h3 =>
   simp only [List.take_succ_cons, List.take_zero, List.map_cons, List.map_nil, List.cons.injEq, and_true] at h3 ⊢
   obtain ⟨h1, h2, h3⟩ := h3
   exact ⟨UInt8.toNat_inj.1 h1, UInt8.toNat_inj.1 h2, UInt8.toNat_inj.1 h3⟩
  | [], h3 => simp at h3
  | [_], h3 => simp at h3
  | [_, _], h3 => simp at h3
theorem dec_at {s : Str} {p : Nat} (h : p < s.length) : s.drop p ≠ [] := fun e => by have := congrArg List.length e; simp at this; omega
theorem dec_ok {s : Str} {p : Nat} (h : p < s.length) (h0 : (runeR (s.drop p)).2 ≠ 0) : Utf8.decode ⟨⟨s⟩⟩ p = ((runeR (s.drop p)).1, (runeR (s.drop p)).2) := by
 rcases ok_all (dec_at h) with ⟨h1, _⟩ | ⟨_, h2, _⟩
 ·exact absurd h1 h0
 ·rw [decode_eq, h2]
theorem dec_bad {s : Str} {p : Nat} (h : p < s.length) (h0 : (runeR (s.drop p)).2 = 0) : Utf8.decode ⟨⟨s⟩⟩ p = (65533, 1) := by
 rcases ok_all (dec_at h) with ⟨_, h2⟩ | ⟨h1, _⟩
 ·rw [decode_eq, h2]
 ·exact absurd h0 h1
theorem valid_pos {l : Str} (h : l ≠ []) (hv : validR l = true) : (runeR l).2 ≠ 0 := fun h0 => by rw [validR_no h h0] at hv; cases hv
end Go.Proofs.YtknndpjacklkeaaGreatDoor.V

set_option linter.unusedVariables false
set_option linter.unusedSimpArgs false
set_option maxRecDepth 10000
namespace Go.Proofs.YtknndpjacklkeaaGreatDoor.V
open Go Go.Proofs
theorem ent201 : Ent Tryz.prog 201 := Ent.of Tryz.func201 (by kernel_rfl) (by kernel_rfl)
theorem ent177 : Ent Tryz.prog 177 := Ent.of Tryz.func177 (by kernel_rfl) (by kernel_rfl)
theorem c_short (w : World) (c : Nat) (hc : c ≤ 1114111) : Calls Tryz.prog 188 [.int .i32 (c : Int)].toArray w (Ret fun u w' => u = .int .u8 (shq c : Int) ∧ Mod [] w w') := by
 refine enter Tryz.func188 rfl rfl rfl (l := [(0, _)]) ⟨rfl, trivial⟩ ?_
 have E := Mod.refl [] w
 refine Cq fun K1 hK1 => Cr (Za rfl (Ln (e_K (hK1 _ _ _ _ (Cq fun K2 hK2 => Cq fun K3 hK3 => Cr (Zm rfl (Ln (e_K (hK3 _ _ _ _ (cB (Cq fun K4 hK4 => Cq fun K5 hK5 => ?_)))))))))))
 refine Cr (Sv (oE rfl rfl) ?_)
 refine bD (fun hs2_0 : (c : Int) = 34 => ?_) (fun hs2_0 => ?_)
 ·refine Za rfl (Ln (e_K (hK5 _ _ _ _ (c_true rfl (cK (e_K (hK4 _ _ _ _ (c_true rfl (Cq fun K6 hK6 => Cr (Zm rfl (Sv (o_convE (r := (c : Int)) Tryz.underlying21 Tryz.underlying5 rfl (wrapu8_in _ (by omega))) (Za rfl (Ln (e_K (hK6 _ _ _ _ ?_)))))))))))))))
  exact cR (eI (by simp) (eT (by simp) (ret1 rfl rfl ⟨congrArg (Value.int .u8) (show (c : Int) = ((shq c : Nat) : Int) by unfold shq; by_cases h34 : c = 34; (rw [if_pos h34, h34]); rw [if_neg h34, if_pos (by omega)]; omega), E⟩)))
 ·refine Za rfl (Ln (e_K (hK5 _ _ _ _ (c_false rfl (Cr (Sv (oE rfl rfl) ?_))))))
  refine bD (fun hs3_0 : (c : Int) = 92 => ?_) (fun hs3_0 => ?_)
  ·exact Za rfl (Ln (e_K (hK4 _ _ _ _ (c_true rfl (Cq fun K7 hK7 => Cr (Zm rfl (Sv (o_convE (r := (c : Int)) Tryz.underlying21 Tryz.underlying5 rfl (wrapu8_in _ (by omega))) (Za rfl (Ln (e_K (hK7 _ _ _ _ (cR (eI (by simp) (eT (by simp) (ret1 rfl rfl ⟨congrArg (Value.int .u8) (show (c : Int) = ((shq c : Nat) : Int) by unfold shq; by_cases h34 : c = 34; (rw [if_pos h34, h34]); rw [if_neg h34, if_pos (by omega)]; omega), E⟩)))))))))))))))
  ·refine Za rfl (Ln (e_K (hK4 _ _ _ _ (c_false rfl (Cq fun K8 hK8 => Cr (tW 2 rfl (Ln (e_K (hK8 _ _ _ _ ?_)))))))))
   refine c_if rfl (fun h9 => ?_) (fun h9 => ?_)
   ·exact Cq fun K9 hK9 => Cr (Za rfl (Ln (e_K (hK9 _ _ _ _ (cR (eI (by simp) (eT (by simp) (ret1 rfl rfl ⟨congrArg (Value.int .u8) (show (_ : Int) = ((shq c : Nat) : Int) by unfold shq; rw [if_neg (by omega), if_neg (by omega), if_pos (by omega)]; rfl), E⟩))))))))
   ·refine Cq fun K10 hK10 => Cr (tW 2 rfl (Ln (e_K (hK10 _ _ _ _ ?_))))
    refine c_if rfl (fun h11 => ?_) (fun h11 => ?_)
    ·exact Cq fun K11 hK11 => Cr (Za rfl (Ln (e_K (hK11 _ _ _ _ (cR (eI (by simp) (eT (by simp) (ret1 rfl rfl ⟨congrArg (Value.int .u8) (show (_ : Int) = ((shq c : Nat) : Int) by unfold shq; rw [if_neg (by omega), if_neg (by omega), if_neg (by omega), if_pos (by omega)]; rfl), E⟩))))))))
    ·refine Cq fun K12 hK12 => Cr (tW 2 rfl (Ln (e_K (hK12 _ _ _ _ ?_))))
     refine c_if rfl (fun h13 => ?_) (fun h13 => ?_)
     ·exact Cq fun K13 hK13 => Cr (Za rfl (Ln (e_K (hK13 _ _ _ _ (cR (eI (by simp) (eT (by simp) (ret1 rfl rfl ⟨congrArg (Value.int .u8) (show (_ : Int) = ((shq c : Nat) : Int) by unfold shq; rw [if_neg (by omega), if_neg (by omega), if_neg (by omega), if_neg (by omega), if_pos (by omega)]; rfl), E⟩))))))))
     ·refine Cq fun K14 hK14 => Cr (tW 2 rfl (Ln (e_K (hK14 _ _ _ _ ?_))))
      refine c_if rfl (fun h15 => ?_) (fun h15 => ?_)
      ·exact Cq fun K15 hK15 => Cr (Za rfl (Ln (e_K (hK15 _ _ _ _ (cR (eI (by simp) (eT (by simp) (ret1 rfl rfl ⟨congrArg (Value.int .u8) (show (_ : Int) = ((shq c : Nat) : Int) by unfold shq; rw [if_neg (by omega), if_neg (by omega), if_neg (by omega), if_neg (by omega), if_neg (by omega), if_pos (by omega)]; rfl), E⟩))))))))
      ·refine Cq fun K16 hK16 => Cr (tW 2 rfl (Ln (e_K (hK16 _ _ _ _ ?_))))
       refine c_if rfl (fun h17 => ?_) (fun h17 => ?_)
       ·exact Cq fun K17 hK17 => Cr (Za rfl (Ln (e_K (hK17 _ _ _ _ (cR (eI (by simp) (eT (by simp) (ret1 rfl rfl ⟨congrArg (Value.int .u8) (show (_ : Int) = ((shq c : Nat) : Int) by unfold shq; rw [if_neg (by omega), if_neg (by omega), if_neg (by omega), if_neg (by omega), if_neg (by omega), if_neg (by omega), if_pos (by omega)]; rfl), E⟩))))))))
       ·exact cK (eI (by simp) (e_K (hK2 _ _ _ _ (Cq fun K18 hK18 => Cr (Za rfl (Ln (e_K (hK18 _ _ _ _ (cR (ret1 rfl rfl ⟨congrArg (Value.int .u8) (show (_ : Int) = ((shq c : Nat) : Int) by unfold shq; rw [if_neg (by omega), if_neg (by omega), if_neg (by omega), if_neg (by omega), if_neg (by omega), if_neg (by omega), if_neg (by omega)]; rfl), E⟩))))))))))

theorem c_hpl (w : World) (s p : Str) : Calls Tryz.prog 201 [S s, S p].toArray w (Ret fun u w' => u = .bool (decide (p.length ≤ s.length ∧ s.take p.length = p)) ∧ Mod [] w w') := by
 refine enter Tryz.func201 rfl rfl rfl (l := [(0, _), (1, _)]) ⟨rfl, rfl, trivial⟩ ?_
 have E := Mod.refl [] w
 refine Cq fun K1 hK1 => Cr (Za rfl (Ln (e_K (hK1 _ _ _ _ (Cq fun K2 hK2 => Cr (Zm rfl (Sv (o_slen Tryz.underlying9 rfl) (Zm rfl (Sv (o_slen Tryz.underlying9 rfl) (Sv (o_geq rfl rfl) ?_))))))))))
 refine bD (fun hs1_0 : (s.length : Int) ≥ (p.length : Int) => ?_) (fun hs1_0 => ?_)
 ·exact tW 3 rfl (Sg rfl rfl (o_slen Tryz.underlying9 rfl) (Sg rfl rfl (o_ssto Tryz.underlying9 rfl rfl (by omega)) (Sg rfl rfl (oM rfl) (Sg rfl rfl (o_seq rfl rfl) (tW 2 rfl (Ln (e_K (hK2 _ _ _ _ (cR (ret1 rfl rfl ⟨by rw [decide_eq_decide.2 (show s.take p.length = p ↔ p.length ≤ s.length ∧ s.take p.length = p from ⟨fun h => ⟨by omega, h⟩, fun h => h.2⟩)], E⟩))))))))))
 ·exact tW 9 rfl (Ln (e_K (hK2 _ _ _ _ (cR (ret1 rfl rfl ⟨by rw [dF (fun h => by omega)], E⟩)))))

theorem c_hpre (w : World) (s p : Str) : Calls Tryz.prog 177 [S s, S p].toArray w (Ret fun u w' => u = .bool (decide (p.length ≤ s.length ∧ s.take p.length = p)) ∧ Mod [] w w') := by
 refine enter Tryz.func177 rfl rfl rfl (l := [(0, _), (1, _)]) ⟨rfl, rfl, trivial⟩ ?_
 have E := Mod.refl [] w
 refine Cq fun K1 hK1 => Cr (Za rfl (Ln (e_K (hK1 _ _ _ _ (Cq fun K2 hK2 => Cr (tW 2 rfl (sc (oC ent201 rfl) (c_hpl _ _ _) rfl fun v_ w1 h_ => ?_)))))))
 obtain ⟨rfl, E_⟩ := h_
 replace E := E.then E_
 exact Za rfl (Ln (e_K (hK2 _ _ _ _ (cR (ret1 rfl rfl ⟨rfl, E⟩)))))

theorem c_qvalid (w : World) (s : Str) : Calls Tryz.prog 166 [S s].toArray w (Ret fun u w' => u = .bool (validR s) ∧ Mod [] w w') := by
 refine enter Tryz.func166 rfl rfl rfl (l := [(0, _)]) ⟨rfl, trivial⟩ ?_
 have E := Mod.refl [] w
 refine Cq fun K1 hK1 => Cr (Za rfl (Ln (e_K (hK1 _ _ _ _ (Cq fun K2 hK2 => Cq fun K3 hK3 => Cr (Zm rfl (s_range Tryz.underlying9 rfl rfl fun gi w1 IT hgi EI => ?_)))))))
 have Lgi : w.heap.size ≤ gi := by have := E.size; omega
 replace E := E.then EI
 refine Ln (e_K (hK3 _ _ _ _ (cB (c_loop (σ := Nat) (fun p => [(0, S s), (6, .pointer (some ⟨gi, 0, none⟩))]) (fun p w1 => p ≤ s.length ∧ validR s = validR (s.drop p) ∧ It w1 gi s p ∧ w.heap.size ≤ gi ∧ Mod [] w w1) (fun p => s.length - p) (0) ⟨rfl, rfl, trivial⟩ (⟨by omega, rfl, IT, Lgi, E⟩) ?_))))
 rintro p w2 ⟨hp, hv, IT, Lgi, E⟩
 refine Cq fun K4 hK4 => ?_
 by_cases hplt : p < s.length
 ·have hne := dec_at hplt
  have hle := runeR_le (s.drop p)
  have hdl : (s.drop p).length = s.length - p := List.length_drop ..
  by_cases hz : (runeR (s.drop p)).2 = 0
  ·skip
   refine Cr (s_next rfl IT hplt (dec_bad hplt hz) rfl fun w3 IT2 EN hzN => ?_)
   replace E := E.trans' EN (fun x hx => .inr (by simp at hx; subst hx; exact Lgi))
   clear IT
   have IT := IT2
   refine Sv (o_ext rfl rfl) (Ln (e_K (hK4 _ _ _ _ (Cq fun K5 hK5 => ?_))))
   refine c_cond rfl (fun h8 => ?_) (fun h8 => ?_)
   ·skip
    refine cK (e_K (hK5 _ _ _ _ (cB (Cq fun K6 hK6 => Cr (tW 4 rfl (Ln (e_K (hK6 _ _ _ _ (Cq fun K7 hK7 => Cr (tW 2 rfl (bE (dT rfl) (tW 3 rfl (Sg rfl rfl (o_ssfrom Tryz.underlying9 rfl rfl hp) ?_)))))))))))))
    refine sgc rfl rfl (oC ent177 rfl) (c_hpre _ (s.drop p) [239, 191, 189]) rfl fun v_ w4 h_ => ?_
    obtain ⟨rfl, E_⟩ := h_
    replace IT := IT.mod0 E_
    replace E := E.then E_
    refine tW 2 rfl (Ln (e_K (hK7 _ _ _ _ ?_)))
    refine c_cond rfl (fun h19 => ?_) (fun h19 => ?_)
    ·have hR : validR s = false := hv.trans (validR_no hne hz)
     exact Cq fun K8 hK8 => Cr (Za rfl (Ln (e_K (hK8 _ _ _ _ (cR (eI (by simp) (eT (by simp) (eI (by simp) (eT (by simp) (ret1 rfl rfl ⟨by rw [hR], E⟩))))))))))
    ·exact absurd (by simpa using h19) (no_pre hz)
   ·cases h8
  ·skip
   refine Cr (s_next rfl IT hplt (dec_ok hplt hz) rfl fun w5 IT2 EN hzN => ?_)
   replace E := E.trans' EN (fun x hx => .inr (by simp at hx; subst hx; exact Lgi))
   clear IT
   have IT := IT2
   refine Sv (o_ext rfl rfl) (Ln (e_K (hK4 _ _ _ _ (Cq fun K9 hK9 => ?_))))
   refine c_cond rfl (fun h8 => ?_) (fun h8 => ?_)
   ·skip
    refine cK (e_K (hK9 _ _ _ _ (cB (Cq fun K10 hK10 => Cr (tW 4 rfl (Ln (e_K (hK10 _ _ _ _ (Cq fun K11 hK11 => Cr (tW 2 rfl ?_))))))))))
    refine bD (fun hs4_0 : ((runeR (s.drop p)).1 : Int) = 65533 => ?_) (fun hs4_0 => ?_)
    ·skip
     refine tW 3 rfl (Sg rfl rfl (o_ssfrom Tryz.underlying9 rfl rfl hp) (sgc rfl rfl (oC ent177 rfl) (c_hpre _ (s.drop p) [239, 191, 189]) rfl fun v_ w6 h_ => ?_))
     obtain ⟨rfl, E_⟩ := h_
     replace IT := IT.mod0 E_
     replace E := E.then E_
     refine tW 2 rfl (Ln (e_K (hK11 _ _ _ _ ?_)))
     refine c_cond rfl (fun h19 => ?_) (fun h19 => ?_)
     ·rw [dT (show ([239, 191, 189] : Str).length ≤ (s.drop p).length ∧ (s.drop p).take ([239, 191, 189] : Str).length = [239, 191, 189] from is_pre hne hz (by omega))] at h19
      cases h19
     ·skip
      exact cK (eI (by simp) (eR (σ := Nat) (s := p) (p + (runeR (s.drop p)).2) ⟨rfl, rfl, trivial⟩ ⟨by omega, by rw [hv, validR_go hne hz, List.drop_drop], IT, Lgi, E⟩ (by omega)))
    ·skip
     refine tW 7 rfl (Ln (e_K (hK11 _ _ _ _ (c_false rfl ?_))))
     skip
     exact cK (eI (by simp) (eR (σ := Nat) (s := p) (p + (runeR (s.drop p)).2) ⟨rfl, rfl, trivial⟩ ⟨by omega, by rw [hv, validR_go hne hz, List.drop_drop], IT, Lgi, E⟩ (by omega)))
   ·cases h8
 ·have hs_end := hplt
  refine Cr (s_next_end rfl IT hs_end rfl (Sv (o_ext rfl rfl) (Ln (e_K (hK4 _ _ _ _ (Cq fun K12 hK12 => ?_))))))
  refine c_cond rfl (fun h8 => ?_) (fun h8 => ?_)
  ·cases h8
  ·have hR : validR s = true := by rw [hv, List.drop_eq_nil_of_le (by omega), validR_nil]
   exact c_exit (eT (by simp) (eT (by simp) (e_hit (e_K (hK2 _ _ _ _ (Cq fun K13 hK13 => Cr (Za rfl (Ln (e_K (hK13 _ _ _ _ (cR (ret1 rfl rfl ⟨by rw [hR], E⟩))))))))))))
end Go.Proofs.YtknndpjacklkeaaGreatDoor.V

set_option linter.unusedVariables false
set_option linter.unusedSimpArgs false
namespace Go.Proofs.YtknndpjacklkeaaGreatDoor.V
open Go
section
variable {P : Program} {l : List (Nat × Value)} {w w' : World} {ty : TypeId} {pos : String} {af : Array Edge} {dd : Option Nat} {gg : Option (Nat × Bool)} {x y : Operand} {t t' : TypeId}
theorem o_shE {c : Nat} (e d : Nat) (hx : evO l x = some (.int .i32 (c : Int))) (hy : evO l y = some (.int .u64 (e : Int))) (he : e ≤ 31) (hd : 2 ^ e = d) : Runs P l ⟨dd, .binOp .shr t x y t', ty, pos, af, gg⟩ w (.int .i32 ((c / d : Nat) : Int)) w :=
 (o_shr hx hy (by omega)).to (by rw [shrN he, hd])
theorem o_cv8 {m : Nat} {d0 : TypeDesc} (hs : P.underlying t = some d0) (ht : P.underlying t' = some (.int .u8)) (hx : evO l x = some (.int .i32 (m : Int))) : Runs P l ⟨dd, .convert t t' x, ty, pos, af, gg⟩ w (.int .u8 ((m % 256 : Nat) : Int)) w :=
 (o_conv hs ht hx).to (by rw [convu8])
theorem o_a63 {m : Nat} (hx : evO l x = some (.int .u8 ((m % 256 : Nat) : Int))) (hy : evO l y = some (.int .u8 63)) : Runs P l ⟨dd, .binOp .and t x y t', ty, pos, af, gg⟩ w (.int .u8 ((m % 64 : Nat) : Int)) w :=
 (o_and hx hy).to (by rw [and63 (Nat.mod_lt _ (by decide)), show m % 256 % 64 = m % 64 by omega])
theorem o_o128 {m : Nat} (hx : evO l x = some (.int .u8 128)) (hy : evO l y = some (.int .u8 ((m % 64 : Nat) : Int))) : Runs P l ⟨dd, .binOp .or t x y t', ty, pos, af, gg⟩ w (.int .u8 ((128 + m % 64 : Nat) : Int)) w :=
 (o_or hx hy).to (by rw [or128 (Nat.mod_lt _ (by decide))])
theorem o_o192 {m : Nat} (hx : evO l x = some (.int .u8 192)) (hy : evO l y = some (.int .u8 ((m % 256 : Nat) : Int))) (h : m < 32) : Runs P l ⟨dd, .binOp .or t x y t', ty, pos, af, gg⟩ w (.int .u8 ((192 + m : Nat) : Int)) w :=
 (o_or hx hy).to (by rw [show m % 256 = m by omega, or192 h])
theorem o_o224 {m : Nat} (hx : evO l x = some (.int .u8 224)) (hy : evO l y = some (.int .u8 ((m % 256 : Nat) : Int))) (h : m < 16) : Runs P l ⟨dd, .binOp .or t x y t', ty, pos, af, gg⟩ w (.int .u8 ((224 + m : Nat) : Int)) w :=
 (o_or hx hy).to (by rw [show m % 256 = m by omega, or224 h])
theorem o_o240 {m : Nat} (hx : evO l x = some (.int .u8 240)) (hy : evO l y = some (.int .u8 ((m % 256 : Nat) : Int))) (h : m < 8) : Runs P l ⟨dd, .binOp .or t x y t', ty, pos, af, gg⟩ w (.int .u8 ((240 + m : Nat) : Int)) w :=
 (o_or hx hy).to (by rw [show m % 256 = m by omega, or240 h])
theorem o_cu32 {m : Nat} {d0 : TypeDesc} (hs : P.underlying t = some d0) (ht : P.underlying t' = some (.int .u32)) (hx : evO l x = some (.int .i32 (m : Int))) (h : m ≤ 1114111) : Runs P l ⟨dd, .convert t t' x, ty, pos, af, gg⟩ w (.int .u32 (m : Int)) w :=
 o_convN hs ht hx (convu32 (by omega))
end
theorem encL_lt {c : Nat} (h2 : c ≤ 1114111) : ∀ m ∈ encL c, m < 256 := by
 intro m hm
 by_cases h : 128 ≤ c
 ·exact (encL_big h h2 m hm).2
 ·unfold encL at hm
  rw [if_pos (by omega)] at hm
  simp at hm
  omega
def encB (c : Nat) : Str := (encL c).map UInt8.ofNat
theorem encB_cells {c : Nat} (h2 : c ≤ 1114111) : (encB c).map B8 = (encL c).map (fun m : Nat => Value.int .u8 (m : Int)) := by
 unfold encB
 rw [List.map_map]
 refine List.map_congr_left fun m hm => ?_
 have := encL_lt h2 m hm
 simp only [Function.comp, B8]
 rw [UInt8.toNat_ofNat_of_lt' (by simpa using this)]
theorem own_enc {w : World} {v : Value} {b : Str} {n c : Nat} {vs : List Value} (hc : c ≤ 1114111) (h : Own w 5 1 v n vs) (hn : n = b.length + (encL c).length) (hv : vs = (b.map b8c).flatten ++ (encL c).map (fun m : Nat => Value.int .u8 (m : Int))) : OwB w v (b ++ encB c) :=
 h.same (by rw [hn, List.length_append]; simp [encB]) (by rw [hv, List.map_append, List.flatten_append, cells_b8 (encB c), encB_cells hc])
theorem encB_take {l : Str} (h : l ≠ []) (h0 : (runeR l).2 ≠ 0) : encB (runeR l).1 = l.take (runeR l).2 := by
 rcases ok_all h with ⟨h1, _⟩ | ⟨_, h2, h3, h4, h5, _⟩
 ·exact absurd h1 h0
 ·unfold encB
  rw [← h3, List.map_map]
  refine (List.map_congr_left fun b hb => ?_).trans (List.map_id _)
  simp [Function.comp]
end Go.Proofs.YtknndpjacklkeaaGreatDoor.V

set_option linter.unusedVariables false
set_option linter.unusedSimpArgs false
set_option maxRecDepth 10000
namespace Go.Proofs.YtknndpjacklkeaaGreatDoor.V
open Go Go.Proofs
theorem ent225 : Ent Tryz.prog 225 := Ent.of Tryz.func225 (by kernel_rfl) (by kernel_rfl)
theorem c_aprn (w : World) (v : Value) (b : Str) (c : Nat) (O : OwB w v b) (h1 : c ≤ 1114111) (h2 : ¬ (55296 ≤ c ∧ c ≤ 57343)) (hb : b.length ≤ 1000000) (h0 : 128 ≤ c) : Calls Tryz.prog 225 [v, .int .i32 (c : Int)].toArray w (Ret fun u w' => OwB w' u (b ++ encB c) ∧ (∀ x ∈ ob u, x ∈ ob v ∨ w.heap.size ≤ x) ∧ Mod (ob v) w w') := by
 refine enter Tryz.func225 rfl rfl rfl (l := [(0, _), (1, _)]) ⟨rfl, rfl, trivial⟩ ?_
 have E := Mod.refl [] w
 refine Cq fun K1 hK1 => Cr (Za rfl (Ln (e_K (hK1 _ _ _ _ (Cq fun K2 hK2 => Cr (Zm rfl (Sv (o_cu32 Tryz.underlying21 Tryz.underlying147 rfl h1) (Za rfl (Ln (e_K (hK2 _ _ _ _ (cB (Cq fun K3 hK3 => ?_)))))))))))))
 refine Cr (tW 3 rfl (Ln (e_K (hK3 _ _ _ _ ?_))))
 refine c_if rfl (fun h11 => ?_) (fun h11 => ?_)
 ·refine Cq fun K4 hK4 => Cr (tW 2 rfl (Sv (o_shE 6 64 rfl rfl (by decide) (by decide)) (Sv (o_cv8 Tryz.underlying21 Tryz.underlying5 rfl) (Sv (o_o192 rfl rfl (by omega)) (Zm rfl (Sv (o_cv8 Tryz.underlying21 Tryz.underlying5 rfl) (Sv (o_a63 rfl rfl) (Sv (o_o128 rfl rfl) (s_bslice (cs := [_, _]) sl74 zv5 rfl rfl rfl (by decide) rfl fun g1 w1 N1 => ?_)))))))))
  have Lg1_E := N1.le E
  have Da0_g1 := N1.own_ne O
  replace E := E.then N1.mod
  replace O := O.mod0 N1.mod
  have Bg1 := N1.blk
  exact s_append sl74 rfl rfl O (Src.own Tryz.underlying74 (Own.all (c := 2) (cs := [_, _]) Bg1 rfl (by omega)) (by simp [Value.oneCell'])) (by decide) (by omega) (by omega) rfl fun u1 w2 AA => Za rfl (Ln (e_K (hK4 _ _ _ _ (cR (eI (by simp) (ret1 rfl rfl ⟨own_enc h1 AA.own (by rw [show encL c = [192 + c / 64, 128 + c % 64] by unfold encL; rw [if_neg (by omega), if_pos (by omega)]]; rfl) (by rw [show encL c = [192 + c / 64, 128 + c % 64] by unfold encL; rw [if_neg (by omega), if_pos (by omega)]]; rfl), fun x hx => (AA.ob_ x hx).imp id (Nat.le_trans E.size), (E.mono (by simp)).trans AA.mod⟩))))))
 ·refine Cq fun K5 hK5 => Cq fun K6 hK6 => Cr (tW 2 rfl ?_)
  refine bD (fun hs5_0 : (c : Int) < 55296 => ?_) (fun hs5_0 => ?_)
  ·refine Za rfl (Ln (e_K (hK6 _ _ _ _ (c_true rfl (cK (e_K (hK5 _ _ _ _ (c_true rfl (Cq fun K7 hK7 => Cr (tW 2 rfl (Sv (o_shE 12 4096 rfl rfl (by decide) (by decide)) (Sv (o_cv8 Tryz.underlying21 Tryz.underlying5 rfl) (Sv (o_o224 rfl rfl (by omega)) (Zm rfl ?_))))))))))))))
   refine Sv (o_shE 6 64 rfl rfl (by decide) (by decide)) (Sv (o_cv8 Tryz.underlying21 Tryz.underlying5 rfl) (Sv (o_a63 rfl rfl) (Sv (o_o128 rfl rfl) (Zm rfl (Sv (o_cv8 Tryz.underlying21 Tryz.underlying5 rfl) (Sv (o_a63 rfl rfl) (Sv (o_o128 rfl rfl) (s_bslice (cs := [_, _, _]) sl74 zv5 rfl rfl rfl (by decide) rfl fun g2 w3 N2 => ?_))))))))
   have Lg2_E := N2.le E
   have Da0_g2 := N2.own_ne O
   replace E := E.then N2.mod
   replace O := O.mod0 N2.mod
   have Bg2 := N2.blk
   exact s_append sl74 rfl rfl O (Src.own Tryz.underlying74 (Own.all (c := 3) (cs := [_, _, _]) Bg2 rfl (by omega)) (by simp [Value.oneCell'])) (by decide) (by omega) (by omega) rfl fun u1 w4 AA => Za rfl (Ln (e_K (hK7 _ _ _ _ (cR (eI (by simp) (ret1 rfl rfl ⟨own_enc h1 AA.own (by rw [show encL c = [224 + c / 4096, 128 + c / 64 % 64, 128 + c % 64] by unfold encL; rw [if_neg (by omega), if_neg (by omega), if_pos (by omega)]]; rfl) (by rw [show encL c = [224 + c / 4096, 128 + c / 64 % 64, 128 + c % 64] by unfold encL; rw [if_neg (by omega), if_neg (by omega), if_pos (by omega)]]; rfl), fun x hx => (AA.ob_ x hx).imp id (Nat.le_trans E.size), (E.mono (by simp)).trans AA.mod⟩))))))
  ·refine Za rfl (Ln (e_K (hK6 _ _ _ _ (c_false rfl (Cr (tW 2 rfl (bE (dT (show (57343 : Int) < (c : Int) by omega)) (tW 5 rfl (Ln (e_K (hK5 _ _ _ _ ?_)))))))))))
   refine c_if rfl (fun h25 => ?_) (fun h25 => ?_)
   ·refine Cq fun K8 hK8 => Cr (tW 2 rfl (Sv (o_shE 12 4096 rfl rfl (by decide) (by decide)) (Sv (o_cv8 Tryz.underlying21 Tryz.underlying5 rfl) (Sv (o_o224 rfl rfl (by omega)) (Zm rfl (Sv (o_shE 6 64 rfl rfl (by decide) (by decide)) (Sv (o_cv8 Tryz.underlying21 Tryz.underlying5 rfl) (Sv (o_a63 rfl rfl) (Sv (o_o128 rfl rfl) (Zm rfl (Sv (o_cv8 Tryz.underlying21 Tryz.underlying5 rfl) (Sv (o_a63 rfl rfl) ?_))))))))))))
    refine Sv (o_o128 rfl rfl) (s_bslice (cs := [_, _, _]) sl74 zv5 rfl rfl rfl (by decide) rfl fun g3 w5 N3 => ?_)
    have Lg3_E := N3.le E
    have Da0_g3 := N3.own_ne O
    replace E := E.then N3.mod
    replace O := O.mod0 N3.mod
    have Bg3 := N3.blk
    exact s_append sl74 rfl rfl O (Src.own Tryz.underlying74 (Own.all (c := 3) (cs := [_, _, _]) Bg3 rfl (by omega)) (by simp [Value.oneCell'])) (by decide) (by omega) (by omega) rfl fun u1 w6 AA => Za rfl (Ln (e_K (hK8 _ _ _ _ (cR (eI (by simp) (ret1 rfl rfl ⟨own_enc h1 AA.own (by rw [show encL c = [224 + c / 4096, 128 + c / 64 % 64, 128 + c % 64] by unfold encL; rw [if_neg (by omega), if_neg (by omega), if_pos (by omega)]]; rfl) (by rw [show encL c = [224 + c / 4096, 128 + c / 64 % 64, 128 + c % 64] by unfold encL; rw [if_neg (by omega), if_neg (by omega), if_pos (by omega)]]; rfl), fun x hx => (AA.ob_ x hx).imp id (Nat.le_trans E.size), (E.mono (by simp)).trans AA.mod⟩))))))
   ·refine Cq fun K9 hK9 => Cr (tW 2 rfl (bE (dT (show (65535 : Int) < (c : Int) by omega)) (tW 5 rfl (Ln (e_K (hK9 _ _ _ _ ?_))))))
    refine c_if rfl (fun h50 => ?_) (fun h50 => ?_)
    ·refine Cq fun K10 hK10 => Cr (tW 2 rfl (Sv (o_shE 18 262144 rfl rfl (by decide) (by decide)) (Sv (o_cv8 Tryz.underlying21 Tryz.underlying5 rfl) (Sv (o_o240 rfl rfl (by omega)) (Zm rfl (Sv (o_shE 12 4096 rfl rfl (by decide) (by decide)) (Sv (o_cv8 Tryz.underlying21 Tryz.underlying5 rfl) (Sv (o_a63 rfl rfl) (Sv (o_o128 rfl rfl) (Zm rfl (Sv (o_shE 6 64 rfl rfl (by decide) (by decide)) (Sv (o_cv8 Tryz.underlying21 Tryz.underlying5 rfl) ?_))))))))))))
     refine Sv (o_a63 rfl rfl) (Sv (o_o128 rfl rfl) (Zm rfl (Sv (o_cv8 Tryz.underlying21 Tryz.underlying5 rfl) (Sv (o_a63 rfl rfl) (Sv (o_o128 rfl rfl) (s_bslice (cs := [_, _, _, _]) sl74 zv5 rfl rfl rfl (by decide) rfl fun g4 w7 N4 => ?_))))))
     have Lg4_E := N4.le E
     have Da0_g4 := N4.own_ne O
     replace E := E.then N4.mod
     replace O := O.mod0 N4.mod
     have Bg4 := N4.blk
     exact s_append sl74 rfl rfl O (Src.own Tryz.underlying74 (Own.all (c := 4) (cs := [_, _, _, _]) Bg4 rfl (by omega)) (by simp [Value.oneCell'])) (by decide) (by omega) (by omega) rfl fun u1 w8 AA => Za rfl (Ln (e_K (hK10 _ _ _ _ (cR (eI (by simp) (ret1 rfl rfl ⟨own_enc h1 AA.own (by rw [show encL c = [240 + c / 262144, 128 + c / 4096 % 64, 128 + c / 64 % 64, 128 + c % 64] by unfold encL; rw [if_neg (by omega), if_neg (by omega), if_neg (by omega)]]; rfl) (by rw [show encL c = [240 + c / 262144, 128 + c / 4096 % 64, 128 + c / 64 % 64, 128 + c % 64] by unfold encL; rw [if_neg (by omega), if_neg (by omega), if_neg (by omega)]]; rfl), fun x hx => (AA.ob_ x hx).imp id (Nat.le_trans E.size), (E.mono (by simp)).trans AA.mod⟩))))))
    ·exact absurd (show (c : Int) ≤ 1114111 by omega) h50

theorem c_apr (w : World) (v : Value) (b : Str) (c : Nat) (O : OwB w v b) (h1 : c ≤ 1114111) (h2 : ¬ (55296 ≤ c ∧ c ≤ 57343)) (hb : b.length ≤ 1000000) : Calls Tryz.prog 189 [v, .int .i32 (c : Int)].toArray w (Ret fun u w' => OwB w' u (b ++ encB c) ∧ (∀ x ∈ ob u, x ∈ ob v ∨ w.heap.size ≤ x) ∧ Mod (ob v) w w') := by
 refine enter Tryz.func189 rfl rfl rfl (l := [(0, _), (1, _)]) ⟨rfl, rfl, trivial⟩ ?_
 have E := Mod.refl [] w
 refine Cq fun K1 hK1 => Cr (Za rfl (Ln (e_K (hK1 _ _ _ _ (Cq fun K2 hK2 => Cq fun K3 hK3 => Cr (Zm rfl (Sv (o_cu32 Tryz.underlying21 Tryz.underlying147 rfl h1) (Sv (o_leq rfl rfl) (Ln (e_K (hK3 _ _ _ _ ?_)))))))))))
 refine c_if rfl (fun h7 => ?_) (fun h7 => ?_)
 ·refine Cq fun K4 hK4 => Cr (tW 2 rfl (Sv (o_cv8 Tryz.underlying21 Tryz.underlying5 rfl) (s_bslice (cs := [_]) sl74 zv5 rfl rfl rfl (by decide) rfl fun g1 w1 N1 => ?_)))
  have Lg1_E := N1.le E
  have Da0_g1 := N1.own_ne O
  replace E := E.then N1.mod
  replace O := O.mod0 N1.mod
  have Bg1 := N1.blk
  exact s_append sl74 rfl rfl O (Src.own Tryz.underlying74 (Own.all (c := 1) (cs := [_]) Bg1 rfl (by omega)) (by simp [Value.oneCell'])) (by decide) (by omega) (by omega) rfl fun u1 w2 AA => Za rfl (Ln (e_K (hK4 _ _ _ _ (cR (eT (by simp) (ret1 rfl rfl ⟨own_enc h1 AA.own (by rw [show encL c = [c] by unfold encL; rw [if_pos (by omega)]]; rfl) (by rw [show encL c = [c] by unfold encL; rw [if_pos (by omega)], show c % 256 = c by omega]; rfl), fun x hx => (AA.ob_ x hx).imp id (Nat.le_trans E.size), (E.mono (by simp)).trans AA.mod⟩))))))
 ·refine cK (e_K (hK2 _ _ _ _ (Cq fun K5 hK5 => Cr (tW 2 rfl (sc (oC ent225 rfl) (c_aprn _ v b c O h1 h2 hb (by omega)) rfl fun v_ w3 h_ => ?_)))))
  obtain ⟨hO1, hob1, hm1⟩ := h_
  exact Za rfl (Ln (e_K (hK5 _ _ _ _ (cR (ret1 rfl rfl ⟨hO1, fun x hx => (hob1 x hx).imp id (Nat.le_trans E.size), (E.mono (by simp)).trans hm1⟩)))))
end Go.Proofs.YtknndpjacklkeaaGreatDoor.V
