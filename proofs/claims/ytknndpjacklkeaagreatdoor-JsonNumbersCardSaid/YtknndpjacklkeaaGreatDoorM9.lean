/-
  A part of the proof: steps of the reading: digits of base 16, escapes, blanks, words of numbers; steps of the reading: runes that are no ASCII, escapes by parts, texts between quotes by rounds. No condition of its own.
-/
import Derived.Test.YtknndpjacklkeaaGreatDoorM8
import Derived.Test.YtknndpjacklkeaaGreatDoorM4
import Derived.Lib.SlTrimSet
set_option linter.unusedVariables false
set_option linter.unusedSimpArgs false
namespace Go.Proofs.YtknndpjacklkeaaGreatDoor.V
open Go
/-! ## four digits -/
theorem hexF_short : ∀ (f : Nat) (s : Str) (n : Nat), s.length < f → hexF f s n = none
 | 0, _, _, h => by omega
 | f + 1, [], n, _ => rfl
 | f + 1, c :: r, n, h => by
  rw [hexF]
  cases hexv c with
  | none => rfl
  | some d => exact hexF_short f r _ (by simpa using h)
theorem hexF_take : ∀ (f : Nat) (s : Str) (n : Nat), hexF f (s.take f) n = hexF f s n
 | 0, _, _ => by simp [hexF]
 | f + 1, [], n => rfl
 | f + 1, c :: r, n => by
  rw [List.take_succ_cons, hexF, hexF]
  cases hexv c with
  | none => rfl
  | some d => exact hexF_take f r _
theorem hexv_lt {c : UInt8} {d : Nat} (h : hexv c = some d) : d < 16 := by
 unfold hexv at h
 split at h
 ·injection h with h; omega
 ·split at h
  ·injection h with h; omega
  ·split at h
   ·injection h with h; omega
   ·cases h
theorem hexv_big {c : UInt8} (h : 128 ≤ c.toNat) : hexv c = none := by
 unfold hexv
 rw [if_neg (by omega), if_neg (by omega), if_neg (by omega)]
theorem hexF_lt : ∀ (f : Nat) (s : Str) (n m : Nat), hexF f s n = some m → m < 16 ^ f * (n + 1)
 | 0, _, n, m, h => by
  simp only [hexF, Option.some.injEq] at h
  omega
 | f + 1, [], n, m, h => by simp [hexF] at h
 | f + 1, c :: r, n, m, h => by
  rw [hexF] at h
  cases hd : hexv c with
  | none => rw [hd] at h; cases h
  | some d =>
   rw [hd] at h
   have h1 := hexF_lt f r _ _ h
   have h2 := hexv_lt hd
   have h3 : 16 ^ f * (16 * n + d + 1) ≤ 16 ^ f * (16 * (n + 1)) := Nat.mul_le_mul_left _ (by omega)
   rw [Nat.pow_succ, Nat.mul_assoc]
   omega
theorem four_lt {s : Str} {m : Nat} (h : hexF 4 s 0 = some m) : m < 65536 := by
 have := hexF_lt 4 s 0 m h
 omega
theorem hexF_at {f p n : Nat} {s : Str} {b : UInt8} (h : s[p]? = some b) : hexF (f + 1) (s.drop p) n = match hexv b with | none => none | some d => hexF f (s.drop (p + 1)) (16 * n + d) := by
 rw [drop_get h, hexF]
 cases hexv b <;> rfl
theorem hexS : ∀ b, b < 128 → (match hexv (UInt8.ofNat b) with | none => decide (Lib.indexByte hexD (UInt8.ofNat (b ||| 32)) < 0) || decide (b < 48) | some d => decide (Lib.indexByte hexD (UInt8.ofNat (b ||| 32)) = (d : Int)) && decide (48 ≤ b)) = true := by decide +kernel
theorem hexS_no {b : UInt8} (hb : b.toNat < 128) (h : hexv b = none) : Lib.indexByte hexD (UInt8.ofNat (b.toNat ||| 32)) < 0 ∨ b.toNat < 48 := by
 have := hexS b.toNat hb
 rw [UInt8.ofNat_toNat, h] at this
 simpa using this
theorem hexS_yes {b : UInt8} {d : Nat} (hb : b.toNat < 128) (h : hexv b = some d) : Lib.indexByte hexD (UInt8.ofNat (b.toNat ||| 32)) = (d : Int) ∧ 48 ≤ b.toNat := by
 have := hexS b.toNat hb
 rw [UInt8.ofNat_toNat, h] at this
 simpa using this
theorem wrap32_in (z : Int) (h : -2147483648 ≤ z ∧ z ≤ 2147483647) : IntKind.i32.wrap z = z := by
 simp only [IntKind.wrap, IntKind.bits, IntKind.signed]
 simp
 omega
theorem or32i {c : Nat} (h : c ≤ 1114111) : IntKind.i32.wrap ((BitVec.ofInt IntKind.i32.bits (c : Int) ||| BitVec.ofInt IntKind.i32.bits 32).toNat) = ((c ||| 32 : Nat) : Int) := by
 have h0 : (BitVec.ofInt 32 (c : Int) ||| BitVec.ofInt 32 32).toNat = c ||| 32 := by
  rw [BitVec.toNat_or]
  have h1 : (BitVec.ofInt 32 (c : Int)).toNat = c := by
   rw [BitVec.toNat_ofInt]; omega
  have h2 : (BitVec.ofInt 32 32).toNat = 32 := by decide
  rw [h1, h2]
 have hlt : c ||| 32 < 2 ^ 21 := Nat.or_lt_two_pow (by omega) (by omega)
 show IntKind.i32.wrap ((BitVec.ofInt 32 (c : Int) ||| BitVec.ofInt 32 32).toNat : Int) = _
 rw [h0, wrap32_in _ (by omega)]
theorem or32_up {c : Nat} : (c ||| 32) / 2048 = c / 2048 := by
 have := Nat.shiftRight_or_distrib (a := c) (b := 32) (i := 11)
 rw [Nat.shiftRight_eq_div_pow, Nat.shiftRight_eq_div_pow] at this
 simpa using this
theorem or32_ge {c : Nat} (h : 128 ≤ c) : 128 ≤ c ||| 32 := Nat.le_trans h Nat.left_le_or
theorem or32_le {c : Nat} (h : c ≤ 1114111) : c ||| 32 ≤ 1114111 := by
 have h1 := or32_up (c := c)
 by_cases h2 : c / 2048 = 543
 ·omega
 ·omega
theorem or32_no {c : Nat} (h : ¬ (55296 ≤ c ∧ c ≤ 57343)) : ¬ (55296 ≤ c ||| 32 ∧ c ||| 32 ≤ 57343) := by
 have h1 := or32_up (c := c)
 omega
theorem or32_lt {c : Nat} (h : c < 128) : c ||| 32 < 128 := Nat.or_lt_two_pow (n := 7) h (by decide)
theorem or16i {n d : Nat} (hn : n < 1048576) (hd : d < 16) : IntKind.i32.wrap ((BitVec.ofInt IntKind.i32.bits ((16 * n : Nat) : Int) ||| BitVec.ofInt IntKind.i32.bits (d : Int)).toNat) = ((16 * n + d : Nat) : Int) := by
 have h : (BitVec.ofInt 32 ((16 * n : Nat) : Int) ||| BitVec.ofInt 32 (d : Int)).toNat = 16 * n + d := by
  rw [BitVec.toNat_or]
  have h1 : (BitVec.ofInt 32 ((16 * n : Nat) : Int)).toNat = 16 * n := by
   rw [BitVec.toNat_ofInt]; omega
  have h2 : (BitVec.ofInt 32 (d : Int)).toNat = d := by
   rw [BitVec.toNat_ofInt]; omega
  rw [h1, h2]
  exact (Nat.two_pow_add_eq_or_of_lt (i := 4) hd n).symm
 show IntKind.i32.wrap ((BitVec.ofInt 32 ((16 * n : Nat) : Int) ||| BitVec.ofInt 32 (d : Int)).toNat : Int) = _
 rw [h, wrap32_in _ (by omega)]
/-! ## letters behind a backslash -/
abbrev escF : Str := [34, 92, 47, 98, 102, 110, 114, 116]
abbrev escG : Str := [34, 92, 47, 8, 12, 10, 13, 9]
theorem escC_idx (c : UInt8) : (escC c = none ∧ Lib.indexByte escF c < 0) ∨ ∃ i d : Nat, escC c = some d ∧ Lib.indexByte escF c = (i : Int) ∧ i < 8 ∧ escG[i]? = some (UInt8.ofNat d) ∧ d < 256 := by
 by_cases h1 : c = 34
 ·subst h1; exact .inr ⟨0, 34, by decide⟩
 by_cases h2 : c = 92
 ·subst h2; exact .inr ⟨1, 92, by decide⟩
 by_cases h3 : c = 47
 ·subst h3; exact .inr ⟨2, 47, by decide⟩
 by_cases h4 : c = 98
 ·subst h4; exact .inr ⟨3, 8, by decide⟩
 by_cases h5 : c = 102
 ·subst h5; exact .inr ⟨4, 12, by decide⟩
 by_cases h6 : c = 110
 ·subst h6; exact .inr ⟨5, 10, by decide⟩
 by_cases h7 : c = 114
 ·subst h7; exact .inr ⟨6, 13, by decide⟩
 by_cases h8 : c = 116
 ·subst h8; exact .inr ⟨7, 9, by decide⟩
 left
 refine ⟨by unfold escC; simp [*], ?_⟩
 have e : ∀ d : UInt8, ¬ c = d → (d == c) = false := fun d h => by simp [Ne.symm h]
 simp only [Lib.indexByte, e _ h1, e _ h2, e _ h3, e _ h4, e _ h5, e _ h6, e _ h7, e _ h8, Bool.false_eq_true, if_false, beq_self_eq_true, if_true]
 omega
def escP (s : Str) : Nat × Nat := if (escR (92 :: s)).2 = 0 then (0, 0) else ((escR (92 :: s)).1, (escR (92 :: s)).2 - 1)
theorem escP_nil : escP [] = (0, 0) := rfl
theorem escP_one {c : UInt8} {r : Str} {d : Nat} (h : escC c = some d) : escP (c :: r) = (d, 1) := by
 have : escR (92 :: c :: r) = (d, 2) := by unfold escR; simp only; rw [h]
 unfold escP
 rw [this]
 rfl
theorem escR_u {c : UInt8} {r : Str} (h : escC c = none) : escR (92 :: c :: r) = match hexU (92 :: c :: r) with
   | none => (0, 0)
   | some n =>
    if 56320 ≤ n ∧ n ≤ 57343 then (0, 0)
    else if n < 55296 ∨ 57343 < n then (n, 6)
    else match hexU (r.drop 4) with
     | none => (0, 0)
     | some m => if m < 56320 ∨ 57343 < m then (0, 0) else (65536 + 1024 * (n - 55296) + (m - 56320), 12) := by
 unfold escR
 simp only
 rw [h]
 rfl
theorem hexU_no {c : UInt8} {r : Str} (h : c ≠ 117) : hexU (92 :: c :: r) = none := by
 unfold hexU
 split
 ·rename_i h2
  injection h2 with _ h2
  injection h2 with h2 _
  exact absurd h2 h
 ·rfl
theorem hexU_u {r : Str} : hexU (92 :: 117 :: r) = hexF 4 r 0 := rfl
theorem hexU_pre {l : Str} (h : (List.isPrefixOf [92, 117] l) = false) : hexU l = none := by
 unfold hexU
 split
 ·simp [List.isPrefixOf] at h
 ·rfl
theorem hexU_pre' {l : Str} (h : (List.isPrefixOf [92, 117] l) = true) : hexU l = hexF 4 (l.drop 2) 0 := by
 rw [List.isPrefixOf_iff_prefix] at h
 obtain ⟨t, rfl⟩ := h
 rfl
/-! ## blanks, words of numbers -/
theorem ib_any (s : Str) (c : UInt8) : decide (Lib.indexByte s c ≥ 0) = s.any (fun b => b == c) := by
 induction s with
 | nil => rfl
 | cons b s ih =>
  rw [List.any_cons, ← ih, show Lib.indexByte (b :: s) c = (if b == c then 0 else if Lib.indexByte s c == -1 then -1 else Lib.indexByte s c + 1) from rfl]
  by_cases h : (b == c) = true
  ·rw [if_pos h, h]; rfl
  ·rw [if_neg h]
   have hf : (b == c) = false := by simpa using h
   rw [hf, Bool.false_or]
   by_cases h2 : (Lib.indexByte s c == -1) = true
   ·rw [if_pos h2]
    have : Lib.indexByte s c = -1 := by simpa using h2
    rw [this]
   ·rw [if_neg h2]
    have h3 : Lib.indexByte s c ≠ -1 := by simpa using h2
    have h4 := Lib.indexByte_ge s c
    rw [decide_eq_true (by omega), decide_eq_true (by omega)]
theorem bq_comm (a b : UInt8) : (a == b) = (b == a) := by
 by_cases h : a = b
 ·subst h; rfl
 ·rw [beq_eq_false_iff_ne.2 h, beq_eq_false_iff_ne.2 (Ne.symm h)]
theorem ib_ws (c : UInt8) : decide (Lib.indexByte [32, 9, 10, 13] c ≥ 0) = isWs c := by
 rw [ib_any]
 simp [isWs, bq_comm, Bool.or_assoc]
theorem ib_nm : ∀ c : Nat, c < 256 → decide (Lib.indexByte [43, 45, 46, 48, 49, 50, 51, 52, 53, 54, 55, 56, 57, 69, 101] (UInt8.ofNat c) ≥ 0) = isNm (UInt8.ofNat c) := by decide +kernel
theorem ib_num (c : UInt8) : decide (Lib.indexByte [43, 45, 46, 48, 49, 50, 51, 52, 53, 54, 55, 56, 57, 69, 101] c ≥ 0) = isNm c := by
 have := ib_nm c.toNat (UInt8.toNat_lt c)
 rwa [UInt8.ofNat_toNat] at this
theorem dig_set (c : UInt8) : ([48, 49, 50, 51, 52, 53, 54, 55, 56, 57] : Str).contains c = isDg c := by
 have : ∀ n : Nat, n < 256 → ([48, 49, 50, 51, 52, 53, 54, 55, 56, 57] : Str).contains (UInt8.ofNat n) = isDg (UInt8.ofNat n) := by decide +kernel
 have := this c.toNat (UInt8.toNat_lt c)
 rwa [UInt8.ofNat_toNat] at this
theorem dw_span (p : UInt8 → Bool) (s : Str) (k : Nat) : (s.drop k).dropWhile p = s.drop (spanA p s k) := by
 unfold spanA
 generalize hl : s.drop k = l
 have h : ∀ l : Str, l.dropWhile p = l.drop (l.takeWhile p).length := fun l => by
  induction l with
  | nil => rfl
  | cons c r ih =>
   rw [List.dropWhile_cons, List.takeWhile_cons]
   split
   ·rw [ih]; simp
   ·rfl
 rw [h, ← hl, List.drop_drop]
theorem trimD (s : Str) (k : Nat) : Lib.trimLeftS (s.drop k) [48, 49, 50, 51, 52, 53, 54, 55, 56, 57] = s.drop (spanA isDg s k) := by
 rw [← dw_span]
 unfold Lib.trimLeftS
 congr 1
 funext c
 exact dig_set c
theorem e_or32 : ∀ c : Nat, c < 256 → (IntKind.u8.wrap ((BitVec.ofInt IntKind.u8.bits (c : Int) ||| BitVec.ofInt IntKind.u8.bits 32).toNat) = 101 ↔ (c = 101 ∨ c = 69)) := by decide +kernel
end Go.Proofs.YtknndpjacklkeaaGreatDoor.V

set_option linter.unusedVariables false
set_option linter.unusedSimpArgs false
namespace Go.Proofs.YtknndpjacklkeaaGreatDoor.V
open Go
theorem dec_hi {s : Str} {p : Nat} {b : UInt8} (hb : s[p]? = some b) (h : ¬ b.toNat < 128) : ∃ c m, Utf8.decode ⟨⟨s⟩⟩ p = (c, m) ∧ 128 ≤ c ∧ c ≤ 1114111 ∧ ¬ (55296 ≤ c ∧ c ≤ 57343) := by
 have hp := (List.getElem?_eq_some_iff.1 hb).1
 have hd := drop_get hb
 by_cases h0 : (runeR (s.drop p)).2 = 0
 ·exact ⟨65533, 1, dec_bad hp h0, by decide, by decide, by decide⟩
 ·obtain ⟨_, _, h1, h2⟩ := enc_take (dec_at hp) h0
  refine ⟨_, _, dec_ok hp h0, ?_, h1, h2⟩
  rcases Nat.lt_or_ge (runeR (s.drop p)).1 128 with h3 | h3
  ·obtain ⟨x, hx, hxc⟩ := rune_byte (dec_at hp) h0 h3
   rw [hd] at hx
   have : x = b := by
    cases hn : (runeR (b :: s.drop (p + 1))).2 with
    | zero => rw [hn] at hx; simp at hx
    | succ m => rw [hn, List.take_succ_cons] at hx; injection hx with hx; exact hx.symm
   subst this
   omega
  ·exact h3
theorem hexF_none {p n d4 : Nat} {s : Str} {b : UInt8} {W : Option Nat} (hp : p < 4) (hb : s[p]? = some b) (hx : hexv b = none) (hinv : hexF (4 - p) (s.drop p) n = W) : W = none := by
 rw [← hinv, show 4 - p = (3 - p) + 1 by omega, hexF_at hb, hx]
theorem hexF_some {p n d : Nat} {s : Str} {b : UInt8} {W : Option Nat} (hp : p < 4) (hb : s[p]? = some b) (hx : hexv b = some d) (hinv : hexF (4 - p) (s.drop p) n = W) : hexF (4 - (p + 1)) (s.drop (p + 1)) (16 * n + d) = W := by
 rw [← hinv, show 4 - p = (3 - p) + 1 by omega, hexF_at hb, hx, show 4 - (p + 1) = 3 - p by omega]
theorem hex_no {b : UInt8} (hb : b.toNat < 128) (h : Lib.indexByte hexD (UInt8.ofNat (b.toNat ||| 32)) < 0 ∨ b.toNat < 48) : hexv b = none := by
 cases hx : hexv b with
 | none => rfl
 | some d =>
  have := hexS_yes hb hx
  omega
theorem hex_yes {b : UInt8} (hb : b.toNat < 128) (h1 : ¬ Lib.indexByte hexD (UInt8.ofNat (b.toNat ||| 32)) < 0) (h2 : ¬ b.toNat < 48) : ∃ d, hexv b = some d ∧ d < 16 ∧ Lib.indexByte hexD (UInt8.ofNat (b.toNat ||| 32)) = (d : Int) := by
 cases hx : hexv b with
 | none => exact absurd (hexS_no hb hx) (by omega)
 | some d => exact ⟨d, rfl, hexv_lt hx, (hexS_yes hb hx).1⟩
theorem shl4i {n : Nat} (h : n < 65536) : IntKind.i32.wrap ((n : Int) * 2 ^ (min ((4 : Int)).toNat IntKind.i32.bits)) = ((16 * n : Nat) : Int) := by
 have : (2 : Int) ^ (min ((4 : Int)).toNat IntKind.i32.bits) = 16 := by decide
 rw [this, wrap32_in _ (by omega)]
 omega
theorem shl10i {n : Nat} (h : n < 2048) : IntKind.i32.wrap ((n : Int) * 2 ^ (min ((10 : Int)).toNat IntKind.i32.bits)) = ((1024 * n : Nat) : Int) := by
 have : (2 : Int) ^ (min ((10 : Int)).toNat IntKind.i32.bits) = 1024 := by decide
 rw [this, wrap32_in _ (by omega)]
 omega
theorem pow16 {n p d : Nat} (h : n < 16 ^ p) (hd : d < 16) : 16 * n + d < 16 ^ (p + 1) := by
 rw [Nat.pow_succ]
 omega
theorem pow16_le {n p : Nat} (h : n < 16 ^ p) (hp : p ≤ 3) : n < 4096 := Nat.lt_of_lt_of_le h (Nat.pow_le_pow_right (by decide) hp)
theorem hexF_len {s : Str} {n m : Nat} (h : hexF 4 s n = some m) : 4 ≤ s.length := by
 rcases Nat.lt_or_ge s.length 4 with h1 | h1
 ·rw [hexF_short 4 s n h1] at h; cases h
 ·exact h1
theorem escP_bad1 {c : UInt8} {r : Str} (hn : escC c = none) (h : c ≠ 117 ∨ hexF 4 r 0 = none ∨ ∃ n, hexF 4 r 0 = some n ∧ 56320 ≤ n ∧ n ≤ 57343) : escP (c :: r) = (0, 0) := by
 have h0 : escR (92 :: c :: r) = (0, 0) := by
  rw [escR_u hn]
  by_cases hc : c = 117
  ·subst hc
   rw [hexU_u]
   rcases h with h | h | ⟨n, h1, h2⟩
   ·exact absurd rfl h
   ·rw [h]
   ·rw [h1]
    simp only
    rw [if_pos h2]
  ·rw [hexU_no hc]
 unfold escP
 rw [h0]
 rfl
theorem escP_short {r : Str} {n : Nat} (h : hexF 4 r 0 = some n) (hb : n < 55296 ∨ 57343 < n) : escP (117 :: r) = (n, 5) := by
 have h0 : escR (92 :: 117 :: r) = (n, 6) := by
  rw [escR_u rfl, hexU_u, h]
  simp only
  rw [if_neg (by omega), if_pos hb]
 unfold escP
 rw [h0]
 rfl
theorem escP_bad2 {r : Str} {n : Nat} (h : hexF 4 r 0 = some n) (hb : 55296 ≤ n ∧ n < 56320) (h2 : hexU (r.drop 4) = none ∨ ∃ m, hexU (r.drop 4) = some m ∧ (m < 56320 ∨ 57343 < m)) : escP (117 :: r) = (0, 0) := by
 have h0 : escR (92 :: 117 :: r) = (0, 0) := by
  rw [escR_u rfl, hexU_u, h]
  simp only
  rw [if_neg (by omega), if_neg (by omega)]
  rcases h2 with h2 | ⟨m, h2, h3⟩
  ·rw [h2]
  ·rw [h2]
   simp only
   rw [if_pos h3]
 unfold escP
 rw [h0]
 rfl
theorem escP_pair {r : Str} {n m : Nat} (h : hexF 4 r 0 = some n) (hb : 55296 ≤ n ∧ n < 56320) (h2 : hexU (r.drop 4) = some m) (h3 : 56320 ≤ m ∧ m ≤ 57343) : escP (117 :: r) = (65536 + 1024 * (n - 55296) + (m - 56320), 11) := by
 have h0 : escR (92 :: 117 :: r) = (65536 + 1024 * (n - 55296) + (m - 56320), 12) := by
  rw [escR_u rfl, hexU_u, h]
  simp only
  rw [if_neg (by omega), if_neg (by omega), h2]
  simp only
  rw [if_neg (by omega)]
 unfold escP
 rw [h0]
 rfl
theorem pre_dec (p l : Str) : decide (p.length ≤ l.length ∧ l.take p.length = p) = List.isPrefixOf p l := by
 rw [Bool.eq_iff_iff, decide_eq_true_eq, List.isPrefixOf_iff_prefix, List.prefix_iff_eq_take]
 constructor
 ·rintro ⟨_, h⟩; exact h.symm
 ·intro h
  refine ⟨?_, h.symm⟩
  have := congrArg List.length h
  rw [List.length_take] at this
  omega
theorem escP_le (s : Str) : (escP s).1 ≤ 1114111 ∧ ¬ (55296 ≤ (escP s).1 ∧ (escP s).1 ≤ 57343) ∧ (escP s).2 ≤ s.length := by
 cases s with
 | nil => rw [escP_nil]; decide
 | cons c r =>
  cases hc : escC c with
  | some d =>
   rw [escP_one hc]
   rcases escC_idx c with ⟨h, _⟩ | ⟨i, d', h, _, _, _, h2⟩
   ·rw [h] at hc; cases hc
   ·rw [hc] at h
    injection h with h
    subst h
    exact ⟨by simp only; omega, by simp only; omega, by simp⟩
  | none =>
   by_cases h117 : c = 117
   ·subst h117
    cases hx : hexF 4 r 0 with
    | none => rw [escP_bad1 hc (.inr (.inl hx))]; simp
    | some n =>
     have hl := hexF_len hx
     have hn := four_lt hx
     by_cases hb : n < 55296 ∨ 57343 < n
     ·rw [escP_short hx hb]
      exact ⟨by simp only; omega, by simp only; omega, by simp only [List.length_cons]; omega⟩
     ·by_cases hlo : 56320 ≤ n
      ·rw [escP_bad1 hc (.inr (.inr ⟨n, hx, hlo, by omega⟩))]; simp
      ·cases hu : hexU (r.drop 4) with
       | none => rw [escP_bad2 hx (by omega) (.inl hu)]; simp
       | some m =>
        by_cases hm : m < 56320 ∨ 57343 < m
        ·rw [escP_bad2 hx (by omega) (.inr ⟨m, hu, hm⟩)]; simp
        ·rw [escP_pair hx (by omega) hu (by omega)]
         have hl2 : 6 ≤ (r.drop 4).length := by
          unfold hexU at hu
          split at hu
          ·rename_i r' e
           have := hexF_len hu
           rw [e]
           simp only [List.length_cons]
           omega
          ·cases hu
         rw [List.length_drop] at hl2
         exact ⟨by simp only; omega, by simp only; omega, by simp only [List.length_cons]; omega⟩
   ·rw [escP_bad1 hc (.inl h117)]; simp
/-! ## a text between quotes, round by round -/
theorem strF_end {f : Nat} {s : Str} {i : Nat} {out : Str} (h : s.length ≤ i) : strF f (s.drop i) i out = none := by
 rw [List.drop_eq_nil_of_le h]
 cases f <;> rfl
theorem strF_quote {f : Nat} {s : Str} {i : Nat} {out : Str} (h : s[i]? = some 34) : strF (f + 1) (s.drop i) i out = some (out, i + 1) := by
 rw [drop_get h, strF, if_pos rfl]
theorem strF_rune {f : Nat} {s : Str} {i : Nat} {out : Str} {c : UInt8} (h : s[i]? = some c) (h1 : c ≠ 34) (h2 : c ≠ 92) : strF (f + 1) (s.drop i) i out = if (runeR (s.drop i)).2 = 0 ∨ (runeR (s.drop i)).1 < 32 then none else strF f (s.drop (i + (runeR (s.drop i)).2)) (i + (runeR (s.drop i)).2) (out ++ encB (runeR (s.drop i)).1) := by
 have e := drop_get h
 rw [← List.drop_drop]
 generalize s.drop i = l at e ⊢
 subst e
 rw [strF, if_neg h1, if_neg h2]
 simp only [ne_eq, h2, not_false_eq_true, true_and]
theorem strF_esc {f : Nat} {s : Str} {i : Nat} {out : Str} (h : s[i]? = some 92) : strF (f + 1) (s.drop i) i out = if (escP (s.drop (i + 1))).2 = 0 then none else strF f (s.drop (i + ((escP (s.drop (i + 1))).2 + 1))) (i + ((escP (s.drop (i + 1))).2 + 1)) (out ++ encB (escP (s.drop (i + 1))).1) := by
 have e := drop_get h
 have e2 : ∀ k, s.drop (i + k) = (92 :: s.drop (i + 1)).drop k := fun k => by rw [← e, List.drop_drop]
 rw [e2 ((escP (s.drop (i + 1))).2 + 1), e, strF, if_neg (by decide), if_pos rfl]
 simp only [ne_eq, not_true_eq_false, false_and, or_false]
 unfold escP
 generalize hx : escR (92 :: s.drop (i + 1)) = x
 by_cases h0 : x.2 = 0
 ·rw [if_pos h0, if_pos h0]; rfl
 ·have hne : ¬ (x.2 - 1 = 0) := by
   have : x.2 ≠ 1 := fun h1 => by
    rw [← hx] at h1
    unfold escR at h1
    split at h1
    ·split at h1
     ·cases h1
     ·split at h1
      ·cases h1
      ·split at h1
       ·cases h1
       ·split at h1
        ·cases h1
        ·split at h1
         ·cases h1
         ·split at h1 <;> cases h1
    ·cases h1
   omega
  rw [if_neg h0, if_neg h0]
  simp only
  rw [if_neg hne, show x.2 - 1 + 1 = x.2 by omega]
theorem dec_none {s : Str} {i : Nat} (h : i < s.length) (h0 : (runeR (s.drop i)).2 = 0) : Utf8.decode ⟨⟨s.drop i⟩⟩ 0 = (65533, 1) := by
 have := dec_bad (s := s.drop i) (p := 0) (by rw [List.length_drop]; omega) (by simpa using h0)
 exact this
theorem dec_some {s : Str} {i : Nat} (h : i < s.length) (h0 : (runeR (s.drop i)).2 ≠ 0) : Utf8.decode ⟨⟨s.drop i⟩⟩ 0 = runeR (s.drop i) := by
 have := dec_ok (s := s.drop i) (p := 0) (by rw [List.length_drop]; omega) (by simpa using h0)
 simpa using this
theorem rune_first {s : Str} {i : Nat} {c : UInt8} (h : s[i]? = some c) (hc : c.toNat < 128) : runeR (s.drop i) = (c.toNat, 1) := by
 rw [drop_get h]
 exact runeR_small hc
theorem rune_low {s : Str} {i : Nat} {c : UInt8} (h : s[i]? = some c) (h0 : (runeR (s.drop i)).2 ≠ 0) (hl : (runeR (s.drop i)).1 < 128) : (runeR (s.drop i)).1 = c.toNat := by
 have hne : s.drop i ≠ [] := by rw [drop_get h]; simp
 obtain ⟨x, hx, hxc⟩ := rune_byte hne h0 hl
 rw [← hxc]
 have : x = c := by
  rw [drop_get h] at hx
  cases hn : (runeR (c :: s.drop (i + 1))).2 with
  | zero => rw [hn] at hx; simp at hx
  | succ m => rw [hn, List.take_succ_cons] at hx; injection hx with hx; exact hx.symm
 rw [this]
theorem rune_err {s : Str} {i : Nat} (h : i < s.length) (h0 : (runeR (s.drop i)).2 ≠ 0) (hc : (runeR (s.drop i)).1 = 65533) : ¬ (runeR (s.drop i)).2 < 2 := by
 have hne := dec_at h
 have := encB_take hne h0
 have hl := congrArg List.length this
 rw [hc, show (encB 65533).length = 3 by decide, List.length_take] at hl
 omega
theorem atoi_bound {s : Str} {v : Int} (h : Lib.atoiAll s = .ok v) : -9223372036854775808 ≤ v ∧ v ≤ 9223372036854775807 := by
 unfold Lib.atoiAll at h
 split at h
 ·cases h
 ·simp only at h
  split at h
  ·cases h
  ·cases h
  ·split at h
   ·cases h
   ·split at h
    ·cases h
    ·rename_i h1 h2
     injection h with h
     subst h
     split
     ·rename_i hneg; simp only [hneg, true_and] at h2; omega
     ·rename_i hneg; simp only [hneg, not_false_eq_true, true_and] at h1; omega
theorem trimA {s : Str} {a : Nat} (ha : a = if hasA s 0 [45] then 1 else 0) : Lib.trimPrefix s [45] = s.drop a := by
 unfold Lib.trimPrefix Lib.hasPrefix
 unfold hasA at ha
 rw [List.drop_zero] at ha
 rw [ha]
 split <;> simp
theorem has_len0 {s : Str} {a : Nat} (ha : a = if hasA s 0 [45] then 1 else 0) : a ≤ s.length := by
 rw [ha]
 split
 ·rename_i h; exact hasA_len h (by simp)
 ·omega
section
variable {w : Str} {a e e1 e2 : Nat}
theorem whole_bad1 (ha : a = if hasA w 0 [45] then 1 else 0) (he : e = spanA isDg w a) (h : e = a ∨ (a + 1 < e ∧ w[a]? = some 48)) : (wholeA w).1 = false := by
 subst he; subst ha
 unfold wholeA
 simp only
 rw [if_pos h]
theorem whole_bad2 (ha : a = if hasA w 0 [45] then 1 else 0) (he : e = spanA isDg w a) (h : ¬ (e = a ∨ (a + 1 < e ∧ w[a]? = some 48))) (hm : hasA w e [46] = true) (hk : spanA isDg w (e + 1) = e + 1) : (wholeA w).1 = false := by
 subst he; subst ha
 unfold wholeA
 simp only
 rw [if_neg h, if_pos ⟨hm, hk⟩]
theorem whole_int (ha : a = if hasA w 0 [45] then 1 else 0) (he : e = spanA isDg w a) (h : ¬ (e = a ∨ (a + 1 < e ∧ w[a]? = some 48))) (h2 : ¬ (hasA w e [46] = true ∧ spanA isDg w (e + 1) = e + 1)) (he1 : e1 = if hasA w e [46] then spanA isDg w (e + 1) else e) (hE : (hasA w e1 [101] || hasA w e1 [69]) = false) : (wholeA w).1 = decide (e1 = w.length) := by
 subst he1; subst he; subst ha
 unfold wholeA
 simp only
 rw [if_neg h, if_neg h2, if_neg (by rw [hE]; simp)]
theorem whole_bad3 (ha : a = if hasA w 0 [45] then 1 else 0) (he : e = spanA isDg w a) (h : ¬ (e = a ∨ (a + 1 < e ∧ w[a]? = some 48))) (h2 : ¬ (hasA w e [46] = true ∧ spanA isDg w (e + 1) = e + 1)) (he1 : e1 = if hasA w e [46] then spanA isDg w (e + 1) else e) (hE : (hasA w e1 [101] || hasA w e1 [69]) = true) (he2 : e2 = if hasA w (e1 + 1) [43] || hasA w (e1 + 1) [45] then e1 + 2 else e1 + 1) (hk : spanA isDg w e2 = e2) : (wholeA w).1 = false := by
 subst he2; subst he1; subst he; subst ha
 unfold wholeA
 simp only
 rw [if_neg h, if_neg h2, if_pos hE, if_pos hk]
theorem whole_exp (ha : a = if hasA w 0 [45] then 1 else 0) (he : e = spanA isDg w a) (h : ¬ (e = a ∨ (a + 1 < e ∧ w[a]? = some 48))) (h2 : ¬ (hasA w e [46] = true ∧ spanA isDg w (e + 1) = e + 1)) (he1 : e1 = if hasA w e [46] then spanA isDg w (e + 1) else e) (hE : (hasA w e1 [101] || hasA w e1 [69]) = true) (he2 : e2 = if hasA w (e1 + 1) [43] || hasA w (e1 + 1) [45] then e1 + 2 else e1 + 1) (hk : ¬ spanA isDg w e2 = e2) : (wholeA w).1 = decide (spanA isDg w e2 = w.length) := by
 subst he2; subst he1; subst he; subst ha
 unfold wholeA
 simp only
 rw [if_neg h, if_neg h2, if_pos hE, if_neg hk]
end
theorem drop_nil {s : Str} {k : Nat} (hk : k ≤ s.length) : s.drop k = [] ↔ k = s.length := by
 rw [List.drop_eq_nil_iff]
 omega
theorem hasA_at {s : Str} {k : Nat} {c d : UInt8} (h : s[k]? = some d) : hasA s k [c] = decide (d = c) := by
 rw [hasA_one', h]
 simp
theorem encB_le (c : Nat) : (encB c).length ≤ 4 := encB_len c
end Go.Proofs.YtknndpjacklkeaaGreatDoor.V
