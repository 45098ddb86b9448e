/-
  A part of the proof: steps of the reading: runes that are no ASCII, escapes by parts, texts between quotes by rounds; a map's size; its entries one by one, in whatever order; a method called through an interface; a type assertion that must hold; pointers held against nil; comparisons with nil of an interface, asserted types, results of functions that may panic. No condition of its own.
-/
import Derived.Test.YtknndpjacklkeaaGreatDoorM8
import Derived.Test.YtknndpjacklkeaaGreatDoorM4
import Derived.Test.YtknndpjacklkeaaGreatDoorM6
import Derived.Test.YtknndpjacklkeaaGreatDoorM3
import Derived.Test.YtknndpjacklkeaaGreatDoorM5
import Derived.Test.YtknndpjacklkeaaGreatDoorM7
set_option linter.unusedVariables false
set_option linter.unusedSimpArgs false
namespace Go.Proofs.YtknndpjacklkeaaGreatDoor.V
open Go
theorem dec_hi {s : Str} {p : Nat} {b : UInt8} (hb : s[p]? = some b) (h : ¬ b.toNat < 128) : ∃ c m, Utf8.decode ⟨⟨s⟩⟩ p = (c, m) ∧ 128 ≤ c ∧ c ≤ 1114111 ∧ ¬ (55296 ≤ c ∧ c ≤ 57343) := by
 have hp := (List.getElem?_eq_some_iff.1 hb).1
 have hd := drop_get hb
 by_cases h0 : (runeR (s.drop p)).2 = 0
 ·exact ⟨65533, 1, dec_bad hp h0, by decide, by decide, by decide⟩
 ·obtain ⟨_, _, h1, h2⟩ := enc_take (dec_at hp) h0
  refine ⟨_, _, dec_ok hp h0, ?_, h1, h2⟩
  rcases Nat.lt_or_ge (runeR (s.drop p)).1 128 with h3 | h3
  ·obtain ⟨x, hx, hxc⟩ := rune_byte (dec_at hp) h0 h3
   rw [hd] at hx
   have : x = b := by
    cases hn : (runeR (b :: s.drop (p + 1))).2 with
    | zero => rw [hn] at hx; simp at hx
    | succ m => rw [hn, List.take_succ_cons] at hx; injection hx with hx; exact hx.symm
   subst this
   omega
  ·exact h3
theorem hexF_none {p n d4 : Nat} {s : Str} {b : UInt8} {W : Option Nat} (hp : p < 4) (hb : s[p]? = some b) (hx : hexv b = none) (hinv : hexF (4 - p) (s.drop p) n = W) : W = none := by
 rw [← hinv, show 4 - p = (3 - p) + 1 by omega, hexF_at hb, hx]
theorem hexF_some {p n d : Nat} {s : Str} {b : UInt8} {W : Option Nat} (hp : p < 4) (hb : s[p]? = some b) (hx : hexv b = some d) (hinv : hexF (4 - p) (s.drop p) n = W) : hexF (4 - (p + 1)) (s.drop (p + 1)) (16 * n + d) = W := by
 rw [← hinv, show 4 - p = (3 - p) + 1 by omega, hexF_at hb, hx, show 4 - (p + 1) = 3 - p by omega]
theorem hex_no {b : UInt8} (hb : b.toNat < 128) (h : Lib.indexByte hexD (UInt8.ofNat (b.toNat ||| 32)) < 0 ∨ b.toNat < 48) : hexv b = none := by
 cases hx : hexv b with
 | none => rfl
 | some d =>
  have := hexS_yes hb hx
  omega
theorem hex_yes {b : UInt8} (hb : b.toNat < 128) (h1 : ¬ Lib.indexByte hexD (UInt8.ofNat (b.toNat ||| 32)) < 0) (h2 : ¬ b.toNat < 48) : ∃ d, hexv b = some d ∧ d < 16 ∧ Lib.indexByte hexD (UInt8.ofNat (b.toNat ||| 32)) = (d : Int) := by
 cases hx : hexv b with
 | none => exact absurd (hexS_no hb hx) (by omega)
 | some d => exact ⟨d, rfl, hexv_lt hx, (hexS_yes hb hx).1⟩
theorem shl4i {n : Nat} (h : n < 65536) : IntKind.i32.wrap ((n : Int) * 2 ^ (min ((4 : Int)).toNat IntKind.i32.bits)) = ((16 * n : Nat) : Int) := by
 have : (2 : Int) ^ (min ((4 : Int)).toNat IntKind.i32.bits) = 16 := by decide
 rw [this, wrap32_in _ (by omega)]
 omega
theorem shl10i {n : Nat} (h : n < 2048) : IntKind.i32.wrap ((n : Int) * 2 ^ (min ((10 : Int)).toNat IntKind.i32.bits)) = ((1024 * n : Nat) : Int) := by
 have : (2 : Int) ^ (min ((10 : Int)).toNat IntKind.i32.bits) = 1024 := by decide
 rw [this, wrap32_in _ (by omega)]
 omega
theorem pow16 {n p d : Nat} (h : n < 16 ^ p) (hd : d < 16) : 16 * n + d < 16 ^ (p + 1) := by
 rw [Nat.pow_succ]
 omega
theorem pow16_le {n p : Nat} (h : n < 16 ^ p) (hp : p ≤ 3) : n < 4096 := Nat.lt_of_lt_of_le h (Nat.pow_le_pow_right (by decide) hp)
theorem hexF_len {s : Str} {n m : Nat} (h : hexF 4 s n = some m) : 4 ≤ s.length := by
 rcases Nat.lt_or_ge s.length 4 with h1 | h1
 ·rw [hexF_short 4 s n h1] at h; cases h
 ·exact h1
theorem escP_bad1 {c : UInt8} {r : Str} (hn : escC c = none) (h : c ≠ 117 ∨ hexF 4 r 0 = none ∨ ∃ n, hexF 4 r 0 = some n ∧ 56320 ≤ n ∧ n ≤ 57343) : escP (c :: r) = (0, 0) := by
 have h0 : escR (92 :: c :: r) = (0, 0) := by
  rw [escR_u hn]
  by_cases hc : c = 117
  ·subst hc
   rw [hexU_u]
   rcases h with h | h | ⟨n, h1, h2⟩
   ·exact absurd rfl h
   ·rw [h]
   ·rw [h1]
    simp only
    rw [if_pos h2]
  ·rw [hexU_no hc]
 unfold escP
 rw [h0]
 rfl
theorem escP_short {r : Str} {n : Nat} (h : hexF 4 r 0 = some n) (hb : n < 55296 ∨ 57343 < n) : escP (117 :: r) = (n, 5) := by
 have h0 : escR (92 :: 117 :: r) = (n, 6) := by
  rw [escR_u rfl, hexU_u, h]
  simp only
  rw [if_neg (by omega), if_pos hb]
 unfold escP
 rw [h0]
 rfl
theorem escP_bad2 {r : Str} {n : Nat} (h : hexF 4 r 0 = some n) (hb : 55296 ≤ n ∧ n < 56320) (h2 : hexU (r.drop 4) = none ∨ ∃ m, hexU (r.drop 4) = some m ∧ (m < 56320 ∨ 57343 < m)) : escP (117 :: r) = (0, 0) := by
 have h0 : escR (92 :: 117 :: r) = (0, 0) := by
  rw [escR_u rfl, hexU_u, h]
  simp only
  rw [if_neg (by omega), if_neg (by omega)]
  rcases h2 with h2 | ⟨m, h2, h3⟩
  ·rw [h2]
  ·rw [h2]
   simp only
   rw [if_pos h3]
 unfold escP
 rw [h0]
 rfl
theorem escP_pair {r : Str} {n m : Nat} (h : hexF 4 r 0 = some n) (hb : 55296 ≤ n ∧ n < 56320) (h2 : hexU (r.drop 4) = some m) (h3 : 56320 ≤ m ∧ m ≤ 57343) : escP (117 :: r) = (65536 + 1024 * (n - 55296) + (m - 56320), 11) := by
 have h0 : escR (92 :: 117 :: r) = (65536 + 1024 * (n - 55296) + (m - 56320), 12) := by
  rw [escR_u rfl, hexU_u, h]
  simp only
  rw [if_neg (by omega), if_neg (by omega), h2]
  simp only
  rw [if_neg (by omega)]
 unfold escP
 rw [h0]
 rfl
theorem pre_dec (p l : Str) : decide (p.length ≤ l.length ∧ l.take p.length = p) = List.isPrefixOf p l := by
 rw [Bool.eq_iff_iff, decide_eq_true_eq, List.isPrefixOf_iff_prefix, List.prefix_iff_eq_take]
 constructor
 ·rintro ⟨_, h⟩; exact h.symm
 ·intro h
  refine ⟨?_, h.symm⟩
  have := congrArg List.length h
  rw [List.length_take] at this
  omega
theorem escP_le (s : Str) : (escP s).1 ≤ 1114111 ∧ ¬ (55296 ≤ (escP s).1 ∧ (escP s).1 ≤ 57343) ∧ (escP s).2 ≤ s.length := by
 cases s with
 | nil => rw [escP_nil]; decide
 | cons c r =>
  cases hc : escC c with
  | some d =>
   rw [escP_one hc]
   rcases escC_idx c with ⟨h, _⟩ | ⟨i, d', h, _, _, _, h2⟩
   ·rw [h] at hc; cases hc
   ·rw [hc] at h
    injection h with h
    subst h
    exact ⟨by simp only; omega, by simp only; omega, by simp⟩
  | none =>
   by_cases h117 : c = 117
   ·subst h117
    cases hx : hexF 4 r 0 with
    | none => rw [escP_bad1 hc (.inr (.inl hx))]; simp
    | some n =>
     have hl := hexF_len hx
     have hn := four_lt hx
     by_cases hb : n < 55296 ∨ 57343 < n
     ·rw [escP_short hx hb]
      exact ⟨by simp only; omega, by simp only; omega, by simp only [List.length_cons]; omega⟩
     ·by_cases hlo : 56320 ≤ n
      ·rw [escP_bad1 hc (.inr (.inr ⟨n, hx, hlo, by omega⟩))]; simp
      ·cases hu : hexU (r.drop 4) with
       | none => rw [escP_bad2 hx (by omega) (.inl hu)]; simp
       | some m =>
        by_cases hm : m < 56320 ∨ 57343 < m
        ·rw [escP_bad2 hx (by omega) (.inr ⟨m, hu, hm⟩)]; simp
        ·rw [escP_pair hx (by omega) hu (by omega)]
         have hl2 : 6 ≤ (r.drop 4).length := by
          unfold hexU at hu
          split at hu
          ·rename_i r' e
           have := hexF_len hu
           rw [e]
           simp only [List.length_cons]
           omega
          ·cases hu
         rw [List.length_drop] at hl2
         exact ⟨by simp only; omega, by simp only; omega, by simp only [List.length_cons]; omega⟩
   ·rw [escP_bad1 hc (.inl h117)]; simp
/-! ## a text between quotes, round by round -/
theorem strF_end {f : Nat} {s : Str} {i : Nat} {out : Str} (h : s.length ≤ i) : strF f (s.drop i) i out = none := by
 rw [List.drop_eq_nil_of_le h]
 cases f <;> rfl
theorem strF_quote {f : Nat} {s : Str} {i : Nat} {out : Str} (h : s[i]? = some 34) : strF (f + 1) (s.drop i) i out = some (out, i + 1) := by
 rw [drop_get h, strF, if_pos rfl]
theorem strF_rune {f : Nat} {s : Str} {i : Nat} {out : Str} {c : UInt8} (h : s[i]? = some c) (h1 : c ≠ 34) (h2 : c ≠ 92) : strF (f + 1) (s.drop i) i out = if (runeR (s.drop i)).2 = 0 ∨ (runeR (s.drop i)).1 < 32 then none else strF f (s.drop (i + (runeR (s.drop i)).2)) (i + (runeR (s.drop i)).2) (out ++ encB (runeR (s.drop i)).1) := by
 have e := drop_get h
 rw [← List.drop_drop]
 generalize s.drop i = l at e ⊢
 subst e
 rw [strF, if_neg h1, if_neg h2]
 simp only [ne_eq, h2, not_false_eq_true, true_and]
theorem strF_esc {f : Nat} {s : Str} {i : Nat} {out : Str} (h : s[i]? = some 92) : strF (f + 1) (s.drop i) i out = if (escP (s.drop (i + 1))).2 = 0 then none else strF f (s.drop (i + ((escP (s.drop (i + 1))).2 + 1))) (i + ((escP (s.drop (i + 1))).2 + 1)) (out ++ encB (escP (s.drop (i + 1))).1) := by
 have e := drop_get h
 have e2 : ∀ k, s.drop (i + k) = (92 :: s.drop (i + 1)).drop k := fun k => by rw [← e, List.drop_drop]
 rw [e2 ((escP (s.drop (i + 1))).2 + 1), e, strF, if_neg (by decide), if_pos rfl]
 simp only [ne_eq, not_true_eq_false, false_and, or_false]
 unfold escP
 generalize hx : escR (92 :: s.drop (i + 1)) = x
 by_cases h0 : x.2 = 0
 ·rw [if_pos h0, if_pos h0]; rfl
 ·have hne : ¬ (x.2 - 1 = 0) := by
   have : x.2 ≠ 1 := fun h1 => by
    rw [← hx] at h1
    unfold escR at h1
    split at h1
    ·split at h1
     ·cases h1
     ·split at h1
      ·cases h1
      ·split at h1
       ·cases h1
       ·split at h1
        ·cases h1
        ·split at h1
         ·cases h1
         ·split at h1 <;> cases h1
    ·cases h1
   omega
  rw [if_neg h0, if_neg h0]
  simp only
  rw [if_neg hne, show x.2 - 1 + 1 = x.2 by omega]
theorem dec_none {s : Str} {i : Nat} (h : i < s.length) (h0 : (runeR (s.drop i)).2 = 0) : Utf8.decode ⟨⟨s.drop i⟩⟩ 0 = (65533, 1) := by
 have := dec_bad (s := s.drop i) (p := 0) (by rw [List.length_drop]; omega) (by simpa using h0)
 exact this
theorem dec_some {s : Str} {i : Nat} (h : i < s.length) (h0 : (runeR (s.drop i)).2 ≠ 0) : Utf8.decode ⟨⟨s.drop i⟩⟩ 0 = runeR (s.drop i) := by
 have := dec_ok (s := s.drop i) (p := 0) (by rw [List.length_drop]; omega) (by simpa using h0)
 simpa using this
theorem rune_first {s : Str} {i : Nat} {c : UInt8} (h : s[i]? = some c) (hc : c.toNat < 128) : runeR (s.drop i) = (c.toNat, 1) := by
 rw [drop_get h]
 exact runeR_small hc
theorem rune_low {s : Str} {i : Nat} {c : UInt8} (h : s[i]? = some c) (h0 : (runeR (s.drop i)).2 ≠ 0) (hl : (runeR (s.drop i)).1 < 128) : (runeR (s.drop i)).1 = c.toNat := by
 have hne : s.drop i ≠ [] := by rw [drop_get h]; simp
 obtain ⟨x, hx, hxc⟩ := rune_byte hne h0 hl
 rw [← hxc]
 have : x = c := by
  rw [drop_get h] at hx
  cases hn : (runeR (c :: s.drop (i + 1))).2 with
  | zero => rw [hn] at hx; simp at hx
  | succ m => rw [hn, List.take_succ_cons] at hx; injection hx with hx; exact hx.symm
 rw [this]
theorem rune_err {s : Str} {i : Nat} (h : i < s.length) (h0 : (runeR (s.drop i)).2 ≠ 0) (hc : (runeR (s.drop i)).1 = 65533) : ¬ (runeR (s.drop i)).2 < 2 := by
 have hne := dec_at h
 have := encB_take hne h0
 have hl := congrArg List.length this
 rw [hc, show (encB 65533).length = 3 by decide, List.length_take] at hl
 omega
theorem atoi_bound {s : Str} {v : Int} (h : Lib.atoiAll s = .ok v) : -9223372036854775808 ≤ v ∧ v ≤ 9223372036854775807 := by
 unfold Lib.atoiAll at h
 split at h
 ·cases h
 ·simp only at h
  split at h
  ·cases h
  ·cases h
  ·split at h
   ·cases h
   ·split at h
    ·cases h
    ·rename_i h1 h2
     injection h with h
     subst h
     split
     ·rename_i hneg; simp only [hneg, true_and] at h2; omega
     ·rename_i hneg; simp only [hneg, not_false_eq_true, true_and] at h1; omega
theorem trimA {s : Str} {a : Nat} (ha : a = if hasA s 0 [45] then 1 else 0) : Lib.trimPrefix s [45] = s.drop a := by
 unfold Lib.trimPrefix Lib.hasPrefix
 unfold hasA at ha
 rw [List.drop_zero] at ha
 rw [ha]
 split <;> simp
theorem has_len0 {s : Str} {a : Nat} (ha : a = if hasA s 0 [45] then 1 else 0) : a ≤ s.length := by
 rw [ha]
 split
 ·rename_i h; exact hasA_len h (by simp)
 ·omega
section
variable {w : Str} {a e e1 e2 : Nat}
theorem whole_bad1 (ha : a = if hasA w 0 [45] then 1 else 0) (he : e = spanA isDg w a) (h : e = a ∨ (a + 1 < e ∧ w[a]? = some 48)) : (wholeA w).1 = false := by
 subst he; subst ha
 unfold wholeA
 simp only
 rw [if_pos h]
theorem whole_bad2 (ha : a = if hasA w 0 [45] then 1 else 0) (he : e = spanA isDg w a) (h : ¬ (e = a ∨ (a + 1 < e ∧ w[a]? = some 48))) (hm : hasA w e [46] = true) (hk : spanA isDg w (e + 1) = e + 1) : (wholeA w).1 = false := by
 subst he; subst ha
 unfold wholeA
 simp only
 rw [if_neg h, if_pos ⟨hm, hk⟩]
theorem whole_int (ha : a = if hasA w 0 [45] then 1 else 0) (he : e = spanA isDg w a) (h : ¬ (e = a ∨ (a + 1 < e ∧ w[a]? = some 48))) (h2 : ¬ (hasA w e [46] = true ∧ spanA isDg w (e + 1) = e + 1)) (he1 : e1 = if hasA w e [46] then spanA isDg w (e + 1) else e) (hE : (hasA w e1 [101] || hasA w e1 [69]) = false) : (wholeA w).1 = decide (e1 = w.length) := by
 subst he1; subst he; subst ha
 unfold wholeA
 simp only
 rw [if_neg h, if_neg h2, if_neg (by rw [hE]; simp)]
theorem whole_bad3 (ha : a = if hasA w 0 [45] then 1 else 0) (he : e = spanA isDg w a) (h : ¬ (e = a ∨ (a + 1 < e ∧ w[a]? = some 48))) (h2 : ¬ (hasA w e [46] = true ∧ spanA isDg w (e + 1) = e + 1)) (he1 : e1 = if hasA w e [46] then spanA isDg w (e + 1) else e) (hE : (hasA w e1 [101] || hasA w e1 [69]) = true) (he2 : e2 = if hasA w (e1 + 1) [43] || hasA w (e1 + 1) [45] then e1 + 2 else e1 + 1) (hk : spanA isDg w e2 = e2) : (wholeA w).1 = false := by
 subst he2; subst he1; subst he; subst ha
 unfold wholeA
 simp only
 rw [if_neg h, if_neg h2, if_pos hE, if_pos hk]
theorem whole_exp (ha : a = if hasA w 0 [45] then 1 else 0) (he : e = spanA isDg w a) (h : ¬ (e = a ∨ (a + 1 < e ∧ w[a]? = some 48))) (h2 : ¬ (hasA w e [46] = true ∧ spanA isDg w (e + 1) = e + 1)) (he1 : e1 = if hasA w e [46] then spanA isDg w (e + 1) else e) (hE : (hasA w e1 [101] || hasA w e1 [69]) = true) (he2 : e2 = if hasA w (e1 + 1) [43] || hasA w (e1 + 1) [45] then e1 + 2 else e1 + 1) (hk : ¬ spanA isDg w e2 = e2) : (wholeA w).1 = decide (spanA isDg w e2 = w.length) := by
 subst he2; subst he1; subst he; subst ha
 unfold wholeA
 simp only
 rw [if_neg h, if_neg h2, if_pos hE, if_neg hk]
end
theorem drop_nil {s : Str} {k : Nat} (hk : k ≤ s.length) : s.drop k = [] ↔ k = s.length := by
 rw [List.drop_eq_nil_iff]
 omega
theorem hasA_at {s : Str} {k : Nat} {c d : UInt8} (h : s[k]? = some d) : hasA s k [c] = decide (d = c) := by
 rw [hasA_one', h]
 simp
theorem encB_le (c : Nat) : (encB c).length ≤ 4 := encB_len c
end Go.Proofs.YtknndpjacklkeaaGreatDoor.V

set_option linter.unusedVariables false
set_option linter.unusedSimpArgs false
set_option maxRecDepth 10000
namespace Go.Proofs.YtknndpjacklkeaaGreatDoor.V
open Go Go.Proofs
theorem ent233 : Ent Tryz.prog 233 := Ent.of Tryz.func233 (by kernel_rfl) (by kernel_rfl)
theorem ent202 : Ent Tryz.prog 202 := Ent.of Tryz.func202 (by kernel_rfl) (by kernel_rfl)
theorem ent203 : Ent Tryz.prog 203 := Ent.of Tryz.func203 (by kernel_rfl) (by kernel_rfl)
theorem c_four (w : World) (s : Str) : Calls Tryz.prog 233 [S s].toArray w (Ret fun u w' => u = .tuple #[.int .i32 (((hexF 4 s 0).getD 0 : Nat) : Int), .bool (hexF 4 s 0).isSome] ∧ Mod [] w w') := by
 refine enter Tryz.func233 rfl rfl rfl (l := [(0, _)]) ⟨rfl, trivial⟩ ?_
 have E := Mod.refl [] w
 refine Cq fun K1 hK1 => Cr (tW 2 rfl (Ln (e_K (hK1 _ _ _ _ (Cq fun K2 hK2 => Cq fun K3 hK3 => Cr (Zm rfl (Sv (o_slen Tryz.underlying9 rfl) (Sv (o_lss rfl rfl) (Ln (e_K (hK3 _ _ _ _ ?_)))))))))))
 refine c_if rfl (fun h10 => ?_) (fun h10 => ?_)
 ·have hW := hexF_short 4 s 0 (by omega)
  exact Cq fun K4 hK4 => Cr (tW 2 rfl (Ln (e_K (hK4 _ _ _ _ (cR (eT (by simp) (ret2 rfl rfl rfl ⟨by rw [hW]; rfl, E⟩)))))))
 ·refine cK (e_K (hK2 _ _ _ _ (Cq fun K5 hK5 => Cr (Za rfl (Ln (e_K (hK5 _ _ _ _ (Cq fun K6 hK6 => Cq fun K7 hK7 => Cr (Zm rfl (Sv (o_ssto (n := 4) Tryz.underlying9 rfl rfl (by omega)) (s_range Tryz.underlying9 rfl rfl fun gi w1 IT hgi EI => ?_)))))))))))
  have Lgi : w.heap.size ≤ gi := by have := E.size; omega
  replace E := E.then EI
  refine Ln (e_K (hK7 _ _ _ _ (cB (c_loop (σ := Nat × Nat) (fun ⟨p, n⟩ => [(4, .int .i32 (n : Int)), (13, .pointer (some ⟨gi, 0, none⟩))]) (fun ⟨p, n⟩ w1 => p ≤ 4 ∧ n < 16 ^ p ∧ hexF (4 - p) ((s.take 4).drop p) n = hexF 4 s 0 ∧ It w1 gi (s.take 4) p ∧ w.heap.size ≤ gi ∧ Mod [] w w1) (fun ⟨p, n⟩ => 4 - p) (⟨0, 0⟩) ⟨rfl, rfl, trivial⟩ (⟨by omega, by decide, hexF_take 4 s 0, IT, Lgi, E⟩) ?_))))
  rintro ⟨p, n⟩ w2 ⟨hp, hn16, hinv, IT, Lgi, E⟩
  have hlen4 : (s.take 4).length = 4 := by rw [List.length_take]; omega
  refine Cq fun K8 hK8 => ?_
  by_cases hplt : p < 4
  ·obtain ⟨b, hb⟩ : ∃ b, (s.take 4)[p]? = some b := ⟨_, List.getElem?_eq_getElem (by omega)⟩
   have hpl : p < (s.take 4).length := by omega
   by_cases hbs : b.toNat < 128
   ·skip
    refine Cr (s_next rfl IT hpl (dec_lt hb hbs) rfl fun w3 IT2 EN hzN => ?_)
    replace E := E.trans' EN (fun x hx => .inr (by simp at hx; subst hx; exact Lgi))
    clear IT
    have IT := IT2
    refine Sv (o_ext rfl rfl) (Ln (e_K (hK8 _ _ _ _ (Cq fun K9 hK9 => ?_))))
    refine c_cond rfl (fun h15 => ?_) (fun h15 => ?_)
    ·skip
     refine cK (e_K (hK9 _ _ _ _ (cB (Cq fun K10 hK10 => Cr (tW 2 rfl (Ln (e_K (hK10 _ _ _ _ (Cq fun K11 hK11 => Cr (Zm rfl (Sv ((o_or rfl rfl).to (v' := .int .i32 ((b.toNat ||| 32 : Nat) : Int)) (congrArg (Value.int .i32) (or32i (by omega)))) (sc (oC ent194 rfl) (c_irune_lo _ hexD (b.toNat ||| 32) (or32_lt hbs)) rfl fun v_ w4 h_ => ?_))))))))))))
     obtain ⟨rfl, E_⟩ := h_
     replace IT := IT.mod0 E_
     replace E := E.then E_
     refine Za rfl (Ln (e_K (hK11 _ _ _ _ (Cq fun K12 hK12 => Cq fun K13 hK13 => Cr (tW 2 rfl ?_)))))
     refine bD (fun hi0 : Lib.indexByte hexD (UInt8.ofNat (b.toNat ||| 32)) < 0 => ?_) (fun hi0 => ?_)
     ·refine tW 4 rfl (Ln (e_K (hK13 _ _ _ _ (c_true rfl ?_))))
      have hW : hexF 4 s 0 = none := hexF_none (d4 := 0) hplt hb (hex_no hbs (by omega)) hinv
      exact Cq fun K14 hK14 => Cr (tW 2 rfl (Ln (e_K (hK14 _ _ _ _ (cR (eT (by simp) (eI (by simp) (eT (by simp) (eI (by simp) (eT (by simp) (ret2 rfl rfl rfl ⟨by rw [hW]; rfl, E⟩)))))))))))
     ·refine tW 3 rfl ?_
      refine bD (fun hi1 : (b.toNat : Int) < 48 => ?_) (fun hi1 => ?_)
      ·refine Sv (oF rfl rfl rfl) (Ln (e_K (hK13 _ _ _ _ (c_true rfl ?_))))
       have hW : hexF 4 s 0 = none := hexF_none (d4 := 0) hplt hb (hex_no hbs (by omega)) hinv
       exact Cq fun K15 hK15 => Cr (tW 2 rfl (Ln (e_K (hK15 _ _ _ _ (cR (eT (by simp) (eI (by simp) (eT (by simp) (eI (by simp) (eT (by simp) (ret2 rfl rfl rfl ⟨by rw [hW]; rfl, E⟩)))))))))))
      ·refine Sv (oF rfl rfl rfl) (Ln (e_K (hK13 _ _ _ _ (c_false rfl ?_))))
       obtain ⟨d, hxd, hd16, hid⟩ := hex_yes hbs hi0 (by omega)
       rw [hid]
       have hinv2 := hexF_some hplt hb hxd hinv
       have hn4 := pow16_le hn16 (by omega)
       exact cK (e_K (hK12 _ _ _ _ (Cr (Zm rfl (Sv ((o_shl rfl rfl (by omega)).to (v' := .int .i32 ((16 * n : Nat) : Int)) (congrArg (Value.int .i32) (shl4i (by omega)))) (Zm rfl (Sv ((o_conv Tryz.underlying3 Tryz.underlying21 rfl).to (v' := .int .i32 (d : Int)) (congrArg (Value.int .i32) (wrap32_in _ (by omega)))) (Sv ((o_or rfl rfl).to (v' := .int .i32 ((16 * n + d : Nat) : Int)) (congrArg (Value.int .i32) (or16i (by omega) hd16))) (Za rfl (Ln (eI (by simp) (eR (σ := Nat × Nat) (s := ⟨p, n⟩) (⟨p + 1, 16 * n + d⟩) ⟨rfl, rfl, trivial⟩ ⟨by omega, pow16 hn16 hd16, hinv2, IT, Lgi, E⟩ (by dsimp only; omega)))))))))))))
    ·cases h15
   ·obtain ⟨c, m, hdec, hc1, hc2, hc3⟩ := dec_hi hb hbs
    refine Cr (s_next rfl IT hpl hdec rfl fun w5 IT2 EN hzN => ?_)
    replace E := E.trans' EN (fun x hx => .inr (by simp at hx; subst hx; exact Lgi))
    clear IT
    have IT := IT2
    refine Sv (o_ext rfl rfl) (Ln (e_K (hK8 _ _ _ _ (Cq fun K16 hK16 => ?_))))
    refine c_cond rfl (fun h15 => ?_) (fun h15 => ?_)
    ·skip
     refine cK (e_K (hK16 _ _ _ _ (cB (Cq fun K17 hK17 => Cr (tW 2 rfl (Ln (e_K (hK17 _ _ _ _ (Cq fun K18 hK18 => Cr (Zm rfl (Sv ((o_or rfl rfl).to (v' := .int .i32 ((c ||| 32 : Nat) : Int)) (congrArg (Value.int .i32) (or32i (by omega)))) (sc (oC ent194 rfl) (c_irune_hi _ hexD (c ||| 32) (by decide) (by decide) (by decide) (or32_le hc2) (or32_no hc3) (or32_ge hc1)) rfl fun v_ w6 h_ => ?_))))))))))))
     obtain ⟨rfl, E_⟩ := h_
     replace IT := IT.mod0 E_
     replace E := E.then E_
     refine Za rfl (Ln (e_K (hK18 _ _ _ _ (Cq fun K19 hK19 => Cq fun K20 hK20 => Cr (tW 2 rfl (bE (dT (by decide)) (tW 4 rfl (Ln (e_K (hK20 _ _ _ _ (c_true rfl ?_)))))))))))
     have hW : hexF 4 s 0 = none := hexF_none (d4 := 0) hplt hb (hexv_big (by omega)) hinv
     exact Cq fun K21 hK21 => Cr (tW 2 rfl (Ln (e_K (hK21 _ _ _ _ (cR (eT (by simp) (eI (by simp) (eT (by simp) (eI (by simp) (eT (by simp) (ret2 rfl rfl rfl ⟨by rw [hW]; rfl, E⟩)))))))))))
    ·cases h15
  ·have hs_end : ¬ p < (s.take 4).length := by omega
   refine Cr (s_next_end rfl IT hs_end rfl (Sv (o_ext rfl rfl) (Ln (e_K (hK8 _ _ _ _ (Cq fun K22 hK22 => ?_))))))
   refine c_cond rfl (fun h15 => ?_) (fun h15 => ?_)
   ·cases h15
   ·skip
    exact c_exit (eT (by simp) (eT (by simp) (e_hit (e_K (hK6 _ _ _ _ (Cq fun K23 hK23 => Cr (tW 3 rfl (Ln (e_K (hK23 _ _ _ _ (cR (ret2 rfl rfl rfl ⟨by have hWe : hexF 4 s 0 = some n := (by rw [← hinv, show 4 - p = 0 by omega]; rfl); rw [hWe]; rfl, E⟩))))))))))))

theorem c_escape (w : World) (s : Str) : Calls Tryz.prog 203 [S s].toArray w (Ret fun u w' => u = .tuple #[.int .i32 ((escP s).1 : Int), .int .i64 ((escP s).2 : Int)] ∧ Mod [] w w') := by
 refine enter Tryz.func203 rfl rfl rfl (l := [(0, _)]) ⟨rfl, trivial⟩ ?_
 have E := Mod.refl [] w
 refine Cq fun K1 hK1 => Cr (tW 2 rfl (Ln (e_K (hK1 _ _ _ _ (Cq fun K2 hK2 => Cq fun K3 hK3 => Cr (Zm rfl (Sv (o_seq rfl rfl) (Ln (e_K (hK3 _ _ _ _ ?_))))))))))
 refine c_if rfl (fun h9 => ?_) (fun h9 => ?_)
 ·subst h9
  exact Cq fun K4 hK4 => Cr (tW 2 rfl (Ln (e_K (hK4 _ _ _ _ (cR (eT (by simp) (ret2 rfl rfl rfl ⟨rfl, E⟩)))))))
 ·obtain ⟨c, r, rfl⟩ : ∃ c r, s = c :: r := by
   cases s with
   | nil => exact absurd rfl h9
   | cons c r => exact ⟨c, r, rfl⟩
  refine cK (e_K (hK2 _ _ _ _ (Cq fun K5 hK5 => Cq fun K6 hK6 => Cr (Zm rfl (Sv (o_sidx (c := c) Tryz.underlying9 rfl rfl (by decide) rfl) (sc (oC ent100 rfl) (c_ib _ escF c) rfl fun v_ w1 h_ => ?_))))))
  obtain ⟨rfl, E_⟩ := h_
  replace E := E.then E_
  refine Za rfl (Ln (e_K (hK6 _ _ _ _ (Cq fun K7 hK7 => Cr (Zm rfl (Sv (o_geq rfl rfl) (Ln (e_K (hK7 _ _ _ _ ?_)))))))))
  refine c_if rfl (fun h14 => ?_) (fun h14 => ?_)
  ·obtain ⟨i, d, hd, hi, hi8, hg, hd256⟩ := (escC_idx c).resolve_left (fun h => absurd h14 (by have := h.2; omega))
   rw [hi]
   exact Cq fun K8 hK8 => Cr (Zm rfl (Sv (o_sidx (u := escG) Tryz.underlying9 rfl rfl (by omega) (by rw [Int.toNat_natCast]; exact hg)) (Sv ((o_conv Tryz.underlying5 Tryz.underlying21 rfl).to (v' := .int .i32 (d : Int)) (congrArg (Value.int .i32) (by rw [UInt8.toNat_ofNat', wrap32_in _ (by omega)]; omega))) (tW 2 rfl (Ln (e_K (hK8 _ _ _ _ (cR (eT (by simp) (ret2 rfl rfl rfl ⟨by rw [escP_one hd]; rfl, E⟩))))))))))
  ·have hn : escC c = none := (escC_idx c).elim (·.1) (fun ⟨i, d, _, hi, _⟩ => absurd (show Lib.indexByte escF c ≥ 0 by rw [hi]; omega) h14)
   refine cK (e_K (hK5 _ _ _ _ (Cq fun K9 hK9 => Cr (Zm rfl (Sv ((o_ssfrom (n := 1) Tryz.underlying9 rfl rfl (by simp)).to (v' := S r) rfl) (sc (oC ent233 rfl) (c_four _ r) rfl fun v_ w2 h_ => ?_))))))
   obtain ⟨rfl, E_⟩ := h_
   replace E := E.then E_
   refine tW 5 rfl (Ln (e_K (hK9 _ _ _ _ (Cq fun K10 hK10 => cB (Cq fun K11 hK11 => Cr (Zm rfl (Sv (o_sidx (c := c) Tryz.underlying9 rfl rfl (by decide) rfl) (Sv (o_neq rfl rfl) ?_))))))))
   refine bD (fun hu : (c.toNat : Int) ≠ 117 => ?_) (fun hu => ?_)
   ·refine tW 13 rfl (Ln (e_K (hK11 _ _ _ _ (c_true rfl ?_))))
    have hW : escP (_ :: r) = (0, 0) := escP_bad1 hn (by first | (left; intro e; subst e; exact hu rfl) | (right; left; simpa using hi) | (right; right; exact ⟨n, hx4, by omega, by omega⟩))
    exact Cq fun K12 hK12 => Cr (tW 2 rfl (Ln (e_K (hK12 _ _ _ _ (cR (eI (by simp) (eT (by simp) (ret2 rfl rfl rfl ⟨by rw [hW]; rfl, E⟩))))))))
   ·obtain rfl : c = 117 := u8_eq (by rw [Classical.not_not.1 hu]; rfl)
    refine tW 3 rfl ?_
    refine bC (fun hi : ((!(hexF 4 r 0).isSome)) = true => ?_) (fun hi => ?_)
    ·refine tW 10 rfl (Ln (e_K (hK11 _ _ _ _ (c_true rfl ?_))))
     have hW : escP (_ :: r) = (0, 0) := escP_bad1 hn (by first | (left; intro e; subst e; exact hu rfl) | (right; left; simpa using hi) | (right; right; exact ⟨n, hx4, by omega, by omega⟩))
     exact Cq fun K13 hK13 => Cr (tW 2 rfl (Ln (e_K (hK13 _ _ _ _ (cR (eI (by simp) (eT (by simp) (ret2 rfl rfl rfl ⟨by rw [hW]; rfl, E⟩))))))))
    ·obtain ⟨n, hx4⟩ : ∃ n, hexF 4 r 0 = some n := Option.isSome_iff_exists.1 (by simpa using hi)
     have hn65 := four_lt hx4
     have hr4 := hexF_len hx4
     rw [hx4, Option.getD_some]
     refine tW 3 rfl (Sg rfl rfl (o_geq rfl rfl) ?_)
     refine bD (fun hg1 : (n : Int) ≥ 56320 => ?_) (fun hg1 => ?_)
     ·refine tW 3 rfl ?_
      refine bD (fun hg2 : (n : Int) < 57344 => ?_) (fun hg2 => ?_)
      ·refine tW 3 rfl (Ln (e_K (hK11 _ _ _ _ (c_true rfl ?_))))
       have hW : escP (_ :: r) = (0, 0) := escP_bad1 hn (by first | (left; intro e; subst e; exact hu rfl) | (right; left; simpa using hi) | (right; right; exact ⟨n, hx4, by omega, by omega⟩))
       exact Cq fun K14 hK14 => Cr (tW 2 rfl (Ln (e_K (hK14 _ _ _ _ (cR (eI (by simp) (eT (by simp) (ret2 rfl rfl rfl ⟨by rw [hW]; rfl, E⟩))))))))
      ·refine tW 3 rfl (Ln (e_K (hK11 _ _ _ _ (c_false rfl (Cq fun K15 hK15 => Cr (tW 2 rfl ?_))))))
       refine bD (fun hl1 : (n : Int) < 55296 => ?_) (fun hl1 => ?_)
       ·exact tW 5 rfl (Ln (e_K (hK15 _ _ _ _ (c_true rfl (Cq fun K16 hK16 => Cr (tW 3 rfl (Ln (e_K (hK16 _ _ _ _ (cR (eI (by simp) (eT (by simp) (ret2 rfl rfl rfl ⟨by rw [escP_short hx4 (by omega)]; rfl, E⟩)))))))))))))
       ·refine tW 2 rfl (Sg rfl rfl (o_geq rfl rfl) ?_)
        refine bD (fun hl2 : (n : Int) ≥ 57344 => ?_) (fun hl2 => ?_)
        ·exact tW 2 rfl (Ln (e_K (hK15 _ _ _ _ (c_true rfl (Cq fun K17 hK17 => Cr (tW 3 rfl (Ln (e_K (hK17 _ _ _ _ (cR (eI (by simp) (eT (by simp) (ret2 rfl rfl rfl ⟨by rw [escP_short hx4 (by omega)]; rfl, E⟩)))))))))))))
        ·refine tW 2 rfl (Ln (e_K (hK15 _ _ _ _ (c_false rfl (Cq fun K18 hK18 => Cr (Zm rfl (Sv ((o_ssfrom (n := 5) Tryz.underlying9 rfl rfl (by simp only [List.length_cons]; omega)).to (v' := S (r.drop 4)) rfl) (sc (oC ent177 rfl) (c_hpre _ (r.drop 4) [92, 117]) rfl fun v_ w3 h_ => ?_))))))))
         obtain ⟨rfl, E_⟩ := h_
         replace E := E.then E_
         refine Sv (o_not rfl) ?_
         refine bC (fun hpp : ((!decide (([92, 117] : Str).length ≤ (r.drop 4).length ∧ (r.drop 4).take ([92, 117] : Str).length = [92, 117]))) = true => ?_) (fun hpp => ?_)
         ·refine Za rfl (Ln (e_K (hK18 _ _ _ _ (c_true rfl ?_))))
          have hW := escP_bad2 hx4 (by omega) (.inl (hexU_pre (by rw [← pre_dec]; rw [Bool.not_eq_true'] at hpp; exact hpp)))
          exact Cq fun K19 hK19 => Cr (tW 2 rfl (Ln (e_K (hK19 _ _ _ _ (cR (eI (by simp) (eT (by simp) (ret2 rfl rfl rfl ⟨by rw [hW]; rfl, E⟩))))))))
         ·refine Za rfl (Ln (e_K (hK18 _ _ _ _ (c_false rfl ?_))))
          have hpx : List.isPrefixOf [92, 117] (r.drop 4) = true := by
           rw [← pre_dec]
           cases hd : decide (([92, 117] : Str).length ≤ (r.drop 4).length ∧ (r.drop 4).take ([92, 117] : Str).length = [92, 117]) with
           | true => rfl
           | false => rw [hd] at hpp; cases hpp
          have hux := hexU_pre' hpx
          rw [List.drop_drop] at hux
          have hl6 : 2 ≤ (r.drop 4).length := by
           rw [← pre_dec, decide_eq_true_eq] at hpx
           exact hpx.1
          rw [List.length_drop] at hl6
          refine cK (eI (by simp) (e_K (hK10 _ _ _ _ (Cq fun K20 hK20 => Cr (Zm rfl (Sv ((o_ssfrom (n := 7) Tryz.underlying9 rfl rfl (by simp only [List.length_cons]; omega)).to (v' := S (r.drop 6)) rfl) (sc (oC ent233 rfl) (c_four _ (r.drop 6)) rfl fun v_ w4 h_ => ?_)))))))
          obtain ⟨rfl, E_⟩ := h_
          replace E := E.then E_
          refine tW 5 rfl (Ln (e_K (hK20 _ _ _ _ (Cq fun K21 hK21 => Cq fun K22 hK22 => Cr (tW 2 rfl ?_)))))
          refine bC (fun hj : ((!(hexF 4 (r.drop 6) 0).isSome)) = true => ?_) (fun hj => ?_)
          ·refine tW 8 rfl (Ln (e_K (hK22 _ _ _ _ (c_true rfl ?_))))
           have hW := escP_bad2 hx4 (by omega) (by rw [hux]; first | (left; simpa using hj) | (right; exact ⟨m, hm4, by omega⟩))
           exact Cq fun K23 hK23 => Cr (tW 2 rfl (Ln (e_K (hK23 _ _ _ _ (cR (eT (by simp) (ret2 rfl rfl rfl ⟨by rw [hW]; rfl, E⟩)))))))
          ·obtain ⟨m, hm4⟩ : ∃ m, hexF 4 (r.drop 6) 0 = some m := Option.isSome_iff_exists.1 (by simpa using hj)
           have hm65 := four_lt hm4
           rw [hm4, Option.getD_some]
           refine tW 3 rfl ?_
           refine bD (fun hm1 : (m : Int) < 56320 => ?_) (fun hm1 => ?_)
           ·refine tW 5 rfl (Ln (e_K (hK22 _ _ _ _ (c_true rfl ?_))))
            have hW := escP_bad2 hx4 (by omega) (by rw [hux]; first | (left; simpa using hj) | (right; exact ⟨m, hm4, by omega⟩))
            exact Cq fun K24 hK24 => Cr (tW 2 rfl (Ln (e_K (hK24 _ _ _ _ (cR (eT (by simp) (ret2 rfl rfl rfl ⟨by rw [hW]; rfl, E⟩)))))))
           ·refine tW 3 rfl (Sg rfl rfl (o_geq rfl rfl) ?_)
            refine bD (fun hm2 : (m : Int) ≥ 57344 => ?_) (fun hm2 => ?_)
            ·refine Sv (oF rfl rfl rfl) (Ln (e_K (hK22 _ _ _ _ (c_true rfl ?_))))
             have hW := escP_bad2 hx4 (by omega) (by rw [hux]; first | (left; simpa using hj) | (right; exact ⟨m, hm4, by omega⟩))
             exact Cq fun K25 hK25 => Cr (tW 2 rfl (Ln (e_K (hK25 _ _ _ _ (cR (eT (by simp) (ret2 rfl rfl rfl ⟨by rw [hW]; rfl, E⟩)))))))
            ·refine Sv (oF rfl rfl rfl) (Ln (e_K (hK22 _ _ _ _ (c_false rfl (cK (e_K (hK21 _ _ _ _ (Cq fun K26 hK26 => Cr (Zm rfl (Sv ((o_sub rfl rfl).to (v' := .int .i32 ((n - 55296 : Nat) : Int)) (congrArg (Value.int .i32) (by rw [wrap32_in _ (by omega)]; omega))) (Sv ((o_shl rfl rfl (by omega)).to (v' := .int .i32 ((1024 * (n - 55296) : Nat) : Int)) (congrArg (Value.int .i32) (shl10i (by omega)))) (Sv ((o_add rfl rfl).to (v' := .int .i32 ((65536 + 1024 * (n - 55296) : Nat) : Int)) (congrArg (Value.int .i32) (by rw [wrap32_in _ (by omega)]; omega))) (Zm rfl (Sv ((o_sub rfl rfl).to (v' := .int .i32 ((m - 56320 : Nat) : Int)) (congrArg (Value.int .i32) (by rw [wrap32_in _ (by omega)]; omega))) ?_))))))))))))))
             exact Sv ((o_add rfl rfl).to (v' := .int .i32 ((65536 + 1024 * (n - 55296) + (m - 56320) : Nat) : Int)) (congrArg (Value.int .i32) (by rw [wrap32_in _ (by omega)]; omega))) (tW 2 rfl (Ln (e_K (hK26 _ _ _ _ (cR (ret2 rfl rfl rfl ⟨by rw [escP_pair hx4 (by omega) (hux.trans hm4) (by omega)]; rfl, E⟩))))))
     ·refine tW 6 rfl (Ln (e_K (hK11 _ _ _ _ (c_false rfl (Cq fun K27 hK27 => Cr (tW 2 rfl ?_))))))
      refine bD (fun hl1 : (n : Int) < 55296 => ?_) (fun hl1 => ?_)
      ·exact tW 5 rfl (Ln (e_K (hK27 _ _ _ _ (c_true rfl (Cq fun K28 hK28 => Cr (tW 3 rfl (Ln (e_K (hK28 _ _ _ _ (cR (eI (by simp) (eT (by simp) (ret2 rfl rfl rfl ⟨by rw [escP_short hx4 (by omega)]; rfl, E⟩)))))))))))))
      ·refine tW 2 rfl (Sg rfl rfl (o_geq rfl rfl) ?_)
       refine bD (fun hl2 : (n : Int) ≥ 57344 => ?_) (fun hl2 => ?_)
       ·exact tW 2 rfl (Ln (e_K (hK27 _ _ _ _ (c_true rfl (Cq fun K29 hK29 => Cr (tW 3 rfl (Ln (e_K (hK29 _ _ _ _ (cR (eI (by simp) (eT (by simp) (ret2 rfl rfl rfl ⟨by rw [escP_short hx4 (by omega)]; rfl, E⟩)))))))))))))
       ·refine tW 2 rfl (Ln (e_K (hK27 _ _ _ _ (c_false rfl (Cq fun K30 hK30 => Cr (Zm rfl (Sv ((o_ssfrom (n := 5) Tryz.underlying9 rfl rfl (by simp only [List.length_cons]; omega)).to (v' := S (r.drop 4)) rfl) (sc (oC ent177 rfl) (c_hpre _ (r.drop 4) [92, 117]) rfl fun v_ w5 h_ => ?_))))))))
        obtain ⟨rfl, E_⟩ := h_
        replace E := E.then E_
        refine Sv (o_not rfl) ?_
        refine bC (fun hpp : ((!decide (([92, 117] : Str).length ≤ (r.drop 4).length ∧ (r.drop 4).take ([92, 117] : Str).length = [92, 117]))) = true => ?_) (fun hpp => ?_)
        ·refine Za rfl (Ln (e_K (hK30 _ _ _ _ (c_true rfl ?_))))
         have hW := escP_bad2 hx4 (by omega) (.inl (hexU_pre (by rw [← pre_dec]; rw [Bool.not_eq_true'] at hpp; exact hpp)))
         exact Cq fun K31 hK31 => Cr (tW 2 rfl (Ln (e_K (hK31 _ _ _ _ (cR (eI (by simp) (eT (by simp) (ret2 rfl rfl rfl ⟨by rw [hW]; rfl, E⟩))))))))
        ·refine Za rfl (Ln (e_K (hK30 _ _ _ _ (c_false rfl ?_))))
         have hpx : List.isPrefixOf [92, 117] (r.drop 4) = true := by
          rw [← pre_dec]
          cases hd : decide (([92, 117] : Str).length ≤ (r.drop 4).length ∧ (r.drop 4).take ([92, 117] : Str).length = [92, 117]) with
          | true => rfl
          | false => rw [hd] at hpp; cases hpp
         have hux := hexU_pre' hpx
         rw [List.drop_drop] at hux
         have hl6 : 2 ≤ (r.drop 4).length := by
          rw [← pre_dec, decide_eq_true_eq] at hpx
          exact hpx.1
         rw [List.length_drop] at hl6
         refine cK (eI (by simp) (e_K (hK10 _ _ _ _ (Cq fun K32 hK32 => Cr (Zm rfl (Sv ((o_ssfrom (n := 7) Tryz.underlying9 rfl rfl (by simp only [List.length_cons]; omega)).to (v' := S (r.drop 6)) rfl) (sc (oC ent233 rfl) (c_four _ (r.drop 6)) rfl fun v_ w6 h_ => ?_)))))))
         obtain ⟨rfl, E_⟩ := h_
         replace E := E.then E_
         refine tW 5 rfl (Ln (e_K (hK32 _ _ _ _ (Cq fun K33 hK33 => Cq fun K34 hK34 => Cr (tW 2 rfl ?_)))))
         refine bC (fun hj : ((!(hexF 4 (r.drop 6) 0).isSome)) = true => ?_) (fun hj => ?_)
         ·refine tW 8 rfl (Ln (e_K (hK34 _ _ _ _ (c_true rfl ?_))))
          have hW := escP_bad2 hx4 (by omega) (by rw [hux]; first | (left; simpa using hj) | (right; exact ⟨m, hm4, by omega⟩))
          exact Cq fun K35 hK35 => Cr (tW 2 rfl (Ln (e_K (hK35 _ _ _ _ (cR (eT (by simp) (ret2 rfl rfl rfl ⟨by rw [hW]; rfl, E⟩)))))))
         ·obtain ⟨m, hm4⟩ : ∃ m, hexF 4 (r.drop 6) 0 = some m := Option.isSome_iff_exists.1 (by simpa using hj)
          have hm65 := four_lt hm4
          rw [hm4, Option.getD_some]
          refine tW 3 rfl ?_
          refine bD (fun hm1 : (m : Int) < 56320 => ?_) (fun hm1 => ?_)
          ·refine tW 5 rfl (Ln (e_K (hK34 _ _ _ _ (c_true rfl ?_))))
           have hW := escP_bad2 hx4 (by omega) (by rw [hux]; first | (left; simpa using hj) | (right; exact ⟨m, hm4, by omega⟩))
           exact Cq fun K36 hK36 => Cr (tW 2 rfl (Ln (e_K (hK36 _ _ _ _ (cR (eT (by simp) (ret2 rfl rfl rfl ⟨by rw [hW]; rfl, E⟩)))))))
          ·refine tW 3 rfl (Sg rfl rfl (o_geq rfl rfl) ?_)
           refine bD (fun hm2 : (m : Int) ≥ 57344 => ?_) (fun hm2 => ?_)
           ·refine Sv (oF rfl rfl rfl) (Ln (e_K (hK34 _ _ _ _ (c_true rfl ?_))))
            have hW := escP_bad2 hx4 (by omega) (by rw [hux]; first | (left; simpa using hj) | (right; exact ⟨m, hm4, by omega⟩))
            exact Cq fun K37 hK37 => Cr (tW 2 rfl (Ln (e_K (hK37 _ _ _ _ (cR (eT (by simp) (ret2 rfl rfl rfl ⟨by rw [hW]; rfl, E⟩)))))))
           ·refine Sv (oF rfl rfl rfl) (Ln (e_K (hK34 _ _ _ _ (c_false rfl (cK (e_K (hK33 _ _ _ _ (Cq fun K38 hK38 => Cr (Zm rfl (Sv ((o_sub rfl rfl).to (v' := .int .i32 ((n - 55296 : Nat) : Int)) (congrArg (Value.int .i32) (by rw [wrap32_in _ (by omega)]; omega))) (Sv ((o_shl rfl rfl (by omega)).to (v' := .int .i32 ((1024 * (n - 55296) : Nat) : Int)) (congrArg (Value.int .i32) (shl10i (by omega)))) (Sv ((o_add rfl rfl).to (v' := .int .i32 ((65536 + 1024 * (n - 55296) : Nat) : Int)) (congrArg (Value.int .i32) (by rw [wrap32_in _ (by omega)]; omega))) (Zm rfl (Sv ((o_sub rfl rfl).to (v' := .int .i32 ((m - 56320 : Nat) : Int)) (congrArg (Value.int .i32) (by rw [wrap32_in _ (by omega)]; omega))) ?_))))))))))))))
            exact Sv ((o_add rfl rfl).to (v' := .int .i32 ((65536 + 1024 * (n - 55296) + (m - 56320) : Nat) : Int)) (congrArg (Value.int .i32) (by rw [wrap32_in _ (by omega)]; omega))) (tW 2 rfl (Ln (e_K (hK38 _ _ _ _ (cR (ret2 rfl rfl rfl ⟨by rw [escP_pair hx4 (by omega) (hux.trans hm4) (by omega)]; rfl, E⟩))))))

theorem c_qtake (w : World) (s : Str) (k : Nat) (hs : s.length ≤ 200000) (hU : UtT w) : Calls Tryz.prog 178 [S s, .int .i64 (k : Int)].toArray w (Ret fun u w' => u = .tuple #[S ((strT s k).getD ([], 0)).1, .int .i64 (((strT s k).getD ([], 0)).2 : Int), .bool (strT s k).isSome] ∧ Mod [] w w') := by
 refine enter Tryz.func178 rfl rfl rfl (l := [(0, _), (1, _)]) ⟨rfl, rfl, trivial⟩ ?_
 have E := Mod.refl [] w
 refine Cq fun K1 hK1 => Cr (tW 3 rfl (Ln (e_K (hK1 _ _ _ _ (Cq fun K2 hK2 => Cq fun K3 hK3 => Cr (tW 2 rfl (bE (dF (show ¬ ((k : Int) < 0) by omega)) (tW 3 rfl (Sg rfl rfl (o_slen Tryz.underlying9 rfl) (Sg rfl rfl (o_geq rfl rfl) ?_))))))))))
 refine bD (fun hge : (k : Int) ≥ (s.length : Int) => ?_) (fun hge => ?_)
 ·refine tW 7 rfl (Ln (e_K (hK3 _ _ _ _ (c_true rfl ?_))))
  have hW : (strT s k) = none := by
   unfold strT
   rw [if_neg]
   intro h
   first | (have := (List.getElem?_eq_some_iff.1 h).1; omega) | (rw [hc0] at h; injection h with h; subst h; exact hne rfl)
  exact Cq fun K4 hK4 => Cr (tW 3 rfl (Ln (e_K (hK4 _ _ _ _ (cR (eT (by simp) (ret3 rfl rfl rfl rfl ⟨by rw [hW]; rfl, E⟩)))))))
 ·obtain ⟨c0, hc0⟩ : ∃ c0, s[k]? = some c0 := ⟨_, List.getElem?_eq_getElem (by omega)⟩
  refine tW 4 rfl (Sg rfl rfl (o_sidx Tryz.underlying9 rfl rfl (by omega) (by rw [Int.toNat_natCast]; exact hc0)) (Sg rfl rfl (o_neq rfl rfl) ?_))
  refine bD (fun hne : (c0.toNat : Int) ≠ 34 => ?_) (fun hne => ?_)
  ·refine Sv (oF rfl rfl rfl) (Ln (e_K (hK3 _ _ _ _ (c_true rfl ?_))))
   have hW : (strT s k) = none := by
    unfold strT
    rw [if_neg]
    intro h
    first | (have := (List.getElem?_eq_some_iff.1 h).1; omega) | (rw [hc0] at h; injection h with h; subst h; exact hne rfl)
   exact Cq fun K5 hK5 => Cr (tW 3 rfl (Ln (e_K (hK5 _ _ _ _ (cR (eT (by simp) (ret3 rfl rfl rfl rfl ⟨by rw [hW]; rfl, E⟩)))))))
  ·refine Sv (oF rfl rfl rfl) (Ln (e_K (hK3 _ _ _ _ (c_false rfl ?_))))
   have hq : s[k]? = some 34 := by rw [hc0, u8_eq (show (c0.toNat : Int) = (34 : UInt8).toNat by rw [Classical.not_not.1 hne]; rfl)]
   refine cK (e_K (hK2 _ _ _ _ (Cq fun K6 hK6 => Cr (Za rfl (Ln (e_K (hK6 _ _ _ _ (Cq fun K7 hK7 => Cq fun K8 hK8 => Cr (Zm rfl (Sv (o_addE (r := ((k + 1 : Nat) : Int)) rfl rfl (by rw [wrap64_in _ (by omega)]; omega)) (Za rfl (Ln ?_))))))))))))
   refine e_K (hK8 _ _ _ _ (cB (c_loop (σ := Nat × Value × Str) (fun ⟨i, v, out⟩ => [(0, S s), (7, v), (8, .int .i64 (i : Int))]) (fun ⟨i, v, out⟩ w1 => (k < i ∧ i ≤ s.length ∧ out.length ≤ 4 * i ∧ ∃ f, s.length - i < f ∧ strF f (s.drop i) i out = (strT s k)) ∧ OwB w1 v out ∧ (∀ x ∈ ob v, w.heap.size ≤ x) ∧ Mod [] w w1) (fun ⟨i, v, out⟩ => s.length - i) (⟨k + 1, .slice none 0 0, []⟩) ⟨rfl, rfl, rfl, trivial⟩ (⟨⟨by omega, by omega, by simp, s.length - k, by omega, by rw [strT, if_pos hq]⟩, Own.nil w 5 1, by simp [ob], E⟩) ?_)))
   rintro ⟨i, v, out⟩ w1 ⟨⟨hk, hi, hol, f, hf, hinv⟩, O, L0, E⟩
   refine Cq fun K9 hK9 => Cq fun K10 hK10 => Cr (tW 2 rfl (Sv (o_slen Tryz.underlying9 rfl) (Sv (o_lss rfl rfl) (Ln (e_K (hK10 _ _ _ _ ?_))))))
   refine c_if rfl (fun h30 => ?_) (fun h30 => ?_)
   ·obtain ⟨c, hc⟩ : ∃ c, s[i]? = some c := ⟨_, List.getElem?_eq_getElem (by omega)⟩
    obtain ⟨g, rfl⟩ : ∃ g, f = g + 1 := ⟨f - 1, by omega⟩
    refine cK (e_K (hK9 _ _ _ _ (cB (Cq fun K11 hK11 => ?_))))
    by_cases hA : c = 34
    ·subst hA
     have hdecv : Utf8.decode ⟨⟨s.drop i⟩⟩ 0 = (34, 1) := by rw [dec_some (by omega) (by rw [rune_first hc (by decide)]; simp), rune_first hc (by decide)]; rfl
     have hW : (strT s k) = some (out, i + 1) := by rw [← hinv, strF_quote hc]
     refine Cr (tW 2 rfl (Sv (o_ssfrom Tryz.underlying9 rfl rfl hi) (sc (oC ent202 rfl) (c_decR _ (s.drop i) (hU.mod0 E)) rfl fun v_ w2 h_ => ?_)))
     obtain ⟨rfl, E_⟩ := h_
     replace E := E.then E_
     replace O := O.mod0 E_
     rw [decP_at (show i < s.length by omega), hdecv]
     refine tW 5 rfl (Ln (e_K (hK11 _ _ _ _ (Cq fun K12 hK12 => cB (Cq fun K13 hK13 => Cr (tW 2 rfl (bE (dT (by decide)) (Za rfl (Ln (e_K (hK13 _ _ _ _ (c_true rfl (Cq fun K14 hK14 => ?_)))))))))))))
     refine Cr (Zm rfl (Sv (o_b2s_own (u := out) Tryz.underlying74 Tryz.underlying5 Tryz.underlying9 rfl (O.same rfl (cells_b8 _))) (Zm rfl (Sv (o_addE (r := ((i + 1 : Nat) : Int)) rfl rfl (by rw [wrap64_in _ (by omega)]; omega)) (tW 3 rfl (Ln (e_K (hK14 _ _ _ _ (cR (eI (by simp) (eT (by simp) (eI (by simp) (eT (by simp) (eI (by simp) ?_))))))))))))))
     exact eT (by simp) (ret3 rfl rfl rfl rfl ⟨by rw [hW]; rfl, E⟩)
    ·by_cases hB : c = 92
     ·subst hB
      have hdecv : Utf8.decode ⟨⟨s.drop i⟩⟩ 0 = (92, 1) := by rw [dec_some (by omega) (by rw [rune_first hc (by decide)]; simp), rune_first hc (by decide)]; rfl
      obtain ⟨e1, e2, e3⟩ := escP_le (s.drop (i + 1))
      rw [List.length_drop] at e3
      have hst := strF_esc (f := g) (out := out) hc
      rw [hinv] at hst
      refine Cr (tW 2 rfl (Sv (o_ssfrom Tryz.underlying9 rfl rfl hi) (sc (oC ent202 rfl) (c_decR _ (s.drop i) (hU.mod0 E)) rfl fun v_ w3 h_ => ?_)))
      obtain ⟨rfl, E_⟩ := h_
      replace E := E.then E_
      replace O := O.mod0 E_
      rw [decP_at (show i < s.length by omega), hdecv]
      refine tW 5 rfl (Ln (e_K (hK11 _ _ _ _ (Cq fun K15 hK15 => cB (Cq fun K16 hK16 => Cr (tW 2 rfl (bE (dF (by decide)) (Za rfl (Ln (e_K (hK16 _ _ _ _ (c_false rfl (Cq fun K17 hK17 => ?_)))))))))))))
      refine Cr (tW 2 rfl (bE (dF (by decide)) (tW 3 rfl (bE (dF (by decide)) (tW 6 rfl (Ln (e_K (hK17 _ _ _ _ (c_false rfl (Cq fun K18 hK18 => Cr (tW 2 rfl (bE (dT (by decide)) (Za rfl ?_)))))))))))))
      refine Ln (e_K (hK18 _ _ _ _ (c_true rfl (Cq fun K19 hK19 => Cr (tW 2 rfl (Sv (o_addE (r := ((i + 1 : Nat) : Int)) rfl rfl (by rw [wrap64_in _ (by omega)]; omega)) (Sv (o_ssfrom (n := i + 1) Tryz.underlying9 rfl rfl (by omega)) (sc (oC ent203 rfl) (c_escape _ (s.drop (i + 1))) rfl fun v_ w4 h_ => ?_))))))))
      obtain ⟨rfl, E_⟩ := h_
      replace E := E.then E_
      replace O := O.mod0 E_
      refine tW 5 rfl (Ln (e_K (hK19 _ _ _ _ (Cq fun K20 hK20 => Cq fun K21 hK21 => Cr (tW 2 rfl ?_)))))
      refine bD (fun hez : ((escP (s.drop (i + 1))).2 : Int) = 0 => ?_) (fun hez => ?_)
      ·refine Ln (e_K (hK21 _ _ _ _ (c_true rfl ?_)))
       have hW2 : (strT s k) = none := by rw [hst, if_pos (by omega)]
       exact Cq fun K22 hK22 => Cr (tW 3 rfl (Ln (e_K (hK22 _ _ _ _ (cR (eT (by simp) (eI (by simp) (eT (by simp) (eI (by simp) (eT (by simp) (eI (by simp) (eT (by simp) (ret3 rfl rfl rfl rfl ⟨by rw [hW2]; rfl, E⟩)))))))))))))
      ·refine Ln (e_K (hK21 _ _ _ _ (c_false rfl (cK (e_K (hK20 _ _ _ _ (Cr (Zm rfl (Sv (o_addE (r := (((escP (s.drop (i + 1))).2 + 1 : Nat) : Int)) rfl rfl (by rw [wrap64_in _ (by omega)]; omega)) (Za rfl (Ln (eI (by simp) (e_K (hK15 _ _ _ _ (Cq fun K23 hK23 => ?_)))))))))))))))
       have hinv2 : strF g (s.drop (i + ((escP (s.drop (i + 1))).2 + 1))) (i + ((escP (s.drop (i + 1))).2 + 1)) (out ++ encB (escP (s.drop (i + 1))).1) = (strT s k) := by rw [hst, if_neg (by omega)]
       refine Cr (tW 2 rfl (sc (oC ent189 rfl) (c_apr _ v out (escP (s.drop (i + 1))).1 O e1 e2 (by omega)) rfl fun v_ w5 h_ => ?_))
       obtain ⟨O1, ho1, hm1⟩ := h_
       have L1 : ∀ x ∈ ob v_, w.heap.size ≤ x := fun x hx => (ho1 x hx).elim (L0 x) (Nat.le_trans E.size)
       replace E := E.trans' hm1 (fun x hx => .inr (L0 x hx))
       exact Za rfl (Ln (e_K (hK23 _ _ _ _ (Cr (tW 2 rfl (Sv (o_addE (r := ((i + ((escP (s.drop (i + 1))).2 + 1) : Nat) : Int)) rfl rfl (by rw [wrap64_in _ (by omega)]; omega)) (Za rfl (Ln (eI (by simp) (eR (σ := Nat × Value × Str) (s := ⟨i, v, out⟩) (⟨i + ((escP (s.drop (i + 1))).2 + 1), v_, out ++ encB (escP (s.drop (i + 1))).1⟩) ⟨rfl, rfl, rfl, trivial⟩ ⟨⟨by omega, by omega, by rw [List.length_append]; have := encB_le (escP (s.drop (i + 1))).1; omega, g, by omega, hinv2⟩, O1, L1, E⟩ (by dsimp only; omega)))))))))))
     ·by_cases hz : (runeR (s.drop i)).2 = 0
      ·have hdecv := dec_none (show i < s.length by omega) hz
       have hW : (strT s k) = none := by rw [← hinv, strF_rune hc hA hB, if_pos (.inl hz)]
       refine Cr (tW 2 rfl (Sv (o_ssfrom Tryz.underlying9 rfl rfl hi) (sc (oC ent202 rfl) (c_decR _ (s.drop i) (hU.mod0 E)) rfl fun v_ w6 h_ => ?_)))
       obtain ⟨rfl, E_⟩ := h_
       replace E := E.then E_
       replace O := O.mod0 E_
       rw [decP_at (show i < s.length by omega), hdecv]
       refine tW 5 rfl (Ln (e_K (hK11 _ _ _ _ (Cq fun K24 hK24 => cB (Cq fun K25 hK25 => Cr (tW 2 rfl (bE (dF (by decide)) (Za rfl (Ln (e_K (hK25 _ _ _ _ (c_false rfl (Cq fun K26 hK26 => ?_)))))))))))))
       refine Cr (tW 2 rfl (bE (dF (by decide)) (tW 3 rfl (bE (dT (by decide)) (tW 3 rfl (bE (dT (by decide)) (tW 3 rfl (Ln (e_K (hK26 _ _ _ _ (c_true rfl ?_)))))))))))
       have hW2 : (strT s k) = none := by first | exact hW | (rw [hst, if_pos (.inr (by omega))])
       exact Cq fun K27 hK27 => Cr (tW 3 rfl (Ln (e_K (hK27 _ _ _ _ (cR (eI (by simp) (eT (by simp) (eI (by simp) (eT (by simp) (eI (by simp) (eT (by simp) (ret3 rfl rfl rfl rfl ⟨by rw [hW2]; rfl, E⟩))))))))))))
      ·have hdecv := dec_some (show i < s.length by omega) hz
       obtain ⟨_, _, e1, e2⟩ := enc_take (dec_at (show i < s.length by omega)) hz
       have e3 := runeR_le (s.drop i)
       rw [List.length_drop] at e3
       have hst := strF_rune (f := g) (out := out) hc hA hB
       rw [hinv] at hst
       have hR34 : ¬ (((runeR (s.drop i)).1 : Int) = 34) := fun h => hA (u8_eq (by rw [← rune_low hc hz (by omega)]; exact h))
       have hR92 : ¬ (((runeR (s.drop i)).1 : Int) = 92) := fun h => hB (u8_eq (by rw [← rune_low hc hz (by omega)]; exact h))
       refine Cr (tW 2 rfl (Sv (o_ssfrom Tryz.underlying9 rfl rfl hi) (sc (oC ent202 rfl) (c_decR _ (s.drop i) (hU.mod0 E)) rfl fun v_ w7 h_ => ?_)))
       obtain ⟨rfl, E_⟩ := h_
       replace E := E.then E_
       replace O := O.mod0 E_
       rw [decP_at (show i < s.length by omega), hdecv]
       refine tW 5 rfl (Ln (e_K (hK11 _ _ _ _ (Cq fun K28 hK28 => cB (Cq fun K29 hK29 => Cr (tW 2 rfl (bE (dF (hR34)) (Za rfl (Ln (e_K (hK29 _ _ _ _ (c_false rfl (Cq fun K30 hK30 => ?_)))))))))))))
       refine Cr (tW 2 rfl ?_)
       refine bD (fun hlo : ((runeR (s.drop i)).1 : Int) < 32 => ?_) (fun hlo => ?_)
       ·refine tW 9 rfl (Ln (e_K (hK30 _ _ _ _ (c_true rfl ?_))))
        have hW2 : (strT s k) = none := by first | exact hW | (rw [hst, if_pos (.inr (by omega))])
        exact Cq fun K31 hK31 => Cr (tW 3 rfl (Ln (e_K (hK31 _ _ _ _ (cR (eI (by simp) (eT (by simp) (eI (by simp) (eT (by simp) (eI (by simp) (eT (by simp) (ret3 rfl rfl rfl rfl ⟨by rw [hW2]; rfl, E⟩))))))))))))
       ·refine tW 3 rfl ?_
        refine bD (fun her : ((runeR (s.drop i)).1 : Int) = 65533 => ?_) (fun her => ?_)
        ·have hn2 := rune_err (show i < s.length by omega) hz (by omega)
         refine tW 3 rfl (bE (dF (by omega)) (tW 3 rfl (Ln (e_K (hK30 _ _ _ _ (c_false rfl (Cq fun K32 hK32 => Cr (tW 2 rfl (bE (dF (hR92)) (Za rfl (Ln (e_K (hK32 _ _ _ _ (c_false rfl ?_))))))))))))))
         refine cK (eI (by simp) (e_K (hK28 _ _ _ _ (Cq fun K33 hK33 => ?_))))
         have hinv2 : strF g (s.drop (i + (runeR (s.drop i)).2)) (i + (runeR (s.drop i)).2) (out ++ encB (runeR (s.drop i)).1) = (strT s k) := by rw [hst, if_neg (by omega)]
         refine Cr (tW 2 rfl (sc (oC ent189 rfl) (c_apr _ v out (runeR (s.drop i)).1 O e1 e2 (by omega)) rfl fun v_ w8 h_ => ?_))
         obtain ⟨O1, ho1, hm1⟩ := h_
         have L1 : ∀ x ∈ ob v_, w.heap.size ≤ x := fun x hx => (ho1 x hx).elim (L0 x) (Nat.le_trans E.size)
         replace E := E.trans' hm1 (fun x hx => .inr (L0 x hx))
         exact Za rfl (Ln (e_K (hK33 _ _ _ _ (Cr (tW 2 rfl (Sv (o_addE (r := ((i + (runeR (s.drop i)).2 : Nat) : Int)) rfl rfl (by rw [wrap64_in _ (by omega)]; omega)) (Za rfl (Ln (eI (by simp) (eR (σ := Nat × Value × Str) (s := ⟨i, v, out⟩) (⟨i + (runeR (s.drop i)).2, v_, out ++ encB (runeR (s.drop i)).1⟩) ⟨rfl, rfl, rfl, trivial⟩ ⟨⟨by omega, by omega, by rw [List.length_append]; have := encB_le (runeR (s.drop i)).1; omega, g, by omega, hinv2⟩, O1, L1, E⟩ (by dsimp only; omega)))))))))))
        ·refine tW 6 rfl (Ln (e_K (hK30 _ _ _ _ (c_false rfl (Cq fun K34 hK34 => Cr (tW 2 rfl (bE (dF (hR92)) (Za rfl (Ln (e_K (hK34 _ _ _ _ (c_false rfl (cK (eI (by simp) ?_))))))))))))))
         refine e_K (hK28 _ _ _ _ (Cq fun K35 hK35 => ?_))
         have hinv2 : strF g (s.drop (i + (runeR (s.drop i)).2)) (i + (runeR (s.drop i)).2) (out ++ encB (runeR (s.drop i)).1) = (strT s k) := by rw [hst, if_neg (by omega)]
         refine Cr (tW 2 rfl (sc (oC ent189 rfl) (c_apr _ v out (runeR (s.drop i)).1 O e1 e2 (by omega)) rfl fun v_ w9 h_ => ?_))
         obtain ⟨O1, ho1, hm1⟩ := h_
         have L1 : ∀ x ∈ ob v_, w.heap.size ≤ x := fun x hx => (ho1 x hx).elim (L0 x) (Nat.le_trans E.size)
         replace E := E.trans' hm1 (fun x hx => .inr (L0 x hx))
         exact Za rfl (Ln (e_K (hK35 _ _ _ _ (Cr (tW 2 rfl (Sv (o_addE (r := ((i + (runeR (s.drop i)).2 : Nat) : Int)) rfl rfl (by rw [wrap64_in _ (by omega)]; omega)) (Za rfl (Ln (eI (by simp) (eR (σ := Nat × Value × Str) (s := ⟨i, v, out⟩) (⟨i + (runeR (s.drop i)).2, v_, out ++ encB (runeR (s.drop i)).1⟩) ⟨rfl, rfl, rfl, trivial⟩ ⟨⟨by omega, by omega, by rw [List.length_append]; have := encB_le (runeR (s.drop i)).1; omega, g, by omega, hinv2⟩, O1, L1, E⟩ (by dsimp only; omega)))))))))))
   ·have hW : (strT s k) = none := by rw [← hinv, strF_end (by omega)]
    exact c_exit (eT (by simp) (eT (by simp) (e_hit (e_K (hK7 _ _ _ _ (Cq fun K36 hK36 => Cr (tW 3 rfl (Ln (e_K (hK36 _ _ _ _ (cR (ret3 rfl rfl rfl rfl ⟨by rw [hW]; rfl, E⟩))))))))))))
end Go.Proofs.YtknndpjacklkeaaGreatDoor.V

set_option linter.unusedVariables false
set_option linter.unusedSimpArgs false
set_option maxRecDepth 10000
namespace Go.Proofs.YtknndpjacklkeaaGreatDoor.V
open Go Go.Proofs
theorem pl110 : plB Tryz.prog 110 [(0, 1)] = true := by kernel_rfl
theorem zv110 : zvB Tryz.prog 110 ([.int .i64 0]) := by unfold zvB; kernel_rfl
theorem ent53 : Ent Tryz.prog 53 := Ent.of Tryz.func53 (by kernel_rfl) (by kernel_rfl)
theorem c_fail (w : World) (e : Int) : Calls Tryz.prog 53 [.int .i64 e].toArray w (WrF 110 e w) := by
 exact enter Tryz.func53 rfl rfl rfl (l := [(0, _)]) ⟨rfl, trivial⟩ (Cr (Zm rfl (Sv (o_build (cs := [_]) pl110 zv110 rfl rfl) (Sv (o_mki Tryz.underlying110 rfl rfl) (s_panic rfl (endp ⟨rfl, rfl⟩))))))

end Go.Proofs.YtknndpjacklkeaaGreatDoor.V

set_option linter.unusedVariables false
set_option linter.unusedSimpArgs false
set_option maxRecDepth 10000
namespace Go.Proofs.YtknndpjacklkeaaGreatDoor.V
open Go Go.Proofs
end Go.Proofs.YtknndpjacklkeaaGreatDoor.V

set_option linter.unusedVariables false
set_option linter.unusedSimpArgs false
set_option maxRecDepth 10000
namespace Go.Proofs.YtknndpjacklkeaaGreatDoor.V
open Go Go.Proofs
theorem ifn20 : Tryz.prog.underlying 20 = some (.interface (Tryz.prog.methodsAt 20)) := by kernel_rfl
theorem ag110 : agB Tryz.prog 110 1 = true := by kernel_rfl
theorem fd110_0 : fdB Tryz.prog 110 0 0 1 = true := by kernel_rfl
theorem sc26 : scB Tryz.prog 26 = true := by kernel_rfl
theorem ent50 : Ent Tryz.prog 50 := Ent.of Tryz.func50 (by kernel_rfl) (by kernel_rfl)
theorem zv9 : zvB Tryz.prog 9 ([S []]) := by unfold zvB; kernel_rfl
theorem zv26 : zvB Tryz.prog 26 ([.int .i64 0]) := by unfold zvB; kernel_rfl
theorem c_caught0 (w : World) (p : Value) : Calls Tryz.prog 50 [.nilIface, p].toArray w (Ret fun u w' => True ∧ Mod [] w w') := by
 refine enter Tryz.func50 rfl rfl rfl (l := [(0, _), (1, _)]) ⟨rfl, rfl, trivial⟩ ?_
 have E := Mod.refl [] w
 exact Cq fun K1 hK1 => Cq fun K2 hK2 => Cr (Zm rfl (Sv (o_inn ifn20 rfl) (Ln (e_K (hK2 _ _ _ _ (c_true rfl (cR (eT (by simp) (ret0 rfl ⟨trivial, E⟩)))))))))

theorem c_caught1 (w : World) (ge : Nat) (z : Value) (e : Int) (B : Blk w ge 26 [z]) : Calls Tryz.prog 50 [.iface 110 (.agg #[.int .i64 e]), .pointer (some ⟨ge, 0, none⟩)].toArray w (Ret fun u w' => Blk w' ge 26 [.int .i64 e] ∧ Mod [ge] w w') := by
 refine enter Tryz.func50 rfl rfl rfl (l := [(0, _), (1, _)]) ⟨rfl, rfl, trivial⟩ (Cq fun K1 hK1 => Cq fun K2 hK2 => ?_)
 have E := Mod.refl [ge] w
 refine Cr (Zm rfl (Sv (o_ifn ifn20 rfl) (Ln (e_K (hK2 _ _ _ _ (c_false rfl (cK (e_K (hK1 _ _ _ _ (Cq fun K3 hK3 => Cr (Zm rfl (Sv (o_ta Tryz.underlying110 rfl rfl) (tW 3 rfl (s_alloc zv110 rfl fun g1 w1 N1 => ?_))))))))))))))
 have Lg1_E := N1.le E
 have Dge_g1 := N1.ne B
 replace B := B.mod0 N1.mod
 replace E := E.then N1.mod
 have Bg1 := N1.blk
 refine s_sta (vs := [_]) ag110 Bg1 rfl rfl rfl (by simp [Value.oneCell']) (by simp) fun w2 P2 => ?_
 replace B := B.ne P2.mod (Ne.symm (Ne.symm Dge_g1))
 replace E := E.own P2.mod Lg1_E
 replace Bg1 : Blk w2 g1 _ [_] := P2.blk
 refine Za rfl (Ln (e_K (hK3 _ _ _ _ (Cq fun K4 hK4 => Cq fun K5 hK5 => Cr (tW 2 rfl (Ln (e_K (hK5 _ _ _ _ ?_))))))))
 refine c_cond rfl (fun h14 => ?_) (fun h14 => ?_)
 ·cases h14
 ·refine cK (e_K (hK4 _ _ _ _ (Cr (Zm rfl (Sv (oA0 fd110_0 rfl) (Sv (oL sc26 rfl (Bg1.cell rfl)) (Sv (o_nilc rfl) (s_st sc26 B rfl rfl rfl (by simp) fun w3 P3 => ?_))))))))
  replace Bg1 := Bg1.ne P3.mod (Ne.symm Dge_g1)
  replace E := E.trans P3.mod
  replace B : Blk w3 ge _ [_] := P3.blk
  exact Ln (end0 rfl ⟨B, E⟩)

end Go.Proofs.YtknndpjacklkeaaGreatDoor.V

set_option linter.unusedVariables false
set_option linter.unusedSimpArgs false
namespace Go.Proofs.YtknndpjacklkeaaGreatDoor.V
open Go
open Go.ChangeMaps (setBlock)
structure MIt (w : World) (g b : Nat) (m : List (Str × Value)) (L : List Str) (last : Option (Str × Value)) : Prop where
 at_ : ∃ es clock since seen c0, w.heap[g]? = some (.mapIter (some b) since seen c0) ∧ w.heap[b]? = some (.map es clock) ∧ ents es = rows m ∧ (∀ e ∈ es.toList, e.born < since) ∧ since ≤ c0 ∧ c0 = clock ∧ (es.toList.map (·.born)).Nodup ∧
  L.map S = (leftOf es seen).toList.map (·.key) ∧ (∀ p, last = some p → ∃ (e : MapEntry) (s0 : Array Nat), e ∈ es.toList ∧ seen = s0.push e.born ∧ e.key = S p.1 ∧ e.val = p.2)
 keys : (m.map (·.1)).Nodup
section
variable {P : Program} {w w' : World} {g b : Nat} {m : List (Str × Value)} {k : Str} {M : List Nat} {L : List Str} {last : Option (Str × Value)}
variable {ops : Array Oper} {Q : Exit → Act → World → Prop} {n : Nat} {ds : List Deferred} {l : List (Nat × Value)} {rest : List Oper} {d : Nat} {ty : TypeId} {pos : String} {af : Array Edge} {dd : Option Nat} {gg : Option (Nat × Bool)} {x y z : Operand} {t kt et : TypeId} {v : Value}
theorem MIt.lt (h : MIt w g b m L last) : g < w.heap.size := by
 obtain ⟨_, _, _, _, _, h1, _⟩ := h.at_
 exact (Array.getElem?_eq_some_iff.1 h1).1
theorem MIt.mod (h : MIt w g b m L last) (k : Mod M w w') (hg : g ∉ M) (hb : b ∉ M) : MIt w' g b m L last := by
 obtain ⟨es, clock, since, seen, c0, h1, h2, h3⟩ := h.at_
 have l1 := (Array.getElem?_eq_some_iff.1 h1).1
 have l2 := (Array.getElem?_eq_some_iff.1 h2).1
 exact ⟨⟨es, clock, since, seen, c0, (k.block g l1 hg).trans h1, (k.block b l2 hb).trans h2, h3⟩, h.keys⟩
theorem MIt.mod0 (h : MIt w g b m L last) (k : Mod [] w w') : MIt w' g b m L last := h.mod k (by simp) (by simp)
end
end Go.Proofs.YtknndpjacklkeaaGreatDoor.V

set_option linter.unusedVariables false
set_option linter.unusedSimpArgs false
namespace Go.Proofs.YtknndpjacklkeaaGreatDoor.V
open Go
section
variable {P : Program} {ops : Array Oper} {Q : Exit → Act → World → Prop} {n : Nat} {ds : List Deferred} {l : List (Nat × Value)} {w w' : World} {rest : List Oper} {d : Nat} {ty : TypeId} {pos : String} {af : Array Edge} {dd : Option Nat} {gg : Option (Nat × Bool)} {x y z : Operand} {t t' kt et T e : TypeId} {v : Value} {f : FuncId} {name : String}
theorem o_taN {t0 : TypeId} {d0 : TypeDesc} (hT : P.underlying T = some d0) (hn : (match d0 with | .interface _ => false | _ => true) = true) (hx : evO l x = some (.iface T v)) : Runs P l ⟨dd, .typeAssert x t0 T false, ty, pos, af, gg⟩ w v w := fun ρ h => by
 cases d0 <;> first | (simp at hn; done) | simp [execOp, Instr.typeAssert, h _ _ hx, run_underlying hT]
end
end Go.Proofs.YtknndpjacklkeaaGreatDoor.V

set_option linter.unusedVariables false
set_option linter.unusedSimpArgs false
namespace Go.Proofs.YtknndpjacklkeaaGreatDoor.V
open Go
section
variable {P : Program} {ops : Array Oper} {Q : Exit → Act → World → Prop} {n : Nat} {ds : List Deferred} {l : List (Nat × Value)} {w w' : World} {fn : Func} {R : Ending → World → Prop} {v v' : Value}
variable {rest : List Oper} {d : Nat} {op : Op} {ty : TypeId} {pos : String} {af : Array Edge} {x y : Operand} {t t' : TypeId} {dd : Option Nat} {gg : Option (Nat × Bool)}
theorem o_nnn (hi : P.underlying t = some (.interface (P.methodsAt t))) (hx : evO l x = some .nilIface) : Runs P l ⟨dd, .binOp .neq t x (.const .nilIface) t', ty, pos, af, gg⟩ w (.bool false) w := fun ρ h => by
 have h1 : ρ (.const .nilIface) = .nilIface := h _ _ rfl
 have hg : eqGuard .neq t x (.const .nilIface) .nilIface .nilIface = pure () := by cases x <;> rfl
 simp [execOp, h _ _ hx, h1, binOp, hg, run_equal_nil_nil w t hi]
theorem o_nnf {T : TypeId} {v : Value} (hi : P.underlying t = some (.interface (P.methodsAt t))) (hx : evO l x = some (.iface T v)) : Runs P l ⟨dd, .binOp .neq t x (.const .nilIface) t', ty, pos, af, gg⟩ w (.bool true) w := fun ρ h => by
 have h1 : ρ (.const .nilIface) = .nilIface := h _ _ rfl
 have hg : eqGuard .neq t x (.const .nilIface) (.iface T v) .nilIface = pure () := by rfl
 simp [execOp, h _ _ hx, h1, binOp, hg, run_equal_held_nil w t _ _ hi]
theorem o_taF {T T' t0 : TypeId} {v z : Value} {e : TypeId} (hT : P.underlying T = some (.pointer e)) (hne : ¬ T' = T) (hz : (P.info? T).bind (·.zero) = some z) (hx : evO l x = some (.iface T' v)) : Runs P l ⟨dd, .typeAssert x t0 T true, ty, pos, af, gg⟩ w (.tuple #[z, .bool false]) w := fun ρ h => by
 simp [execOp, Instr.typeAssert, h _ _ hx, run_underlying hT, hne, run_zero hz]
theorem ret1R (hr : fn.results = #[.tmp t]) (hv : lk t l = some v) (h : R (.returned v) w) : WE (bodyPost P fn R) .ret n [] l w := fun a ha => ⟨ha.defers, _, results_tmp hr _ _ _, by rw [getD_lk ha hv]; exact h⟩
theorem retcR {ad : Addr} {vs : List Value} {T c : Nat} (hr : fn.results = #[.cell t T]) (ht : agB P T c = true) (hv : lk t l = some (.pointer (some ad))) (hc : vs.length = c) (hcs : Cs w ad vs) (h : R (.returned (.agg vs.toArray)) w) : WE (bodyPost P fn R) .ret n [] l w := fun a ha =>
 ⟨ha.defers, .agg vs.toArray, by simp [results, hr, ha.get _ _ hv, asAddr, run_loadVar_ag ht hc hcs], h⟩
theorem retctR {ad : Addr} {vs : List Value} {T c : Nat} (hr : fn.results = #[.cell t T, .tmp t']) (ht : agB P T c = true) (hv : lk t l = some (.pointer (some ad))) (hc : vs.length = c) (hcs : Cs w ad vs) (hv' : lk t' l = some v') (h : R (.returned (.tuple #[.agg vs.toArray, v'])) w) : WE (bodyPost P fn R) .ret n [] l w := fun a ha =>
 ⟨ha.defers, .tuple #[.agg vs.toArray, v'], by simp [results, hr, ha.get _ _ hv, ha.get _ _ hv', asAddr, run_loadVar_ag ht hc hcs], h⟩
end
end Go.Proofs.YtknndpjacklkeaaGreatDoor.V

set_option linter.unusedVariables false
set_option linter.unusedSimpArgs false
set_option maxRecDepth 10000
namespace Go.Proofs.YtknndpjacklkeaaGreatDoor.V
open Go Go.Proofs
theorem ent196 : Ent Tryz.prog 196 := Ent.of Tryz.func196 (by kernel_rfl) (by kernel_rfl)
end Go.Proofs.YtknndpjacklkeaaGreatDoor.V

set_option linter.unusedVariables false
set_option linter.unusedSimpArgs false
set_option maxRecDepth 10000
namespace Go.Proofs.YtknndpjacklkeaaGreatDoor.V
open Go Go.Proofs
end Go.Proofs.YtknndpjacklkeaaGreatDoor.V

set_option linter.unusedVariables false
set_option linter.unusedSimpArgs false
set_option maxRecDepth 10000
namespace Go.Proofs.YtknndpjacklkeaaGreatDoor.V
open Go Go.Proofs
end Go.Proofs.YtknndpjacklkeaaGreatDoor.V
