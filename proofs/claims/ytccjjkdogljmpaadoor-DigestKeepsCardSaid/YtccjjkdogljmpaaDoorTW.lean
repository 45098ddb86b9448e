/-
  A part of the proof: the digest of bytes. No condition of its own.
-/
import Derived.Test.YtccjjkdogljmpaaDoorTZ
set_option linter.unusedVariables false
set_option linter.unusedSimpArgs false
namespace Go.Proofs.YtccjjkdogljmpaaDoor.V
open Go
def sha (b : List UInt8) : List UInt8 := outB (fin64 (abs64 s8of b (b.length / 64)) (b.drop (64 * (b.length / 64))) b.length) 32
def lensR (n : Nat) : Nat → List UInt8
  | 0 => []
  | k + 1 => lenb n k :: lensR n k
theorem lensR_all (n : Nat) : lensR n 8 = lens n 8 := rfl
theorem lensR_len (n : Nat) : ∀ k, (lensR n k).length = k
  | 0 => rfl
  | k + 1 => by simp [lensR, lensR_len n k]
def restN (n k : Nat) : Nat := if k = 0 then n else n * 8 / 256 ^ k
theorem restN_first (n : Nat) : n / 32 = restN n 1 := by
  unfold restN
  rw [if_neg (by omega), Nat.pow_one]
  omega
theorem restN_succ (n k : Nat) (h : k ≠ 0) : restN n k / 256 = restN n (k + 1) := by
  unfold restN
  rw [if_neg h, if_neg (by omega), Nat.div_div_eq_div_mul, Nat.pow_succ]
theorem restN_le (n k : Nat) : restN n k ≤ n * 8 := by
  unfold restN
  split
  · omega
  · exact Nat.div_le_self _ _
theorem conv_first (n : Nat) : IntKind.u8.wrap (((n % 32 * 8 : Nat)) : Int) = ((lenb n 0).toNat : Int) := by
  have h1 : IntKind.u8.wrap (((n % 32 * 8 : Nat)) : Int) = (((n % 32 * 8 : Nat)) : Int) % 256 := by simp [IntKind.wrap, IntKind.bits, IntKind.signed]
  rw [h1, lenb, UInt8.toNat_ofNat', Nat.pow_zero, Nat.div_one]
  omega
theorem conv_next (n k : Nat) (h : k ≠ 0) : IntKind.u8.wrap (((restN n k % 256 : Nat)) : Int) = ((lenb n k).toNat : Int) := by
  have h1 : IntKind.u8.wrap (((restN n k % 256 : Nat)) : Int) = (((restN n k % 256 : Nat)) : Int) % 256 := by simp [IntKind.wrap, IntKind.bits, IntKind.signed]
  rw [h1, lenb, UInt8.toNat_ofNat', restN, if_neg h]
  omega
theorem flat_b1 {b : List UInt8} : ∀ u ∈ (b.map bcells).flatten, u.oneCell' = true := by
  intro u hu
  obtain ⟨l, hl, hu⟩ := List.mem_flatten.1 hu
  obtain ⟨x, _, rfl⟩ := List.mem_map.1 hl
  simp at hu
  subst hu
  rfl
end Go.Proofs.YtccjjkdogljmpaaDoor.V
