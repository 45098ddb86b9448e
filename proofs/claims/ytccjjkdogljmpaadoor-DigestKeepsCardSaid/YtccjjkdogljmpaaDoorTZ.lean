/-
  A part of the proof: what stands behind the bytes; the digest's bytes. No condition of its own.
-/
import Derived.Test.YtccjjkdogljmpaaDoorTY
set_option linter.unusedVariables false
set_option linter.unusedSimpArgs false
namespace Go.Proofs.YtccjjkdogljmpaaDoor.V
open Go
/-- how many zeros -/
def padz (m : Nat) : Nat := (119 - m % 64) % 64
theorem padz_at {m j : Nat} (hj : j ≤ padz m) : (m + 1 + j) % 64 = 56 ↔ j = padz m := by
  unfold padz at *
  omega
def lenb (n i : Nat) : UInt8 := UInt8.ofNat (n * 8 / 256 ^ i)
/-- the first k of the eight bytes of the length, the highest first -/
def lens (n k : Nat) : List UInt8 := (List.range k).map fun i => lenb n (7 - i)
theorem lens_succ (n k : Nat) : lens n (k + 1) = lens n k ++ [lenb n (7 - k)] := by
  simp [lens, List.range_succ]
def padL (m n : Nat) : List UInt8 := 128 :: List.replicate (padz m) 0 ++ lens n 8
theorem padL_len (m n : Nat) : (m + (padL m n).length) % 64 = 0 := by
  simp only [padL, lens, List.length_append, List.length_cons, List.length_replicate, List.length_map, List.length_range, padz]
  omega
/-- a word's byte: the j-th from below -/
def wb (x : UInt32) (j : Nat) : UInt8 := (x >>> UInt32.ofNat (8 * j)).toUInt8
def outB (s : S8) (k : Nat) : List UInt8 := (List.range k).map fun i => wb (at32 s.list (i / 4)) (3 - i % 4)
theorem outB_len (s : S8) (k : Nat) : (outB s k).length = k := by simp [outB]
theorem outB_succ (s : S8) (k : Nat) : outB s (k + 1) = outB s k ++ [wb (at32 s.list (k / 4)) (3 - k % 4)] := by
  simp [outB, List.range_succ]
def rowB (xs : List UInt8) (n : Nat) : List Value := xs.map B8 ++ List.replicate (n - xs.length) (B8 0)
theorem rowB_len {xs : List UInt8} {n : Nat} (h : xs.length ≤ n) : (rowB xs n).length = n := by
  simp only [rowB, List.length_append, List.length_map, List.length_replicate]
  omega
theorem rowB_set {xs : List UInt8} {n : Nat} {x : UInt8} (h : xs.length < n) : (rowB xs n).set xs.length (B8 x) = rowB (xs ++ [x]) n := by
  have h1 : n - xs.length = (n - (xs.length + 1)) + 1 := by omega
  rw [rowB, rowB, List.set_append_right _ _ (by simp), h1, List.replicate_succ]
  simp
theorem rowB_nil : rowB [] 32 = List.replicate 32 (.int .u8 0) := rfl
theorem rowB_all {xs : List UInt8} {n : Nat} (h : xs.length = n) : rowB xs n = xs.map B8 := by
  rw [rowB, h]
  simp
/-- the digest of what a state and the bytes that wait stand for -/
def fin64 (s : S8) (wt : List UInt8) (n : Nat) : S8 := abs64 s (wt ++ padL wt.length n) ((wt ++ padL wt.length n).length / 64)
theorem conv_len (n i : Nat) (h : n ≤ 1000000) : IntKind.u8.wrap (((n * 8 / 256 ^ i : Nat)) : Int) = ((lenb n i).toNat : Int) := by
  have h1 : IntKind.u8.wrap (((n * 8 / 256 ^ i : Nat)) : Int) = (((n * 8 / 256 ^ i : Nat)) : Int) % 256 := by simp [IntKind.wrap, IntKind.bits, IntKind.signed]
  rw [h1, lenb, UInt8.toNat_ofNat']
  omega
theorem byt_snoc {w : World} {e n n' : Nat} {v : Value} {l l' : List UInt8} (c : UInt8) (h : Own w e 1 v (n + 1) ((l.map bcells).flatten ++ [B8 c])) (hl : l' = l ++ [c]) (hn : n + 1 = n') : Own w e 1 v n' ((l'.map bcells).flatten) := by
  subst hl; subst hn
  simpa using h
theorem s8_get' {s : S8} {tl : List Value} {i : Nat} (h : i < 8) : (s.cells ++ tl)[i]? = some (W4 (at32 s.list i)) := by
  rw [List.getElem?_append_left (show i < s.cells.length from h)]
  exact s8_get h
theorem out_step {w : World} {g T k : Nat} {F : S8} (hk : k < 32) (B : Blk w g T ((rowB (outB F k) 32).set k (B8 (wb (at32 F.list (k / 4)) (3 - k % 4))))) : Blk w g T (rowB (outB F (k + 1)) 32) := by
  have h := rowB_set (xs := outB F k) (n := 32) (x := wb (at32 F.list (k / 4)) (3 - k % 4)) (by rw [outB_len]; exact hk)
  rw [outB_len, ← outB_succ] at h
  rw [h] at B
  exact B
theorem shr_len (n i : Nat) (hi : i ≤ 7) : ((n * 8 : Nat) : Int).fdiv (2 ^ (min (((8 * i : Nat) : Int).toNat) IntKind.u64.bits)) = ((n * 8 / 256 ^ i : Nat) : Int) := by
  have h1 : min (((8 * i : Nat) : Int).toNat) IntKind.u64.bits = 8 * i := by
    show min (((8 * i : Nat) : Int).toNat) 64 = 8 * i
    simp only [Int.toNat_natCast]
    omega
  have h2 : (2 : Int) ^ (8 * i) = ((256 ^ i : Nat) : Int) := by
    rw [Int.natCast_pow, Int.pow_mul]
    rfl
  rw [h1, h2, Int.fdiv_eq_ediv_of_nonneg _ (Int.natCast_nonneg _)]
  rfl
end Go.Proofs.YtccjjkdogljmpaaDoor.V
