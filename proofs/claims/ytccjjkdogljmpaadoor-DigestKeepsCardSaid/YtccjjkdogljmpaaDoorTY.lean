/-
  A part of the proof: blocks taken in, one behind the other. No condition of its own.
-/
import Derived.Test.YtccjjkdogljmpaaDoorTX
set_option linter.unusedVariables false
set_option linter.unusedSimpArgs false
namespace Go.Proofs.YtccjjkdogljmpaaDoor.V
open Go
/-- the state behind k blocks -/
def abs64 (s : S8) (l : List UInt8) : Nat → S8
  | 0 => s
  | k + 1 => comp (abs64 s l k) (l.drop (64 * k))
theorem ob_adS {ad : Option Addr} {c lo sz n c' n' c'' : Nat} : ∀ x ∈ ob (.slice (adS ad c lo sz) n' c'), x ∈ ob (.slice ad n c'') := by
  intro x hx
  cases ad with
  | none =>
    unfold adS at hx
    split at hx <;> simp [ob] at hx
  | some a =>
    unfold adS at hx
    split at hx
    · simpa [ob] using hx
    · simp [ob, add_block] at hx
      simp [ob, hx]
theorem bytes_one {b : List UInt8} : ∀ x ∈ b, ∀ c ∈ bcells x, c.oneCell' = true := by
  intro x _ c hc
  simp at hc
  subst hc
  rfl
theorem Own.byts {w : World} {e n : Nat} {v : Value} {b : List UInt8} (A : List Nat) (h : Own w e 1 v n ((b.map bcells).flatten)) (hn : b.length = n) (hA : ∀ x ∈ ob v, x ∉ A) : Rep A w (byD b) v := Own.flat h (fun _ _ => rfl) bytes_one hn hA
theorem Own.as {w : World} {e sz m n : Nat} {v : Value} {us vs : List Value} (h : Own w e sz v n vs) (hm : n = m) (hv : vs = us) : Own w e sz v m us := by
  subst hm; subst hv; exact h
theorem flat_blen (m : List UInt8) : ((m.map bcells).flatten).length = m.length := by
  induction m with
  | nil => rfl
  | cons x m ih => simp [ih]
theorem Own.drop64 {w : World} {e c : Nat} {ad : Option Addr} {l : List UInt8} {k : Nat} (h : Own w e 1 (.slice ad (l.length - 64 * k) c) (l.length - 64 * k) (((l.drop (64 * k)).map bcells).flatten)) (hk : 64 ≤ l.length - 64 * k) :
    Own w e 1 (.slice (adS ad c 64 1) (l.length - 64 * k - 64) (c - 64)) (l.length - 64 * k - 64) (((l.drop (64 * (k + 1))).map bcells).flatten) := by
  have h1 := h.cut (lo := 64) (hi := l.length - 64 * k) hk (Nat.le_refl _)
  refine h1.as rfl ?_
  have h2 := flat_drop_ (cells := bcells) (sz := 1) (xs := l.drop (64 * k)) (fun _ => rfl) 64
  rw [h2, List.drop_drop, List.take_of_length_le]
  · rfl
  · rw [flat_blen, List.length_drop]
    omega
end Go.Proofs.YtccjjkdogljmpaaDoor.V
