/-
  A part of the proof: lists of texts that are built; strings the other way round. No condition of its own.
-/
import Derived.Test.YtccjjkdogljmpaaU8
set_option linter.unusedVariables false
set_option linter.unusedSimpArgs false
namespace Go.Proofs.Ytccjjkdogljmpaa.V
open Go
theorem strs_blk {A : List Nat} {w : World} {g e : Nat} {xs : List Str} (B : Blk w g e (xs.map S)) (hl : xs.length ≤ 1000) (hA : g ∉ A) : Rep A w (strD xs) (.slice (some ⟨g, 0, none⟩) xs.length xs.length) := by
  have hf : ∀ ys : List Str, (ys.map fun s => [S s]).flatten = ys.map S := fun ys => by
    induction ys with
    | nil => rfl
    | cons a r ih => simp [ih]
  have O : Own w e 1 (.slice (some ⟨g, 0, none⟩) xs.length xs.length) xs.length ((xs.map fun s => [S s]).flatten) := by
    rw [hf]
    exact Own.all B (by simp) (by omega)
  exact Own.flat O (fun _ _ => rfl) (fun x _ c hc => by simp at hc; subst hc; rfl) rfl (by simpa [ob] using hA)
theorem gt_bl (a b : Str) : (!(bl a b || a == b)) = bl b a := by
  rcases bl_total a b with h | h | h
  · rw [h, bl_asymm h]; rfl
  · subst h; simp [bl_irrefl]
  · rw [h, bl_asymm h]
    have hne : (a == b) = false := by
      cases he : a == b with
      | false => rfl
      | true => have := eq_of_beq he; subst this; rw [bl_irrefl] at h; cases h
    simp [hne]
theorem flt_len {β : Type} {k : Str} : ∀ {r : List (Str × β)}, (r.filter fun p => bl p.1 k).length + (r.filter fun p => bl k p.1).length ≤ r.length
  | [] => by simp
  | p :: r => by
    have ih := flt_len (k := k) (r := r)
    by_cases h1 : bl p.1 k = true
    · have h2 := bl_asymm h1
      simp [h1, h2]
      omega
    · by_cases h2 : bl k p.1 = true
      · simp [h1, h2]
        omega
      · simp [h1, h2]
        omega
theorem flt_take {β : Type} {q : Str × β → Bool} {m : List (Str × β)} {k : Nat} : ((m.take k).filter q).length ≤ (m.filter q).length := ((List.take_sublist k m).filter q).length_le
end Go.Proofs.Ytccjjkdogljmpaa.V
