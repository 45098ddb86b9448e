/-
  A part of the proof: a slice that is read, as the source of an append, in every later world alike. No condition of its own.
-/
import Derived.Test.YtccjjkdogljmpaaU4
set_option linter.unusedVariables false
set_option linter.unusedSimpArgs false
namespace Go.Proofs.Ytccjjkdogljmpaa.V
open Go
section
variable {P : Program} {A : List Nat} {w : World}
theorem RepRows.cells_ {sz : Nat} {ad : Addr} : ∀ (i : Nat) (rws : List (List D)), RepRows A w sz ad i rws → ∃ vs, Reps A w rws.flatten vs ∧ vs.length = rws.length * sz ∧ ∀ j u, vs[j]? = some u → w.cell? (ad.add (i * sz + j)) = some u
  | _, [], _ => ⟨[], rfl, by simp, fun j u hu => by simp at hu⟩
  | i, r :: rs, hh => by
    simp only [RepRows] at hh
    obtain ⟨hl, hrow, hrest⟩ := hh
    obtain ⟨us, hu1, hu2⟩ := hrow.cells
    obtain ⟨vs, hv1, hv2, hv3⟩ := RepRows.cells_ (i + 1) rs hrest
    refine ⟨us ++ vs, by simp only [List.flatten_cons]; exact hu1.append hv1, by simp [hu1.length, hl, hv2, Nat.add_mul]; omega, fun j u hj => ?_⟩
    rw [List.getElem?_append] at hj
    have hul : us.length = sz := by rw [hu1.length, hl]
    split at hj
    · have := hu2 j u hj
      rwa [Nat.zero_add, Addr.add_add] at this
    · rename_i hge
      have := hv3 _ u hj
      rwa [show (i + 1) * sz + (j - us.length) = i * sz + j by rw [Nat.add_mul, hul]; rw [hul] at hge; omega] at this
theorem Src.rep0 {tx e' sz : Nat} {rows : List (List D)} {v : Value} (hk : P.underlying tx = some (.slice e')) (h : Rep A w (.sl sz rows) v) : ∃ vs, Reps A w rows.flatten vs ∧ vs.length = rows.length * sz ∧ ∀ w', Mod [] w w' → Src P sz tx v rows.length vs w' := by
  cases hrows : rows with
  | nil =>
    subst hrows
    simp only [Rep] at h
    obtain ⟨ad, c, rfl, h2, h3, h4⟩ := h
    refine ⟨[], rfl, by simp, fun w' _ => ?_⟩
    cases ad with
    | none => exact Src.ofNil w' hk c
    | some ad => exact Src.ofSlice w' hk ad 0 c [] (by simp) (fun j u hu => by simp at hu) (fun u hu => by cases hu)
  | cons r0 rs =>
    rw [← hrows]
    simp only [Rep] at h
    obtain ⟨ad, c, rfl, h2, h3, h4⟩ := h
    obtain ⟨ad, rfl, hA, hb, hr⟩ := h4 (by simp [hrows])
    obtain ⟨vs, hv1, hv2, hv3⟩ := RepRows.cells_ 0 rows hr
    have hC : Cs w ad vs := fun j u hu => by have := hv3 j u hu; rwa [Nat.zero_mul, Nat.zero_add] at this
    exact ⟨vs, hv1, hv2, fun w' k => Src.ofSlice w' hk ad _ c vs hv2 (hC.mod0 k) hv1.one⟩
end
end Go.Proofs.Ytccjjkdogljmpaa.V
