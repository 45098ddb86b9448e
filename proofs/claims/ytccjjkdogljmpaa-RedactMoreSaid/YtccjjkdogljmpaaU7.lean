/-
  A part of the proof: members put one by one. No condition of its own.
-/
import Derived.Test.YtccjjkdogljmpaaU6
set_option linter.unusedVariables false
set_option linter.unusedSimpArgs false
namespace Go.Proofs.Ytccjjkdogljmpaa.V
open Go
theorem JV.tbl_obj (m : List (Str × JV)) : (JV.obj m).tbl = m := by simp [JV.tbl, JV.obj, JV.kind, JV.map]
theorem putM_len {β : Type} {m : List (Str × β)} {k : Str} {x : β} (h : ascM m) : (putM m k x).length ≤ m.length + 1 := by
  have key : ∀ {r : List (Str × β)}, (r.filter fun p => bl p.1 k).length + (r.filter fun p => bl k p.1).length ≤ r.length := by
    intro r
    induction r with
    | nil => simp
    | cons p r ih =>
      by_cases h1 : bl p.1 k = true
      · have h2 := bl_asymm h1
        simp [h1, h2]
        omega
      · by_cases h2 : bl k p.1 = true
        · simp [h1, h2]
          omega
        · simp [h1, h2]
          omega
  have := key (r := m)
  simp only [putM, List.length_append, List.length_singleton]
  omega
def putAll (m : List (Str × JV)) (k : Nat) : List (Str × JV) := (m.take k).foldl (fun a p => putM a p.1 p.2) []
theorem putAll_zero (m : List (Str × JV)) : putAll m 0 = [] := by simp [putAll]
theorem putAll_succ {m : List (Str × JV)} {k : Nat} {p : Str × JV} (h : m[k]? = some p) : putAll m (k + 1) = putM (putAll m k) p.1 p.2 := by
  have hlt := (List.getElem?_eq_some_iff.1 h).1
  rw [putAll, List.take_succ_eq_append_getElem hlt, (List.getElem?_eq_some_iff.1 h).2, List.foldl_append]
  rfl
theorem putAll_asc (m : List (Str × JV)) (k : Nat) : ascM (putAll m k) := by
  unfold putAll
  generalize m.take k = l
  suffices ∀ (l a : List (Str × JV)), ascM a → ascM (l.foldl (fun a p => putM a p.1 p.2) a) from this l [] List.Pairwise.nil
  intro l
  induction l with
  | nil => intro a h; exact h
  | cons p r ih => intro a h; exact ih _ (ascM_put h)
theorem putAll_len (m : List (Str × JV)) (k : Nat) : (putAll m k).length ≤ k := by
  induction k with
  | zero => simp [putAll]
  | succ k ih =>
    rcases Nat.lt_or_ge k m.length with h | h
    · rw [putAll_succ (List.getElem?_eq_getElem h)]
      have := putM_len (k := (m[k]).1) (x := (m[k]).2) (putAll_asc m k)
      omega
    · have : putAll m (k + 1) = putAll m k := by rw [putAll, putAll, List.take_of_length_le h, List.take_of_length_le (by omega)]
      rw [this]
      omega
theorem putAll_all {m : List (Str × JV)} {k : Nat} (h : m.length ≤ k) : putAll m k = m.foldl (fun a p => putM a p.1 p.2) [] := by rw [putAll, List.take_of_length_le h]
end Go.Proofs.Ytccjjkdogljmpaa.V
