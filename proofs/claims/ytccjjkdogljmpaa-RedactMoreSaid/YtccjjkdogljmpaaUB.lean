/-
  A part of the proof: the document's Content, told member by member. No condition of its own.
-/
import Derived.Test.YtccjjkdogljmpaaUA
set_option linter.unusedVariables false
set_option linter.unusedSimpArgs false
namespace Go.Proofs.Ytccjjkdogljmpaa.V
open Go
theorem Own.as_ {w : World} {e sz m n : Nat} {v : Value} {vs : List Value} (h : Own w e sz v n vs) (hm : n = m) : Own w e sz v m vs := hm ▸ h
namespace JV
variable {kind : Str} {v : JV} {p : Str × JV}
def qf (kind : Str) (v : JV) (k : Nat) : List (Str × JV) := (v.map.take k).filterMap (stay kind)
theorem qf_len {k : Nat} : (qf kind v k).length ≤ k := by
  unfold qf
  have h1 := List.length_filterMap_le (stay kind) (v.map.take k)
  have h2 := List.length_take_le k v.map
  omega
theorem qf_some {k : Nat} {q : Str × JV} (h : v.map[k]? = some p) (hs : stay kind p = some q) : qf kind v (k + 1) = qf kind v k ++ [q] := by
  have hlt := (List.getElem?_eq_some_iff.1 h).1
  rw [qf, List.take_succ_eq_append_getElem hlt, (List.getElem?_eq_some_iff.1 h).2, List.filterMap_append, List.filterMap_cons_some hs]
  rfl
theorem qf_none {k : Nat} (h : v.map[k]? = some p) (hs : stay kind p = none) : qf kind v (k + 1) = qf kind v k := by
  have hlt := (List.getElem?_eq_some_iff.1 h).1
  rw [qf, List.take_succ_eq_append_getElem hlt, (List.getElem?_eq_some_iff.1 h).2, List.filterMap_append, List.filterMap_cons_none hs]
  simp [qf]
theorem qf_all {k : Nat} (h : v.map.length ≤ k) : qf kind v k = v.map.filterMap (stay kind) := by rw [qf, List.take_of_length_le h]
theorem stay_eq0 (h : ¬ (p.1 = kThird ∧ kind = k_member ∧ p.2.kind = 5)) : stay kind p = stay0 kind p := by rw [stay, if_neg h]
theorem stay_eq0' (h : (look p.2.map kSigned).isSome = false) : stay kind p = stay0 kind p := by
  cases hl : look p.2.map kSigned with
  | some y => rw [hl] at h; cases h
  | none =>
    unfold stay
    split
    · simp [hl]
    · rfl
theorem stay_yes (h1 : p.1 = kThird) (h2 : kind = k_member) (h3 : p.2.kind = 5) (h : (look p.2.map kSigned).isSome = true) : stay kind p = some (p.1, obj [(kSigned, (look p.2.map kSigned).getD nul)]) := by
  unfold stay
  rw [if_pos ⟨h1, h2, h3⟩]
  cases hl : look p.2.map kSigned with
  | none => rw [hl] at h; cases h
  | some y => rfl
theorem stay0_yes (h : p.1 ∈ keptK kind) : stay0 kind p = some p := if_pos h
theorem stay0_no (h : ¬ p.1 ∈ keptK kind) : stay0 kind p = none := if_neg h
theorem mem_take_succ {K : List Str} {j : Nat} {q s : Str} (h : K[j]? = some q) : s ∈ K.take (j + 1) ↔ s ∈ K.take j ∨ q = s := by
  have hlt := (List.getElem?_eq_some_iff.1 h).1
  rw [List.take_succ_eq_append_getElem hlt, (List.getElem?_eq_some_iff.1 h).2, List.mem_append, List.mem_singleton]
  exact or_congr Iff.rfl eq_comm
end JV
end Go.Proofs.Ytccjjkdogljmpaa.V
