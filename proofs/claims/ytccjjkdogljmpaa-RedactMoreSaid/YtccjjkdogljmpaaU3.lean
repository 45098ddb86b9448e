/-
  A part of the proof: how much a JSON value weighs, whether its keys rise, whether two are the same, in plain Lean. No condition of its own.
-/
import Derived.Test.YtccjjkdogljmpaaU2
set_option linter.unusedVariables false
set_option linter.unusedSimpArgs false
namespace Go.Proofs.Ytccjjkdogljmpaa.V
open Go
abbrev w64 (z : Int) : Int := IntKind.i64.wrap z
namespace JV
mutual
def weigh : JV → Int → Int → Int
  | .mk _ _ _ s l m, left, deep => if deep = 0 then -1 else weighm m (weighl l (w64 (w64 (left - 1) - s.length)) (w64 (deep - 1))) (w64 (deep - 1))
def weighl : List JV → Int → Int → Int
  | [], left, _ => left
  | v :: r, left, d => if left < 0 then left else weighl r (v.weigh left d) d
def weighm : List (List UInt8 × JV) → Int → Int → Int
  | [], left, _ => left
  | p :: r, left, d => if left < 0 then left else weighm r (p.2.weigh (w64 (left - p.1.length)) d) d
end
theorem weigh_eq (v : JV) (left deep : Int) : v.weigh left deep = if deep = 0 then -1 else weighm v.map (weighl v.list (w64 (w64 (left - 1) - v.str.length)) (w64 (deep - 1))) (w64 (deep - 1)) := by
  cases v
  simp only [weigh, map, list, str]
theorem weighl_neg {l : List JV} {z d : Int} (h : z < 0) : weighl l z d = z := by
  cases l <;> simp [weighl, h]
theorem weighm_neg {l : List (List UInt8 × JV)} {z d : Int} (h : z < 0) : weighm l z d = z := by
  cases l <;> simp [weighm, h]
theorem weighl_at {l : List JV} {k : Nat} {x : JV} {z d : Int} (hx : l[k]? = some x) (h : ¬ z < 0) : weighl (l.drop k) z d = weighl (l.drop (k + 1)) (x.weigh z d) d := by
  obtain ⟨hk, rfl⟩ := List.getElem?_eq_some_iff.1 hx
  rw [List.drop_eq_getElem_cons hk, weighl, if_neg h]
theorem weighm_at {l : List (List UInt8 × JV)} {k : Nat} {x : List UInt8 × JV} {z d : Int} (hx : l[k]? = some x) (h : ¬ z < 0) : weighm (l.drop k) z d = weighm (l.drop (k + 1)) (x.2.weigh (w64 (z - x.1.length)) d) d := by
  obtain ⟨hk, rfl⟩ := List.getElem?_eq_some_iff.1 hx
  rw [List.drop_eq_getElem_cons hk, weighm, if_neg h]
theorem weighl_end {l : List JV} {k : Nat} {z d : Int} (h : l.length ≤ k) : weighl (l.drop k) z d = z := by
  rw [List.drop_eq_nil_of_le h, weighl]
theorem weighm_end {l : List (List UInt8 × JV)} {k : Nat} {z d : Int} (h : l.length ≤ k) : weighm (l.drop k) z d = z := by
  rw [List.drop_eq_nil_of_le h, weighm]
open Classical in
noncomputable def ascB (m : List (List UInt8 × JV)) : Bool := decide (ascM m)
mutual
/-- do the keys rise, in all maps? -/
def Rise : JV → Prop
  | .mk _ _ _ _ l m => ascM m ∧ Risel l ∧ Risem m
def Risel : List JV → Prop
  | [] => True
  | v :: r => v.Rise ∧ Risel r
def Risem : List (List UInt8 × JV) → Prop
  | [] => True
  | p :: r => p.2.Rise ∧ Risem r
end
theorem Risel_mem : ∀ {l : List JV}, Risel l ↔ ∀ v ∈ l, v.Rise
  | [] => by simp [Risel]
  | v :: r => by simp [Risel, Risel_mem (l := r)]
theorem Risem_mem : ∀ {l : List (List UInt8 × JV)}, Risem l ↔ ∀ p ∈ l, p.2.Rise
  | [] => by simp [Risem]
  | v :: r => by simp [Risem, Risem_mem (l := r)]
theorem Rise_eq (v : JV) : v.Rise ↔ ascM v.map ∧ (∀ x ∈ v.list, x.Rise) ∧ ∀ p ∈ v.map, p.2.Rise := by
  cases v
  simp only [Rise, map, list, Risel_mem, Risem_mem]
open Classical in
noncomputable def rises (v : JV) : Bool := decide v.Rise
theorem rises_iff {v : JV} : v.rises = true ↔ v.Rise := by simp [rises]
theorem rises_false {v : JV} (h : ¬ v.Rise) : v.rises = false := by simp [rises, h]
theorem rises_true {v : JV} (h : v.Rise) : v.rises = true := by simp [rises, h]
theorem not_Rise_val {v : JV} {k : Nat} {p : List UInt8 × JV} (hp : v.map[k]? = some p) (h : p.2.rises = false) : v.rises = false := rises_false fun hr => by
  have := rises_true (((Rise_eq v).1 hr).2.2 p (List.mem_of_getElem? hp))
  rw [this] at h; cases h
theorem not_Rise_list {v x : JV} {k : Nat} (hp : v.list[k]? = some x) (h : x.rises = false) : v.rises = false := rises_false fun hr => by
  have := rises_true (((Rise_eq v).1 hr).2.1 x (List.mem_of_getElem? hp))
  rw [this] at h; cases h
theorem not_Rise_asc {v : JV} {i k : Nat} {p q : List UInt8 × JV} (hq : v.map[i]? = some q) (hp : v.map[k]? = some p) (hik : i < k) (h : bl q.1 p.1 = false) : v.rises = false := rises_false fun hr => by
  have := ascM_lt ((Rise_eq v).1 hr).1 hq hp hik
  rw [this] at h; cases h
theorem Rise_of {v : JV} (h1 : ∀ (i : Nat) (a b : List UInt8 × JV), v.map[i]? = some a → v.map[i + 1]? = some b → bl a.1 b.1 = true) (h2 : ∀ (i : Nat) (p : List UInt8 × JV), v.map[i]? = some p → p.2.rises = true) (h3 : ∀ (i : Nat) (x : JV), v.list[i]? = some x → x.rises = true) : v.rises = true := by
  refine rises_true ((Rise_eq v).2 ⟨ascM_of h1, fun x hx => ?_, fun p hp => ?_⟩)
  · obtain ⟨i, hi⟩ := List.getElem?_of_mem hx
    exact rises_iff.1 (h3 i x hi)
  · obtain ⟨i, hi⟩ := List.getElem?_of_mem hp
    exact rises_iff.1 (h2 i p hi)
open Classical in
/-- are two values the same? -/
noncomputable def eqJ (a b : JV) : Bool := decide (a = b)
theorem eqJ_iff {a b : JV} : eqJ a b = true ↔ a = b := by simp [eqJ]
theorem eqJ_self (a : JV) : eqJ a a = true := by simp [eqJ]
theorem eqJ_ne {a b : JV} (h : a ≠ b) : eqJ a b = false := by simp [eqJ, h]
theorem ext_ {a b : JV} (h1 : a.kind = b.kind) (h2 : a.is = b.is) (h3 : a.num = b.num) (h4 : a.str = b.str) (h5 : a.list = b.list) (h6 : a.map = b.map) : a = b := by
  rw [eta a, eta b, h1, h2, h3, h4, h5, h6]
theorem list_ext_ {α : Type} {a b : List α} (hl : a.length = b.length) (h : ∀ (i : Nat) (x y : α), i < a.length → a[i]? = some x → b[i]? = some y → x = y) : a = b := by
  apply List.ext_getElem hl
  intro i h1 h2
  exact h i _ _ h1 (List.getElem?_eq_getElem h1) (List.getElem?_eq_getElem h2)
end JV
end Go.Proofs.Ytccjjkdogljmpaa.V
