/-
  A part of the proof: walks of functions, and the plain laws of what they compute. No condition of its own.
-/
import Derived.Test.YtccjjkdogljmpaaT0
import Derived.Test.YtccjjkdogljmpaaVD
set_option linter.unusedVariables false
set_option linter.unusedSimpArgs false
namespace Go.Proofs.Ytccjjkdogljmpaa.V
open Go
theorem Own.snoc {α : Type} {w : World} {e sz : Nat} {v : Value} {cells : α → List Value} {xs ys : List α} {x : α} {vs : List Value} (h : Own w e sz v (xs.length + 1) ((xs.map cells).flatten ++ vs)) (hv : vs = cells x) (hy : ys = xs ++ [x]) : Own w e sz v ys.length ((ys.map cells).flatten) := by
  subst hy; subst hv
  simpa using h
theorem Own.same {w : World} {e sz m n : Nat} {v : Value} {us vs : List Value} (h : Own w e sz v n vs) (hm : n = m) (hv : vs = us) : Own w e sz v m us := by
  subst hm; subst hv; exact h
section
variable {α : Type}
theorem filter_take {q : α → Bool} : ∀ {xs : List α} {i : Nat}, (∀ j y, j < i → xs[j]? = some y → q y = true) → (∀ j y, i ≤ j → xs[j]? = some y → q y = false) → xs.filter q = xs.take i
  | [], i, _, _ => by simp
  | x :: xs, 0, h, h' => by
    have := filter_take (xs := xs) (i := 0) (fun j y hj => by omega) (fun j y _ hy => h' (j + 1) y (by omega) (by simpa using hy))
    have hx := h' 0 x (by omega) rfl
    rw [List.filter_cons, hx, this]
    simp
  | x :: xs, i + 1, h, h' => by
    have := filter_take (xs := xs) (i := i) (fun j y hj hy => h (j + 1) y (by omega) (by simpa using hy)) (fun j y hj hy => h' (j + 1) y (by omega) (by simpa using hy))
    have hx := h 0 x (by omega) rfl
    rw [List.filter_cons, hx, this]
    simp
theorem filter_drop {q : α → Bool} : ∀ {xs : List α} {i : Nat}, (∀ j y, j < i → xs[j]? = some y → q y = false) → (∀ j y, i ≤ j → xs[j]? = some y → q y = true) → xs.filter q = xs.drop i
  | [], i, _, _ => by simp
  | x :: xs, 0, h, h' => by
    have := filter_drop (xs := xs) (i := 0) (fun j y hj => by omega) (fun j y _ hy => h' (j + 1) y (by omega) (by simpa using hy))
    have hx := h' 0 x (by omega) rfl
    rw [List.filter_cons, hx, this]
    simp
  | x :: xs, i + 1, h, h' => by
    have := filter_drop (xs := xs) (i := i) (fun j y hj hy => h (j + 1) y (by omega) (by simpa using hy)) (fun j y hj hy => h' (j + 1) y (by omega) (by simpa using hy))
    have hx := h 0 x (by omega) rfl
    rw [List.filter_cons, hx, this]
    simp
end
/-- where a pair is, or would be -/
def posS (xs : List Slot) (p : Pair) : Nat := (xs.filter fun x => plt x.pair p).length
theorem posS_le (xs : List Slot) (p : Pair) : posS xs p ≤ xs.length := List.length_filter_le _ _
theorem posS_eq {xs : List Slot} {p : Pair} {i : Nat} (hi : i ≤ xs.length) (h : ∀ (j : Nat) (y : Slot), j < i → xs[j]? = some y → plt y.pair p = true) (h' : ∀ (j : Nat) (y : Slot), i ≤ j → xs[j]? = some y → plt y.pair p = false) : posS xs p = i := by
  rw [posS, filter_take (i := i) h h', List.length_take]
  omega
theorem asc_pos : ∀ {xs : List Slot} {p : Pair}, asc xs = true → (∀ j y, j < posS xs p → xs[j]? = some y → plt y.pair p = true) ∧ (∀ j y, posS xs p ≤ j → xs[j]? = some y → plt y.pair p = false)
  | [], p, _ => by simp
  | x :: xs, p, h => by
    obtain ⟨h1, h2⟩ := asc_pos (p := p) (asc_tail h)
    by_cases hx : plt x.pair p = true
    · have hp : posS (x :: xs) p = posS xs p + 1 := by simp [posS, hx]
      rw [hp]
      refine ⟨fun j y hj hy => ?_, fun j y hj hy => ?_⟩
      · cases j with
        | zero => simp at hy; subst hy; exact hx
        | succ j => exact h1 j y (by omega) (by simpa using hy)
      · cases j with
        | zero => omega
        | succ j => exact h2 j y (by omega) (by simpa using hy)
    · have hall : ∀ (j : Nat) (y : Slot), (x :: xs)[j]? = some y → plt y.pair p = false := fun j y hy => by
        cases hpy : plt y.pair p with
        | false => rfl
        | true =>
          cases j with
          | zero => simp at hy; subst hy; exact absurd hpy hx
          | succ j => exact absurd (plt_trans (asc_lt h (i := 0) rfl hy (by omega)) hpy) hx
      have hp : posS (x :: xs) p = 0 := posS_eq (by omega) (fun j y hj => by omega) (fun j y _ hy => hall j y hy)
      rw [hp]
      exact ⟨fun j y hj => by omega, fun j y _ hy => hall j y hy⟩
/-- it is there -/
theorem asc_there {xs : List Slot} {p : Pair} {y : Slot} (h : asc xs = true) (hy : xs[posS xs p]? = some y) (hp : y.pair = p) : getS xs p = some y.id ∧ ∀ s : Slot, s.pair = p → putS xs s = xs.set (posS xs p) s := by
  obtain ⟨h1, h2⟩ := asc_pos (p := p) h
  have hlt := (List.getElem?_eq_some_iff.1 hy).1
  refine ⟨getS_hit (fun j z hj hz e => ?_) hy hp, fun s hs => ?_⟩
  · have := h1 j z hj hz
    rw [e, plt_irrefl] at this
    cases this
  · rw [putS, hs, filter_take h1 h2, filter_drop (i := posS xs p + 1), List.set_eq_take_append_cons_drop, if_pos hlt]
    · simp
    · intro j z hj hz
      rcases Nat.lt_succ_iff_lt_or_eq.1 hj with hj | hj
      · exact plt_asymm (h1 j z hj hz)
      · subst hj
        rw [hy] at hz
        injection hz with hz
        subst hz
        rw [hp, plt_irrefl]
    · intro j z hj hz
      rw [← hp]
      exact asc_lt h hy hz (by omega)
/-- it isn't -/
theorem asc_gone {xs : List Slot} {p : Pair} (h : asc xs = true) (hn : ∀ y : Slot, xs[posS xs p]? = some y → y.pair ≠ p) : getS xs p = none ∧ ∀ s : Slot, s.pair = p → putS xs s = xs.take (posS xs p) ++ [s] ++ xs.drop (posS xs p) := by
  obtain ⟨h1, h2⟩ := asc_pos (p := p) h
  have h3 : ∀ j z, posS xs p ≤ j → xs[j]? = some z → plt p z.pair = true := fun j z hj hz => by
    have hlt := (List.getElem?_eq_some_iff.1 hz).1
    obtain ⟨y, hy⟩ : ∃ y, xs[posS xs p]? = some y := ⟨_, List.getElem?_eq_getElem (by omega)⟩
    have hpy : plt p y.pair = true := by
      rcases plt_total p y.pair with h' | h' | h'
      · exact h'
      · exact absurd h'.symm (hn y hy)
      · rw [h2 _ y (Nat.le_refl _) hy] at h'; cases h'
    rcases Nat.lt_or_ge (posS xs p) j with hj' | hj'
    · exact plt_trans hpy (asc_lt h hy hz hj')
    · have : j = posS xs p := by omega
      subst this
      rw [hy] at hz
      injection hz with hz
      subst hz
      exact hpy
  refine ⟨getS_miss fun j z hz e => ?_, fun s hs => ?_⟩
  · rcases Nat.lt_or_ge j (posS xs p) with hj | hj
    · have := h1 j z hj hz
      rw [e, plt_irrefl] at this
      cases this
    · have := h3 j z hj hz
      rw [e, plt_irrefl] at this
      cases this
  · rw [putS, hs, filter_take h1 h2, filter_drop (fun j z hj hz => plt_asymm (h1 j z hj hz)) h3]
theorem isS {xs : List Slot} {p : Pair} {i : Nat} (h : asc xs = true) (hi : posS xs p = i) {y : Slot} (hy : xs[i]? = some y) : (getS xs p).isSome = decide (pcmp y.pair p = 0) := by
  subst hi
  by_cases hp : y.pair = p
  · rw [(asc_there h hy hp).1, decide_eq_true (pcmp_eq.2 hp)]
    rfl
  · rw [(asc_gone h fun z hz => by rw [hy] at hz; injection hz with hz; subst hz; exact hp).1, decide_eq_false (fun e => hp (pcmp_eq.1 e))]
    rfl
theorem isS_end {xs : List Slot} {p : Pair} (h : asc xs = true) (hi : xs.length ≤ posS xs p) : (getS xs p).isSome = false := by
  rw [(asc_gone h fun z hz => by rw [List.getElem?_eq_none hi] at hz; cases hz).1]
  rfl
theorem isS_some {xs : List Slot} {p : Pair} (h : asc xs = true) (hs : (getS xs p).isSome = true) : ∃ y : Slot, xs[posS xs p]? = some y ∧ y.pair = p ∧ getS xs p = some y.id := by
  rcases Nat.lt_or_ge (posS xs p) xs.length with hlt | hge
  · obtain ⟨y, hy⟩ : ∃ y, xs[posS xs p]? = some y := ⟨_, List.getElem?_eq_getElem hlt⟩
    rw [isS h rfl hy] at hs
    have hp := pcmp_eq.1 (of_decide_eq_true hs)
    exact ⟨y, hy, hp, (asc_there h hy hp).1⟩
  · rw [isS_end h hge] at hs; cases hs
theorem isS_none {xs : List Slot} {p : Pair} (h : asc xs = true) (hs : (getS xs p).isSome = false) : ∀ y : Slot, xs[posS xs p]? = some y → y.pair ≠ p := fun y hy hp => by
  rw [(asc_there h hy hp).1] at hs; cases hs
/-- what a slot weighs -/
def wt (x : Slot) : Nat := 1 + x.ty.length + x.key.length + x.id.length
def sumT (xs : List Slot) (k : Nat) : Nat := ((xs.take k).map wt).sum
theorem sumT_succ {xs : List Slot} {k : Nat} {x : Slot} (h : xs[k]? = some x) : sumT xs (k + 1) = sumT xs k + (1 + x.ty.length + x.key.length + x.id.length) := by
  have hlt := (List.getElem?_eq_some_iff.1 h).1
  rw [sumT, sumT, List.take_succ_eq_append_getElem hlt, (List.getElem?_eq_some_iff.1 h).2]
  simp [wt]
theorem sum_ge {xs : List Slot} : xs.length ≤ (xs.map wt).sum := by
  induction xs with
  | nil => simp
  | cons x xs ih => simp only [List.map_cons, List.sum_cons, List.length_cons, wt]; omega
theorem sumT_mono {xs : List Slot} {k : Nat} : sumT xs k ≤ (xs.map wt).sum := by
  conv => rhs; rw [← List.take_append_drop k xs, List.map_append, List.sum_append]
  unfold sumT
  omega
theorem sumT_all {xs : List Slot} {k : Nat} (h : xs.length ≤ k) : sumT xs k = (xs.map wt).sum := by
  rw [sumT, List.take_of_length_le h]
/-- a slot's texts take what the machine can bear -/
def Slot.small (x : Slot) : Prop := x.ty.length ≤ 140737488355328 ∧ x.key.length ≤ 140737488355328 ∧ x.id.length ≤ 140737488355328
theorem Own.fresh_ne {w0 w : World} {v : Value} {g : Nat} (h : ∀ x ∈ ob v, w0.heap.size ≤ x) (hg : g < w0.heap.size) : ∀ x ∈ ob v, x ≠ g := fun x hx e => by have := h x hx; omega
theorem flat_set {xs : List Slot} {i : Nat} {s : Slot} (hi : i < xs.length) : ((xs.map Slot.cells).flatten).take (i * 3) ++ s.cells ++ ((xs.map Slot.cells).flatten).drop ((i + 1) * 3) = ((xs.set i s).map Slot.cells).flatten := by
  have hlen3 : ∀ x : Slot, (Slot.cells x).length = 3 := fun _ => rfl
  rw [flat_take_ hlen3, flat_drop_ hlen3, List.set_eq_take_append_cons_drop, if_pos hi]
  simp
theorem slots_one {xs : List Slot} : ∀ x ∈ xs, ∀ c ∈ Slot.cells x, c.oneCell' = true := by
  intro x _ c hc
  simp at hc
  rcases hc with rfl | rfl | rfl <;> rfl
theorem Own.slots {w : World} {e : Nat} {v : Value} {xs : List Slot} (A : List Nat) (h : Own w e 3 v xs.length ((xs.map Slot.cells).flatten)) (hA : ∀ x ∈ ob v, x ∉ A) : Rep A w (slotsD xs) v := Own.flat h (fun _ _ => rfl) slots_one rfl hA
theorem Rep.nilf (A : List Nat) (w : World) {α : Type} {sz : Nat} {cells : α → List Value} : Rep A w (flat sz cells []) (.slice none 0 0) := by
  simp only [flat, Rep, List.map_nil]
  exact ⟨none, 0, rfl, by simp, by simp, by simp⟩
end Go.Proofs.Ytccjjkdogljmpaa.V
