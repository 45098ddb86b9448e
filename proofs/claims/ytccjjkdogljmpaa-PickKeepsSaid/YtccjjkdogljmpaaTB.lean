/-
  A part of the proof: states put together slot by slot. No condition of its own.
-/
import Derived.Test.YtccjjkdogljmpaaTA
set_option linter.unusedVariables false
set_option linter.unusedSimpArgs false
namespace Go.Proofs.Ytccjjkdogljmpaa.V
open Go
theorem asc_iff : ∀ {xs : List Slot}, asc xs = true ↔ xs.Pairwise (fun a b => plt a.pair b.pair = true)
  | [] => by simp [asc]
  | x :: xs => by
    rw [List.pairwise_cons]
    refine ⟨fun h => ⟨fun b hb => asc_head h hb, asc_iff.1 (asc_tail h)⟩, fun h => ?_⟩
    have ih := (asc_iff (xs := xs)).2 h.2
    cases xs with
    | nil => rfl
    | cons b r =>
      simp only [asc, Bool.and_eq_true]
      exact ⟨h.1 b (List.mem_cons_self ..), ih⟩
theorem putS_asc {xs : List Slot} {s : Slot} (h : asc xs = true) : asc (putS xs s) = true := by
  rw [asc_iff] at h ⊢
  rw [putS, List.pairwise_append, List.pairwise_append]
  refine ⟨⟨h.filter _, List.pairwise_singleton .., fun a ha b hb => ?_⟩, h.filter _, fun a ha b hb => ?_⟩
  · simp at ha hb
    subst hb
    exact ha.2
  · simp only [List.mem_append, List.mem_singleton, List.mem_filter] at ha hb
    rcases ha with ha | rfl
    · exact plt_trans ha.2 hb.2
    · exact hb.2
theorem getS_put {xs : List Slot} {s : Slot} {p : Pair} : getS (putS xs s) p = if s.pair = p then some s.id else getS xs p := by
  unfold getS putS
  rw [List.find?_append, List.find?_append, List.find?_filter, List.find?_filter]
  simp only [Bool.decide_and, Bool.decide_eq_true]
  by_cases hs : s.pair = p
  · have h1 : xs.find? (fun x => plt x.pair s.pair && decide (x.pair = p)) = none := by
      rw [List.find?_eq_none]
      intro x _ h
      simp at h
      rw [h.2, hs, plt_irrefl] at h
      exact absurd h.1 (by simp)
    rw [if_pos hs, h1]
    simp [hs]
  · rw [if_neg hs]
    have h0 : [s].find? (fun x => decide (x.pair = p)) = none := by simp [hs]
    rw [h0]
    rcases plt_total p s.pair with h | h | h
    · have h1 : (fun x : Slot => plt x.pair s.pair && decide (x.pair = p)) = fun x => decide (x.pair = p) := by
        funext x
        by_cases hx : x.pair = p <;> simp [hx, h]
      have h2 : xs.find? (fun x => plt s.pair x.pair && decide (x.pair = p)) = none := by
        rw [List.find?_eq_none]
        intro x _ h'
        simp at h'
        rw [h'.2, plt_asymm h] at h'
        exact absurd h'.1 (by simp)
      rw [h1, h2]
      simp
    · exact absurd h.symm hs
    · have h1 : (fun x : Slot => plt s.pair x.pair && decide (x.pair = p)) = fun x => decide (x.pair = p) := by
        funext x
        by_cases hx : x.pair = p <;> simp [hx, h]
      have h2 : xs.find? (fun x => plt x.pair s.pair && decide (x.pair = p)) = none := by
        rw [List.find?_eq_none]
        intro x _ h'
        simp at h'
        rw [h'.2, plt_asymm h] at h'
        exact absurd h'.1 (by simp)
      rw [h1, h2]
      simp
def stS (xs : List Slot) (k : Nat) : List Slot := (xs.take k).foldl putS []
theorem stS_succ {xs : List Slot} {k : Nat} {x : Slot} (h : xs[k]? = some x) : stS xs (k + 1) = putS (stS xs k) x := by
  have hlt := (List.getElem?_eq_some_iff.1 h).1
  rw [stS, List.take_succ_eq_append_getElem hlt, (List.getElem?_eq_some_iff.1 h).2, List.foldl_append]
  rfl
theorem foldl_asc : ∀ {l st : List Slot}, asc st = true → asc (l.foldl putS st) = true
  | [], _, h => h
  | x :: l, _, h => foldl_asc (l := l) (putS_asc h)
theorem stS_asc (xs : List Slot) (k : Nat) : asc (stS xs k) = true := foldl_asc rfl
theorem putS_len {xs : List Slot} {s : Slot} : (putS xs s).length ≤ xs.length + 1 := by
  have h : ∀ xs : List Slot, (xs.filter fun x => plt x.pair s.pair).length + (xs.filter fun x => plt s.pair x.pair).length ≤ xs.length := by
    intro xs
    induction xs with
    | nil => simp
    | cons x xs ih =>
      by_cases h : plt x.pair s.pair = true
      · have h' := plt_asymm h
        simp only [List.filter_cons, h, h', if_true, List.length_cons]
        simp
        omega
      · simp only [List.filter_cons, h]
        by_cases h' : plt s.pair x.pair = true
        · simp [h']
          omega
        · simp [h']
          omega
  have := h xs
  simp only [putS, List.length_append, List.length_singleton]
  omega
theorem foldl_len : ∀ {l st : List Slot}, (l.foldl putS st).length ≤ st.length + l.length
  | [], _ => by simp
  | x :: l, st => by
    have := foldl_len (l := l) (st := putS st x)
    have h2 := putS_len (xs := st) (s := x)
    simp only [List.foldl_cons, List.length_cons]
    omega
theorem stS_len (xs : List Slot) (k : Nat) : (stS xs k).length ≤ xs.length := by
  have := foldl_len (l := xs.take k) (st := [])
  simp only [List.length_take, List.length_nil] at this
  unfold stS
  omega
/-- the last of a pair -/
def lastS (xs : List Slot) (y : Slot) (k : Nat) : Slot := (xs.take k).foldl (fun y x => if x.pair = y.pair then x else y) y
theorem lastS_succ {xs : List Slot} {y : Slot} {k : Nat} {x : Slot} (h : xs[k]? = some x) : lastS xs y (k + 1) = if x.pair = (lastS xs y k).pair then x else lastS xs y k := by
  have hlt := (List.getElem?_eq_some_iff.1 h).1
  rw [lastS, List.take_succ_eq_append_getElem hlt, (List.getElem?_eq_some_iff.1 h).2, List.foldl_append]
  rfl
theorem fold_last {p : Pair} : ∀ {l st : List Slot} {y : Slot}, y.pair = p → (getS st p = some y.id ∨ ∃ x ∈ l, x.pair = p) →
    getS (l.foldl putS st) p = some (l.foldl (fun y x => if x.pair = y.pair then x else y) y).id ∧ (l.foldl (fun y x => if x.pair = y.pair then x else y) y).pair = p
  | [], st, y, hy, h => by
    rcases h with h | ⟨x, hx, _⟩
    · exact ⟨h, hy⟩
    · cases hx
  | x :: l, st, y, hy, h => by
    simp only [List.foldl_cons]
    by_cases hx : x.pair = y.pair
    · rw [if_pos hx]
      exact fold_last (hx.trans hy) (.inl (by rw [getS_put, if_pos (hx.trans hy)]))
    · rw [if_neg hx]
      have hxp : ¬ x.pair = p := fun e => hx (e.trans hy.symm)
      refine fold_last hy ?_
      rcases h with h | ⟨z, hz, hzp⟩
      · exact .inl (by rw [getS_put, if_neg hxp]; exact h)
      · rcases List.mem_cons.1 hz with rfl | hz
        · exact absurd hzp hxp
        · exact .inr ⟨z, hz, hzp⟩
theorem stS_last {xs : List Slot} {y : Slot} {i : Nat} (h : xs[i]? = some y) : getS (stS xs xs.length) (lastS xs y xs.length).pair = some (lastS xs y xs.length).id := by
  obtain ⟨h1, h2⟩ := fold_last (p := y.pair) (l := xs) (st := []) (y := y) rfl (.inr ⟨y, List.mem_of_getElem? h, rfl⟩)
  unfold stS lastS
  rw [List.take_length, h2]
  exact h1
end Go.Proofs.Ytccjjkdogljmpaa.V
