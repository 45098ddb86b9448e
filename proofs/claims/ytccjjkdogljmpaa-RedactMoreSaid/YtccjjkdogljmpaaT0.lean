/-
  A part of the proof: walks of functions, and the plain laws of what they compute. No condition of its own.
-/
import Derived.Test.YtccjjkdogljmpaaVB
set_option linter.unusedVariables false
set_option linter.unusedSimpArgs false
namespace Go.Proofs.Ytccjjkdogljmpaa.V
open Go
abbrev Str := List UInt8
structure Slot where
  ty : Str
  key : Str
  id : Str
  deriving DecidableEq
structure Pair where
  ty : Str
  key : Str
  deriving DecidableEq
abbrev Slot.cells (s : Slot) : List Value := [S s.ty, S s.key, S s.id]
abbrev Pair.cells (p : Pair) : List Value := [S p.ty, S p.key]
abbrev Slot.agg (s : Slot) : Value := .agg s.cells.toArray
abbrev Pair.agg (p : Pair) : Value := .agg p.cells.toArray
abbrev Slot.pair (s : Slot) : Pair := ⟨s.ty, s.key⟩
abbrev slotsD (xs : List Slot) : D := flat 3 Slot.cells xs
abbrev pairsD (xs : List Pair) : D := flat 2 Pair.cells xs
abbrev ic (m : Int) : List Value := [.int .i64 m]
abbrev strD (xs : List Str) : D := flat 1 (fun s => [S s]) xs
section
variable {w : World}
theorem Cs.c0 {a : Addr} {v : Value} {vs : List Value} (h : Cs w a (v :: vs)) : w.cell? a = some v := by
  have := h 0 v rfl
  rwa [Addr.add_zero'] at this
end
/-! ### comparing -/
def scmp (a b : Str) : Int := if bl a b then -1 else if a = b then 0 else 1
def orI : List Int → Int
  | [] => 0
  | x :: r => if x ≠ 0 then x else orI r
def pcmp (p q : Pair) : Int := if scmp p.ty q.ty ≠ 0 then scmp p.ty q.ty else scmp p.key q.key
theorem bl_irrefl : ∀ a : Str, bl a a = false
  | [] => rfl
  | c :: a => by simp [bl, Op.bytesLess, bl_irrefl a]
theorem bl_trans : ∀ {a b c : Str}, bl a b = true → bl b c = true → bl a c = true
  | [], [], _, h, _ => by simp [bl, Op.bytesLess] at h
  | _ :: _, [], _, h, _ => by simp [bl, Op.bytesLess] at h
  | _, _ :: _, [], _, h => by simp [bl, Op.bytesLess] at h
  | [], _ :: _, _ :: _, _, _ => by simp [bl, Op.bytesLess]
  | x :: a, y :: b, z :: c, h, h' => by
    simp only [bl, Op.bytesLess, Bool.or_eq_true, decide_eq_true_eq, Bool.and_eq_true, beq_iff_eq, UInt8.lt_iff_toNat_lt, ← UInt8.toNat_inj] at h h' ⊢
    rcases h with h | ⟨h1, h2⟩
    · rcases h' with h' | ⟨h3, h4⟩
      · exact .inl (by omega)
      · exact .inl (by omega)
    · rcases h' with h' | ⟨h3, h4⟩
      · exact .inl (by omega)
      · exact .inr ⟨by omega, bl_trans h2 h4⟩
theorem bl_asymm {a b : Str} (h : bl a b = true) : bl b a = false := by
  cases h' : bl b a with
  | false => rfl
  | true => have := bl_trans h h'; rw [bl_irrefl] at this; cases this
theorem bl_total : ∀ (a b : Str), bl a b = true ∨ a = b ∨ bl b a = true
  | [], [] => .inr (.inl rfl)
  | [], _ :: _ => .inl (by simp [bl, Op.bytesLess])
  | _ :: _, [] => .inr (.inr (by simp [bl, Op.bytesLess]))
  | x :: a, y :: b => by
    simp only [bl, Op.bytesLess, Bool.or_eq_true, decide_eq_true_eq, Bool.and_eq_true, beq_iff_eq, UInt8.lt_iff_toNat_lt, ← UInt8.toNat_inj, List.cons.injEq]
    rcases Nat.lt_trichotomy x.toNat y.toNat with h | h | h
    · exact .inl (.inl h)
    · rcases bl_total a b with h1 | h1 | h1
      · exact .inl (.inr ⟨h, h1⟩)
      · exact .inr (.inl ⟨h, h1⟩)
      · exact .inr (.inr (.inr ⟨h.symm, h1⟩))
    · exact .inr (.inr (.inl h))
theorem scmp_lt {a b : Str} : scmp a b < 0 ↔ bl a b = true := by
  unfold scmp
  by_cases h : bl a b = true
  · simp [h]
  · by_cases h' : a = b <;> simp [h, h', bl_irrefl]
theorem scmp_eq {a b : Str} : scmp a b = 0 ↔ a = b := by
  unfold scmp
  by_cases h : bl a b = true
  · rw [if_pos h]
    exact ⟨fun h' => by omega, fun h' => by subst h'; rw [bl_irrefl] at h; cases h⟩
  · by_cases h' : a = b <;> simp [h, h', bl_irrefl]
theorem orI_two (a b : Int) : orI [a, b] = if a ≠ 0 then a else b := by
  simp only [orI]
  by_cases h : a = 0 <;> by_cases h' : b = 0 <;> simp [h, h']

/-! ### pairs -/
def plt (p q : Pair) : Bool := if p.ty = q.ty then bl p.key q.key else bl p.ty q.ty
theorem plt_irrefl (p : Pair) : plt p p = false := by simp [plt, bl_irrefl]
theorem plt_trans {p q r : Pair} (h : plt p q = true) (h' : plt q r = true) : plt p r = true := by
  unfold plt at *
  by_cases h1 : p.ty = q.ty
  · rw [if_pos h1] at h
    by_cases h2 : q.ty = r.ty
    · rw [if_pos h2] at h'
      rw [if_pos (h1.trans h2)]
      exact bl_trans h h'
    · rw [if_neg h2] at h'
      rw [if_neg (fun e => h2 (h1 ▸ e)), h1]
      exact h'
  · rw [if_neg h1] at h
    by_cases h2 : q.ty = r.ty
    · rw [if_neg (fun e => h1 (h2 ▸ e)), ← h2]
      exact h
    · rw [if_neg h2] at h'
      have h3 := bl_trans h h'
      have : p.ty ≠ r.ty := fun e => by rw [e, bl_irrefl] at h3; cases h3
      rw [if_neg this]
      exact h3
theorem plt_asymm {p q : Pair} (h : plt p q = true) : plt q p = false := by
  cases h' : plt q p with
  | false => rfl
  | true => have := plt_trans h h'; rw [plt_irrefl] at this; cases this
theorem plt_total (p q : Pair) : plt p q = true ∨ p = q ∨ plt q p = true := by
  obtain ⟨a, b⟩ := p
  obtain ⟨c, d⟩ := q
  simp only [plt, Pair.mk.injEq]
  by_cases h : a = c
  · subst h
    simp only [if_true, true_and]
    exact bl_total b d
  · have h' : ¬ c = a := fun e => h e.symm
    simp only [h, h', if_false, false_and, false_or]
    rcases bl_total a c with h1 | h1 | h1
    · exact .inl h1
    · exact absurd h1 h
    · exact .inr h1
theorem pcmp_lt {p q : Pair} : pcmp p q < 0 ↔ plt p q = true := by
  unfold pcmp plt
  by_cases h : p.ty = q.ty
  · have h1 := scmp_eq.2 h
    rw [if_neg (by omega), if_pos h]
    exact scmp_lt
  · have h1 : scmp p.ty q.ty ≠ 0 := fun e => h (scmp_eq.1 e)
    rw [if_pos h1, if_neg h]
    exact scmp_lt
theorem pcmp_eq {p q : Pair} : pcmp p q = 0 ↔ p = q := by
  obtain ⟨a, b⟩ := p
  obtain ⟨c, d⟩ := q
  simp only [pcmp, Pair.mk.injEq]
  by_cases h : a = c
  · have h1 := scmp_eq.2 h
    rw [if_neg (by omega)]
    simp [h, scmp_eq]
  · have h1 : scmp a c ≠ 0 := fun e => h (scmp_eq.1 e)
    rw [if_pos h1]
    simp [h, h1]
/-- by rising pairs, each once -/
def asc : List Slot → Bool
  | a :: b :: r => plt a.pair b.pair && asc (b :: r)
  | _ => true
theorem asc_tail {a : Slot} {r : List Slot} (h : asc (a :: r) = true) : asc r = true := by
  cases r with
  | nil => rfl
  | cons b r => simp only [asc, Bool.and_eq_true] at h; exact h.2
theorem asc_head : ∀ {r : List Slot} {a b : Slot}, asc (a :: r) = true → b ∈ r → plt a.pair b.pair = true
  | c :: r, a, b, h, hb => by
    simp only [asc, Bool.and_eq_true] at h
    rcases List.mem_cons.1 hb with rfl | hb
    · exact h.1
    · exact plt_trans h.1 (asc_head h.2 hb)
theorem asc_lt : ∀ {xs : List Slot} {i j : Nat} {a b : Slot}, asc xs = true → xs[i]? = some a → xs[j]? = some b → i < j → plt a.pair b.pair = true
  | [], i, j, a, b, _, ha, _, _ => by simp at ha
  | x :: xs, i, j, a, b, h, ha, hb, hij => by
    cases j with
    | zero => omega
    | succ j =>
      cases i with
      | zero => simp at ha; subst ha; exact asc_head h (List.mem_of_getElem? (by simpa using hb))
      | succ i => exact asc_lt (asc_tail h) (by simpa using ha) (by simpa using hb) (by omega)
theorem asc_of : ∀ {xs : List Slot}, (∀ i a b, xs[i]? = some a → xs[i + 1]? = some b → plt a.pair b.pair = true) → asc xs = true
  | [], _ => rfl
  | [_], _ => rfl
  | a :: b :: r, h => by
    simp only [asc, Bool.and_eq_true]
    exact ⟨h 0 a b rfl rfl, asc_of fun i x y hx hy => h (i + 1) x y (by simpa using hx) (by simpa using hy)⟩
theorem asc_drop {xs : List Slot} {k : Nat} {a b : Slot} (ha : xs[k]? = some a) (hb : xs[k + 1]? = some b) : asc (xs.drop k) = (plt a.pair b.pair && asc (xs.drop (k + 1))) := by
  have h1 : xs.drop k = a :: xs.drop (k + 1) := by
    rw [List.drop_eq_getElem_cons (List.getElem?_eq_some_iff.1 ha).1, (List.getElem?_eq_some_iff.1 ha).2]
  have h2 : xs.drop (k + 1) = b :: xs.drop (k + 1 + 1) := by
    rw [List.drop_eq_getElem_cons (List.getElem?_eq_some_iff.1 hb).1, (List.getElem?_eq_some_iff.1 hb).2]
  rw [h1, h2]
  simp [asc]
theorem asc_last {xs : List Slot} {k : Nat} (h : xs.length ≤ k + 1) : asc (xs.drop k) = true := by
  have : (xs.drop k).length ≤ 1 := by simp; omega
  match xs.drop k, this with
  | [], _ => rfl
  | [_], _ => rfl
  | _ :: _ :: _, h => simp at h
def getS (xs : List Slot) (p : Pair) : Option Str := (xs.find? fun x => decide (x.pair = p)).map (·.id)
theorem getS_hit : ∀ {xs : List Slot} {p : Pair} {k : Nat} {x : Slot}, (∀ (j : Nat) (y : Slot), j < k → xs[j]? = some y → y.pair ≠ p) → xs[k]? = some x → x.pair = p → getS xs p = some x.id
  | [], _, _, _, _, hx, _ => by simp at hx
  | a :: r, p, k, x, h, hx, hp => by
    cases k with
    | zero => simp at hx; subst hx; simp [getS, hp]
    | succ k =>
      have ha := h 0 a (by omega) rfl
      have := getS_hit (xs := r) (k := k) (fun j y hj hy => h (j + 1) y (by omega) (by simpa using hy)) (by simpa using hx) hp
      simpa [getS, ha] using this
theorem getS_miss {xs : List Slot} {p : Pair} (h : ∀ (j : Nat) (y : Slot), xs[j]? = some y → y.pair ≠ p) : getS xs p = none := by
  simp only [getS, Option.map_eq_none_iff, List.find?_eq_none, decide_eq_true_eq]
  intro x hx
  obtain ⟨j, hj⟩ := List.getElem?_of_mem hx
  exact h j x hj
theorem asc_uniq {xs : List Slot} {i j : Nat} {a b : Slot} (h : asc xs = true) (ha : xs[i]? = some a) (hb : xs[j]? = some b) (hp : a.pair = b.pair) : i = j := by
  rcases Nat.lt_trichotomy i j with h1 | h1 | h1
  · have := asc_lt h ha hb h1; rw [hp, plt_irrefl] at this; cases this
  · exact h1
  · have := asc_lt h hb ha h1; rw [hp, plt_irrefl] at this; cases this
/-- what the document's Put answers -/
def putS (xs : List Slot) (s : Slot) : List Slot := xs.filter (fun x => plt x.pair s.pair) ++ [s] ++ xs.filter (fun x => plt s.pair x.pair)
theorem filter_snoc {α : Type} (p : α → Bool) {xs : List α} {k : Nat} {x : α} (h : xs[k]? = some x) : (xs.take (k + 1)).filter p = (xs.take k).filter p ++ if p x then [x] else [] := by
  have hlt := (List.getElem?_eq_some_iff.1 h).1
  rw [List.take_succ_eq_append_getElem hlt, (List.getElem?_eq_some_iff.1 h).2, List.filter_append]
  congr 1
  by_cases hp : p x <;> simp [hp]
end Go.Proofs.Ytccjjkdogljmpaa.V
