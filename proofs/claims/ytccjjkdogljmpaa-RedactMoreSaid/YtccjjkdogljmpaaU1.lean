/-
  A part of the proof: members by rising keys: found, put, in plain Lean. No condition of its own.
-/
import Derived.Test.YtccjjkdogljmpaaU0
set_option linter.unusedVariables false
set_option linter.unusedSimpArgs false
namespace Go.Proofs.Ytccjjkdogljmpaa.V
open Go
theorem cmp_scmp : ∀ a b : Str, Lib.compareBytes a b = scmp a b
  | [], [] => rfl
  | [], _ :: _ => by simp [Lib.compareBytes, scmp, bl, Op.bytesLess]
  | _ :: _, [] => by simp [Lib.compareBytes, scmp, bl, Op.bytesLess]
  | x :: a, y :: b => by
    have ih := cmp_scmp a b
    simp only [Lib.compareBytes]
    unfold scmp at ih ⊢
    by_cases h : x < y
    · simp [h, bl, Op.bytesLess]
    · by_cases h' : y < x
      · have hne : x ≠ y := fun e => by subst e; exact h h'
        simp [h, h', bl, Op.bytesLess, hne]
      · have hxy : x = y := UInt8.le_antisymm (UInt8.not_lt.1 h') (UInt8.not_lt.1 h)
        subst hxy
        simp [bl, Op.bytesLess]
        rw [ih]
section
variable {β : Type}
def ascM (m : List (Str × β)) : Prop := m.Pairwise fun a b => bl a.1 b.1 = true
def look : List (Str × β) → Str → Option β
  | [], _ => none
  | p :: r, k => if p.1 = k then some p.2 else look r k
def posM (m : List (Str × β)) (k : Str) : Nat := (m.filter fun p => bl p.1 k).length
def putM (m : List (Str × β)) (k : Str) (x : β) : List (Str × β) := m.filter (fun p => bl p.1 k) ++ [(k, x)] ++ m.filter (fun p => bl k p.1)
variable {m m' : List (Str × β)} {k : Str} {x : β}
theorem posM_le : posM m k ≤ m.length := List.length_filter_le _ _
theorem posM_eq {i : Nat} (hi : i ≤ m.length) (h : ∀ (j : Nat) (y : Str × β), j < i → m[j]? = some y → bl y.1 k = true) (h' : ∀ (j : Nat) (y : Str × β), i ≤ j → m[j]? = some y → bl y.1 k = false) : posM m k = i := by
  rw [posM, filter_take (i := i) h h', List.length_take]
  omega
theorem ascM_lt {i j : Nat} {a b : Str × β} (h : ascM m) (ha : m[i]? = some a) (hb : m[j]? = some b) (hij : i < j) : bl a.1 b.1 = true := by
  obtain ⟨h1, rfl⟩ := List.getElem?_eq_some_iff.1 ha
  obtain ⟨h2, rfl⟩ := List.getElem?_eq_some_iff.1 hb
  exact List.pairwise_iff_getElem.1 h i j h1 h2 hij
theorem ascM_of (h : ∀ (i : Nat) (a b : Str × β), m[i]? = some a → m[i + 1]? = some b → bl a.1 b.1 = true) : ascM m := by
  induction m with
  | nil => exact List.Pairwise.nil
  | cons p r ih =>
    have ih := ih fun i a b ha hb => h (i + 1) a b (by simpa using ha) (by simpa using hb)
    refine List.Pairwise.cons (fun q hq => ?_) ih
    cases r with
    | nil => cases hq
    | cons q0 r =>
      have h0 := h 0 p q0 rfl rfl
      rcases List.mem_cons.1 hq with rfl | hq
      · exact h0
      · exact bl_trans h0 (List.rel_of_pairwise_cons ih hq)
theorem look_none_of (h : ∀ (j : Nat) (y : Str × β), m[j]? = some y → y.1 ≠ k) : look m k = none := by
  induction m with
  | nil => rfl
  | cons p r ih =>
    rw [look, if_neg (h 0 p rfl)]
    exact ih fun j y hy => h (j + 1) y (by simpa using hy)
theorem look_hit {i : Nat} {y : Str × β} (h : ∀ (j : Nat) (z : Str × β), j < i → m[j]? = some z → z.1 ≠ k) (hy : m[i]? = some y) (hk : y.1 = k) : look m k = some y.2 := by
  induction m generalizing i with
  | nil => simp at hy
  | cons p r ih =>
    cases i with
    | zero => simp at hy; subst hy; rw [look, if_pos hk]
    | succ i =>
      rw [look, if_neg (h 0 p (by omega) rfl)]
      exact ih (i := i) (fun j z hj hz => h (j + 1) z (by omega) (by simpa using hz)) (by simpa using hy)
theorem asc_posM (h : ascM m) : (∀ j y, j < posM m k → m[j]? = some y → bl y.1 k = true) ∧ (∀ j y, posM m k ≤ j → m[j]? = some y → bl y.1 k = false) := by
  induction m with
  | nil => simp
  | cons p r ih =>
    obtain ⟨h1, h2⟩ := ih (List.Pairwise.of_cons h)
    by_cases hx : bl p.1 k = true
    · have hp : posM (p :: r) k = posM r k + 1 := by simp [posM, hx]
      rw [hp]
      refine ⟨fun j y hj hy => ?_, fun j y hj hy => ?_⟩
      · cases j with
        | zero => simp at hy; subst hy; exact hx
        | succ j => exact h1 j y (by omega) (by simpa using hy)
      · cases j with
        | zero => omega
        | succ j => exact h2 j y (by omega) (by simpa using hy)
    · have hall : ∀ (j : Nat) (y : Str × β), (p :: r)[j]? = some y → bl y.1 k = false := fun j y hy => by
        cases hpy : bl y.1 k with
        | false => rfl
        | true =>
          cases j with
          | zero => simp at hy; subst hy; exact absurd hpy hx
          | succ j => exact absurd (bl_trans (ascM_lt h (i := 0) rfl hy (by omega)) hpy) hx
      have hp : posM (p :: r) k = 0 := posM_eq (by omega) (fun j y hj => by omega) (fun j y _ hy => hall j y hy)
      rw [hp]
      exact ⟨fun j y hj => by omega, fun j y _ hy => hall j y hy⟩
theorem thereM {y : Str × β} (h : ascM m) (hy : m[posM m k]? = some y) (hp : y.1 = k) : look m k = some y.2 ∧ ∀ x, putM m k x = m.set (posM m k) (k, x) := by
  obtain ⟨h1, h2⟩ := asc_posM (k := k) h
  have hlt := (List.getElem?_eq_some_iff.1 hy).1
  refine ⟨look_hit (fun j z hj hz e => ?_) hy hp, fun x => ?_⟩
  · have := h1 j z hj hz
    rw [e, bl_irrefl] at this
    cases this
  · rw [putM, filter_take h1 h2, filter_drop (i := posM m k + 1), List.set_eq_take_append_cons_drop, if_pos hlt]
    · simp
    · intro j z hj hz
      rcases Nat.lt_succ_iff_lt_or_eq.1 hj with hj | hj
      · exact bl_asymm (h1 j z hj hz)
      · subst hj
        rw [hy] at hz
        injection hz with hz
        subst hz
        rw [hp, bl_irrefl]
    · intro j z hj hz
      rw [← hp]
      exact ascM_lt h hy hz (by omega)
theorem goneM (h : ascM m) (hn : ∀ y : Str × β, m[posM m k]? = some y → y.1 ≠ k) : look m k = none ∧ ∀ x, putM m k x = m.take (posM m k) ++ [(k, x)] ++ m.drop (posM m k) := by
  obtain ⟨h1, h2⟩ := asc_posM (k := k) h
  have h3 : ∀ j z, posM m k ≤ j → m[j]? = some z → bl k z.1 = true := fun j z hj hz => by
    have hlt := (List.getElem?_eq_some_iff.1 hz).1
    obtain ⟨y, hy⟩ : ∃ y, m[posM m k]? = some y := ⟨_, List.getElem?_eq_getElem (by omega)⟩
    have hpy : bl k y.1 = true := by
      rcases bl_total k y.1 with h' | h' | h'
      · exact h'
      · exact absurd h'.symm (hn y hy)
      · rw [h2 _ y (Nat.le_refl _) hy] at h'; cases h'
    rcases Nat.lt_or_ge (posM m k) j with hj' | hj'
    · exact bl_trans hpy (ascM_lt h hy hz hj')
    · have : j = posM m k := by omega
      subst this
      rw [hy] at hz
      injection hz with hz
      subst hz
      exact hpy
  refine ⟨look_none_of fun j z hz e => ?_, fun x => ?_⟩
  · rcases Nat.lt_or_ge j (posM m k) with hj | hj
    · have := h1 j z hj hz
      rw [e, bl_irrefl] at this
      cases this
    · have := h3 j z hj hz
      rw [e, bl_irrefl] at this
      cases this
  · rw [putM, filter_take h1 h2, filter_drop (fun j z hj hz => bl_asymm (h1 j z hj hz)) h3]
theorem isM {i : Nat} (h : ascM m) (hi : posM m k = i) {y : Str × β} (hy : m[i]? = some y) : (look m k).isSome = decide (scmp y.1 k = 0) := by
  subst hi
  by_cases hp : y.1 = k
  · rw [(thereM h hy hp).1, decide_eq_true (scmp_eq.2 hp)]
    rfl
  · rw [(goneM h fun z hz => by rw [hy] at hz; injection hz with hz; subst hz; exact hp).1, decide_eq_false (fun e => hp (scmp_eq.1 e))]
    rfl
theorem isM_end (h : ascM m) (hi : m.length ≤ posM m k) : (look m k).isSome = false := by
  rw [(goneM h fun z hz => by rw [List.getElem?_eq_none hi] at hz; cases hz).1]
  rfl
theorem isM_some (h : ascM m) (hs : (look m k).isSome = true) : ∃ y : Str × β, m[posM m k]? = some y ∧ y.1 = k ∧ look m k = some y.2 := by
  rcases Nat.lt_or_ge (posM m k) m.length with hlt | hge
  · obtain ⟨y, hy⟩ : ∃ y, m[posM m k]? = some y := ⟨_, List.getElem?_eq_getElem hlt⟩
    rw [isM h rfl hy] at hs
    have hp := scmp_eq.1 (of_decide_eq_true hs)
    exact ⟨y, hy, hp, (thereM h hy hp).1⟩
  · rw [isM_end h hge] at hs; cases hs
theorem isM_none (h : ascM m) (hs : (look m k).isSome = false) : ∀ y : Str × β, m[posM m k]? = some y → y.1 ≠ k := fun y hy hp => by
  rw [(thereM h hy hp).1] at hs; cases hs
theorem look_some : ∀ {m : List (Str × β)} {x : β}, look m k = some x → (k, x) ∈ m
  | p :: r, x, h => by
    rw [look] at h
    by_cases hp : p.1 = k
    · rw [if_pos hp] at h
      injection h with h
      subst hp; subst h
      exact List.mem_cons_self ..
    · rw [if_neg hp] at h
      exact List.mem_cons_of_mem _ (look_some h)
theorem look_mem : ∀ {m : List (Str × β)} {p : Str × β}, ascM m → p ∈ m → look m p.1 = some p.2
  | q :: r, p, h, hp => by
    rcases List.mem_cons.1 hp with rfl | hp
    · rw [look, if_pos rfl]
    · have := List.rel_of_pairwise_cons h hp
      rw [look, if_neg (fun e => by rw [e, bl_irrefl] at this; cases this)]
      exact look_mem (List.Pairwise.of_cons h) hp
theorem look_none : ∀ {m : List (Str × β)}, look m k = none → ∀ p ∈ m, p.1 ≠ k
  | q :: r, h, p, hp => by
    rw [look] at h
    by_cases hq : q.1 = k
    · rw [if_pos hq] at h; cases h
    · rw [if_neg hq] at h
      rcases List.mem_cons.1 hp with rfl | hp
      · exact hq
      · exact look_none h p hp
/-- two rising lists of the same members are the same -/
theorem ascM_ext : ∀ {m m' : List (Str × β)}, ascM m → ascM m' → (∀ k, look m k = look m' k) → m = m'
  | [], [], _, _, _ => rfl
  | [], p :: r, _, h', e => by have := e p.1; rw [look_mem h' (List.mem_cons_self ..)] at this; cases this
  | p :: r, [], h, _, e => by have := e p.1; rw [look_mem h (List.mem_cons_self ..)] at this; cases this
  | p :: r, p' :: r', h, h', e => by
    have h1 := look_some ((e p.1).symm.trans (look_mem h (List.mem_cons_self ..)))
    have h2 := look_some ((e p'.1).trans (look_mem h' (List.mem_cons_self ..)))
    have hk : p.1 = p'.1 := by
      rcases List.mem_cons.1 h1 with h3 | h3
      · rw [← h3]
      · rcases List.mem_cons.1 h2 with h4 | h4
        · rw [← h4]
        · have a := List.rel_of_pairwise_cons h' h3
          have b := List.rel_of_pairwise_cons h h4
          have := bl_trans a b
          rw [bl_irrefl] at this
          cases this
    have hpe : p = p' := by
      have e0 := e p.1
      rw [look, if_pos rfl, look, if_pos hk.symm] at e0
      injection e0 with e0
      exact Prod.ext hk e0
    subst hpe
    congr 1
    refine ascM_ext (List.Pairwise.of_cons h) (List.Pairwise.of_cons h') fun k => ?_
    by_cases hkk : p.1 = k
    · subst hkk
      have n1 : ∀ {r : List (Str × β)}, ascM (p :: r) → look r p.1 = none := fun hr => look_none_of fun j y hy e => by
        have := List.rel_of_pairwise_cons hr (List.mem_of_getElem? hy)
        rw [e, bl_irrefl] at this
        cases this
      rw [n1 h, n1 h']
    · have e0 := e k
      rwa [look, if_neg hkk, look, if_neg hkk] at e0
theorem ascM_filter {q : Str × β → Bool} (h : ascM m) : ascM (m.filter q) := List.Pairwise.filter q h
theorem ascM_put (h : ascM m) : ascM (putM m k x) := by
  unfold putM ascM
  rw [List.append_assoc, List.pairwise_append]
  refine ⟨ascM_filter h, ?_, ?_⟩
  · rw [List.pairwise_append]
    refine ⟨by simp, ascM_filter h, ?_⟩
    intro a ha b hb
    simp at ha
    subst ha
    simpa using (List.mem_filter.1 hb).2
  · intro a ha b hb
    have h1 : bl a.1 k = true := by simpa using (List.mem_filter.1 ha).2
    rcases List.mem_append.1 hb with hb | hb
    · simp at hb; subst hb; exact h1
    · exact bl_trans h1 (by simpa using (List.mem_filter.1 hb).2)
theorem look_append : ∀ {a b : List (Str × β)}, look (a ++ b) k = (look a k).or (look b k)
  | [], b => by simp [look]
  | p :: r, b => by
    simp only [List.cons_append, look]
    by_cases hp : p.1 = k
    · simp [hp]
    · simp [hp, look_append (a := r) (b := b)]
theorem look_filter {q : Str × β → Bool} {b : Bool} (hq : ∀ p ∈ m, p.1 = k → q p = b) : look (m.filter q) k = if b then look m k else none := by
  induction m with
  | nil => simp [look]
  | cons p r ih =>
    have ih := ih fun p' hp' => hq p' (List.mem_cons_of_mem _ hp')
    have hp := hq p (List.mem_cons_self ..)
    by_cases hk : p.1 = k
    · have := hp hk
      cases b
      · rw [List.filter_cons_of_neg (by simp [this]), ih]; rfl
      · rw [List.filter_cons_of_pos this, look, if_pos hk, if_pos rfl, look, if_pos hk]
    · by_cases hqp : q p = true
      · rw [List.filter_cons_of_pos hqp, look, if_neg hk, ih, look, if_neg hk]
      · rw [List.filter_cons_of_neg hqp, ih, look, if_neg hk]
theorem look_put {k' : Str} : look (putM m k x) k' = if k' = k then some x else look m k' := by
  unfold putM
  rw [look_append, look_append]
  by_cases h : k' = k
  · subst h
    rw [look_filter (b := false) (fun p _ e => by rw [e, bl_irrefl])]
    simp [look]
  · rw [if_neg h]
    have h1 : look [(k, x)] k' = none := by simp [look, Ne.symm h]
    rw [h1, Option.or_none]
    rcases bl_total k' k with h2 | h2 | h2
    · rw [look_filter (b := true) (fun p _ e => by rw [e]; exact h2), look_filter (b := false) (fun p _ e => by rw [e]; exact bl_asymm h2)]
      simp
    · exact absurd h2 h
    · rw [look_filter (b := false) (fun p _ e => by rw [e]; exact bl_asymm h2), look_filter (b := true) (fun p _ e => by rw [e]; exact h2)]
      simp
end
end Go.Proofs.Ytccjjkdogljmpaa.V
