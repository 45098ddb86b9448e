/-
  A part of the proof: pairs in order; insertion; doubled neighbours left out. No condition of its own.
-/
import Derived.Test.YtccjjkdogljmpaaTB
set_option linter.unusedVariables false
set_option linter.unusedSimpArgs false
namespace Go.Proofs.Ytccjjkdogljmpaa.V
open Go
theorem flat_setg {α : Type} {sz : Nat} {cells : α → List Value} {xs : List α} {i : Nat} {s : α} (hl : ∀ x, (cells x).length = sz) (hi : i < xs.length) : ((xs.map cells).flatten).take (i * sz) ++ cells s ++ ((xs.map cells).flatten).drop ((i + 1) * sz) = ((xs.set i s).map cells).flatten := by
  rw [flat_take_ hl, flat_drop_ hl, List.set_eq_take_append_cons_drop, if_pos hi]
  simp
theorem pairs_one {xs : List Pair} : ∀ x ∈ xs, ∀ c ∈ Pair.cells x, c.oneCell' = true := by
  intro x _ c hc
  simp at hc
  rcases hc with rfl | rfl <;> rfl
theorem Own.pairs {w : World} {e : Nat} {v : Value} {xs : List Pair} (A : List Nat) (h : Own w e 2 v xs.length ((xs.map Pair.cells).flatten)) (hA : ∀ x ∈ ob v, x ∉ A) : Rep A w (pairsD xs) v := Own.flat h (fun _ _ => rfl) pairs_one rfl hA
theorem Own.pairsN {w : World} {e n : Nat} {v : Value} {xs : List Pair} (A : List Nat) (h : Own w e 2 v n ((xs.map Pair.cells).flatten)) (hn : xs.length = n) (hA : ∀ x ∈ ob v, x ∉ A) : Rep A w (pairsD xs) v := Own.flat h (fun _ _ => rfl) pairs_one hn hA
/-- insertion behind all that don't stand above -/
def insP (x : Pair) (S : List Pair) : List Pair := S.filter (fun y => !plt x y) ++ [x] ++ S.filter (fun y => plt x y)
def isortP (xs : List Pair) (k : Nat) : List Pair := (xs.take k).foldl (fun S x => insP x S) []
theorem isortP_succ {xs : List Pair} {k : Nat} {x : Pair} (h : xs[k]? = some x) : isortP xs (k + 1) = insP x (isortP xs k) := by
  have hlt := (List.getElem?_eq_some_iff.1 h).1
  rw [isortP, List.take_succ_eq_append_getElem hlt, (List.getElem?_eq_some_iff.1 h).2, List.foldl_append]
  rfl
theorem insP_len {x : Pair} {S : List Pair} : (insP x S).length = S.length + 1 := by
  have : (S.filter (fun y => !plt x y)).length + (S.filter (fun y => plt x y)).length = S.length := by
    induction S with
    | nil => rfl
    | cons y S ih =>
      by_cases h : plt x y = true
      · simp [h]; omega
      · simp [h]; omega
  simp only [insP, List.length_append, List.length_singleton]
  omega
theorem foldl_insP_len : ∀ {l S : List Pair}, (l.foldl (fun S x => insP x S) S).length = S.length + l.length
  | [], _ => by simp
  | x :: l, S => by
    have := foldl_insP_len (l := l) (S := insP x S)
    have h2 := @insP_len x S
    simp only [List.foldl_cons, List.length_cons]
    omega
theorem isortP_len {xs : List Pair} {k : Nat} (h : k ≤ xs.length) : (isortP xs k).length = k := by
  have := foldl_insP_len (l := xs.take k) (S := [])
  simp only [List.length_take, List.length_nil] at this
  unfold isortP
  omega
/-- not falling -/
def srt (S : List Pair) : Prop := ∀ (i j : Nat) (a b : Pair), i ≤ j → S[i]? = some a → S[j]? = some b → plt b a = false
theorem plt_neg_trans {a b c : Pair} (h : plt b a = false) (h' : plt c b = false) : plt c a = false := by
  cases hca : plt c a with
  | false => rfl
  | true =>
    rcases plt_total a b with h1 | h1 | h1
    · rw [plt_trans hca h1] at h'; cases h'
    · subst h1; rw [hca] at h'; cases h'
    · rw [h1] at h; cases h
theorem insP_at {x : Pair} {S : List Pair} {j : Nat} (hs : srt S) (h1 : ∀ (i : Nat) (y : Pair), j ≤ i → S[i]? = some y → plt x y = true) (h2 : j = 0 ∨ ∃ y, S[j - 1]? = some y ∧ plt x y = false) : insP x S = S.take j ++ [x] ++ S.drop j := by
  have h3 : ∀ (i : Nat) (y : Pair), i < j → S[i]? = some y → plt x y = false := fun i y hi hy => by
    rcases h2 with h2 | ⟨z, hz, hzx⟩
    · omega
    · exact plt_neg_trans (hs i (j - 1) y z (by omega) hy hz) hzx
  rw [insP, filter_take (i := j) (fun i y hi hy => by rw [h3 i y hi hy]; rfl) (fun i y hi hy => by rw [h1 i y hi hy]; rfl), filter_drop (i := j) h3 h1]
theorem srt_iff {S : List Pair} : srt S ↔ S.Pairwise (fun a b => plt b a = false) := by
  rw [List.pairwise_iff_getElem]
  constructor
  · intro h i j hi hj hij
    exact h i j _ _ (by omega) (List.getElem?_eq_getElem hi) (List.getElem?_eq_getElem hj)
  · intro h i j a b hij ha hb
    obtain ⟨hi, rfl⟩ := List.getElem?_eq_some_iff.1 ha
    obtain ⟨hj, rfl⟩ := List.getElem?_eq_some_iff.1 hb
    rcases Nat.lt_or_eq_of_le hij with h' | h'
    · exact h i j hi hj h'
    · subst h'; exact plt_irrefl _
theorem insP_srt {x : Pair} {S : List Pair} (h : srt S) : srt (insP x S) := by
  rw [srt_iff] at h ⊢
  rw [insP, List.pairwise_append, List.pairwise_append]
  refine ⟨⟨h.filter _, List.pairwise_singleton .., fun a ha b hb => ?_⟩, h.filter _, fun a ha b hb => ?_⟩
  · simp at ha hb
    subst hb
    exact ha.2
  · simp only [List.mem_append, List.mem_singleton, List.mem_filter] at ha hb
    rcases ha with ha | rfl
    · have : plt x a = false := by simpa using ha.2
      cases hba : plt b a with
      | false => rfl
      | true => rw [plt_trans hb.2 hba] at this; cases this
    · exact plt_asymm hb.2
theorem foldl_srt : ∀ {l S : List Pair}, srt S → srt (l.foldl (fun S x => insP x S) S)
  | [], _, h => h
  | x :: l, _, h => foldl_srt (l := l) (insP_srt h)
theorem isortP_srt (xs : List Pair) (k : Nat) : srt (isortP xs k) := foldl_srt (by intro i j a b _ h; simp at h)
theorem swap_at {S B : List Pair} {x y : Pair} {j : Nat} (hj : j < S.length) (hy : S[j]? = some y) :
    ((S.take (j + 1) ++ [x] ++ S.drop (j + 1) ++ B).set (j + 1) y).set j x = S.take j ++ [x] ++ S.drop j ++ B := by
  have h1 : S.drop j = y :: S.drop (j + 1) := by rw [List.drop_eq_getElem_cons hj, (List.getElem?_eq_some_iff.1 hy).2]
  have h2 : S.take (j + 1) = S.take j ++ [y] := by rw [List.take_succ_eq_append_getElem hj, (List.getElem?_eq_some_iff.1 hy).2]
  have hl : (S.take j).length = j := by rw [List.length_take]; omega
  rw [h1, h2]
  have e1 : S.take j ++ [y] ++ [x] ++ S.drop (j + 1) ++ B = S.take j ++ (y :: x :: (S.drop (j + 1) ++ B)) := by simp
  have e2 : S.take j ++ [x] ++ y :: S.drop (j + 1) ++ B = S.take j ++ (x :: y :: (S.drop (j + 1) ++ B)) := by simp
  rw [e1, e2, List.set_append_right _ _ (by omega), List.set_append_right _ _ (by omega), hl]
  simp
theorem get_ins {S B : List Pair} {x : Pair} {j : Nat} (hj : j ≤ S.length) : (S.take j ++ [x] ++ S.drop j ++ B)[j]? = some x := by
  have hl : (S.take j).length = j := by rw [List.length_take]; omega
  rw [List.append_assoc, List.append_assoc, List.getElem?_append_right (by omega), hl]
  simp
theorem get_ins_pred {S B : List Pair} {x : Pair} {j : Nat} (hj : j + 1 ≤ S.length) : (S.take (j + 1) ++ [x] ++ S.drop (j + 1) ++ B)[j]? = S[j]? := by
  have hl : (S.take (j + 1)).length = j + 1 := by rw [List.length_take]; omega
  rw [List.append_assoc, List.append_assoc, List.getElem?_append_left (by omega), List.getElem?_take, if_pos (by omega)]
theorem len_ins {S B : List Pair} {x : Pair} {j : Nat} : (S.take j ++ [x] ++ S.drop j ++ B).length = S.length + 1 + B.length := by
  simp only [List.length_append, List.length_take, List.length_drop, List.length_singleton]
  omega
theorem ins_start {S : List Pair} {xs : List Pair} {k : Nat} {x : Pair} (hk : S.length = k) (hx : xs[k]? = some x) : S ++ xs.drop k = S.take k ++ [x] ++ S.drop k ++ xs.drop (k + 1) := by
  have hlt := (List.getElem?_eq_some_iff.1 hx).1
  have h1 : xs.drop k = x :: xs.drop (k + 1) := by rw [List.drop_eq_getElem_cons hlt, (List.getElem?_eq_some_iff.1 hx).2]
  have h2 : S.take k = S := List.take_of_length_le (by omega)
  have h3 : S.drop k = [] := List.drop_eq_nil_of_le (by omega)
  rw [h1, h2, h3]
  simp
/-- no neighbour is its neighbour's double -/
def apartP (S : List Pair) : Prop := ∀ (i : Nat) (a b : Pair), S[i]? = some a → S[i + 1]? = some b → a ≠ b
theorem isortP_one (xs : List Pair) : xs = isortP xs 1 ++ xs.drop 1 := by cases xs <;> rfl
theorem isortP_all {xs : List Pair} {k : Nat} (h : xs.length ≤ k) : isortP xs k ++ xs.drop k = isortP xs xs.length := by
  rw [isortP, isortP, List.take_of_length_le h, List.drop_eq_nil_of_le h, List.take_length, List.append_nil]
end Go.Proofs.Ytccjjkdogljmpaa.V
