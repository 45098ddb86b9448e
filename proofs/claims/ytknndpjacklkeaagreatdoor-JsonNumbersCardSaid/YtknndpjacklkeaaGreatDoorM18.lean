/-
  A part of the proof: a value's canonical text, read, is the value; a value with a canonical text is read from it as it is; what the row lays, as the reading asks for it; no writing fails with the number 0; what is read has a canonical text, unless it is too long; numbers as they are written, and read: with blanks around, with a point behind, with a nought ahead. No condition of its own.
-/
import Derived.Test.YtknndpjacklkeaaGreatDoorM17
import Derived.Test.YtknndpjacklkeaaGreatDoorM11
import Derived.Test.YtknndpjacklkeaaGreatDoorM5
import Derived.Test.YtknndpjacklkeaaGreatDoorRows
import Derived.Lib.LaidTab
import Derived.Lib.LaidU8
import Derived.Test.YtknndpjacklkeaaGreatDoorM2
import Derived.Test.YtknndpjacklkeaaGreatDoorM9
import Derived.Test.YtknndpjacklkeaaGreatDoorM7
set_option linter.unusedVariables false
set_option linter.unusedSimpArgs false
namespace Go.Proofs.YtknndpjacklkeaaGreatDoor.V
open Go
theorem tk_mono (s : Str) : ∀ f : Nat, (∀ k deep r, tkV f s k deep = some r → tkV (f + 1) s k deep = some r) ∧
  (∀ k deep acc r, tkL f s k deep acc = some r → tkL (f + 1) s k deep acc = some r) ∧
  (∀ k deep m r, tkM f s k deep m = some r → tkM (f + 1) s k deep m = some r)
 | 0 => ⟨fun _ _ _ h => by simp [tkV] at h, fun _ _ _ _ h => by simp [tkL] at h, fun _ _ _ _ h => by simp [tkM] at h⟩
 | f + 1 => by
  obtain ⟨ihV, ihL, ihM⟩ := tk_mono s f
  refine ⟨fun k0 deep r h => ?_, fun k deep acc r h => ?_, fun k deep m r h => ?_⟩
  ·rw [tkV] at h ⊢
   generalize spanA isWs s k0 = k at h ⊢
   dsimp only at h ⊢
   split at h
   ·rename_i c; rw [if_pos c]; exact h
   rename_i c; rw [if_neg c]
   split at h
   ·rename_i c; rw [if_pos c]; exact h
   rename_i c; rw [if_neg c]
   split at h
   ·rename_i c; rw [if_pos c]; exact h
   rename_i c; rw [if_neg c]
   split at h
   ·rename_i c; rw [if_pos c]; exact h
   rename_i c; rw [if_neg c]
   split at h
   ·rename_i c; rw [if_pos c]
    split at h
    ·rename_i c; rw [if_pos c]; exact h
    rename_i c; rw [if_neg c]
    split at h
    ·rename_i c; rw [if_pos c]
     split at h
     ·rename_i c; rw [if_pos c]; exact h
     rename_i c; rw [if_neg c]
     exact ihL _ _ _ _ h
    ·rename_i c; rw [if_neg c]
     split at h
     ·rename_i c; rw [if_pos c]; exact h
     rename_i c; rw [if_neg c]
     exact ihM _ _ _ _ h
   ·rename_i c; rw [if_neg c]; exact h
  ·rw [tkL] at h ⊢
   split at h
   ·cases h
   ·rename_i e hv; rw [ihV _ _ _ hv]; exact h
   ·rename_i y k2 hv
    rw [ihV _ _ _ hv]
    dsimp only at h ⊢
    split at h
    ·rename_i c; rw [if_pos c]; exact h
    rename_i c; rw [if_neg c]
    split at h
    ·rename_i c; rw [if_pos c]; exact ihL _ _ _ _ h
    ·rename_i c; rw [if_neg c]; exact h
  ·rw [tkM] at h ⊢
   split at h
   ·rename_i e hk; exact h
   ·rename_i t k1 hk
    split at h
    ·cases h
    ·rename_i e hv; rw [ihV _ _ _ hv]; exact h
    ·rename_i y k2 hv
     rw [ihV _ _ _ hv]
     dsimp only at h ⊢
     split at h
     ·rename_i c; rw [if_pos c]; exact h
     rename_i c; rw [if_neg c]
     split at h
     ·rename_i c; rw [if_pos c]; exact ihM _ _ _ _ h
     ·rename_i c; rw [if_neg c]; exact h
theorem tkV_le {s : Str} {f g k deep : Nat} {r : PR} (h : tkV f s k deep = some r) (hg : f ≤ g) : tkV g s k deep = some r := by
 induction g with
 | zero =>
  obtain rfl : f = 0 := by omega
  exact h
 | succ g ih =>
  rcases Nat.lt_or_ge g f with h1 | h1
  ·obtain rfl : f = g + 1 := by omega
   exact h
  ·exact (tk_mono s g).1 _ _ _ (ih h1)
theorem tkL_le {s : Str} {f g k deep : Nat} {acc : List JV} {r : PR} (h : tkL f s k deep acc = some r) (hg : f ≤ g) : tkL g s k deep acc = some r := by
 induction g with
 | zero =>
  obtain rfl : f = 0 := by omega
  exact h
 | succ g ih =>
  rcases Nat.lt_or_ge g f with h1 | h1
  ·obtain rfl : f = g + 1 := by omega
   exact h
  ·exact (tk_mono s g).2.1 _ _ _ _ (ih h1)
theorem tkM_le {s : Str} {f g k deep : Nat} {acc : List (Str × JV)} {r : PR} (h : tkM f s k deep acc = some r) (hg : f ≤ g) : tkM g s k deep acc = some r := by
 induction g with
 | zero =>
  obtain rfl : f = 0 := by omega
  exact h
 | succ g ih =>
  rcases Nat.lt_or_ge g f with h1 | h1
  ·obtain rfl : f = g + 1 := by omega
   exact h
  ·exact (tk_mono s g).2.2 _ _ _ _ (ih h1)
theorem tkV_det {s : Str} {f g k deep : Nat} {r r' : PR} (h : tkV f s k deep = some r) (h' : tkV g s k deep = some r') : r = r' := by
 have h1 := tkV_le h (Nat.le_max_left f g)
 have h2 := tkV_le h' (Nat.le_max_right f g)
 rw [h1] at h2
 injection h2
theorem drop_head {s : Str} {k : Nat} {c : UInt8} {r : Str} (h : s.drop k = c :: r) : s[k]? = some c ∧ s.drop (k + 1) = r := by
 have hk : s[k]? = some c := by
  have := congrArg (fun l => l[0]?) h
  simpa [List.getElem?_drop] using this
 rw [drop_get hk] at h
 injection h with _ h
 exact ⟨hk, h⟩
theorem drop_app {s a r : Str} {k : Nat} (h : s.drop k = a ++ r) : s.drop (k + a.length) = r := by
 rw [← List.drop_drop, h, List.drop_left' rfl]
theorem has_cons {s r t : Str} {k : Nat} {c d : UInt8} (h : s.drop k = c :: r) (hd : d ≠ c) : hasA s k (d :: t) = false := by
 rw [hasA, h, List.isPrefixOf, beq_eq_false_iff_ne.2 hd]
 rfl
theorem has_here {s t r : Str} {k : Nat} (h : s.drop k = t ++ r) : hasA s k t = true := by
 rw [hasA_iff, h, List.take_left' rfl]
theorem ws_not {s r : Str} {k : Nat} {c : UInt8} (h : s.drop k = c :: r) (hc : isWs c = false) : spanA isWs s k = k := spanA_stop (drop_head h).1 hc
def vch (c : UInt8) : Prop := isWs c = false ∧ c ≠ 93 ∧ c ≠ 125
def dlm (r : Str) : Prop := ∀ c, r[0]? = some c → isNm c = false
def Bk (v : JV) (deep : Nat) (t : Str) : Prop := (∃ c r, t = c :: r ∧ vch c) ∧ ∀ s k rest, s.drop k = t ++ rest → dlm rest → ∃ f, tkV f s k deep = some (.ok (v, k + t.length))
theorem itoa_head (n : Int) : ∃ c r, Lib.itoa n = c :: r ∧ (c = 45 ∨ isDg c = true) := by
 unfold Lib.itoa
 split
 ·exact ⟨45, _, rfl, .inl rfl⟩
 ·cases h : Lib.decDigits n.toNat with
  | nil => exact absurd h (dec_ne _)
  | cons c r => exact ⟨c, r, rfl, .inr (dec_dig n.toNat c (by rw [h]; simp))⟩
theorem dg_ne {c : UInt8} (h : c = 45 ∨ isDg c = true) (d : UInt8) (hd : ¬ (d.toNat = 45 ∨ (48 ≤ d.toNat ∧ d.toNat ≤ 57))) : d ≠ c := by
 intro e
 subst e
 apply hd
 rcases h with rfl | h
 ·left; rfl
 ·right
  simp only [isDg, Bool.and_eq_true, decide_eq_true_eq] at h
  exact h
theorem bk_nul {deep : Nat} : Bk JV.nul deep JV.tNull := by
 refine ⟨⟨110, _, rfl, by decide, by decide, by decide⟩, fun s k rest h _ => ⟨1, ?_⟩⟩
 have hw := ws_not (c := 110) h rfl
 rw [tkV]
 simp only
 rw [hw, if_pos (has_here h)]
 rfl
theorem bk_true {deep : Nat} : Bk (.mk 1 true 0 [] [] []) deep JV.tTrue := by
 refine ⟨⟨116, _, rfl, by decide, by decide, by decide⟩, fun s k rest h _ => ⟨1, ?_⟩⟩
 have hw := ws_not (c := 116) h rfl
 rw [tkV]
 simp only
 rw [hw, has_cons (c := 116) h (by decide), if_neg (by simp), if_pos (has_here h)]
 rfl
theorem bk_false {deep : Nat} : Bk (.mk 1 false 0 [] [] []) deep JV.tFalse := by
 refine ⟨⟨102, _, rfl, by decide, by decide, by decide⟩, fun s k rest h _ => ⟨1, ?_⟩⟩
 have hw := ws_not (c := 102) h rfl
 rw [tkV]
 simp only
 rw [hw, has_cons (c := 102) h (by decide), if_neg (by simp), has_cons (c := 102) h (by decide), if_neg (by simp), if_pos (has_here h)]
 rfl
theorem bk_num {deep : Nat} {n : Int} (h0 : -9007199254740991 ≤ n) (h1 : n ≤ 9007199254740991) : Bk (JV.numV n) deep (Lib.itoa n) := by
 obtain ⟨c, r, hc, hd⟩ := itoa_head n
 have hne := fun d hd' => dg_ne hd d hd'
 refine ⟨⟨c, r, hc, ?_, (hne 93 (by decide)).symm, (hne 125 (by decide)).symm⟩, fun s k rest h hr => ⟨1, ?_⟩⟩
 ·unfold isWs
  rw [beq_eq_false_iff_ne.2 (hne 32 (by decide)).symm, beq_eq_false_iff_ne.2 (hne 9 (by decide)).symm, beq_eq_false_iff_ne.2 (hne 10 (by decide)).symm, beq_eq_false_iff_ne.2 (hne 13 (by decide)).symm]
  rfl
 have hws : isWs c = false := by
  unfold isWs
  rw [beq_eq_false_iff_ne.2 (hne 32 (by decide)).symm, beq_eq_false_iff_ne.2 (hne 9 (by decide)).symm, beq_eq_false_iff_ne.2 (hne 10 (by decide)).symm, beq_eq_false_iff_ne.2 (hne 13 (by decide)).symm]
  rfl
 have hs : s.drop k = c :: (r ++ rest) := by rw [h, hc]; rfl
 rw [tkV]
 simp only
 rw [ws_not hs hws, has_cons hs (hne 110 (by decide)), has_cons hs (hne 116 (by decide)), has_cons hs (hne 102 (by decide)), has_cons hs (hne 34 (by decide)), has_cons hs (hne 91 (by decide)), has_cons hs (hne 123 (by decide))]
 simp only [Bool.false_eq_true, if_false, Bool.or_self]
 rw [numA_itoa h0 h1 h hr]
theorem putQ_head (t : Str) : putQ t = 34 :: (escs t ++ [34]) := rfl
theorem bk_txt {deep : Nat} {t : Str} (hv : validR t = true) : Bk (JV.txtV t) deep (putQ t) := by
 refine ⟨⟨34, _, putQ_head t, by decide, by decide, by decide⟩, fun s k rest h _ => ⟨1, ?_⟩⟩
 have hs : s.drop k = 34 :: (escs t ++ [34] ++ rest) := by rw [h, putQ_head]; rfl
 rw [tkV]
 simp only
 rw [ws_not hs rfl, has_cons hs (by decide), has_cons hs (by decide), has_cons hs (by decide)]
 simp only [Bool.false_eq_true, if_false]
 rw [if_pos (hasA_one.2 (drop_head hs).1), strT_put hv h]
theorem keyA_put {s t rest : Str} {k : Nat} {m : List (Str × JV)} (hv : validR t = true) (hn : look m t = none) (h : s.drop k = putQ t ++ 58 :: rest) : keyA s k m = .ok (t, k + (putQ t).length + 1) := by
 have hs : s.drop k = 34 :: (escs t ++ [34] ++ 58 :: rest) := by rw [h, putQ_head]; rfl
 have h2 : s.drop (k + (putQ t).length) = 58 :: rest := drop_app h
 unfold keyA
 rw [ws_not hs rfl, strT_put hv h]
 simp only
 rw [hn, if_neg (by simp), ws_not h2 rfl, if_pos (hasA_one.2 (drop_head h2).1)]
def BkL (l : List JV) (deep : Nat) (t : Str) : Prop := ∀ s k acc rest, s.drop k = t ++ 93 :: rest → ∃ f, tkL f s k (deep + 1) acc = some (.ok (JV.lst (acc ++ l), k + t.length + 1))
theorem bkL_one {x : JV} {deep : Nat} {t : Str} (h : Bk x (deep + 1) t) : BkL [x] deep t := fun s k acc rest hs => by
 obtain ⟨f, hf⟩ := h.2 s k _ hs (fun c hc => by simp at hc; subst hc; rfl)
 refine ⟨f + 1, ?_⟩
 have h2 : s.drop (k + t.length) = 93 :: rest := drop_app hs
 rw [tkL, hf]
 simp only
 rw [ws_not h2 rfl, if_pos (hasA_one.2 (drop_head h2).1)]
theorem bkL_more {x : JV} {l : List JV} {deep : Nat} {t t' : Str} (h : Bk x (deep + 1) t) (h' : BkL l deep t') : BkL (x :: l) deep (t ++ [44] ++ t') := fun s k acc rest hs => by
 have hs' : s.drop k = t ++ 44 :: (t' ++ 93 :: rest) := by rw [hs]; simp
 obtain ⟨f, hf⟩ := h.2 s k _ hs' (fun c hc => by simp at hc; subst hc; rfl)
 have h2 : s.drop (k + t.length) = 44 :: (t' ++ 93 :: rest) := drop_app hs'
 obtain ⟨g, hg⟩ := h' s (k + t.length + 1) (acc ++ [x]) rest (drop_head h2).2
 refine ⟨max f g + 1, ?_⟩
 rw [tkL, tkV_le hf (Nat.le_max_left f g)]
 simp only
 rw [ws_not h2 rfl, has_cons h2 (by decide), if_neg (by simp), if_pos (hasA_one.2 (drop_head h2).1), tkL_le hg (Nat.le_max_right f g)]
 simp only [List.append_assoc, List.singleton_append, List.length_append, List.length_cons, List.length_nil, Option.some.injEq, Except.ok.injEq, Prod.mk.injEq, true_and]
 omega
def BkM (m : List (Str × JV)) (deep : Nat) (t : Str) : Prop := ∀ s k m0 rest, s.drop k = t ++ 125 :: rest → (∀ p ∈ m0, ∀ q ∈ m, bl p.1 q.1 = true) → ascM m0 → ∃ f, tkM f s k (deep + 1) m0 = some (.ok (JV.obj (m0 ++ m), k + t.length + 1))
theorem put_end {m0 : List (Str × JV)} {t : Str} {x : JV} (h : ∀ p ∈ m0, bl p.1 t = true) : putM m0 t x = m0 ++ [(t, x)] ∧ look m0 t = none := by
 constructor
 ·unfold putM
  rw [List.filter_eq_self.2 h, List.filter_eq_nil_iff.2 (fun p hp e => by
   have h1 := h p hp
   have := bl_trans h1 e
   rw [bl_irrefl] at this
   cases this)]
  simp
 ·refine look_none_of fun j y hy e => ?_
  have := h y (List.mem_of_getElem? hy)
  rw [e, bl_irrefl] at this
  cases this
theorem asc_end {m0 : List (Str × JV)} {t : Str} {x : JV} (ha : ascM m0) (h : ∀ p ∈ m0, bl p.1 t = true) : ascM (m0 ++ [(t, x)]) := by
 rw [← (put_end (x := x) h).1]
 exact ascM_put ha
theorem bkM_one {x : Str × JV} {deep : Nat} {t : Str} (hv : validR x.1 = true) (h : Bk x.2 (deep + 1) t) : BkM [x] deep (putQ x.1 ++ [58] ++ t) := fun s k m0 rest hs hm ha => by
 have hs' : s.drop k = putQ x.1 ++ 58 :: (t ++ 125 :: rest) := by rw [hs]; simp
 obtain ⟨hp, hl⟩ := put_end (x := x.2) (fun p hp => hm p hp x (by simp))
 have h3 : s.drop (k + (putQ x.1).length + 1) = t ++ 125 :: rest := (drop_head (drop_app hs')).2
 obtain ⟨f, hf⟩ := h.2 s _ _ h3 (fun c hc => by simp at hc; subst hc; rfl)
 have h2 : s.drop (k + (putQ x.1).length + 1 + t.length) = 125 :: rest := drop_app h3
 refine ⟨f + 1, ?_⟩
 rw [tkM, keyA_put hv hl hs']
 simp only
 rw [hf]
 simp only
 rw [ws_not h2 rfl, if_pos (hasA_one.2 (drop_head h2).1), hp]
 simp only [List.length_append, List.length_cons, List.length_nil, Option.some.injEq, Except.ok.injEq, Prod.mk.injEq, true_and]
 omega
theorem bkM_more {x : Str × JV} {m : List (Str × JV)} {deep : Nat} {t t' : Str} (hv : validR x.1 = true) (hx : ∀ q ∈ m, bl x.1 q.1 = true) (h : Bk x.2 (deep + 1) t) (h' : BkM m deep t') : BkM (x :: m) deep (putQ x.1 ++ [58] ++ t ++ [44] ++ t') := fun s k m0 rest hs hm ha => by
 have hs' : s.drop k = putQ x.1 ++ 58 :: (t ++ 44 :: (t' ++ 125 :: rest)) := by rw [hs]; simp
 have hmx : ∀ p ∈ m0, bl p.1 x.1 = true := fun p hp => hm p hp x (by simp)
 obtain ⟨hp, hl⟩ := put_end (x := x.2) hmx
 have h3 : s.drop (k + (putQ x.1).length + 1) = t ++ 44 :: (t' ++ 125 :: rest) := (drop_head (drop_app hs')).2
 obtain ⟨f, hf⟩ := h.2 s _ _ h3 (fun c hc => by simp at hc; subst hc; rfl)
 have h2 : s.drop (k + (putQ x.1).length + 1 + t.length) = 44 :: (t' ++ 125 :: rest) := drop_app h3
 obtain ⟨g, hg⟩ := h' s (k + (putQ x.1).length + 1 + t.length + 1) (m0 ++ [(x.1, x.2)]) rest (drop_head h2).2 (fun p hp q hq => by
  rcases List.mem_append.1 hp with hp | hp
  ·exact hm p hp q (by simp [hq])
  ·simp only [List.mem_singleton] at hp
   subst hp
   exact hx q hq) (asc_end ha hmx)
 refine ⟨max f g + 1, ?_⟩
 rw [tkM, keyA_put hv hl hs']
 simp only
 rw [tkV_le hf (Nat.le_max_left f g)]
 simp only
 rw [ws_not h2 rfl, has_cons h2 (by decide), if_neg (by simp), if_pos (hasA_one.2 (drop_head h2).1), hp, tkM_le hg (Nat.le_max_right f g)]
 simp only [List.append_assoc, List.singleton_append, List.length_append, List.length_cons, List.length_nil, Option.some.injEq, Except.ok.injEq, Prod.mk.injEq, true_and, List.cons_append, List.nil_append]
 omega
theorem bk_lst0 {deep : Nat} (hd : deep ≠ 32) : Bk (JV.lst []) deep [91, 93] := by
 refine ⟨⟨91, _, rfl, by decide, by decide, by decide⟩, fun s k rest h _ => ⟨1, ?_⟩⟩
 have hs : s.drop k = 91 :: (93 :: rest) := h
 have h2 := (drop_head hs).2
 rw [tkV]
 simp only
 rw [ws_not hs rfl, has_cons hs (by decide), has_cons hs (by decide), has_cons hs (by decide), has_cons hs (by decide)]
 simp only [Bool.false_eq_true, if_false]
 rw [hasA_one.2 (drop_head hs).1, Bool.true_or, if_pos rfl, if_neg hd, if_pos rfl, ws_not h2 rfl, if_pos (hasA_one.2 (drop_head h2).1)]
 rfl
theorem bk_obj0 {deep : Nat} (hd : deep ≠ 32) : Bk (JV.obj []) deep [123, 125] := by
 refine ⟨⟨123, _, rfl, by decide, by decide, by decide⟩, fun s k rest h _ => ⟨1, ?_⟩⟩
 have hs : s.drop k = 123 :: (125 :: rest) := h
 have h2 := (drop_head hs).2
 rw [tkV]
 simp only
 rw [ws_not hs rfl, has_cons hs (by decide), has_cons hs (by decide), has_cons hs (by decide), has_cons hs (by decide), has_cons (d := 91) hs (by decide)]
 simp only [Bool.false_eq_true, if_false]
 rw [hasA_one.2 (drop_head hs).1, Bool.or_true, if_pos rfl, if_neg hd, ws_not h2 rfl, if_pos (hasA_one.2 (drop_head h2).1)]
 rfl
theorem bk_lst {l : List JV} {deep : Nat} {c : UInt8} {r : Str} (hd : deep ≠ 32) (hc : vch c) (h : BkL l deep (c :: r)) : Bk (JV.lst l) deep (91 :: ((c :: r) ++ [93])) := by
 refine ⟨⟨91, _, rfl, by decide, by decide, by decide⟩, fun s k rest hs _ => ?_⟩
 have hs' : s.drop k = 91 :: ((c :: r) ++ 93 :: rest) := by rw [hs]; simp
 have h2 := (drop_head hs').2
 obtain ⟨f, hf⟩ := h s (k + 1) [] rest h2
 refine ⟨f + 1, ?_⟩
 have h2' : s.drop (k + 1) = c :: (r ++ 93 :: rest) := h2
 rw [tkV]
 simp only
 rw [ws_not hs' rfl, has_cons hs' (by decide), has_cons hs' (by decide), has_cons hs' (by decide), has_cons hs' (by decide)]
 simp only [Bool.false_eq_true, if_false]
 rw [hasA_one.2 (drop_head hs').1, Bool.true_or, if_pos rfl, if_neg hd, if_pos rfl, ws_not h2' hc.1, has_cons h2' hc.2.1.symm, if_neg (by simp), hf]
 simp only [List.nil_append, List.length_append, List.length_cons, List.length_nil, Option.some.injEq, Except.ok.injEq, Prod.mk.injEq, true_and]
 omega
theorem bk_obj {m : List (Str × JV)} {deep : Nat} {c : UInt8} {r : Str} (hd : deep ≠ 32) (hc : vch c) (h : BkM m deep (c :: r)) : Bk (JV.obj m) deep (123 :: ((c :: r) ++ [125])) := by
 refine ⟨⟨123, _, rfl, by decide, by decide, by decide⟩, fun s k rest hs _ => ?_⟩
 have hs' : s.drop k = 123 :: ((c :: r) ++ 125 :: rest) := by rw [hs]; simp
 have h2 := (drop_head hs').2
 obtain ⟨f, hf⟩ := h s (k + 1) [] rest h2 (by simp) List.Pairwise.nil
 refine ⟨f + 1, ?_⟩
 have h2' : s.drop (k + 1) = c :: (r ++ 125 :: rest) := h2
 rw [tkV]
 simp only
 rw [ws_not hs' rfl, has_cons hs' (by decide), has_cons hs' (by decide), has_cons hs' (by decide), has_cons hs' (by decide), has_cons (d := 91) hs' (by decide)]
 simp only [Bool.false_eq_true, if_false]
 rw [hasA_one.2 (drop_head hs').1, Bool.or_true, if_pos rfl, if_neg hd, ws_not h2' hc.1, has_cons h2' hc.2.2.symm, if_neg (by simp), hf]
 simp only [List.nil_append, List.length_append, List.length_cons, List.length_nil, Option.some.injEq, Except.ok.injEq, Prod.mk.injEq, true_and]
 omega
theorem txtW_valid {b s b' : Str} (h : txtW b s = .ok b') : validR s = true ∧ b' = b ++ putQ s := by
 unfold txtW at h
 split at h
 ·cases h
 ·split at h
  ·rename_i hv
   exact ⟨hv, (lng_ok h).1⟩
  ·cases h
theorem txt_valid {s : Str} (h : ∀ c : Str, (c ++ putQ s).length ≤ 65536 → txtW c s = .ok (c ++ putQ s)) (hl : (putQ s).length ≤ 65536) : validR s = true := (txtW_valid (h [] (by simpa using hl))).1
namespace JV
theorem list_nil {v : JV} (h : v.list.length = 0) : v.list = [] := List.eq_nil_of_length_eq_zero h
theorem map_nil {v : JV} (h : v.map.length = 0) : v.map = [] := List.eq_nil_of_length_eq_zero h
theorem bare_parts {v : JV} (h : v.bare = true) : (v.kind = 1 ∨ v.is = false) ∧ (v.kind = 2 ∨ v.num = 0) ∧ (v.kind = 3 ∨ v.str = []) ∧ (v.kind = 4 ∨ v.list = []) ∧ (v.kind = 5 ∨ v.map = []) := by
 unfold bare at h
 simp only [Bool.and_eq_true, Bool.or_eq_true, decide_eq_true_eq, Bool.not_eq_true', decide_eq_false_iff_not] at h
 obtain ⟨⟨⟨⟨⟨⟨h0, h1⟩, h2⟩, h3⟩, h4⟩, h5⟩, h6⟩ := h
 exact ⟨h1, h2, h3, h4.imp id list_nil, h5.imp id map_nil⟩
theorem mk_eq {v : JV} {k n : Int} {i : Bool} {s : Str} {l : List JV} {m : List (Str × JV)} (h1 : v.kind = k) (h2 : v.is = i) (h3 : v.num = n) (h4 : v.str = s) (h5 : v.list = l) (h6 : v.map = m) : v = .mk k i n s l m := by
 rw [eta v, h1, h2, h3, h4, h5, h6]
end JV
end Go.Proofs.YtknndpjacklkeaaGreatDoor.V

set_option linter.unusedVariables false
set_option linter.unusedSimpArgs false
namespace Go.Proofs.YtknndpjacklkeaaGreatDoor.V
open Go
theorem lng_eq {b t b' : Str} (h : lng (b ++ t) = .ok b') : b' = b ++ t := (lng_ok h).1
theorem bkl_all {N : Nat} (ih : ∀ (v : JV) (deep : Nat) (b b' : Str), v.sz ≤ N → JV.wr v deep b = .ok b' → ∃ t, b' = b ++ t ∧ Bk v deep t) :
  ∀ (x : JV) (l : List JV) (deep : Nat) (fst : Bool) (b b' : Str), (∀ y ∈ x :: l, y.sz ≤ N) → JV.wrl (x :: l) deep fst b = .ok b' → ∃ t, b' = b ++ (if fst then [] else [44]) ++ t ∧ (∃ c r, t = c :: r ∧ vch c) ∧ BkL (x :: l) deep t
 | x, l, deep, fst, b, b', hN, h => by
  rw [JV.wrl_step'] at h
  obtain ⟨b1, h1, h⟩ := bind_ok h
  obtain ⟨b2, h2, h⟩ := bind_ok h
  obtain ⟨t, rfl, hb⟩ := ih _ _ _ _ (hN x (by simp)) h2
  have e1 : b1 = b ++ (if fst then [] else [44]) := by
   cases fst with
   | true => injection h1 with h1; subst h1; simp
   | false => exact lng_eq h1
  subst e1
  cases l with
  | nil =>
   rw [JV.wrl] at h
   injection h with h
   exact ⟨t, h.symm, hb.1, bkL_one hb⟩
  | cons y l =>
   obtain ⟨t', rfl, _, hb'⟩ := bkl_all ih y l deep false _ _ (fun z hz => hN z (by simp [List.mem_cons.1 hz])) h
   refine ⟨t ++ [44] ++ t', by simp, ?_, bkL_more hb hb'⟩
   obtain ⟨c, r, rfl, hc⟩ := hb.1
   exact ⟨c, _, rfl, hc⟩
theorem bkm_all {N : Nat} (ih : ∀ (v : JV) (deep : Nat) (b b' : Str), v.sz ≤ N → JV.wr v deep b = .ok b' → ∃ t, b' = b ++ t ∧ Bk v deep t) :
  ∀ (x : Str × JV) (m : List (Str × JV)) (deep : Nat) (prev : Option Str) (b b' : Str), b'.length ≤ 65536 → (∀ y ∈ x :: m, y.2.sz ≤ N) → JV.wrm (x :: m) deep prev b = .ok b' → ∃ t, b' = b ++ JV.comma prev ++ t ∧ (∃ c r, t = c :: r ∧ vch c) ∧ BkM (x :: m) deep t
 | x, m, deep, prev, b, b', hl, hN, h => by
  obtain ⟨_, b2, h2, h3, ht, hq⟩ := JV.mem_ok h
  have hv : validR x.1 = true := txt_valid ht (by simp only [List.length_append] at hq ⊢; omega)
  obtain ⟨t, rfl, hb⟩ := ih _ _ _ _ (hN x (by simp)) h2
  cases m with
  | nil =>
   rw [JV.wrm] at h3
   injection h3 with h3
   exact ⟨putQ x.1 ++ [58] ++ t, by rw [← h3]; simp, ⟨34, _, rfl, by decide, by decide, by decide⟩, bkM_one hv hb⟩
  | cons y m =>
   have hx := (JV.wrm_asc _ _ _ _ _ h3).2 x.1 rfl
   obtain ⟨t', rfl, _, hb'⟩ := bkm_all ih y m deep (some x.1) _ _ hl (fun z hz => hN z (by simp [List.mem_cons.1 hz])) h3
   exact ⟨putQ x.1 ++ [58] ++ t ++ [44] ++ t', by simp [JV.comma], ⟨34, _, rfl, by decide, by decide, by decide⟩, bkM_more hv hx hb hb'⟩
theorem back_all : ∀ (N : Nat) (v : JV) (deep : Nat) (b b' : Str), v.sz ≤ N → JV.wr v deep b = .ok b' → ∃ t, b' = b ++ t ∧ Bk v deep t
 | 0, v, _, _, _, h, _ => absurd (JV.sz_eq v) (by omega)
 | N + 1, v, deep, b, b', hN, h => by
  have ih := back_all N
  have hlen : b'.length ≤ 65536 := (JV.fit h).elim fun t ht => ht.2.1
  rw [JV.wr_eq] at h
  split at h
  ·cases h
  rename_i hb
  have hb : v.bare = true := by simpa using hb
  have hn2 := @JV.bare_kind v hb
  obtain ⟨p1, p2, p3, p4, p5⟩ := JV.bare_parts hb
  split at h
  ·rename_i k0
   obtain rfl : v = JV.nul := JV.mk_eq k0 (p1.resolve_left (by omega)) (p2.resolve_left (by omega)) (p3.resolve_left (by omega)) (p4.resolve_left (by omega)) (p5.resolve_left (by omega))
   exact ⟨_, lng_eq h, bk_nul⟩
  rename_i k0
  split at h
  ·rename_i k1
   cases hi : v.is with
   | true =>
    obtain rfl : v = .mk 1 true 0 [] [] [] := JV.mk_eq k1 hi (p2.resolve_left (by omega)) (p3.resolve_left (by omega)) (p4.resolve_left (by omega)) (p5.resolve_left (by omega))
    exact ⟨_, lng_eq h, bk_true⟩
   | false =>
    obtain rfl : v = .mk 1 false 0 [] [] [] := JV.mk_eq k1 hi (p2.resolve_left (by omega)) (p3.resolve_left (by omega)) (p4.resolve_left (by omega)) (p5.resolve_left (by omega))
    exact ⟨_, lng_eq h, bk_false⟩
  rename_i k1
  split at h
  ·rename_i k2
   obtain ⟨n0, n1⟩ := bare_num hb k2
   have hv : v = JV.numV v.num := JV.mk_eq k2 (p1.resolve_left (by omega)) rfl (p3.resolve_left (by omega)) (p4.resolve_left (by omega)) (p5.resolve_left (by omega))
   rw [hv]
   exact ⟨_, lng_eq h, bk_num n0 n1⟩
  rename_i k2
  split at h
  ·rename_i k3
   have hv : v = JV.txtV v.str := JV.mk_eq k3 (p1.resolve_left (by omega)) (p2.resolve_left (by omega)) rfl (p4.resolve_left (by omega)) (p5.resolve_left (by omega))
   obtain ⟨h1, h2⟩ := txtW_valid h
   rw [hv]
   exact ⟨_, h2, bk_txt h1⟩
  rename_i k3
  split at h
  ·cases h
  rename_i hd
  split at h
  ·rename_i k4
   have hv : v = JV.lst v.list := JV.mk_eq k4 (p1.resolve_left (by omega)) (p2.resolve_left (by omega)) (p3.resolve_left (by omega)) rfl (p5.resolve_left (by omega))
   obtain ⟨b1, h1, h3⟩ := bind_ok h
   obtain ⟨b2, h2, h4⟩ := bind_ok h3
   have e1 := lng_eq h1
   have e4 := lng_eq h4
   clear h3 h4 h1 h
   subst e1
   subst e4
   have hsz : ∀ y ∈ v.list, y.sz ≤ N := fun y hy => by have := JV.sz_in_list hy; omega
   rw [hv]
   cases hl : v.list with
   | nil =>
    rw [hl, JV.wrl] at h2
    injection h2 with h2
    subst h2
    exact ⟨[91, 93], by simp, bk_lst0 hd⟩
   | cons x l =>
    rw [hl] at h2 hsz
    obtain ⟨t, rfl, ⟨c, r, rfl, hc⟩, hB⟩ := bkl_all ih x l deep true _ _ hsz h2
    exact ⟨91 :: ((c :: r) ++ [93]), by simp, bk_lst hd hc hB⟩
  ·rename_i k4
   have k5 : v.kind = 5 := by omega
   have hv : v = JV.obj v.map := JV.mk_eq k5 (p1.resolve_left (by omega)) (p2.resolve_left (by omega)) (p3.resolve_left (by omega)) (p4.resolve_left (by omega)) rfl
   obtain ⟨b1, h1, h3⟩ := bind_ok h
   obtain ⟨b2, h2, h4⟩ := bind_ok h3
   have e1 := lng_eq h1
   have e4 := lng_eq h4
   clear h3 h4 h1 h
   subst e1
   subst e4
   have hsz : ∀ y ∈ v.map, y.2.sz ≤ N := fun y hy => by have := JV.sz_in_map hy; omega
   rw [hv]
   cases hl : v.map with
   | nil =>
    rw [hl, JV.wrm] at h2
    injection h2 with h2
    subst h2
    exact ⟨[123, 125], by simp, bk_obj0 hd⟩
   | cons x m =>
    rw [hl] at h2 hsz
    obtain ⟨t, rfl, ⟨c, r, rfl, hc⟩, hB⟩ := bkm_all ih x m deep none _ _ (by simp only [List.length_append] at hlen ⊢; omega) hsz h2
    exact ⟨123 :: ((c :: r) ++ [125]), by simp [JV.comma], bk_obj hd hc hB⟩
theorem rdA_of {s : Str} {f : Nat} {r : PR} (h : tkV f s 0 0 = some r) : rdA s = r := tkV_det (rdA_eq s) h
theorem parse_wr {v : JV} {t : Str} (h : v.wr 0 [] = .ok t) : parse t = .ok v := by
 obtain ⟨t', e, hB⟩ := back_all v.sz v 0 [] t (Nat.le_refl _) h
 rw [List.nil_append] at e
 subst e
 have hlen : t.length ≤ 65536 := (JV.fit h).elim fun t ht => ht.2.1
 obtain ⟨f, hf⟩ := hB.2 t 0 [] (by simp) (fun c hc => by simp at hc)
 unfold parse
 rw [if_neg (by omega), rdA_of hf]
 simp only
 rw [spanA_end (by omega), if_neg (by omega)]
end Go.Proofs.YtknndpjacklkeaaGreatDoor.V

set_option linter.unusedVariables false
set_option linter.unusedSimpArgs false
set_option maxRecDepth 10000
namespace Go.Proofs.YtknndpjacklkeaaGreatDoor.V
open Go Go.Proofs
end Go.Proofs.YtknndpjacklkeaaGreatDoor.V

set_option linter.unusedVariables false
set_option maxRecDepth 100000
namespace Go.Proofs.YtknndpjacklkeaaGreatDoor.V
open Go Go.Proofs Go.Lib
theorem laid_first : Go.Pinned.utf8First = Lib.firstData := by kernel_rfl
theorem laid_acc : (Go.Proofs.YtknndpjacklkeaaGreatDoor.Rows.laid_unicode_utf8_acceptRanges : DataW Unit) = Lib.acceptData := by kernel_rfl
theorem utOf {W : World} (h3 : VarReads Tryz.prog W "unicode/utf8.first" Lib.firstData) (h4 : VarReads Tryz.prog W "unicode/utf8.acceptRanges" Lib.acceptData) : UtT W :=
 utf8Tabs_of_reads (P := Tryz.prog) (ρ := Tryz.lays197_ren) { Tryz.lays197 with } ⟨by kernel_rfl, by kernel_rfl, by kernel_rfl, by kernel_rfl, by kernel_rfl, by kernel_rfl, by kernel_rfl⟩ h3 h4
theorem laid_tl {P : Program} {n1 : String} {d1 : DataW Unit} {rest : List (String × DataW Unit)} {W : World} (h : laidMet P ((n1, d1) :: rest) W) : laidMet P rest W := by
 obtain ⟨ps, ⟨g, t, cs, fuel, p, q, _, _, _, _, hq, rfl⟩, hn, hc⟩ := h
 exact ⟨q, hq, (List.nodup_append.1 hn).2.1, fun b off hb => hc b off (List.mem_append_right _ hb)⟩
theorem errOf {W : World} {n nm : String} {d : DataW Unit} {g t : Nat} {ms : Array (String × TypeId)} (h : VarReads Tryz.prog W n (.iface nm d)) (hg : Tryz.prog.globalNamed n = some g) (hy : (Tryz.prog.globals[g]?).map (·.type) = some t) (ht : Tryz.prog.underlying t = some (.interface ms)) : ∃ u v, W.cell? ⟨g, 0, none⟩ = some (.iface u v) := by
 obtain ⟨g', t', cs, fuel, p, h1, h2, h3, h4⟩ := h
 rw [hg] at h1
 injection h1 with h1
 subst h1
 rw [hy] at h2
 injection h2 with h2
 subst h2
 have hcs : ∃ u v, cs.toList = [.iface u v] := by
  cases fuel with
  | zero => simp [DataW.trod] at h4
  | succ fuel =>
   unfold DataW.trod at h4
   simp only [ht] at h4
   split at h4 <;> first | (exact ⟨_, _, by assumption⟩) | (simp at h4; done) | (rename_i e1 e2; exact ⟨_, _, e2⟩) | simp_all
 obtain ⟨u, v, hcs⟩ := hcs
 refine ⟨u, v, ?_⟩
 unfold World.var? at h3
 rw [hg] at h3
 simp only [Option.bind_some] at h3
 unfold World.cell?
 split at h3
 ·rename_i c t f hh
  injection h3 with h3
  subst h3
  rw [hh]
  have : c = #[.iface u v] := by rw [← Array.toList_inj]; exact hcs
  subst this
  rfl
 ·cases h3
theorem envOf {W : World} (h : laidMet Tryz.prog Go.Proofs.YtknndpjacklkeaaGreatDoor.Rows.jsonTellsRow.laid W) : Env W := by
 have hU : UtT W := utOf (laid_first ▸ laidMet.reads h (.tail _ (.tail _ (.tail _ (.tail _ (.tail _ (.tail _ (.head _)))))))) (laid_acc ▸ laidMet.reads h (.tail _ (.tail _ (.tail _ (.head _)))))
 have hR := errOf (g := 3) (laidMet.reads h (.tail _ (.tail _ (.tail _ (.tail _ (.head _)))))) (by kernel_rfl) (by kernel_rfl) ifn168
 have hS := errOf (g := 2) (laidMet.reads h (.tail _ (.tail _ (.tail _ (.tail _ (.tail _ (.head _))))))) (by kernel_rfl) (by kernel_rfl) ifn168
 obtain ⟨u1, v1, h1⟩ := hR
 obtain ⟨u2, v2, h2⟩ := hS
 refine ⟨?_, hU, ⟨⟨_, h2, .inr ⟨_, _, rfl⟩⟩, ⟨_, h1, .inr ⟨_, _, rfl⟩⟩⟩, ?_⟩
 ·exact Lib.tabIs_of_head (rest := _) gPow (by kernel_rfl) Tryz.underlying245 Tryz.underlying182 (by kernel_rfl) (by kernel_rfl) (laid_tl (laid_tl h))
 ·have h0 := (hU.2 0 (by decide)).1
  rcases Nat.lt_or_ge 6 W.heap.size with hl | hl
  ·exact hl
  ·unfold World.cell? at h0
   rw [Array.getElem?_eq_none hl] at h0
   cases h0
end Go.Proofs.YtknndpjacklkeaaGreatDoor.V

set_option linter.unusedVariables false
set_option linter.unusedSimpArgs false
set_option maxRecDepth 10000
namespace Go.Proofs.YtknndpjacklkeaaGreatDoor.V
open Go Go.Proofs

section
variable {H : Type} {enc : TypeId × Value → H} {w : World}
end
end Go.Proofs.YtknndpjacklkeaaGreatDoor.V

set_option linter.unusedVariables false
set_option linter.unusedSimpArgs false
namespace Go.Proofs.YtknndpjacklkeaaGreatDoor.V
open Go
end Go.Proofs.YtknndpjacklkeaaGreatDoor.V

set_option linter.unusedVariables false
set_option linter.unusedSimpArgs false
namespace Go.Proofs.YtknndpjacklkeaaGreatDoor.V
open Go
theorem bare_numV {n : Int} (h0 : -9007199254740991 ≤ n) (h1 : n ≤ 9007199254740991) : (JV.numV n).bare = true := by
 simp [JV.bare, JV.numV, JV.kind, JV.is, JV.num, JV.str, JV.list, JV.map]
 exact decide_eq_true ⟨h0, h1⟩
theorem bare_lst {l : List JV} : (JV.lst l).bare = true := by
 simp [JV.bare, JV.lst, JV.kind, JV.is, JV.num, JV.str, JV.list, JV.map]
end Go.Proofs.YtknndpjacklkeaaGreatDoor.V

set_option linter.unusedVariables false
set_option linter.unusedSimpArgs false
set_option maxRecDepth 10000
namespace Go.Proofs.YtknndpjacklkeaaGreatDoor.V
open Go Go.Proofs

end Go.Proofs.YtknndpjacklkeaaGreatDoor.V

set_option linter.unusedVariables false
set_option linter.unusedSimpArgs false
namespace Go.Proofs.YtknndpjacklkeaaGreatDoor.V
open Go
theorem hasA_hd {s r : Str} {k : Nat} {c : UInt8} (h : hasA s k (c :: r) = true) : s[k]? = some c := by
 have := congrArg (fun l : Str => l[0]?) (hasA_iff.1 h)
 simpa [List.getElem?_take, List.getElem?_drop] using this
theorem wordA_no {s : Str} {k : Nat} {c : UInt8} (hc : s[k]? = some c) (h1 : c ≠ 110) (h2 : c ≠ 116) (h3 : c ≠ 102) : wordA s k = none := by
 have no : ∀ d r, d ≠ c → ¬ hasA s k (d :: r) = true := fun d r hd h => by
  rw [hasA_hd h] at hc
  injection hc with hc
  exact hd hc
 unfold wordA
 rw [if_neg (no _ _ h1.symm), if_neg (no _ _ h2.symm), if_neg (no _ _ h3.symm)]
theorem dg_no {c : UInt8} (h : c = 45 ∨ isDg c = true) {d : UInt8} (hd : d ≠ 45) (hd2 : isDg d = false) : c ≠ d := fun e => by
 subst e
 rcases h with h | h
 ·exact hd h
 ·rw [hd2] at h; cases h
theorem beg_num {s : Str} {k : Nat} {c : UInt8} (hk : spanA isWs s 0 = k) (hc : s[k]? = some c) (hd : c = 45 ∨ isDg c = true) : begA s 0 0 = match numA s k with | .error e => .error e | .ok x => .ok (.inl x) := by
 rw [beg_rest (by rw [hk]; exact wordA_no hc (dg_no hd (by decide) rfl) (dg_no hd (by decide) rfl) (dg_no hd (by decide) rfl)), hk, begR_num hc (dg_no hd (by decide) rfl) (dg_no hd (by decide) rfl) (dg_no hd (by decide) rfl)]
 cases numA s k <;> rfl
theorem parse_ok1 {s : Str} {v : JV} {k : Nat} (h : begA s 0 0 = .ok (.inl (v, k))) (hl : s.length ≤ 65536) (hk : s.length ≤ spanA isWs s k) : parse s = .ok v := by
 unfold parse
 rw [if_neg (by omega), run_done (run_whole (run_all s) h)]
 simp only
 rw [if_neg (by omega)]
theorem parse_no1 {s : Str} {e : Int} (h : begA s 0 0 = .error e) (hl : s.length ≤ 65536) : parse s = .error e := by
 unfold parse
 rw [if_neg (by omega), run_err (run_all s) h]
theorem ws_no {c : UInt8} (h : c = 45 ∨ isDg c = true) : isWs c = false := by
 unfold isWs
 rw [beq_eq_false_iff_ne.2 (dg_no h (by decide) rfl), beq_eq_false_iff_ne.2 (dg_no h (by decide) rfl), beq_eq_false_iff_ne.2 (dg_no h (by decide) rfl), beq_eq_false_iff_ne.2 (dg_no h (by decide) rfl)]
 rfl
section
variable {n : Int} (h0 : -9007199254740991 ≤ n) (h1 : n ≤ 9007199254740991)
include h0 h1
theorem itoa_le : (Lib.itoa n).length ≤ 40 := by
 have dl : ∀ k u : Nat, u < 10 ^ (k + 1) → (Lib.decDigits u).length ≤ k + 1 := by
  intro k
  induction k with
  | zero =>
   intro u hu
   rw [Lib.decDigits, dif_pos (by simpa using hu)]
   simp
  | succ k ih =>
   intro u hu
   rw [Lib.decDigits]
   split
   ·simp
   ·have := ih (u / 10) (by rw [Nat.pow_succ] at hu; omega)
    rw [List.length_append, List.length_singleton]
    omega
 unfold Lib.itoa
 split
 ·have := dl 20 n.natAbs (by omega)
  rw [List.length_cons]
  omega
 ·have := dl 20 n.toNat (by omega)
  omega
theorem parse_sp : parse (32 :: (Lib.itoa n ++ [32])) = .ok (JV.numV n) := by
 have hl := itoa_le h0 h1
 obtain ⟨c, r, hc, hd⟩ := itoa_head n
 have e0 : (32 :: (Lib.itoa n ++ [32]))[1]? = some c := by rw [hc]; rfl
 have hk : spanA isWs (32 :: (Lib.itoa n ++ [32])) 0 = 1 := by
  rw [← spanA_go (c := 32) rfl rfl]
  exact spanA_stop e0 (ws_no hd)
 have hn := numA_itoa (s := 32 :: (Lib.itoa n ++ [32])) (r := [32]) (k := 1) h0 h1 rfl (fun c h => by simp at h; subst h; rfl)
 have hlen : (32 :: (Lib.itoa n ++ [32])).length = (Lib.itoa n).length + 2 := by simp
 refine parse_ok1 (k := 1 + (Lib.itoa n).length) (by rw [beg_num hk e0 hd, hn]) (by omega) ?_
 have := spanA_go (p := isWs) (s := 32 :: (Lib.itoa n ++ [32])) (k := 1 + (Lib.itoa n).length) (c := 32) (by rw [Nat.add_comm, List.getElem?_cons_succ, List.getElem?_append_right (Nat.le_refl _)]; simp) rfl
 rw [← this, spanA_end (by omega)]
 omega
omit h0 h1 in
theorem itoa_parts : ∃ a, (if hasA (Lib.itoa n) 0 [45] then 1 else 0) = a ∧ a < (Lib.itoa n).length ∧ (∀ c ∈ (Lib.itoa n).drop a, isDg c = true) ∧ ¬ ((Lib.itoa n).length = a ∨ (a + 1 < (Lib.itoa n).length ∧ (Lib.itoa n)[a]? = some 48)) := by
 obtain ⟨a, u, hw, ha, hal⟩ : ∃ (a u : Nat), (Lib.itoa n).drop a = Lib.decDigits u ∧ (if hasA (Lib.itoa n) 0 [45] then 1 else 0) = a ∧ a ≤ (Lib.itoa n).length := by
  unfold Lib.itoa
  split
  ·exact ⟨1, n.natAbs, rfl, by rw [if_pos (by rfl)], by simp⟩
  ·refine ⟨0, n.toNat, by simp, ?_, by simp⟩
   rw [if_neg]
   rw [hasA_one]
   intro h
   have := dec_dig n.toNat 45 (List.mem_of_getElem? h)
   revert this
   decide
 have hne := dec_ne u
 have hpos : 0 < (Lib.decDigits u).length := List.length_pos_iff.2 hne
 have hlen : (Lib.itoa n).length = a + (Lib.decDigits u).length := by
  have := congrArg List.length hw
  rw [List.length_drop] at this
  omega
 refine ⟨a, ha, by omega, fun c hc => dec_dig u c (by rw [← hw]; exact hc), ?_⟩
 rintro (h | ⟨h2, h3⟩)
 ·omega
 ·have hu : 10 ≤ u := by
   rcases Nat.lt_or_ge u 10 with hu | hu
   ·have := dec_one u hu
    omega
   ·exact hu
  have := dec_head u hu
  rw [← hw, List.getElem?_drop] at this
  exact this (by simpa using h3)
theorem parse_pt : parse (Lib.itoa n ++ [46, 48]) = .error 7 := by
 have hl := itoa_le h0 h1
 obtain ⟨c, r, hc, hd⟩ := itoa_head n
 obtain ⟨a, ha, hal, hdg, hno⟩ := @itoa_parts n
 have hnm := @itoa_nm n
 generalize Lib.itoa n = t at *
 have e0 : (t ++ [46, 48])[0]? = some c := by rw [hc]; rfl
 have hlen : (t ++ [46, 48]).length = t.length + 2 := by simp
 have ha' : (if hasA (t ++ [46, 48]) 0 [45] then 1 else 0) = a := by
  rw [← ha, hasA_one', hasA_one', e0, show t[0]? = some c by rw [hc]; rfl]
 have he : spanA isDg (t ++ [46, 48]) a = t.length := by
  rw [spanA_app (l := t.drop a) (r := [46, 48]) (by rw [List.drop_append_of_le_length (by omega)]) hdg (fun c h => by simp at h; subst h; rfl), List.length_drop]
  omega
 have hm : hasA (t ++ [46, 48]) t.length [46] = true := by rw [hasA_one]; simp
 have hk : spanA isDg (t ++ [46, 48]) (t.length + 1) = t.length + 2 := by
  rw [spanA_app (l := [48]) (r := []) (by rw [← List.drop_drop, List.drop_left' rfl]; rfl) (by simp [isDg]) (by simp)]
  rfl
 have hW : wholeA (t ++ [46, 48]) = (true, true) := by
  unfold wholeA
  simp only
  rw [ha', he, if_neg (by
   rintro (h | ⟨h2, h3⟩)
   ·omega
   ·exact hno (.inr ⟨h2, by rw [List.getElem?_append_left hal] at h3; exact h3⟩)), hm, hk, if_neg (by omega), if_pos rfl, hasA_off (by omega) (by simp), hasA_off (by omega) (by simp)]
  simp
 have hnw : numW (t ++ [46, 48]) = .error 7 := by
  unfold numW
  rw [hW, if_neg (by simp), numZ_more (by rw [hW])]
 have hA : numA (t ++ [46, 48]) 0 = .error 7 := by
  unfold numA
  rw [spanA_app (l := t ++ [46, 48]) (r := []) (k := 0) (by simp) (fun c hc => by
   rcases List.mem_append.1 hc with hc | hc
   ·exact hnm c hc
   ·simp at hc; rcases hc with rfl | rfl <;> rfl) (by simp)]
  rw [Nat.zero_add, Nat.sub_zero, List.drop_zero, List.take_length, hnw]
  rfl
 exact parse_no1 (by rw [beg_num (spanA_stop e0 (ws_no hd)) e0 hd, hA]) (by omega)
theorem parse_nought : parse (48 :: Lib.itoa n) = .error 4 := by
 have hl := itoa_le h0 h1
 obtain ⟨c, r, hc, hd⟩ := itoa_head n
 obtain ⟨a, ha, hal, hdg, hno⟩ := @itoa_parts n
 have hnm := @itoa_nm n
 generalize Lib.itoa n = t at *
 have e0 : (48 :: t)[0]? = some 48 := rfl
 have hlen : (48 :: t).length = t.length + 1 := by simp
 have ha' : (if hasA (48 :: t) 0 [45] then 1 else 0) = 0 := by rw [hasA_one', e0]; rfl
 have hpos : 1 ≤ t.length := by omega
 have hW : (wholeA (48 :: t)).1 = false := by
  unfold wholeA
  simp only
  rw [ha']
  by_cases h45 : c = 45
  ·have e1 : (48 :: t)[1]? = some 45 := by rw [hc, h45]; rfl
   have he : spanA isDg (48 :: t) 0 = 1 := by
    rw [← spanA_go (c := 48) rfl rfl]
    exact spanA_stop e1 rfl
   have ht1 : t.length ≠ 0 := by omega
   rw [he, if_neg (by omega), hasA_one', e1]
   simp only [show ((some (45 : UInt8)) = some 46) = False by simp, decide_false, Bool.false_eq_true, false_and, if_false]
   rw [hasA_one', hasA_one', e1]
   show decide (1 = (48 :: t).length) = false
   exact decide_eq_false (by omega)
  ·have hda : isDg c = true := hd.resolve_left h45
   have ha0 : a = 0 := by
    rw [← ha, hasA_one', show t[0]? = some c by rw [hc]; rfl, if_neg]
    simp [h45]
   subst ha0
   rw [List.drop_zero] at hdg
   have he : spanA isDg (48 :: t) 0 = (48 :: t).length := by
    rw [spanA_app (l := 48 :: t) (r := []) (by simp) (fun d hd => by
     rcases List.mem_cons.1 hd with rfl | hd
     ·rfl
     ·exact hdg d hd) (by simp)]
    omega
   rw [he, if_pos (.inr ⟨by omega, rfl⟩)]
 have hA : numA (48 :: t) 0 = .error 4 := by
  unfold numA
  rw [spanA_app (l := 48 :: t) (r := []) (k := 0) (by simp) (fun d hd => by
   rcases List.mem_cons.1 hd with rfl | hd
   ·rfl
   ·exact hnm d hd) (by simp)]
  rw [Nat.zero_add, Nat.sub_zero, List.drop_zero, List.take_length]
  unfold numW
  rw [if_pos hW]
  rfl
 exact parse_no1 (by rw [beg_num (spanA_stop e0 rfl) e0 (.inr rfl), hA]) (by omega)
theorem wr_num (d : Nat) (b : Str) : (JV.numV n).wr d b = lng (b ++ Lib.itoa n) := by
 rw [JV.wr_eq, if_neg (by rw [bare_numV h0 h1]; simp), if_neg (by simp [JV.numV, JV.kind]), if_neg (by simp [JV.numV, JV.kind]), if_pos (by simp [JV.numV, JV.kind])]
 rfl
theorem wr_num0 : (JV.numV n).wr 0 [] = .ok (Lib.itoa n) := by
 have := itoa_le h0 h1
 rw [wr_num h0 h1, List.nil_append, lng_fit (by omega)]
theorem wr_list2 (t : Bool) : (JV.lst [.mk 1 t 0 [] [] [], JV.numV n]).wr 0 [] = .ok (91 :: (if t then JV.tTrue else JV.tFalse) ++ [44] ++ Lib.itoa n ++ [93]) := by
 have hl := itoa_le h0 h1
 rw [JV.wr_eq, if_neg (by rw [bare_lst]; simp), if_neg (by simp [JV.lst, JV.kind]), if_neg (by simp [JV.lst, JV.kind]), if_neg (by simp [JV.lst, JV.kind]), if_neg (by simp [JV.lst, JV.kind]), if_neg (by decide), if_pos (by simp [JV.lst, JV.kind])]
 show ((JV.wrl [.mk 1 t 0 [] [] [], JV.numV n] 0 true [91]).bind fun b => lng (b ++ [93])) = _
 have hb : (JV.mk 1 t 0 [] [] []).wr (0 + 1) [91] = .ok (91 :: (if t then JV.tTrue else JV.tFalse)) := by
  rw [JV.wr_eq, if_neg (by cases t <;> decide), if_neg (by cases t <;> decide), if_pos (by cases t <;> decide)]
  cases t <;> rfl
 have ht : (91 :: (if t then JV.tTrue else JV.tFalse)).length ≤ 6 := by cases t <;> decide
 rw [JV.wrl_step']
 show (((JV.mk 1 t 0 [] [] []).wr (0 + 1) [91]).bind fun b => JV.wrl [JV.numV n] 0 false b).bind _ = _
 rw [hb]
 generalize (91 :: (if t then JV.tTrue else JV.tFalse)) = p at ht
 show (JV.wrl [JV.numV n] 0 false p).bind _ = _
 rw [JV.wrl_step']
 show (((lng (p ++ [44])).bind fun b => ((JV.numV n).wr (0 + 1) b).bind fun b => JV.wrl [] 0 false b)).bind _ = _
 rw [lng_fit (by rw [List.length_append]; simp only [List.length_singleton]; omega)]
 show (((JV.numV n).wr (0 + 1) (p ++ [44])).bind fun b => JV.wrl [] 0 false b).bind _ = _
 rw [wr_num h0 h1, lng_fit (by simp only [List.length_append, List.length_singleton]; omega)]
 show (JV.wrl [] 0 false (p ++ [44] ++ Lib.itoa n)).bind _ = _
 rw [JV.wrl]
 show lng (p ++ [44] ++ Lib.itoa n ++ [93]) = _
 rw [lng_fit (by simp only [List.length_append, List.length_singleton]; omega)]
end
theorem wr_numB {n : Int} (h : n > 9007199254740991 ∨ n < -9007199254740991) : (JV.numV n).wr 0 [] = .error 1 := by
 have : (JV.numV n).bare = false := by
  simp [JV.bare, JV.numV, JV.kind, JV.is, JV.num, JV.str, JV.list, JV.map]
  exact decide_eq_false (by omega)
 rw [JV.wr_eq, if_pos this]
end Go.Proofs.YtknndpjacklkeaaGreatDoor.V
