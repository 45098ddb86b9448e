/-
  A part of the proof: a value's canonical text, read, is the value; a value with a canonical text is read from it as it is; what the row lays, as the reading asks for it; escapes and texts as the document reads them, step by step. No condition of its own.
-/
import Derived.Test.YtknndpjacklkeaaGreatDoorM15
import Derived.Test.YtknndpjacklkeaaGreatDoorM10
import Derived.Test.YtknndpjacklkeaaGreatDoorM5
import Derived.Test.YtknndpjacklkeaaGreatDoorM4
import Derived.Test.YtknndpjacklkeaaGreatDoorRows
import Derived.Lib.LaidTab
import Derived.Lib.LaidU8
import Derived.Test.YtknndpjacklkeaaGreatDoorM2
import Derived.Test.YtknndpjacklkeaaGreatDoorM9
set_option linter.unusedVariables false
set_option linter.unusedSimpArgs false
namespace Go.Proofs.YtknndpjacklkeaaGreatDoor.V
open Go
theorem tk_mono (s : Str) : ∀ f : Nat, (∀ k deep r, tkV f s k deep = some r → tkV (f + 1) s k deep = some r) ∧
  (∀ k deep acc r, tkL f s k deep acc = some r → tkL (f + 1) s k deep acc = some r) ∧
  (∀ k deep m r, tkM f s k deep m = some r → tkM (f + 1) s k deep m = some r)
 | 0 => ⟨fun _ _ _ h => by simp [tkV] at h, fun _ _ _ _ h => by simp [tkL] at h, fun _ _ _ _ h => by simp [tkM] at h⟩
 | f + 1 => by
  obtain ⟨ihV, ihL, ihM⟩ := tk_mono s f
  refine ⟨fun k0 deep r h => ?_, fun k deep acc r h => ?_, fun k deep m r h => ?_⟩
  ·rw [tkV] at h ⊢
   generalize spanA isWs s k0 = k at h ⊢
   dsimp only at h ⊢
   split at h
   ·rename_i c; rw [if_pos c]; exact h
   rename_i c; rw [if_neg c]
   split at h
   ·rename_i c; rw [if_pos c]; exact h
   rename_i c; rw [if_neg c]
   split at h
   ·rename_i c; rw [if_pos c]; exact h
   rename_i c; rw [if_neg c]
   split at h
   ·rename_i c; rw [if_pos c]; exact h
   rename_i c; rw [if_neg c]
   split at h
   ·rename_i c; rw [if_pos c]
    split at h
    ·rename_i c; rw [if_pos c]; exact h
    rename_i c; rw [if_neg c]
    split at h
    ·rename_i c; rw [if_pos c]
     split at h
     ·rename_i c; rw [if_pos c]; exact h
     rename_i c; rw [if_neg c]
     exact ihL _ _ _ _ h
    ·rename_i c; rw [if_neg c]
     split at h
     ·rename_i c; rw [if_pos c]; exact h
     rename_i c; rw [if_neg c]
     exact ihM _ _ _ _ h
   ·rename_i c; rw [if_neg c]; exact h
  ·rw [tkL] at h ⊢
   split at h
   ·cases h
   ·rename_i e hv; rw [ihV _ _ _ hv]; exact h
   ·rename_i y k2 hv
    rw [ihV _ _ _ hv]
    dsimp only at h ⊢
    split at h
    ·rename_i c; rw [if_pos c]; exact h
    rename_i c; rw [if_neg c]
    split at h
    ·rename_i c; rw [if_pos c]; exact ihL _ _ _ _ h
    ·rename_i c; rw [if_neg c]; exact h
  ·rw [tkM] at h ⊢
   split at h
   ·rename_i e hk; exact h
   ·rename_i t k1 hk
    split at h
    ·cases h
    ·rename_i e hv; rw [ihV _ _ _ hv]; exact h
    ·rename_i y k2 hv
     rw [ihV _ _ _ hv]
     dsimp only at h ⊢
     split at h
     ·rename_i c; rw [if_pos c]; exact h
     rename_i c; rw [if_neg c]
     split at h
     ·rename_i c; rw [if_pos c]; exact ihM _ _ _ _ h
     ·rename_i c; rw [if_neg c]; exact h
theorem tkV_le {s : Str} {f g k deep : Nat} {r : PR} (h : tkV f s k deep = some r) (hg : f ≤ g) : tkV g s k deep = some r := by
 induction g with
 | zero =>
  obtain rfl : f = 0 := by omega
  exact h
 | succ g ih =>
  rcases Nat.lt_or_ge g f with h1 | h1
  ·obtain rfl : f = g + 1 := by omega
   exact h
  ·exact (tk_mono s g).1 _ _ _ (ih h1)
theorem tkL_le {s : Str} {f g k deep : Nat} {acc : List JV} {r : PR} (h : tkL f s k deep acc = some r) (hg : f ≤ g) : tkL g s k deep acc = some r := by
 induction g with
 | zero =>
  obtain rfl : f = 0 := by omega
  exact h
 | succ g ih =>
  rcases Nat.lt_or_ge g f with h1 | h1
  ·obtain rfl : f = g + 1 := by omega
   exact h
  ·exact (tk_mono s g).2.1 _ _ _ _ (ih h1)
theorem tkM_le {s : Str} {f g k deep : Nat} {acc : List (Str × JV)} {r : PR} (h : tkM f s k deep acc = some r) (hg : f ≤ g) : tkM g s k deep acc = some r := by
 induction g with
 | zero =>
  obtain rfl : f = 0 := by omega
  exact h
 | succ g ih =>
  rcases Nat.lt_or_ge g f with h1 | h1
  ·obtain rfl : f = g + 1 := by omega
   exact h
  ·exact (tk_mono s g).2.2 _ _ _ _ (ih h1)
theorem tkV_det {s : Str} {f g k deep : Nat} {r r' : PR} (h : tkV f s k deep = some r) (h' : tkV g s k deep = some r') : r = r' := by
 have h1 := tkV_le h (Nat.le_max_left f g)
 have h2 := tkV_le h' (Nat.le_max_right f g)
 rw [h1] at h2
 injection h2
theorem drop_head {s : Str} {k : Nat} {c : UInt8} {r : Str} (h : s.drop k = c :: r) : s[k]? = some c ∧ s.drop (k + 1) = r := by
 have hk : s[k]? = some c := by
  have := congrArg (fun l => l[0]?) h
  simpa [List.getElem?_drop] using this
 rw [drop_get hk] at h
 injection h with _ h
 exact ⟨hk, h⟩
theorem drop_app {s a r : Str} {k : Nat} (h : s.drop k = a ++ r) : s.drop (k + a.length) = r := by
 rw [← List.drop_drop, h, List.drop_left' rfl]
theorem has_cons {s r t : Str} {k : Nat} {c d : UInt8} (h : s.drop k = c :: r) (hd : d ≠ c) : hasA s k (d :: t) = false := by
 rw [hasA, h, List.isPrefixOf, beq_eq_false_iff_ne.2 hd]
 rfl
theorem has_here {s t r : Str} {k : Nat} (h : s.drop k = t ++ r) : hasA s k t = true := by
 rw [hasA_iff, h, List.take_left' rfl]
theorem ws_not {s r : Str} {k : Nat} {c : UInt8} (h : s.drop k = c :: r) (hc : isWs c = false) : spanA isWs s k = k := spanA_stop (drop_head h).1 hc
def vch (c : UInt8) : Prop := isWs c = false ∧ c ≠ 93 ∧ c ≠ 125
def dlm (r : Str) : Prop := ∀ c, r[0]? = some c → isNm c = false
def Bk (v : JV) (deep : Nat) (t : Str) : Prop := (∃ c r, t = c :: r ∧ vch c) ∧ ∀ s k rest, s.drop k = t ++ rest → dlm rest → ∃ f, tkV f s k deep = some (.ok (v, k + t.length))
theorem itoa_head (n : Int) : ∃ c r, Lib.itoa n = c :: r ∧ (c = 45 ∨ isDg c = true) := by
 unfold Lib.itoa
 split
 ·exact ⟨45, _, rfl, .inl rfl⟩
 ·cases h : Lib.decDigits n.toNat with
  | nil => exact absurd h (dec_ne _)
  | cons c r => exact ⟨c, r, rfl, .inr (dec_dig n.toNat c (by rw [h]; simp))⟩
theorem dg_ne {c : UInt8} (h : c = 45 ∨ isDg c = true) (d : UInt8) (hd : ¬ (d.toNat = 45 ∨ (48 ≤ d.toNat ∧ d.toNat ≤ 57))) : d ≠ c := by
 intro e
 subst e
 apply hd
 rcases h with rfl | h
 ·left; rfl
 ·right
  simp only [isDg, Bool.and_eq_true, decide_eq_true_eq] at h
  exact h
theorem bk_nul {deep : Nat} : Bk JV.nul deep JV.tNull := by
 refine ⟨⟨110, _, rfl, by decide, by decide, by decide⟩, fun s k rest h _ => ⟨1, ?_⟩⟩
 have hw := ws_not (c := 110) h rfl
 rw [tkV]
 simp only
 rw [hw, if_pos (has_here h)]
 rfl
theorem bk_true {deep : Nat} : Bk (.mk 1 true 0 [] [] []) deep JV.tTrue := by
 refine ⟨⟨116, _, rfl, by decide, by decide, by decide⟩, fun s k rest h _ => ⟨1, ?_⟩⟩
 have hw := ws_not (c := 116) h rfl
 rw [tkV]
 simp only
 rw [hw, has_cons (c := 116) h (by decide), if_neg (by simp), if_pos (has_here h)]
 rfl
theorem bk_false {deep : Nat} : Bk (.mk 1 false 0 [] [] []) deep JV.tFalse := by
 refine ⟨⟨102, _, rfl, by decide, by decide, by decide⟩, fun s k rest h _ => ⟨1, ?_⟩⟩
 have hw := ws_not (c := 102) h rfl
 rw [tkV]
 simp only
 rw [hw, has_cons (c := 102) h (by decide), if_neg (by simp), has_cons (c := 102) h (by decide), if_neg (by simp), if_pos (has_here h)]
 rfl
theorem bk_num {deep : Nat} {n : Int} (h0 : -9007199254740991 ≤ n) (h1 : n ≤ 9007199254740991) : Bk (JV.numV n) deep (Lib.itoa n) := by
 obtain ⟨c, r, hc, hd⟩ := itoa_head n
 have hne := fun d hd' => dg_ne hd d hd'
 refine ⟨⟨c, r, hc, ?_, (hne 93 (by decide)).symm, (hne 125 (by decide)).symm⟩, fun s k rest h hr => ⟨1, ?_⟩⟩
 ·unfold isWs
  rw [beq_eq_false_iff_ne.2 (hne 32 (by decide)).symm, beq_eq_false_iff_ne.2 (hne 9 (by decide)).symm, beq_eq_false_iff_ne.2 (hne 10 (by decide)).symm, beq_eq_false_iff_ne.2 (hne 13 (by decide)).symm]
  rfl
 have hws : isWs c = false := by
  unfold isWs
  rw [beq_eq_false_iff_ne.2 (hne 32 (by decide)).symm, beq_eq_false_iff_ne.2 (hne 9 (by decide)).symm, beq_eq_false_iff_ne.2 (hne 10 (by decide)).symm, beq_eq_false_iff_ne.2 (hne 13 (by decide)).symm]
  rfl
 have hs : s.drop k = c :: (r ++ rest) := by rw [h, hc]; rfl
 rw [tkV]
 simp only
 rw [ws_not hs hws, has_cons hs (hne 110 (by decide)), has_cons hs (hne 116 (by decide)), has_cons hs (hne 102 (by decide)), has_cons hs (hne 34 (by decide)), has_cons hs (hne 91 (by decide)), has_cons hs (hne 123 (by decide))]
 simp only [Bool.false_eq_true, if_false, Bool.or_self]
 rw [numA_itoa h0 h1 h hr]
theorem putQ_head (t : Str) : putQ t = 34 :: (escs t ++ [34]) := rfl
theorem bk_txt {deep : Nat} {t : Str} (hv : validR t = true) : Bk (JV.txtV t) deep (putQ t) := by
 refine ⟨⟨34, _, putQ_head t, by decide, by decide, by decide⟩, fun s k rest h _ => ⟨1, ?_⟩⟩
 have hs : s.drop k = 34 :: (escs t ++ [34] ++ rest) := by rw [h, putQ_head]; rfl
 rw [tkV]
 simp only
 rw [ws_not hs rfl, has_cons hs (by decide), has_cons hs (by decide), has_cons hs (by decide)]
 simp only [Bool.false_eq_true, if_false]
 rw [if_pos (hasA_one.2 (drop_head hs).1), strT_put hv h]
theorem keyA_put {s t rest : Str} {k : Nat} {m : List (Str × JV)} (hv : validR t = true) (hn : look m t = none) (h : s.drop k = putQ t ++ 58 :: rest) : keyA s k m = .ok (t, k + (putQ t).length + 1) := by
 have hs : s.drop k = 34 :: (escs t ++ [34] ++ 58 :: rest) := by rw [h, putQ_head]; rfl
 have h2 : s.drop (k + (putQ t).length) = 58 :: rest := drop_app h
 unfold keyA
 rw [ws_not hs rfl, strT_put hv h]
 simp only
 rw [hn, if_neg (by simp), ws_not h2 rfl, if_pos (hasA_one.2 (drop_head h2).1)]
def BkL (l : List JV) (deep : Nat) (t : Str) : Prop := ∀ s k acc rest, s.drop k = t ++ 93 :: rest → ∃ f, tkL f s k (deep + 1) acc = some (.ok (JV.lst (acc ++ l), k + t.length + 1))
theorem bkL_one {x : JV} {deep : Nat} {t : Str} (h : Bk x (deep + 1) t) : BkL [x] deep t := fun s k acc rest hs => by
 obtain ⟨f, hf⟩ := h.2 s k _ hs (fun c hc => by simp at hc; subst hc; rfl)
 refine ⟨f + 1, ?_⟩
 have h2 : s.drop (k + t.length) = 93 :: rest := drop_app hs
 rw [tkL, hf]
 simp only
 rw [ws_not h2 rfl, if_pos (hasA_one.2 (drop_head h2).1)]
theorem bkL_more {x : JV} {l : List JV} {deep : Nat} {t t' : Str} (h : Bk x (deep + 1) t) (h' : BkL l deep t') : BkL (x :: l) deep (t ++ [44] ++ t') := fun s k acc rest hs => by
 have hs' : s.drop k = t ++ 44 :: (t' ++ 93 :: rest) := by rw [hs]; simp
 obtain ⟨f, hf⟩ := h.2 s k _ hs' (fun c hc => by simp at hc; subst hc; rfl)
 have h2 : s.drop (k + t.length) = 44 :: (t' ++ 93 :: rest) := drop_app hs'
 obtain ⟨g, hg⟩ := h' s (k + t.length + 1) (acc ++ [x]) rest (drop_head h2).2
 refine ⟨max f g + 1, ?_⟩
 rw [tkL, tkV_le hf (Nat.le_max_left f g)]
 simp only
 rw [ws_not h2 rfl, has_cons h2 (by decide), if_neg (by simp), if_pos (hasA_one.2 (drop_head h2).1), tkL_le hg (Nat.le_max_right f g)]
 simp only [List.append_assoc, List.singleton_append, List.length_append, List.length_cons, List.length_nil, Option.some.injEq, Except.ok.injEq, Prod.mk.injEq, true_and]
 omega
def BkM (m : List (Str × JV)) (deep : Nat) (t : Str) : Prop := ∀ s k m0 rest, s.drop k = t ++ 125 :: rest → (∀ p ∈ m0, ∀ q ∈ m, bl p.1 q.1 = true) → ascM m0 → ∃ f, tkM f s k (deep + 1) m0 = some (.ok (JV.obj (m0 ++ m), k + t.length + 1))
theorem put_end {m0 : List (Str × JV)} {t : Str} {x : JV} (h : ∀ p ∈ m0, bl p.1 t = true) : putM m0 t x = m0 ++ [(t, x)] ∧ look m0 t = none := by
 constructor
 ·unfold putM
  rw [List.filter_eq_self.2 h, List.filter_eq_nil_iff.2 (fun p hp e => by
   have h1 := h p hp
   have := bl_trans h1 e
   rw [bl_irrefl] at this
   cases this)]
  simp
 ·refine look_none_of fun j y hy e => ?_
  have := h y (List.mem_of_getElem? hy)
  rw [e, bl_irrefl] at this
  cases this
theorem asc_end {m0 : List (Str × JV)} {t : Str} {x : JV} (ha : ascM m0) (h : ∀ p ∈ m0, bl p.1 t = true) : ascM (m0 ++ [(t, x)]) := by
 rw [← (put_end (x := x) h).1]
 exact ascM_put ha
theorem bkM_one {x : Str × JV} {deep : Nat} {t : Str} (hv : validR x.1 = true) (h : Bk x.2 (deep + 1) t) : BkM [x] deep (putQ x.1 ++ [58] ++ t) := fun s k m0 rest hs hm ha => by
 have hs' : s.drop k = putQ x.1 ++ 58 :: (t ++ 125 :: rest) := by rw [hs]; simp
 obtain ⟨hp, hl⟩ := put_end (x := x.2) (fun p hp => hm p hp x (by simp))
 have h3 : s.drop (k + (putQ x.1).length + 1) = t ++ 125 :: rest := (drop_head (drop_app hs')).2
 obtain ⟨f, hf⟩ := h.2 s _ _ h3 (fun c hc => by simp at hc; subst hc; rfl)
 have h2 : s.drop (k + (putQ x.1).length + 1 + t.length) = 125 :: rest := drop_app h3
 refine ⟨f + 1, ?_⟩
 rw [tkM, keyA_put hv hl hs']
 simp only
 rw [hf]
 simp only
 rw [ws_not h2 rfl, if_pos (hasA_one.2 (drop_head h2).1), hp]
 simp only [List.length_append, List.length_cons, List.length_nil, Option.some.injEq, Except.ok.injEq, Prod.mk.injEq, true_and]
 omega
theorem bkM_more {x : Str × JV} {m : List (Str × JV)} {deep : Nat} {t t' : Str} (hv : validR x.1 = true) (hx : ∀ q ∈ m, bl x.1 q.1 = true) (h : Bk x.2 (deep + 1) t) (h' : BkM m deep t') : BkM (x :: m) deep (putQ x.1 ++ [58] ++ t ++ [44] ++ t') := fun s k m0 rest hs hm ha => by
 have hs' : s.drop k = putQ x.1 ++ 58 :: (t ++ 44 :: (t' ++ 125 :: rest)) := by rw [hs]; simp
 have hmx : ∀ p ∈ m0, bl p.1 x.1 = true := fun p hp => hm p hp x (by simp)
 obtain ⟨hp, hl⟩ := put_end (x := x.2) hmx
 have h3 : s.drop (k + (putQ x.1).length + 1) = t ++ 44 :: (t' ++ 125 :: rest) := (drop_head (drop_app hs')).2
 obtain ⟨f, hf⟩ := h.2 s _ _ h3 (fun c hc => by simp at hc; subst hc; rfl)
 have h2 : s.drop (k + (putQ x.1).length + 1 + t.length) = 44 :: (t' ++ 125 :: rest) := drop_app h3
 obtain ⟨g, hg⟩ := h' s (k + (putQ x.1).length + 1 + t.length + 1) (m0 ++ [(x.1, x.2)]) rest (drop_head h2).2 (fun p hp q hq => by
  rcases List.mem_append.1 hp with hp | hp
  ·exact hm p hp q (by simp [hq])
  ·simp only [List.mem_singleton] at hp
   subst hp
   exact hx q hq) (asc_end ha hmx)
 refine ⟨max f g + 1, ?_⟩
 rw [tkM, keyA_put hv hl hs']
 simp only
 rw [tkV_le hf (Nat.le_max_left f g)]
 simp only
 rw [ws_not h2 rfl, has_cons h2 (by decide), if_neg (by simp), if_pos (hasA_one.2 (drop_head h2).1), hp, tkM_le hg (Nat.le_max_right f g)]
 simp only [List.append_assoc, List.singleton_append, List.length_append, List.length_cons, List.length_nil, Option.some.injEq, Except.ok.injEq, Prod.mk.injEq, true_and, List.cons_append, List.nil_append]
 omega
theorem bk_lst0 {deep : Nat} (hd : deep ≠ 32) : Bk (JV.lst []) deep [91, 93] := by
 refine ⟨⟨91, _, rfl, by decide, by decide, by decide⟩, fun s k rest h _ => ⟨1, ?_⟩⟩
 have hs : s.drop k = 91 :: (93 :: rest) := h
 have h2 := (drop_head hs).2
 rw [tkV]
 simp only
 rw [ws_not hs rfl, has_cons hs (by decide), has_cons hs (by decide), has_cons hs (by decide), has_cons hs (by decide)]
 simp only [Bool.false_eq_true, if_false]
 rw [hasA_one.2 (drop_head hs).1, Bool.true_or, if_pos rfl, if_neg hd, if_pos rfl, ws_not h2 rfl, if_pos (hasA_one.2 (drop_head h2).1)]
 rfl
theorem bk_obj0 {deep : Nat} (hd : deep ≠ 32) : Bk (JV.obj []) deep [123, 125] := by
 refine ⟨⟨123, _, rfl, by decide, by decide, by decide⟩, fun s k rest h _ => ⟨1, ?_⟩⟩
 have hs : s.drop k = 123 :: (125 :: rest) := h
 have h2 := (drop_head hs).2
 rw [tkV]
 simp only
 rw [ws_not hs rfl, has_cons hs (by decide), has_cons hs (by decide), has_cons hs (by decide), has_cons hs (by decide), has_cons (d := 91) hs (by decide)]
 simp only [Bool.false_eq_true, if_false]
 rw [hasA_one.2 (drop_head hs).1, Bool.or_true, if_pos rfl, if_neg hd, ws_not h2 rfl, if_pos (hasA_one.2 (drop_head h2).1)]
 rfl
theorem bk_lst {l : List JV} {deep : Nat} {c : UInt8} {r : Str} (hd : deep ≠ 32) (hc : vch c) (h : BkL l deep (c :: r)) : Bk (JV.lst l) deep (91 :: ((c :: r) ++ [93])) := by
 refine ⟨⟨91, _, rfl, by decide, by decide, by decide⟩, fun s k rest hs _ => ?_⟩
 have hs' : s.drop k = 91 :: ((c :: r) ++ 93 :: rest) := by rw [hs]; simp
 have h2 := (drop_head hs').2
 obtain ⟨f, hf⟩ := h s (k + 1) [] rest h2
 refine ⟨f + 1, ?_⟩
 have h2' : s.drop (k + 1) = c :: (r ++ 93 :: rest) := h2
 rw [tkV]
 simp only
 rw [ws_not hs' rfl, has_cons hs' (by decide), has_cons hs' (by decide), has_cons hs' (by decide), has_cons hs' (by decide)]
 simp only [Bool.false_eq_true, if_false]
 rw [hasA_one.2 (drop_head hs').1, Bool.true_or, if_pos rfl, if_neg hd, if_pos rfl, ws_not h2' hc.1, has_cons h2' hc.2.1.symm, if_neg (by simp), hf]
 simp only [List.nil_append, List.length_append, List.length_cons, List.length_nil, Option.some.injEq, Except.ok.injEq, Prod.mk.injEq, true_and]
 omega
theorem bk_obj {m : List (Str × JV)} {deep : Nat} {c : UInt8} {r : Str} (hd : deep ≠ 32) (hc : vch c) (h : BkM m deep (c :: r)) : Bk (JV.obj m) deep (123 :: ((c :: r) ++ [125])) := by
 refine ⟨⟨123, _, rfl, by decide, by decide, by decide⟩, fun s k rest hs _ => ?_⟩
 have hs' : s.drop k = 123 :: ((c :: r) ++ 125 :: rest) := by rw [hs]; simp
 have h2 := (drop_head hs').2
 obtain ⟨f, hf⟩ := h s (k + 1) [] rest h2 (by simp) List.Pairwise.nil
 refine ⟨f + 1, ?_⟩
 have h2' : s.drop (k + 1) = c :: (r ++ 125 :: rest) := h2
 rw [tkV]
 simp only
 rw [ws_not hs' rfl, has_cons hs' (by decide), has_cons hs' (by decide), has_cons hs' (by decide), has_cons hs' (by decide), has_cons (d := 91) hs' (by decide)]
 simp only [Bool.false_eq_true, if_false]
 rw [hasA_one.2 (drop_head hs').1, Bool.or_true, if_pos rfl, if_neg hd, ws_not h2' hc.1, has_cons h2' hc.2.2.symm, if_neg (by simp), hf]
 simp only [List.nil_append, List.length_append, List.length_cons, List.length_nil, Option.some.injEq, Except.ok.injEq, Prod.mk.injEq, true_and]
 omega
theorem txtW_valid {b s b' : Str} (h : txtW b s = .ok b') : validR s = true ∧ b' = b ++ putQ s := by
 unfold txtW at h
 split at h
 ·cases h
 ·split at h
  ·rename_i hv
   exact ⟨hv, (lng_ok h).1⟩
  ·cases h
theorem txt_valid {s : Str} (h : ∀ c : Str, (c ++ putQ s).length ≤ 65536 → txtW c s = .ok (c ++ putQ s)) (hl : (putQ s).length ≤ 65536) : validR s = true := (txtW_valid (h [] (by simpa using hl))).1
namespace JV
theorem list_nil {v : JV} (h : v.list.length = 0) : v.list = [] := List.eq_nil_of_length_eq_zero h
theorem map_nil {v : JV} (h : v.map.length = 0) : v.map = [] := List.eq_nil_of_length_eq_zero h
theorem bare_parts {v : JV} (h : v.bare = true) : (v.kind = 1 ∨ v.is = false) ∧ (v.kind = 2 ∨ v.num = 0) ∧ (v.kind = 3 ∨ v.str = []) ∧ (v.kind = 4 ∨ v.list = []) ∧ (v.kind = 5 ∨ v.map = []) := by
 unfold bare at h
 simp only [Bool.and_eq_true, Bool.or_eq_true, decide_eq_true_eq, Bool.not_eq_true', decide_eq_false_iff_not] at h
 obtain ⟨⟨⟨⟨⟨⟨h0, h1⟩, h2⟩, h3⟩, h4⟩, h5⟩, h6⟩ := h
 exact ⟨h1, h2, h3, h4.imp id list_nil, h5.imp id map_nil⟩
theorem mk_eq {v : JV} {k n : Int} {i : Bool} {s : Str} {l : List JV} {m : List (Str × JV)} (h1 : v.kind = k) (h2 : v.is = i) (h3 : v.num = n) (h4 : v.str = s) (h5 : v.list = l) (h6 : v.map = m) : v = .mk k i n s l m := by
 rw [eta v, h1, h2, h3, h4, h5, h6]
end JV
end Go.Proofs.YtknndpjacklkeaaGreatDoor.V

set_option linter.unusedVariables false
set_option linter.unusedSimpArgs false
namespace Go.Proofs.YtknndpjacklkeaaGreatDoor.V
open Go
theorem lng_eq {b t b' : Str} (h : lng (b ++ t) = .ok b') : b' = b ++ t := (lng_ok h).1
theorem bkl_all {N : Nat} (ih : ∀ (v : JV) (deep : Nat) (b b' : Str), v.sz ≤ N → JV.wr v deep b = .ok b' → ∃ t, b' = b ++ t ∧ Bk v deep t) :
  ∀ (x : JV) (l : List JV) (deep : Nat) (fst : Bool) (b b' : Str), (∀ y ∈ x :: l, y.sz ≤ N) → JV.wrl (x :: l) deep fst b = .ok b' → ∃ t, b' = b ++ (if fst then [] else [44]) ++ t ∧ (∃ c r, t = c :: r ∧ vch c) ∧ BkL (x :: l) deep t
 | x, l, deep, fst, b, b', hN, h => by
  rw [JV.wrl_step'] at h
  obtain ⟨b1, h1, h⟩ := bind_ok h
  obtain ⟨b2, h2, h⟩ := bind_ok h
  obtain ⟨t, rfl, hb⟩ := ih _ _ _ _ (hN x (by simp)) h2
  have e1 : b1 = b ++ (if fst then [] else [44]) := by
   cases fst with
   | true => injection h1 with h1; subst h1; simp
   | false => exact lng_eq h1
  subst e1
  cases l with
  | nil =>
   rw [JV.wrl] at h
   injection h with h
   exact ⟨t, h.symm, hb.1, bkL_one hb⟩
  | cons y l =>
   obtain ⟨t', rfl, _, hb'⟩ := bkl_all ih y l deep false _ _ (fun z hz => hN z (by simp [List.mem_cons.1 hz])) h
   refine ⟨t ++ [44] ++ t', by simp, ?_, bkL_more hb hb'⟩
   obtain ⟨c, r, rfl, hc⟩ := hb.1
   exact ⟨c, _, rfl, hc⟩
theorem bkm_all {N : Nat} (ih : ∀ (v : JV) (deep : Nat) (b b' : Str), v.sz ≤ N → JV.wr v deep b = .ok b' → ∃ t, b' = b ++ t ∧ Bk v deep t) :
  ∀ (x : Str × JV) (m : List (Str × JV)) (deep : Nat) (prev : Option Str) (b b' : Str), b'.length ≤ 65536 → (∀ y ∈ x :: m, y.2.sz ≤ N) → JV.wrm (x :: m) deep prev b = .ok b' → ∃ t, b' = b ++ JV.comma prev ++ t ∧ (∃ c r, t = c :: r ∧ vch c) ∧ BkM (x :: m) deep t
 | x, m, deep, prev, b, b', hl, hN, h => by
  obtain ⟨_, b2, h2, h3, ht, hq⟩ := JV.mem_ok h
  have hv : validR x.1 = true := txt_valid ht (by simp only [List.length_append] at hq ⊢; omega)
  obtain ⟨t, rfl, hb⟩ := ih _ _ _ _ (hN x (by simp)) h2
  cases m with
  | nil =>
   rw [JV.wrm] at h3
   injection h3 with h3
   exact ⟨putQ x.1 ++ [58] ++ t, by rw [← h3]; simp, ⟨34, _, rfl, by decide, by decide, by decide⟩, bkM_one hv hb⟩
  | cons y m =>
   have hx := (JV.wrm_asc _ _ _ _ _ h3).2 x.1 rfl
   obtain ⟨t', rfl, _, hb'⟩ := bkm_all ih y m deep (some x.1) _ _ hl (fun z hz => hN z (by simp [List.mem_cons.1 hz])) h3
   exact ⟨putQ x.1 ++ [58] ++ t ++ [44] ++ t', by simp [JV.comma], ⟨34, _, rfl, by decide, by decide, by decide⟩, bkM_more hv hx hb hb'⟩
theorem back_all : ∀ (N : Nat) (v : JV) (deep : Nat) (b b' : Str), v.sz ≤ N → JV.wr v deep b = .ok b' → ∃ t, b' = b ++ t ∧ Bk v deep t
 | 0, v, _, _, _, h, _ => absurd (JV.sz_eq v) (by omega)
 | N + 1, v, deep, b, b', hN, h => by
  have ih := back_all N
  have hlen : b'.length ≤ 65536 := (JV.fit h).elim fun t ht => ht.2.1
  rw [JV.wr_eq] at h
  split at h
  ·cases h
  rename_i hb
  have hb : v.bare = true := by simpa using hb
  have hn2 := @JV.bare_kind v hb
  obtain ⟨p1, p2, p3, p4, p5⟩ := JV.bare_parts hb
  split at h
  ·rename_i k0
   obtain rfl : v = JV.nul := JV.mk_eq k0 (p1.resolve_left (by omega)) (p2.resolve_left (by omega)) (p3.resolve_left (by omega)) (p4.resolve_left (by omega)) (p5.resolve_left (by omega))
   exact ⟨_, lng_eq h, bk_nul⟩
  rename_i k0
  split at h
  ·rename_i k1
   cases hi : v.is with
   | true =>
    obtain rfl : v = .mk 1 true 0 [] [] [] := JV.mk_eq k1 hi (p2.resolve_left (by omega)) (p3.resolve_left (by omega)) (p4.resolve_left (by omega)) (p5.resolve_left (by omega))
    exact ⟨_, lng_eq h, bk_true⟩
   | false =>
    obtain rfl : v = .mk 1 false 0 [] [] [] := JV.mk_eq k1 hi (p2.resolve_left (by omega)) (p3.resolve_left (by omega)) (p4.resolve_left (by omega)) (p5.resolve_left (by omega))
    exact ⟨_, lng_eq h, bk_false⟩
  rename_i k1
  split at h
  ·rename_i k2
   obtain ⟨n0, n1⟩ := bare_num hb k2
   have hv : v = JV.numV v.num := JV.mk_eq k2 (p1.resolve_left (by omega)) rfl (p3.resolve_left (by omega)) (p4.resolve_left (by omega)) (p5.resolve_left (by omega))
   rw [hv]
   exact ⟨_, lng_eq h, bk_num n0 n1⟩
  rename_i k2
  split at h
  ·rename_i k3
   have hv : v = JV.txtV v.str := JV.mk_eq k3 (p1.resolve_left (by omega)) (p2.resolve_left (by omega)) rfl (p4.resolve_left (by omega)) (p5.resolve_left (by omega))
   obtain ⟨h1, h2⟩ := txtW_valid h
   rw [hv]
   exact ⟨_, h2, bk_txt h1⟩
  rename_i k3
  split at h
  ·cases h
  rename_i hd
  split at h
  ·rename_i k4
   have hv : v = JV.lst v.list := JV.mk_eq k4 (p1.resolve_left (by omega)) (p2.resolve_left (by omega)) (p3.resolve_left (by omega)) rfl (p5.resolve_left (by omega))
   obtain ⟨b1, h1, h3⟩ := bind_ok h
   obtain ⟨b2, h2, h4⟩ := bind_ok h3
   have e1 := lng_eq h1
   have e4 := lng_eq h4
   clear h3 h4 h1 h
   subst e1
   subst e4
   have hsz : ∀ y ∈ v.list, y.sz ≤ N := fun y hy => by have := JV.sz_in_list hy; omega
   rw [hv]
   cases hl : v.list with
   | nil =>
    rw [hl, JV.wrl] at h2
    injection h2 with h2
    subst h2
    exact ⟨[91, 93], by simp, bk_lst0 hd⟩
   | cons x l =>
    rw [hl] at h2 hsz
    obtain ⟨t, rfl, ⟨c, r, rfl, hc⟩, hB⟩ := bkl_all ih x l deep true _ _ hsz h2
    exact ⟨91 :: ((c :: r) ++ [93]), by simp, bk_lst hd hc hB⟩
  ·rename_i k4
   have k5 : v.kind = 5 := by omega
   have hv : v = JV.obj v.map := JV.mk_eq k5 (p1.resolve_left (by omega)) (p2.resolve_left (by omega)) (p3.resolve_left (by omega)) (p4.resolve_left (by omega)) rfl
   obtain ⟨b1, h1, h3⟩ := bind_ok h
   obtain ⟨b2, h2, h4⟩ := bind_ok h3
   have e1 := lng_eq h1
   have e4 := lng_eq h4
   clear h3 h4 h1 h
   subst e1
   subst e4
   have hsz : ∀ y ∈ v.map, y.2.sz ≤ N := fun y hy => by have := JV.sz_in_map hy; omega
   rw [hv]
   cases hl : v.map with
   | nil =>
    rw [hl, JV.wrm] at h2
    injection h2 with h2
    subst h2
    exact ⟨[123, 125], by simp, bk_obj0 hd⟩
   | cons x m =>
    rw [hl] at h2 hsz
    obtain ⟨t, rfl, ⟨c, r, rfl, hc⟩, hB⟩ := bkm_all ih x m deep none _ _ (by simp only [List.length_append] at hlen ⊢; omega) hsz h2
    exact ⟨123 :: ((c :: r) ++ [125]), by simp [JV.comma], bk_obj hd hc hB⟩
theorem rdA_of {s : Str} {f : Nat} {r : PR} (h : tkV f s 0 0 = some r) : rdA s = r := tkV_det (rdA_eq s) h
theorem parse_wr {v : JV} {t : Str} (h : v.wr 0 [] = .ok t) : parse t = .ok v := by
 obtain ⟨t', e, hB⟩ := back_all v.sz v 0 [] t (Nat.le_refl _) h
 rw [List.nil_append] at e
 subst e
 have hlen : t.length ≤ 65536 := (JV.fit h).elim fun t ht => ht.2.1
 obtain ⟨f, hf⟩ := hB.2 t 0 [] (by simp) (fun c hc => by simp at hc)
 unfold parse
 rw [if_neg (by omega), rdA_of hf]
 simp only
 rw [spanA_end (by omega), if_neg (by omega)]
end Go.Proofs.YtknndpjacklkeaaGreatDoor.V

set_option linter.unusedVariables false
set_option linter.unusedSimpArgs false
set_option maxRecDepth 10000
namespace Go.Proofs.YtknndpjacklkeaaGreatDoor.V
open Go Go.Proofs
end Go.Proofs.YtknndpjacklkeaaGreatDoor.V

set_option linter.unusedVariables false
set_option maxRecDepth 100000
namespace Go.Proofs.YtknndpjacklkeaaGreatDoor.V
open Go Go.Proofs Go.Lib
theorem laid_first : Go.Pinned.utf8First = Lib.firstData := by kernel_rfl
theorem laid_acc : (Go.Proofs.YtknndpjacklkeaaGreatDoor.Rows.laid_unicode_utf8_acceptRanges : DataW Unit) = Lib.acceptData := by kernel_rfl
theorem utOf {W : World} (h3 : VarReads Tryz.prog W "unicode/utf8.first" Lib.firstData) (h4 : VarReads Tryz.prog W "unicode/utf8.acceptRanges" Lib.acceptData) : UtT W :=
 utf8Tabs_of_reads (P := Tryz.prog) (ρ := Tryz.lays197_ren) { Tryz.lays197 with } ⟨by kernel_rfl, by kernel_rfl, by kernel_rfl, by kernel_rfl, by kernel_rfl, by kernel_rfl, by kernel_rfl⟩ h3 h4
theorem laid_tl {P : Program} {n1 : String} {d1 : DataW Unit} {rest : List (String × DataW Unit)} {W : World} (h : laidMet P ((n1, d1) :: rest) W) : laidMet P rest W := by
 obtain ⟨ps, ⟨g, t, cs, fuel, p, q, _, _, _, _, hq, rfl⟩, hn, hc⟩ := h
 exact ⟨q, hq, (List.nodup_append.1 hn).2.1, fun b off hb => hc b off (List.mem_append_right _ hb)⟩
theorem errOf {W : World} {n nm : String} {d : DataW Unit} {g t : Nat} {ms : Array (String × TypeId)} (h : VarReads Tryz.prog W n (.iface nm d)) (hg : Tryz.prog.globalNamed n = some g) (hy : (Tryz.prog.globals[g]?).map (·.type) = some t) (ht : Tryz.prog.underlying t = some (.interface ms)) : ∃ u v, W.cell? ⟨g, 0, none⟩ = some (.iface u v) := by
 obtain ⟨g', t', cs, fuel, p, h1, h2, h3, h4⟩ := h
 rw [hg] at h1
 injection h1 with h1
 subst h1
 rw [hy] at h2
 injection h2 with h2
 subst h2
 have hcs : ∃ u v, cs.toList = [.iface u v] := by
  cases fuel with
  | zero => simp [DataW.trod] at h4
  | succ fuel =>
   unfold DataW.trod at h4
   simp only [ht] at h4
   split at h4 <;> first | (exact ⟨_, _, by assumption⟩) | (simp at h4; done) | (rename_i e1 e2; exact ⟨_, _, e2⟩) | simp_all
 obtain ⟨u, v, hcs⟩ := hcs
 refine ⟨u, v, ?_⟩
 unfold World.var? at h3
 rw [hg] at h3
 simp only [Option.bind_some] at h3
 unfold World.cell?
 split at h3
 ·rename_i c t f hh
  injection h3 with h3
  subst h3
  rw [hh]
  have : c = #[.iface u v] := by rw [← Array.toList_inj]; exact hcs
  subst this
  rfl
 ·cases h3
theorem envOf {W : World} (h : laidMet Tryz.prog Go.Proofs.YtknndpjacklkeaaGreatDoor.Rows.jsonTellsRow.laid W) : Env W := by
 have hU : UtT W := utOf (laid_first ▸ laidMet.reads h (.tail _ (.tail _ (.tail _ (.tail _ (.tail _ (.tail _ (.head _)))))))) (laid_acc ▸ laidMet.reads h (.tail _ (.tail _ (.tail _ (.head _)))))
 have hR := errOf (g := 3) (laidMet.reads h (.tail _ (.tail _ (.tail _ (.tail _ (.head _)))))) (by kernel_rfl) (by kernel_rfl) ifn168
 have hS := errOf (g := 2) (laidMet.reads h (.tail _ (.tail _ (.tail _ (.tail _ (.tail _ (.head _))))))) (by kernel_rfl) (by kernel_rfl) ifn168
 obtain ⟨u1, v1, h1⟩ := hR
 obtain ⟨u2, v2, h2⟩ := hS
 refine ⟨?_, hU, ⟨⟨_, h2, .inr ⟨_, _, rfl⟩⟩, ⟨_, h1, .inr ⟨_, _, rfl⟩⟩⟩, ?_⟩
 ·exact Lib.tabIs_of_head (rest := _) gPow (by kernel_rfl) Tryz.underlying245 Tryz.underlying182 (by kernel_rfl) (by kernel_rfl) (laid_tl (laid_tl h))
 ·have h0 := (hU.2 0 (by decide)).1
  rcases Nat.lt_or_ge 6 W.heap.size with hl | hl
  ·exact hl
  ·unfold World.cell? at h0
   rw [Array.getElem?_eq_none hl] at h0
   cases h0
end Go.Proofs.YtknndpjacklkeaaGreatDoor.V

set_option linter.unusedVariables false
set_option linter.unusedSimpArgs false
set_option maxRecDepth 10000
namespace Go.Proofs.YtknndpjacklkeaaGreatDoor.V
open Go Go.Proofs

section
variable {H : Type} {enc : TypeId × Value → H} {w : World}
end
end Go.Proofs.YtknndpjacklkeaaGreatDoor.V

set_option linter.unusedVariables false
set_option linter.unusedSimpArgs false
namespace Go.Proofs.YtknndpjacklkeaaGreatDoor.V
open Go
def hexI : Option Nat → Int
 | none => -1
 | some n => n
theorem hexU_short {s : Str} (h : s.length < 6) : hexU s = none := by
 unfold hexU
 split
 ·rename_i r
  exact hexF_short _ _ _ (by simp only [List.length_cons] at h; omega)
 ·rfl
theorem hexU_n0 {s : Str} {c : UInt8} (h : s[0]? = some c) (hc : ¬ (c.toNat : Int) ≠ 92 → False) : hexU s = none := by
 unfold hexU
 split
 ·exfalso
  injection h with h
  subst h
  exact hc (by simp)
 ·rfl
theorem hexU_n1 {s : Str} {c : UInt8} (h : s[1]? = some c) (hc : ¬ (c.toNat : Int) ≠ 117 → False) : hexU s = none := by
 unfold hexU
 split
 ·exfalso
  injection h with h
  subst h
  exact hc (by simp)
 ·rfl
theorem hexU_at {s : Str} {c d : UInt8} (h : s[0]? = some c) (h1 : s[1]? = some d) (hc : (c.toNat : Int) = 92) (hd : (d.toNat : Int) = 117) : hexU s = hexF 4 (s.drop 2) 0 := by
 obtain rfl : c = 92 := u8_eq hc
 obtain rfl : d = 117 := u8_eq hd
 match s, h, h1 with
 | a :: b :: r, h, h1 =>
  injection h with h
  injection h1 with h1
  subst h; subst h1
  rfl
theorem hexv_09 {c : UInt8} (h1 : 48 ≤ c.toNat) (h2 : c.toNat ≤ 57) : hexv c = some (c.toNat - 48) := by unfold hexv; rw [if_pos ⟨h1, h2⟩]
theorem hexv_af {c : UInt8} (h1 : 97 ≤ c.toNat) (h2 : c.toNat ≤ 102) : hexv c = some (c.toNat - 87) := by unfold hexv; rw [if_neg (by omega), if_pos ⟨h1, h2⟩]
theorem hexv_AF {c : UInt8} (h1 : 65 ≤ c.toNat) (h2 : c.toNat ≤ 70) : hexv c = some (c.toNat - 55) := by unfold hexv; rw [if_neg (by omega), if_neg (by omega), if_pos ⟨h1, h2⟩]
theorem hexv_x {c : UInt8} (h1 : ¬ (48 ≤ c.toNat ∧ c.toNat ≤ 57)) (h2 : ¬ (97 ≤ c.toNat ∧ c.toNat ≤ 102)) (h3 : ¬ (65 ≤ c.toNat ∧ c.toNat ≤ 70)) : hexv c = none := by unfold hexv; rw [if_neg h1, if_neg h2, if_neg h3]
theorem hexS_some {s : Str} {i n d : Nat} {c : UInt8} {W : Option Nat} (hi : i < 6) (hc : s[i]? = some c) (hv : hexv c = some d) (h : hexF (6 - i) (s.drop i) n = W) : hexF (6 - (i + 1)) (s.drop (i + 1)) (16 * n + d) = W := by
 rw [show 6 - i = (6 - (i + 1)) + 1 by omega, hexF_at hc, hv] at h
 exact h
theorem hexS_none {s : Str} {i n : Nat} {c : UInt8} {W : Option Nat} (hi : i < 6) (hc : s[i]? = some c) (hv : hexv c = none) (h : hexF (6 - i) (s.drop i) n = W) : W = none := by
 rw [show 6 - i = (6 - (i + 1)) + 1 by omega, hexF_at hc, hv] at h
 exact h.symm
theorem hex_grow {n d i : Nat} (h : n < 16 ^ (i - 2)) (hd : d < 16) (hi : 2 ≤ i) : 16 * n + d < 16 ^ (i + 1 - 2) := by
 rw [show i + 1 - 2 = (i - 2) + 1 by omega]
 exact pow16 h hd
theorem hexU_len {s : Str} {n : Nat} (h : hexU s = some n) : 6 ≤ s.length ∧ n < 65536 := by
 rcases Nat.lt_or_ge s.length 6 with hl | hl
 ·rw [hexU_short hl] at h; cases h
 ·refine ⟨hl, ?_⟩
  unfold hexU at h
  split at h
  ·exact four_lt h
  ·cases h
abbrev e8F : Str := [34, 92, 47, 98, 102, 110, 114, 116]
abbrev e8T : Str := [34, 92, 47, 8, 12, 10, 13, 9]
def e8 (c : UInt8) (i : Nat) : Option Nat := (((e8F.zip e8T).drop i).find? fun p => p.1 == c).map fun p => p.2.toNat
theorem e8_all (c : UInt8) : e8 c 0 = escC c := by
 unfold e8 escC
 simp only [e8F, e8T, List.zip_cons_cons, List.zip_nil_right, List.drop_zero, List.find?_cons, List.find?_nil]
 by_cases h1 : c = 34
 ·subst h1; rfl
 by_cases h2 : c = 92
 ·subst h2; rfl
 by_cases h3 : c = 47
 ·subst h3; rfl
 by_cases h4 : c = 98
 ·subst h4; rfl
 by_cases h5 : c = 102
 ·subst h5; rfl
 by_cases h6 : c = 110
 ·subst h6; rfl
 by_cases h7 : c = 114
 ·subst h7; rfl
 by_cases h8 : c = 116
 ·subst h8; rfl
 rw [beq_eq_false_iff_ne.2 (Ne.symm h1), beq_eq_false_iff_ne.2 (Ne.symm h2), beq_eq_false_iff_ne.2 (Ne.symm h3), beq_eq_false_iff_ne.2 (Ne.symm h4), beq_eq_false_iff_ne.2 (Ne.symm h5), beq_eq_false_iff_ne.2 (Ne.symm h6), beq_eq_false_iff_ne.2 (Ne.symm h7), beq_eq_false_iff_ne.2 (Ne.symm h8), if_neg h1, if_neg h2, if_neg h3, if_neg h4, if_neg h5, if_neg h6, if_neg h7, if_neg h8]
 rfl
theorem e8_at {c a b : UInt8} {i : Nat} (hi : i < 8) (ha : e8F[i]? = some a) (hb : e8T[i]? = some b) : e8 c i = if a = c then some b.toNat else e8 c (i + 1) := by
 have hz : (e8F.zip e8T)[i]? = some (a, b) := by rw [List.getElem?_zip_eq_some]; exact ⟨ha, hb⟩
 obtain ⟨hl, e⟩ := List.getElem?_eq_some_iff.1 hz
 unfold e8
 rw [List.drop_eq_getElem_cons hl, e, List.find?_cons]
 by_cases h : a = c
 ·rw [if_pos h, beq_iff_eq.2 h]; rfl
 ·rw [if_neg h, beq_eq_false_iff_ne.2 h]
theorem e8_end (c : UInt8) : e8 c 8 = none := rfl
theorem escR_two {s : Str} {c : UInt8} {d : Nat} (h : s[1]? = some c) (hc : escC c = some d) : escR s = (d, 2) := by
 match s, h with
 | a :: b :: r, h =>
  injection h with h
  subst h
  unfold escR
  simp only
  rw [hc]
theorem escR_hex {s : Str} {c : UInt8} (h : s[1]? = some c) (hc : escC c = none) : escR s = match hexU s with
  | none => (0, 0)
  | some n =>
   if 56320 ≤ n ∧ n ≤ 57343 then (0, 0)
   else if n < 55296 ∨ 57343 < n then (n, 6)
   else match hexU (s.drop 6) with
    | none => (0, 0)
    | some m => if m < 56320 ∨ 57343 < m then (0, 0) else (65536 + 1024 * (n - 55296) + (m - 56320), 12) := by
 match s, h with
 | a :: b :: r, h =>
  injection h with h
  subst h
  unfold escR
  simp only
  rw [hc]
  rfl
theorem escR_short {s : Str} (h : s.length < 2) : escR s = (0, 0) := by
 match s, h with
 | [], _ => rfl
 | [_], _ => rfl
section
variable {s : Str} {c : UInt8} {N M : Int}
theorem escR_z (h : s[1]? = some c) (hc : escC c = none) (hN : hexI (hexU s) = N) (hb : N < 0 ∨ (56320 ≤ N ∧ N ≤ 57343)) : escR s = (0, 0) := by
 rw [escR_hex h hc]
 cases hu : hexU s with
 | none => rfl
 | some n =>
  rw [hu] at hN
  have : (n : Int) = N := hN
  simp only
  rw [if_pos (by omega)]
theorem escR_one (h : s[1]? = some c) (hc : escC c = none) (hN : hexI (hexU s) = N) (hb : ¬ (N < 0 ∨ (56320 ≤ N ∧ N ≤ 57343))) (h2 : N < 55296 ∨ 57343 < N) : escR s = (N.toNat, 6) := by
 rw [escR_hex h hc]
 cases hu : hexU s with
 | none => rw [hu] at hN; have : (-1 : Int) = N := hN; omega
 | some n =>
  rw [hu] at hN
  have : (n : Int) = N := hN
  simp only
  rw [if_neg (by omega), if_pos (by omega), ← this]
  rfl
theorem escR_z2 (h : s[1]? = some c) (hc : escC c = none) (hN : hexI (hexU s) = N) (hb : ¬ (N < 0 ∨ (56320 ≤ N ∧ N ≤ 57343))) (h2 : ¬ (N < 55296 ∨ 57343 < N)) (hM : hexI (hexU (s.drop 6)) = M) (h3 : M < 56320 ∨ 57343 < M) : escR s = (0, 0) := by
 rw [escR_hex h hc]
 cases hu : hexU s with
 | none => rfl
 | some n =>
  rw [hu] at hN
  have : (n : Int) = N := hN
  simp only
  rw [if_neg (by omega), if_neg (by omega)]
  cases hv : hexU (s.drop 6) with
  | none => rfl
  | some m =>
   rw [hv] at hM
   have : (m : Int) = M := hM
   simp only
   rw [if_pos (by omega)]
theorem escR_pair (h : s[1]? = some c) (hc : escC c = none) (hN : hexI (hexU s) = N) (hb : ¬ (N < 0 ∨ (56320 ≤ N ∧ N ≤ 57343))) (h2 : ¬ (N < 55296 ∨ 57343 < N)) (hM : hexI (hexU (s.drop 6)) = M) (h3 : ¬ (M < 56320 ∨ 57343 < M)) : escR s = ((65536 + 1024 * (N - 55296) + (M - 56320)).toNat, 12) := by
 rw [escR_hex h hc]
 cases hu : hexU s with
 | none => rw [hu] at hN; have : (-1 : Int) = N := hN; omega
 | some n =>
  rw [hu] at hN
  have : (n : Int) = N := hN
  simp only
  rw [if_neg (by omega), if_neg (by omega)]
  cases hv : hexU (s.drop 6) with
  | none => rw [hv] at hM; have : (-1 : Int) = M := hM; omega
  | some m =>
   rw [hv] at hM
   have : (m : Int) = M := hM
   simp only
   rw [if_neg (by omega)]
   exact Prod.ext (show 65536 + 1024 * (n - 55296) + (m - 56320) = _ by omega) rfl
theorem hexI_bound (hN : hexI (hexU s) = N) : -1 ≤ N ∧ N < 65536 ∧ (0 ≤ N → 6 ≤ s.length) := by
 cases hu : hexU s with
 | none => rw [hu] at hN; have : (-1 : Int) = N := hN; omega
 | some n =>
  rw [hu] at hN
  have : (n : Int) = N := hN
  obtain ⟨h1, h2⟩ := hexU_len hu
  omega
end
theorem encB_1 {c : Nat} (h : c < 128) : 1 = (encB c).length ∧ (encB c).map B8 = [.int .u8 (c : Int)] := ⟨by simp [encB, encL, h], by rw [encB_cells (by omega), encL, if_pos h]; rfl⟩
theorem encB_2 {c : Nat} (h : ¬ c < 128) (h2 : c < 2048) : 2 = (encB c).length ∧ (encB c).map B8 = [.int .u8 ((192 + c / 64 : Nat) : Int), .int .u8 ((128 + c % 64 : Nat) : Int)] := ⟨by simp [encB, encL, h, h2], by rw [encB_cells (by omega), encL, if_neg h, if_pos h2]; rfl⟩
theorem encB_3 {c : Nat} (h : ¬ c < 2048) (h2 : c < 65536) : 3 = (encB c).length ∧ (encB c).map B8 = [.int .u8 ((224 + c / 4096 : Nat) : Int), .int .u8 ((128 + c / 64 % 64 : Nat) : Int), .int .u8 ((128 + c % 64 : Nat) : Int)] := ⟨by simp [encB, encL, h, h2, show ¬ c < 128 by omega], by rw [encB_cells (by omega), encL, if_neg (by omega), if_neg h, if_pos h2]; rfl⟩
theorem encB_4 {c : Nat} (h : ¬ c < 65536) (h2 : c ≤ 1114111) : 4 = (encB c).length ∧ (encB c).map B8 = [.int .u8 ((240 + c / 262144 : Nat) : Int), .int .u8 ((128 + c / 4096 % 64 : Nat) : Int), .int .u8 ((128 + c / 64 % 64 : Nat) : Int), .int .u8 ((128 + c % 64 : Nat) : Int)] := ⟨by simp [encB, encL, h, show ¬ c < 128 by omega, show ¬ c < 2048 by omega], by rw [encB_cells h2, encL, if_neg (by omega), if_neg (by omega), if_neg h]; rfl⟩
def escX (s : Str) (i : Nat) : Nat × Nat := if s[i]? = some 92 then escR (s.drop i) else runeR (s.drop i)
theorem escX_le {s : Str} {i : Nat} {c : UInt8} (h : s[i]? = some c) : (escX s i).1 ≤ 1114111 ∧ i + (escX s i).2 ≤ s.length := by
 have hi := (List.getElem?_eq_some_iff.1 h).1
 unfold escX
 split
 ·rename_i h92
  rw [drop_get h92]
  have := escP_le (s.drop (i + 1))
  unfold escP at this
  rw [List.length_drop] at this
  split at this
  ·rename_i h0
   rw [h0]
   have h1 : (escR (92 :: s.drop (i + 1))).1 = 0 ∨ True := .inr trivial
   refine ⟨?_, by omega⟩
   have hz : ∀ l : Str, (escR l).2 = 0 → (escR l).1 = 0 := by
    intro l
    unfold escR
    repeat' split
    all_goals simp
   rw [hz _ h0]
   omega
  ·refine ⟨this.1, ?_⟩
   have := this.2.2
   simp only at this
   omega
 ·have hle := runeR_le (s.drop i)
  rw [List.length_drop] at hle
  refine ⟨?_, by omega⟩
  rcases ok_all (l := s.drop i) (by rw [drop_get h]; simp) with ⟨h1, _⟩ | ⟨_, _, _, h4, _⟩
  ·have hz : ∀ l : Str, (runeR l).2 = 0 → (runeR l).1 = 0 := by
    intro l
    unfold runeR
    repeat' split
    all_goals simp
    intro h2
    omega
   rw [hz _ h1]
   omega
  ·exact h4
theorem strF_go {f i : Nat} {s out : Str} {c : UInt8} (h : s[i]? = some c) (h34 : c ≠ 34) : strF (f + 1) (s.drop i) i out = if (escX s i).2 = 0 ∨ (c ≠ 92 ∧ (escX s i).1 < 32) then none else strF f (s.drop (i + (escX s i).2)) (i + (escX s i).2) (out ++ encB (escX s i).1) := by
 unfold escX
 rw [h]
 simp only [Option.some.injEq]
 rw [← List.drop_drop, drop_get h, strF, if_neg h34]
end Go.Proofs.YtknndpjacklkeaaGreatDoor.V

set_option linter.unusedVariables false
set_option linter.unusedSimpArgs false
set_option maxRecDepth 10000
namespace Go.Proofs.YtknndpjacklkeaaGreatDoor.V
open Go Go.Proofs

theorem hexn (n i : Nat) (h : n < 16 ^ (i - 2)) (hi : i < 6) : n < 4096 := pow16_le h (by omega)

theorem c_hexR (w : World) (s : Str) (hs : s.length ≤ 1000000) : Calls Tryz.prog 183 [S s].toArray w (Ret fun u w' => u = .int .i64 (hexI (hexU s)) ∧ Mod [] w w') := by
 refine enter Tryz.func183 rfl rfl rfl (l := [(0, _)]) ⟨rfl, trivial⟩ ?_
 have E := Mod.refl [] w
 refine Cq fun K1 hK1 => Cr (Za rfl (Ln (e_K (hK1 _ _ _ _ (Cq fun K2 hK2 => Cq fun K3 hK3 => Cr (Zm rfl (Sv (o_slen Tryz.underlying9 rfl) (Sv (o_lss rfl rfl) ?_))))))))
 refine bD (fun hlt : (s.length : Int) < 6 => ?_) (fun hlt => ?_)
 ·refine tW 10 rfl (Ln (e_K (hK3 _ _ _ _ (c_true rfl ?_))))
  have hR : hexU s = none := by first | exact hexU_short (by omega) | exact hexU_n0 hc0 (fun h => h h0n) | exact hexU_n1 hc1 (fun h => h h1n)
  exact Cq fun K4 hK4 => Cr (Za rfl (Ln (e_K (hK4 _ _ _ _ (cR (eT (by simp) (ret1 rfl rfl ⟨by rw [hR]; rfl, E⟩)))))))
 ·obtain ⟨c0, hc0⟩ : ∃ c, s[0]? = some c := ⟨_, List.getElem?_eq_getElem (by omega)⟩
  obtain ⟨c1, hc1⟩ : ∃ c, s[1]? = some c := ⟨_, List.getElem?_eq_getElem (by omega)⟩
  refine tW 2 rfl (Sg rfl rfl (o_sidx (c := c0) Tryz.underlying9 rfl rfl (by omega) hc0) (Sg rfl rfl (o_neq rfl rfl) ?_))
  refine bD (fun h0n : (c0.toNat : Int) ≠ 92 => ?_) (fun h0n => ?_)
  ·refine tW 6 rfl (Ln (e_K (hK3 _ _ _ _ (c_true rfl ?_))))
   have hR : hexU s = none := by first | exact hexU_short (by omega) | exact hexU_n0 hc0 (fun h => h h0n) | exact hexU_n1 hc1 (fun h => h h1n)
   exact Cq fun K5 hK5 => Cr (Za rfl (Ln (e_K (hK5 _ _ _ _ (cR (eT (by simp) (ret1 rfl rfl ⟨by rw [hR]; rfl, E⟩)))))))
  ·refine tW 3 rfl (Sg rfl rfl (o_sidx (c := c1) Tryz.underlying9 rfl rfl (by omega) hc1) (Sg rfl rfl (o_neq rfl rfl) ?_))
   refine bD (fun h1n : (c1.toNat : Int) ≠ 117 => ?_) (fun h1n => ?_)
   ·refine Sv (oF rfl rfl rfl) (Ln (e_K (hK3 _ _ _ _ (c_true rfl ?_))))
    have hR : hexU s = none := by first | exact hexU_short (by omega) | exact hexU_n0 hc0 (fun h => h h0n) | exact hexU_n1 hc1 (fun h => h h1n)
    exact Cq fun K6 hK6 => Cr (Za rfl (Ln (e_K (hK6 _ _ _ _ (cR (eT (by simp) (ret1 rfl rfl ⟨by rw [hR]; rfl, E⟩)))))))
   ·refine Sv (oF rfl rfl rfl) (Ln (e_K (hK3 _ _ _ _ (c_false rfl (cK (e_K (hK2 _ _ _ _ (Cq fun K7 hK7 => Cr (Za rfl (Ln (e_K (hK7 _ _ _ _ (Cq fun K8 hK8 => Cq fun K9 hK9 => Cr ?_)))))))))))))
    refine Za rfl (Ln (e_K (hK9 _ _ _ _ (cB (c_loop (σ := Nat × Nat) (fun ⟨i, n⟩ => [(0, S s), (3, .int .i64 (n : Int)), (4, .int .i64 (i : Int))]) (fun ⟨i, n⟩ w1 => 2 ≤ i ∧ i ≤ 6 ∧ hexF (6 - i) (s.drop i) n = hexU s ∧ n < 16 ^ (i - 2) ∧ Mod [] w w1) (fun ⟨i, n⟩ => 6 - i) (⟨2, 0⟩) ⟨rfl, rfl, rfl, trivial⟩ (⟨by omega, by omega, (hexU_at hc0 hc1 (Classical.not_not.1 h0n) (Classical.not_not.1 h1n)).symm, by decide, E⟩) ?_)))))
    rintro ⟨i, n⟩ w1 ⟨hi1, hi, hH, hn, E⟩
    refine Cq fun K10 hK10 => Cq fun K11 hK11 => Cr (tW 2 rfl (Ln (e_K (hK11 _ _ _ _ ?_))))
    refine c_if rfl (fun h20 => ?_) (fun h20 => ?_)
    ·have hi2 : i < 6 := by omega
     obtain ⟨c, hc⟩ : ∃ c, s[i]? = some c := ⟨_, List.getElem?_eq_getElem (by have := hlt; omega)⟩
     have hcl := c.toNat_lt
     refine cK (e_K (hK10 _ _ _ _ (Cq fun K12 hK12 => cB (Cq fun K13 hK13 => Cr (tW 2 rfl (Sv (o_sidx Tryz.underlying9 rfl rfl (by omega) (by rw [Int.toNat_natCast]; exact hc)) (Za rfl (Ln (e_K (hK13 _ _ _ _ (cB (Cq fun K14 hK14 => Cr ?_))))))))))))
     refine Zm rfl (Sv (o_geq rfl rfl) ?_)
     refine bD (fun ha1 : (c.toNat : Int) ≥ 48 => ?_) (fun ha1 => ?_)
     ·refine tW 3 rfl ?_
      refine bD (fun ha2 : (c.toNat : Int) ≤ 57 => ?_) (fun ha2 => ?_)
      ·refine tW 2 rfl (Ln (e_K (hK14 _ _ _ _ (c_true rfl ?_))))
       obtain ⟨d, hd⟩ : ∃ d, d = c.toNat - 48 := ⟨_, rfl⟩
       have hv : hexv c = some d := by rw [hd]; exact hexv_09 (by omega) (by omega)
       have hd16 : d < 16 := by omega
       refine Cr (Zm rfl (Sv (o_mulE (r := ((16 * n : Nat) : Int)) rfl rfl (by have := hexn n i hn hi2; rw [wrap64_in _ (by omega)]; omega)) (Zm rfl (Sv ((o_sub rfl rfl).to (v' := .int .u8 ((c.toNat - 48 : Nat) : Int)) (by rw [wrapu8_in _ (by omega)]; congr 1; omega)) (Sv (o_convE (r := ((c.toNat - 48 : Nat) : Int)) Tryz.underlying5 Tryz.underlying3 rfl (wrap64_in _ (by omega))) (Sv (o_addE (r := ((16 * n + d : Nat) : Int)) rfl rfl (by have := hexn n i hn hi2; rw [wrap64_in _ (by omega)]; omega)) (Za rfl (Ln (eI (by simp) (eI (by simp) (e_K (hK12 _ _ _ _ (Cr (Zm rfl ?_))))))))))))))
       exact Sv (o_addE (r := ((i + 1 : Nat) : Int)) rfl rfl (by rw [wrap64_in _ (by omega)]; omega)) (Za rfl (Ln (eR (σ := Nat × Nat) (s := ⟨i, n⟩) (⟨i + 1, 16 * n + d⟩) ⟨rfl, rfl, rfl, trivial⟩ ⟨by omega, by omega, hexS_some hi2 hc hv hH, hex_grow hn hd16 hi1, E⟩ (by dsimp only; omega))))
      ·refine tW 2 rfl (Ln (e_K (hK14 _ _ _ _ (c_false rfl ?_))))
       have hn1 : ¬ (48 ≤ c.toNat ∧ c.toNat ≤ 57) := by omega
       refine Cq fun K15 hK15 => Cr (Zm rfl (Sv (o_geq rfl rfl) ?_))
       refine bD (fun hb1 : (c.toNat : Int) ≥ 97 => ?_) (fun hb1 => ?_)
       ·refine tW 3 rfl ?_
        refine bD (fun hb2 : (c.toNat : Int) ≤ 102 => ?_) (fun hb2 => ?_)
        ·refine tW 2 rfl (Ln (e_K (hK15 _ _ _ _ (c_true rfl ?_))))
         obtain ⟨d, hd⟩ : ∃ d, d = c.toNat - 87 := ⟨_, rfl⟩
         have hv : hexv c = some d := by rw [hd]; exact hexv_af (by omega) (by omega)
         have hd16 : d < 16 := by omega
         refine Cr (Zm rfl (Sv (o_mulE (r := ((16 * n : Nat) : Int)) rfl rfl (by have := hexn n i hn hi2; rw [wrap64_in _ (by omega)]; omega)) (Zm rfl (Sv ((o_sub rfl rfl).to (v' := .int .u8 ((c.toNat - 97 : Nat) : Int)) (by rw [wrapu8_in _ (by omega)]; congr 1; omega)) (Sv (o_convE (r := ((c.toNat - 97 : Nat) : Int)) Tryz.underlying5 Tryz.underlying3 rfl (wrap64_in _ (by omega))) (Sv (o_addE (r := ((16 * n + (c.toNat - 97) : Nat) : Int)) rfl rfl (by have := hexn n i hn hi2; rw [wrap64_in _ (by omega)]; omega)) (Sv (o_addE (r := ((16 * n + d : Nat) : Int)) rfl rfl (by have := hexn n i hn hi2; rw [wrap64_in _ (by omega)]; omega)) (Za rfl (Ln (eI (by simp) (eI (by simp) (e_K (hK12 _ _ _ _ (Cr ?_))))))))))))))
         exact Zm rfl (Sv (o_addE (r := ((i + 1 : Nat) : Int)) rfl rfl (by rw [wrap64_in _ (by omega)]; omega)) (Za rfl (Ln (eR (σ := Nat × Nat) (s := ⟨i, n⟩) (⟨i + 1, 16 * n + d⟩) ⟨rfl, rfl, rfl, trivial⟩ ⟨by omega, by omega, hexS_some hi2 hc hv hH, hex_grow hn hd16 hi1, E⟩ (by dsimp only; omega)))))
        ·refine tW 2 rfl (Ln (e_K (hK15 _ _ _ _ (c_false rfl ?_))))
         have hn2 : ¬ (97 ≤ c.toNat ∧ c.toNat ≤ 102) := by omega
         refine Cq fun K16 hK16 => Cr (Zm rfl (Sv (o_geq rfl rfl) ?_))
         refine bD (fun hc1_ : (c.toNat : Int) ≥ 65 => ?_) (fun hc1_ => ?_)
         ·refine tW 3 rfl ?_
          refine bD (fun hc2_ : (c.toNat : Int) ≤ 70 => ?_) (fun hc2_ => ?_)
          ·refine tW 2 rfl (Ln (e_K (hK16 _ _ _ _ (c_true rfl ?_))))
           obtain ⟨d, hd⟩ : ∃ d, d = c.toNat - 55 := ⟨_, rfl⟩
           have hv : hexv c = some d := by rw [hd]; exact hexv_AF (by omega) (by omega)
           have hd16 : d < 16 := by omega
           refine Cr (Zm rfl (Sv (o_mulE (r := ((16 * n : Nat) : Int)) rfl rfl (by have := hexn n i hn hi2; rw [wrap64_in _ (by omega)]; omega)) (Zm rfl (Sv ((o_sub rfl rfl).to (v' := .int .u8 ((c.toNat - 65 : Nat) : Int)) (by rw [wrapu8_in _ (by omega)]; congr 1; omega)) (Sv (o_convE (r := ((c.toNat - 65 : Nat) : Int)) Tryz.underlying5 Tryz.underlying3 rfl (wrap64_in _ (by omega))) (Sv (o_addE (r := ((16 * n + (c.toNat - 65) : Nat) : Int)) rfl rfl (by have := hexn n i hn hi2; rw [wrap64_in _ (by omega)]; omega)) (Sv (o_addE (r := ((16 * n + d : Nat) : Int)) rfl rfl (by have := hexn n i hn hi2; rw [wrap64_in _ (by omega)]; omega)) (Za rfl (Ln (eI (by simp) (eI (by simp) (e_K (hK12 _ _ _ _ (Cr ?_))))))))))))))
           exact Zm rfl (Sv (o_addE (r := ((i + 1 : Nat) : Int)) rfl rfl (by rw [wrap64_in _ (by omega)]; omega)) (Za rfl (Ln (eR (σ := Nat × Nat) (s := ⟨i, n⟩) (⟨i + 1, 16 * n + d⟩) ⟨rfl, rfl, rfl, trivial⟩ ⟨by omega, by omega, hexS_some hi2 hc hv hH, hex_grow hn hd16 hi1, E⟩ (by dsimp only; omega)))))
          ·refine tW 2 rfl (Ln (e_K (hK16 _ _ _ _ (c_false rfl ?_))))
           have hR : hexU s = none := hexS_none hi2 hc (hexv_x hn1 hn2 (by omega)) hH
           exact Cq fun K17 hK17 => Cr (Za rfl (Ln (e_K (hK17 _ _ _ _ (cR (eI (by simp) (eI (by simp) (eT (by simp) (eT (by simp) (eI (by simp) (eT (by simp) (ret1 rfl rfl ⟨by rw [hR]; rfl, E⟩))))))))))))
         ·refine tW 5 rfl (Ln (e_K (hK16 _ _ _ _ (c_false rfl ?_))))
          have hR : hexU s = none := hexS_none hi2 hc (hexv_x hn1 hn2 (by omega)) hH
          exact Cq fun K18 hK18 => Cr (Za rfl (Ln (e_K (hK18 _ _ _ _ (cR (eI (by simp) (eI (by simp) (eT (by simp) (eT (by simp) (eI (by simp) (eT (by simp) (ret1 rfl rfl ⟨by rw [hR]; rfl, E⟩))))))))))))
       ·refine tW 5 rfl (Ln (e_K (hK15 _ _ _ _ (c_false rfl ?_))))
        have hn2 : ¬ (97 ≤ c.toNat ∧ c.toNat ≤ 102) := by omega
        refine Cq fun K19 hK19 => Cr (Zm rfl (Sv (o_geq rfl rfl) ?_))
        refine bD (fun hc1_ : (c.toNat : Int) ≥ 65 => ?_) (fun hc1_ => ?_)
        ·refine tW 3 rfl ?_
         refine bD (fun hc2_ : (c.toNat : Int) ≤ 70 => ?_) (fun hc2_ => ?_)
         ·refine tW 2 rfl (Ln (e_K (hK19 _ _ _ _ (c_true rfl ?_))))
          obtain ⟨d, hd⟩ : ∃ d, d = c.toNat - 55 := ⟨_, rfl⟩
          have hv : hexv c = some d := by rw [hd]; exact hexv_AF (by omega) (by omega)
          have hd16 : d < 16 := by omega
          refine Cr (Zm rfl (Sv (o_mulE (r := ((16 * n : Nat) : Int)) rfl rfl (by have := hexn n i hn hi2; rw [wrap64_in _ (by omega)]; omega)) (Zm rfl (Sv ((o_sub rfl rfl).to (v' := .int .u8 ((c.toNat - 65 : Nat) : Int)) (by rw [wrapu8_in _ (by omega)]; congr 1; omega)) (Sv (o_convE (r := ((c.toNat - 65 : Nat) : Int)) Tryz.underlying5 Tryz.underlying3 rfl (wrap64_in _ (by omega))) (Sv (o_addE (r := ((16 * n + (c.toNat - 65) : Nat) : Int)) rfl rfl (by have := hexn n i hn hi2; rw [wrap64_in _ (by omega)]; omega)) (Sv (o_addE (r := ((16 * n + d : Nat) : Int)) rfl rfl (by have := hexn n i hn hi2; rw [wrap64_in _ (by omega)]; omega)) (Za rfl (Ln (eI (by simp) (eI (by simp) (e_K (hK12 _ _ _ _ (Cr ?_))))))))))))))
          exact Zm rfl (Sv (o_addE (r := ((i + 1 : Nat) : Int)) rfl rfl (by rw [wrap64_in _ (by omega)]; omega)) (Za rfl (Ln (eR (σ := Nat × Nat) (s := ⟨i, n⟩) (⟨i + 1, 16 * n + d⟩) ⟨rfl, rfl, rfl, trivial⟩ ⟨by omega, by omega, hexS_some hi2 hc hv hH, hex_grow hn hd16 hi1, E⟩ (by dsimp only; omega)))))
         ·refine tW 2 rfl (Ln (e_K (hK19 _ _ _ _ (c_false rfl ?_))))
          have hR : hexU s = none := hexS_none hi2 hc (hexv_x hn1 hn2 (by omega)) hH
          exact Cq fun K20 hK20 => Cr (Za rfl (Ln (e_K (hK20 _ _ _ _ (cR (eI (by simp) (eI (by simp) (eT (by simp) (eT (by simp) (eI (by simp) (eT (by simp) (ret1 rfl rfl ⟨by rw [hR]; rfl, E⟩))))))))))))
        ·refine tW 5 rfl (Ln (e_K (hK19 _ _ _ _ (c_false rfl ?_))))
         have hR : hexU s = none := hexS_none hi2 hc (hexv_x hn1 hn2 (by omega)) hH
         exact Cq fun K21 hK21 => Cr (Za rfl (Ln (e_K (hK21 _ _ _ _ (cR (eI (by simp) (eI (by simp) (eT (by simp) (eT (by simp) (eI (by simp) (eT (by simp) (ret1 rfl rfl ⟨by rw [hR]; rfl, E⟩))))))))))))
     ·refine tW 5 rfl (Ln (e_K (hK14 _ _ _ _ (c_false rfl ?_))))
      have hn1 : ¬ (48 ≤ c.toNat ∧ c.toNat ≤ 57) := by omega
      refine Cq fun K22 hK22 => Cr (Zm rfl (Sv (o_geq rfl rfl) ?_))
      refine bD (fun hb1 : (c.toNat : Int) ≥ 97 => ?_) (fun hb1 => ?_)
      ·refine tW 3 rfl ?_
       refine bD (fun hb2 : (c.toNat : Int) ≤ 102 => ?_) (fun hb2 => ?_)
       ·refine tW 2 rfl (Ln (e_K (hK22 _ _ _ _ (c_true rfl ?_))))
        obtain ⟨d, hd⟩ : ∃ d, d = c.toNat - 87 := ⟨_, rfl⟩
        have hv : hexv c = some d := by rw [hd]; exact hexv_af (by omega) (by omega)
        have hd16 : d < 16 := by omega
        refine Cr (Zm rfl (Sv (o_mulE (r := ((16 * n : Nat) : Int)) rfl rfl (by have := hexn n i hn hi2; rw [wrap64_in _ (by omega)]; omega)) (Zm rfl (Sv ((o_sub rfl rfl).to (v' := .int .u8 ((c.toNat - 97 : Nat) : Int)) (by rw [wrapu8_in _ (by omega)]; congr 1; omega)) (Sv (o_convE (r := ((c.toNat - 97 : Nat) : Int)) Tryz.underlying5 Tryz.underlying3 rfl (wrap64_in _ (by omega))) (Sv (o_addE (r := ((16 * n + (c.toNat - 97) : Nat) : Int)) rfl rfl (by have := hexn n i hn hi2; rw [wrap64_in _ (by omega)]; omega)) (Sv (o_addE (r := ((16 * n + d : Nat) : Int)) rfl rfl (by have := hexn n i hn hi2; rw [wrap64_in _ (by omega)]; omega)) (Za rfl (Ln (eI (by simp) (eI (by simp) (e_K (hK12 _ _ _ _ (Cr ?_))))))))))))))
        exact Zm rfl (Sv (o_addE (r := ((i + 1 : Nat) : Int)) rfl rfl (by rw [wrap64_in _ (by omega)]; omega)) (Za rfl (Ln (eR (σ := Nat × Nat) (s := ⟨i, n⟩) (⟨i + 1, 16 * n + d⟩) ⟨rfl, rfl, rfl, trivial⟩ ⟨by omega, by omega, hexS_some hi2 hc hv hH, hex_grow hn hd16 hi1, E⟩ (by dsimp only; omega)))))
       ·refine tW 2 rfl (Ln (e_K (hK22 _ _ _ _ (c_false rfl ?_))))
        have hn2 : ¬ (97 ≤ c.toNat ∧ c.toNat ≤ 102) := by omega
        refine Cq fun K23 hK23 => Cr (Zm rfl (Sv (o_geq rfl rfl) ?_))
        refine bD (fun hc1_ : (c.toNat : Int) ≥ 65 => ?_) (fun hc1_ => ?_)
        ·refine tW 3 rfl ?_
         refine bD (fun hc2_ : (c.toNat : Int) ≤ 70 => ?_) (fun hc2_ => ?_)
         ·refine tW 2 rfl (Ln (e_K (hK23 _ _ _ _ (c_true rfl ?_))))
          obtain ⟨d, hd⟩ : ∃ d, d = c.toNat - 55 := ⟨_, rfl⟩
          have hv : hexv c = some d := by rw [hd]; exact hexv_AF (by omega) (by omega)
          have hd16 : d < 16 := by omega
          refine Cr (Zm rfl (Sv (o_mulE (r := ((16 * n : Nat) : Int)) rfl rfl (by have := hexn n i hn hi2; rw [wrap64_in _ (by omega)]; omega)) (Zm rfl (Sv ((o_sub rfl rfl).to (v' := .int .u8 ((c.toNat - 65 : Nat) : Int)) (by rw [wrapu8_in _ (by omega)]; congr 1; omega)) (Sv (o_convE (r := ((c.toNat - 65 : Nat) : Int)) Tryz.underlying5 Tryz.underlying3 rfl (wrap64_in _ (by omega))) (Sv (o_addE (r := ((16 * n + (c.toNat - 65) : Nat) : Int)) rfl rfl (by have := hexn n i hn hi2; rw [wrap64_in _ (by omega)]; omega)) (Sv (o_addE (r := ((16 * n + d : Nat) : Int)) rfl rfl (by have := hexn n i hn hi2; rw [wrap64_in _ (by omega)]; omega)) (Za rfl (Ln (eI (by simp) (eI (by simp) (e_K (hK12 _ _ _ _ (Cr ?_))))))))))))))
          exact Zm rfl (Sv (o_addE (r := ((i + 1 : Nat) : Int)) rfl rfl (by rw [wrap64_in _ (by omega)]; omega)) (Za rfl (Ln (eR (σ := Nat × Nat) (s := ⟨i, n⟩) (⟨i + 1, 16 * n + d⟩) ⟨rfl, rfl, rfl, trivial⟩ ⟨by omega, by omega, hexS_some hi2 hc hv hH, hex_grow hn hd16 hi1, E⟩ (by dsimp only; omega)))))
         ·refine tW 2 rfl (Ln (e_K (hK23 _ _ _ _ (c_false rfl ?_))))
          have hR : hexU s = none := hexS_none hi2 hc (hexv_x hn1 hn2 (by omega)) hH
          exact Cq fun K24 hK24 => Cr (Za rfl (Ln (e_K (hK24 _ _ _ _ (cR (eI (by simp) (eI (by simp) (eT (by simp) (eT (by simp) (eI (by simp) (eT (by simp) (ret1 rfl rfl ⟨by rw [hR]; rfl, E⟩))))))))))))
        ·refine tW 5 rfl (Ln (e_K (hK23 _ _ _ _ (c_false rfl ?_))))
         have hR : hexU s = none := hexS_none hi2 hc (hexv_x hn1 hn2 (by omega)) hH
         exact Cq fun K25 hK25 => Cr (Za rfl (Ln (e_K (hK25 _ _ _ _ (cR (eI (by simp) (eI (by simp) (eT (by simp) (eT (by simp) (eI (by simp) (eT (by simp) (ret1 rfl rfl ⟨by rw [hR]; rfl, E⟩))))))))))))
      ·refine tW 5 rfl (Ln (e_K (hK22 _ _ _ _ (c_false rfl ?_))))
       have hn2 : ¬ (97 ≤ c.toNat ∧ c.toNat ≤ 102) := by omega
       refine Cq fun K26 hK26 => Cr (Zm rfl (Sv (o_geq rfl rfl) ?_))
       refine bD (fun hc1_ : (c.toNat : Int) ≥ 65 => ?_) (fun hc1_ => ?_)
       ·refine tW 3 rfl ?_
        refine bD (fun hc2_ : (c.toNat : Int) ≤ 70 => ?_) (fun hc2_ => ?_)
        ·refine tW 2 rfl (Ln (e_K (hK26 _ _ _ _ (c_true rfl ?_))))
         obtain ⟨d, hd⟩ : ∃ d, d = c.toNat - 55 := ⟨_, rfl⟩
         have hv : hexv c = some d := by rw [hd]; exact hexv_AF (by omega) (by omega)
         have hd16 : d < 16 := by omega
         refine Cr (Zm rfl (Sv (o_mulE (r := ((16 * n : Nat) : Int)) rfl rfl (by have := hexn n i hn hi2; rw [wrap64_in _ (by omega)]; omega)) (Zm rfl (Sv ((o_sub rfl rfl).to (v' := .int .u8 ((c.toNat - 65 : Nat) : Int)) (by rw [wrapu8_in _ (by omega)]; congr 1; omega)) (Sv (o_convE (r := ((c.toNat - 65 : Nat) : Int)) Tryz.underlying5 Tryz.underlying3 rfl (wrap64_in _ (by omega))) (Sv (o_addE (r := ((16 * n + (c.toNat - 65) : Nat) : Int)) rfl rfl (by have := hexn n i hn hi2; rw [wrap64_in _ (by omega)]; omega)) (Sv (o_addE (r := ((16 * n + d : Nat) : Int)) rfl rfl (by have := hexn n i hn hi2; rw [wrap64_in _ (by omega)]; omega)) (Za rfl (Ln (eI (by simp) (eI (by simp) (e_K (hK12 _ _ _ _ (Cr ?_))))))))))))))
         exact Zm rfl (Sv (o_addE (r := ((i + 1 : Nat) : Int)) rfl rfl (by rw [wrap64_in _ (by omega)]; omega)) (Za rfl (Ln (eR (σ := Nat × Nat) (s := ⟨i, n⟩) (⟨i + 1, 16 * n + d⟩) ⟨rfl, rfl, rfl, trivial⟩ ⟨by omega, by omega, hexS_some hi2 hc hv hH, hex_grow hn hd16 hi1, E⟩ (by dsimp only; omega)))))
        ·refine tW 2 rfl (Ln (e_K (hK26 _ _ _ _ (c_false rfl ?_))))
         have hR : hexU s = none := hexS_none hi2 hc (hexv_x hn1 hn2 (by omega)) hH
         exact Cq fun K27 hK27 => Cr (Za rfl (Ln (e_K (hK27 _ _ _ _ (cR (eI (by simp) (eI (by simp) (eT (by simp) (eT (by simp) (eI (by simp) (eT (by simp) (ret1 rfl rfl ⟨by rw [hR]; rfl, E⟩))))))))))))
       ·refine tW 5 rfl (Ln (e_K (hK26 _ _ _ _ (c_false rfl ?_))))
        have hR : hexU s = none := hexS_none hi2 hc (hexv_x hn1 hn2 (by omega)) hH
        exact Cq fun K28 hK28 => Cr (Za rfl (Ln (e_K (hK28 _ _ _ _ (cR (eI (by simp) (eI (by simp) (eT (by simp) (eT (by simp) (eI (by simp) (eT (by simp) (ret1 rfl rfl ⟨by rw [hR]; rfl, E⟩))))))))))))
    ·have hi6 : i = 6 := by omega
     subst hi6
     have hR : hexU s = some n := hH.symm
     exact c_exit (eT (by simp) (eT (by simp) (e_hit (e_K (hK8 _ _ _ _ (Cq fun K29 hK29 => Cr (tW 2 rfl (Ln (e_K (hK29 _ _ _ _ (cR (ret1 rfl rfl ⟨by rw [hR]; rfl, E⟩))))))))))))
end Go.Proofs.YtknndpjacklkeaaGreatDoor.V
