/-
  A part of the proof: a value's canonical text, read, is the value; a value with a canonical text is read from it as it is; what the row lays, as the reading asks for it; no writing fails with the number 0; what is read has a canonical text, unless it is too long. No condition of its own.
-/
import Derived.Test.YtknndpjacklkeaaGreatDoorM17
import Derived.Test.YtknndpjacklkeaaGreatDoorM12
import Derived.Test.YtknndpjacklkeaaGreatDoorM6
import Derived.Test.YtknndpjacklkeaaGreatDoorM5
import Derived.Test.YtknndpjacklkeaaGreatDoorRows
import Derived.Lib.LaidTab
import Derived.Lib.LaidU8
import Derived.Test.YtknndpjacklkeaaGreatDoorM2
import Derived.Test.YtknndpjacklkeaaGreatDoorM10
import Derived.Test.YtknndpjacklkeaaGreatDoorM7
set_option linter.unusedVariables false
set_option linter.unusedSimpArgs false
namespace Go.Proofs.YtknndpjacklkeaaGreatDoor.V
open Go
theorem tk_mono (s : Str) : ∀ f : Nat, (∀ k deep r, tkV f s k deep = some r → tkV (f + 1) s k deep = some r) ∧
  (∀ k deep acc r, tkL f s k deep acc = some r → tkL (f + 1) s k deep acc = some r) ∧
  (∀ k deep m r, tkM f s k deep m = some r → tkM (f + 1) s k deep m = some r)
 | 0 => ⟨fun _ _ _ h => by simp [tkV] at h, fun _ _ _ _ h => by simp [tkL] at h, fun _ _ _ _ h => by simp [tkM] at h⟩
 | f + 1 => by
  obtain ⟨ihV, ihL, ihM⟩ := tk_mono s f
  refine ⟨fun k0 deep r h => ?_, fun k deep acc r h => ?_, fun k deep m r h => ?_⟩
  ·rw [tkV] at h ⊢
   generalize spanA isWs s k0 = k at h ⊢
   dsimp only at h ⊢
   split at h
   ·rename_i c; rw [if_pos c]; exact h
   rename_i c; rw [if_neg c]
   split at h
   ·rename_i c; rw [if_pos c]; exact h
   rename_i c; rw [if_neg c]
   split at h
   ·rename_i c; rw [if_pos c]; exact h
   rename_i c; rw [if_neg c]
   split at h
   ·rename_i c; rw [if_pos c]; exact h
   rename_i c; rw [if_neg c]
   split at h
   ·rename_i c; rw [if_pos c]
    split at h
    ·rename_i c; rw [if_pos c]; exact h
    rename_i c; rw [if_neg c]
    split at h
    ·rename_i c; rw [if_pos c]
     split at h
     ·rename_i c; rw [if_pos c]; exact h
     rename_i c; rw [if_neg c]
     exact ihL _ _ _ _ h
    ·rename_i c; rw [if_neg c]
     split at h
     ·rename_i c; rw [if_pos c]; exact h
     rename_i c; rw [if_neg c]
     exact ihM _ _ _ _ h
   ·rename_i c; rw [if_neg c]; exact h
  ·rw [tkL] at h ⊢
   split at h
   ·cases h
   ·rename_i e hv; rw [ihV _ _ _ hv]; exact h
   ·rename_i y k2 hv
    rw [ihV _ _ _ hv]
    dsimp only at h ⊢
    split at h
    ·rename_i c; rw [if_pos c]; exact h
    rename_i c; rw [if_neg c]
    split at h
    ·rename_i c; rw [if_pos c]; exact ihL _ _ _ _ h
    ·rename_i c; rw [if_neg c]; exact h
  ·rw [tkM] at h ⊢
   split at h
   ·rename_i e hk; exact h
   ·rename_i t k1 hk
    split at h
    ·cases h
    ·rename_i e hv; rw [ihV _ _ _ hv]; exact h
    ·rename_i y k2 hv
     rw [ihV _ _ _ hv]
     dsimp only at h ⊢
     split at h
     ·rename_i c; rw [if_pos c]; exact h
     rename_i c; rw [if_neg c]
     split at h
     ·rename_i c; rw [if_pos c]; exact ihM _ _ _ _ h
     ·rename_i c; rw [if_neg c]; exact h
theorem tkV_le {s : Str} {f g k deep : Nat} {r : PR} (h : tkV f s k deep = some r) (hg : f ≤ g) : tkV g s k deep = some r := by
 induction g with
 | zero =>
  obtain rfl : f = 0 := by omega
  exact h
 | succ g ih =>
  rcases Nat.lt_or_ge g f with h1 | h1
  ·obtain rfl : f = g + 1 := by omega
   exact h
  ·exact (tk_mono s g).1 _ _ _ (ih h1)
theorem tkL_le {s : Str} {f g k deep : Nat} {acc : List JV} {r : PR} (h : tkL f s k deep acc = some r) (hg : f ≤ g) : tkL g s k deep acc = some r := by
 induction g with
 | zero =>
  obtain rfl : f = 0 := by omega
  exact h
 | succ g ih =>
  rcases Nat.lt_or_ge g f with h1 | h1
  ·obtain rfl : f = g + 1 := by omega
   exact h
  ·exact (tk_mono s g).2.1 _ _ _ _ (ih h1)
theorem tkM_le {s : Str} {f g k deep : Nat} {acc : List (Str × JV)} {r : PR} (h : tkM f s k deep acc = some r) (hg : f ≤ g) : tkM g s k deep acc = some r := by
 induction g with
 | zero =>
  obtain rfl : f = 0 := by omega
  exact h
 | succ g ih =>
  rcases Nat.lt_or_ge g f with h1 | h1
  ·obtain rfl : f = g + 1 := by omega
   exact h
  ·exact (tk_mono s g).2.2 _ _ _ _ (ih h1)
theorem tkV_det {s : Str} {f g k deep : Nat} {r r' : PR} (h : tkV f s k deep = some r) (h' : tkV g s k deep = some r') : r = r' := by
 have h1 := tkV_le h (Nat.le_max_left f g)
 have h2 := tkV_le h' (Nat.le_max_right f g)
 rw [h1] at h2
 injection h2
theorem drop_head {s : Str} {k : Nat} {c : UInt8} {r : Str} (h : s.drop k = c :: r) : s[k]? = some c ∧ s.drop (k + 1) = r := by
 have hk : s[k]? = some c := by
  have := congrArg (fun l => l[0]?) h
  simpa [List.getElem?_drop] using this
 rw [drop_get hk] at h
 injection h with _ h
 exact ⟨hk, h⟩
theorem drop_app {s a r : Str} {k : Nat} (h : s.drop k = a ++ r) : s.drop (k + a.length) = r := by
 rw [← List.drop_drop, h, List.drop_left' rfl]
theorem has_cons {s r t : Str} {k : Nat} {c d : UInt8} (h : s.drop k = c :: r) (hd : d ≠ c) : hasA s k (d :: t) = false := by
 rw [hasA, h, List.isPrefixOf, beq_eq_false_iff_ne.2 hd]
 rfl
theorem has_here {s t r : Str} {k : Nat} (h : s.drop k = t ++ r) : hasA s k t = true := by
 rw [hasA_iff, h, List.take_left' rfl]
theorem ws_not {s r : Str} {k : Nat} {c : UInt8} (h : s.drop k = c :: r) (hc : isWs c = false) : spanA isWs s k = k := spanA_stop (drop_head h).1 hc
def vch (c : UInt8) : Prop := isWs c = false ∧ c ≠ 93 ∧ c ≠ 125
def dlm (r : Str) : Prop := ∀ c, r[0]? = some c → isNm c = false
def Bk (v : JV) (deep : Nat) (t : Str) : Prop := (∃ c r, t = c :: r ∧ vch c) ∧ ∀ s k rest, s.drop k = t ++ rest → dlm rest → ∃ f, tkV f s k deep = some (.ok (v, k + t.length))
theorem itoa_head (n : Int) : ∃ c r, Lib.itoa n = c :: r ∧ (c = 45 ∨ isDg c = true) := by
 unfold Lib.itoa
 split
 ·exact ⟨45, _, rfl, .inl rfl⟩
 ·cases h : Lib.decDigits n.toNat with
  | nil => exact absurd h (dec_ne _)
  | cons c r => exact ⟨c, r, rfl, .inr (dec_dig n.toNat c (by rw [h]; simp))⟩
theorem dg_ne {c : UInt8} (h : c = 45 ∨ isDg c = true) (d : UInt8) (hd : ¬ (d.toNat = 45 ∨ (48 ≤ d.toNat ∧ d.toNat ≤ 57))) : d ≠ c := by
 intro e
 subst e
 apply hd
 rcases h with rfl | h
 ·left; rfl
 ·right
  simp only [isDg, Bool.and_eq_true, decide_eq_true_eq] at h
  exact h
theorem bk_nul {deep : Nat} : Bk JV.nul deep JV.tNull := by
 refine ⟨⟨110, _, rfl, by decide, by decide, by decide⟩, fun s k rest h _ => ⟨1, ?_⟩⟩
 have hw := ws_not (c := 110) h rfl
 rw [tkV]
 simp only
 rw [hw, if_pos (has_here h)]
 rfl
theorem bk_true {deep : Nat} : Bk (.mk 1 true 0 [] [] []) deep JV.tTrue := by
 refine ⟨⟨116, _, rfl, by decide, by decide, by decide⟩, fun s k rest h _ => ⟨1, ?_⟩⟩
 have hw := ws_not (c := 116) h rfl
 rw [tkV]
 simp only
 rw [hw, has_cons (c := 116) h (by decide), if_neg (by simp), if_pos (has_here h)]
 rfl
theorem bk_false {deep : Nat} : Bk (.mk 1 false 0 [] [] []) deep JV.tFalse := by
 refine ⟨⟨102, _, rfl, by decide, by decide, by decide⟩, fun s k rest h _ => ⟨1, ?_⟩⟩
 have hw := ws_not (c := 102) h rfl
 rw [tkV]
 simp only
 rw [hw, has_cons (c := 102) h (by decide), if_neg (by simp), has_cons (c := 102) h (by decide), if_neg (by simp), if_pos (has_here h)]
 rfl
theorem bk_num {deep : Nat} {n : Int} (h0 : -9007199254740991 ≤ n) (h1 : n ≤ 9007199254740991) : Bk (JV.numV n) deep (Lib.itoa n) := by
 obtain ⟨c, r, hc, hd⟩ := itoa_head n
 have hne := fun d hd' => dg_ne hd d hd'
 refine ⟨⟨c, r, hc, ?_, (hne 93 (by decide)).symm, (hne 125 (by decide)).symm⟩, fun s k rest h hr => ⟨1, ?_⟩⟩
 ·unfold isWs
  rw [beq_eq_false_iff_ne.2 (hne 32 (by decide)).symm, beq_eq_false_iff_ne.2 (hne 9 (by decide)).symm, beq_eq_false_iff_ne.2 (hne 10 (by decide)).symm, beq_eq_false_iff_ne.2 (hne 13 (by decide)).symm]
  rfl
 have hws : isWs c = false := by
  unfold isWs
  rw [beq_eq_false_iff_ne.2 (hne 32 (by decide)).symm, beq_eq_false_iff_ne.2 (hne 9 (by decide)).symm, beq_eq_false_iff_ne.2 (hne 10 (by decide)).symm, beq_eq_false_iff_ne.2 (hne 13 (by decide)).symm]
  rfl
 have hs : s.drop k = c :: (r ++ rest) := by rw [h, hc]; rfl
 rw [tkV]
 simp only
 rw [ws_not hs hws, has_cons hs (hne 110 (by decide)), has_cons hs (hne 116 (by decide)), has_cons hs (hne 102 (by decide)), has_cons hs (hne 34 (by decide)), has_cons hs (hne 91 (by decide)), has_cons hs (hne 123 (by decide))]
 simp only [Bool.false_eq_true, if_false, Bool.or_self]
 rw [numA_itoa h0 h1 h hr]
theorem putQ_head (t : Str) : putQ t = 34 :: (escs t ++ [34]) := rfl
theorem bk_txt {deep : Nat} {t : Str} (hv : validR t = true) : Bk (JV.txtV t) deep (putQ t) := by
 refine ⟨⟨34, _, putQ_head t, by decide, by decide, by decide⟩, fun s k rest h _ => ⟨1, ?_⟩⟩
 have hs : s.drop k = 34 :: (escs t ++ [34] ++ rest) := by rw [h, putQ_head]; rfl
 rw [tkV]
 simp only
 rw [ws_not hs rfl, has_cons hs (by decide), has_cons hs (by decide), has_cons hs (by decide)]
 simp only [Bool.false_eq_true, if_false]
 rw [if_pos (hasA_one.2 (drop_head hs).1), strT_put hv h]
theorem keyA_put {s t rest : Str} {k : Nat} {m : List (Str × JV)} (hv : validR t = true) (hn : look m t = none) (h : s.drop k = putQ t ++ 58 :: rest) : keyA s k m = .ok (t, k + (putQ t).length + 1) := by
 have hs : s.drop k = 34 :: (escs t ++ [34] ++ 58 :: rest) := by rw [h, putQ_head]; rfl
 have h2 : s.drop (k + (putQ t).length) = 58 :: rest := drop_app h
 unfold keyA
 rw [ws_not hs rfl, strT_put hv h]
 simp only
 rw [hn, if_neg (by simp), ws_not h2 rfl, if_pos (hasA_one.2 (drop_head h2).1)]
def BkL (l : List JV) (deep : Nat) (t : Str) : Prop := ∀ s k acc rest, s.drop k = t ++ 93 :: rest → ∃ f, tkL f s k (deep + 1) acc = some (.ok (JV.lst (acc ++ l), k + t.length + 1))
theorem bkL_one {x : JV} {deep : Nat} {t : Str} (h : Bk x (deep + 1) t) : BkL [x] deep t := fun s k acc rest hs => by
 obtain ⟨f, hf⟩ := h.2 s k _ hs (fun c hc => by simp at hc; subst hc; rfl)
 refine ⟨f + 1, ?_⟩
 have h2 : s.drop (k + t.length) = 93 :: rest := drop_app hs
 rw [tkL, hf]
 simp only
 rw [ws_not h2 rfl, if_pos (hasA_one.2 (drop_head h2).1)]
theorem bkL_more {x : JV} {l : List JV} {deep : Nat} {t t' : Str} (h : Bk x (deep + 1) t) (h' : BkL l deep t') : BkL (x :: l) deep (t ++ [44] ++ t') := fun s k acc rest hs => by
 have hs' : s.drop k = t ++ 44 :: (t' ++ 93 :: rest) := by rw [hs]; simp
 obtain ⟨f, hf⟩ := h.2 s k _ hs' (fun c hc => by simp at hc; subst hc; rfl)
 have h2 : s.drop (k + t.length) = 44 :: (t' ++ 93 :: rest) := drop_app hs'
 obtain ⟨g, hg⟩ := h' s (k + t.length + 1) (acc ++ [x]) rest (drop_head h2).2
 refine ⟨max f g + 1, ?_⟩
 rw [tkL, tkV_le hf (Nat.le_max_left f g)]
 simp only
 rw [ws_not h2 rfl, has_cons h2 (by decide), if_neg (by simp), if_pos (hasA_one.2 (drop_head h2).1), tkL_le hg (Nat.le_max_right f g)]
 simp only [List.append_assoc, List.singleton_append, List.length_append, List.length_cons, List.length_nil, Option.some.injEq, Except.ok.injEq, Prod.mk.injEq, true_and]
 omega
def BkM (m : List (Str × JV)) (deep : Nat) (t : Str) : Prop := ∀ s k m0 rest, s.drop k = t ++ 125 :: rest → (∀ p ∈ m0, ∀ q ∈ m, bl p.1 q.1 = true) → ascM m0 → ∃ f, tkM f s k (deep + 1) m0 = some (.ok (JV.obj (m0 ++ m), k + t.length + 1))
theorem put_end {m0 : List (Str × JV)} {t : Str} {x : JV} (h : ∀ p ∈ m0, bl p.1 t = true) : putM m0 t x = m0 ++ [(t, x)] ∧ look m0 t = none := by
 constructor
 ·unfold putM
  rw [List.filter_eq_self.2 h, List.filter_eq_nil_iff.2 (fun p hp e => by
   have h1 := h p hp
   have := bl_trans h1 e
   rw [bl_irrefl] at this
   cases this)]
  simp
 ·refine look_none_of fun j y hy e => ?_
  have := h y (List.mem_of_getElem? hy)
  rw [e, bl_irrefl] at this
  cases this
theorem asc_end {m0 : List (Str × JV)} {t : Str} {x : JV} (ha : ascM m0) (h : ∀ p ∈ m0, bl p.1 t = true) : ascM (m0 ++ [(t, x)]) := by
 rw [← (put_end (x := x) h).1]
 exact ascM_put ha
theorem bkM_one {x : Str × JV} {deep : Nat} {t : Str} (hv : validR x.1 = true) (h : Bk x.2 (deep + 1) t) : BkM [x] deep (putQ x.1 ++ [58] ++ t) := fun s k m0 rest hs hm ha => by
 have hs' : s.drop k = putQ x.1 ++ 58 :: (t ++ 125 :: rest) := by rw [hs]; simp
 obtain ⟨hp, hl⟩ := put_end (x := x.2) (fun p hp => hm p hp x (by simp))
 have h3 : s.drop (k + (putQ x.1).length + 1) = t ++ 125 :: rest := (drop_head (drop_app hs')).2
 obtain ⟨f, hf⟩ := h.2 s _ _ h3 (fun c hc => by simp at hc; subst hc; rfl)
 have h2 : s.drop (k + (putQ x.1).length + 1 + t.length) = 125 :: rest := drop_app h3
 refine ⟨f + 1, ?_⟩
 rw [tkM, keyA_put hv hl hs']
 simp only
 rw [hf]
 simp only
 rw [ws_not h2 rfl, if_pos (hasA_one.2 (drop_head h2).1), hp]
 simp only [List.length_append, List.length_cons, List.length_nil, Option.some.injEq, Except.ok.injEq, Prod.mk.injEq, true_and]
 omega
theorem bkM_more {x : Str × JV} {m : List (Str × JV)} {deep : Nat} {t t' : Str} (hv : validR x.1 = true) (hx : ∀ q ∈ m, bl x.1 q.1 = true) (h : Bk x.2 (deep + 1) t) (h' : BkM m deep t') : BkM (x :: m) deep (putQ x.1 ++ [58] ++ t ++ [44] ++ t') := fun s k m0 rest hs hm ha => by
 have hs' : s.drop k = putQ x.1 ++ 58 :: (t ++ 44 :: (t' ++ 125 :: rest)) := by rw [hs]; simp
 have hmx : ∀ p ∈ m0, bl p.1 x.1 = true := fun p hp => hm p hp x (by simp)
 obtain ⟨hp, hl⟩ := put_end (x := x.2) hmx
 have h3 : s.drop (k + (putQ x.1).length + 1) = t ++ 44 :: (t' ++ 125 :: rest) := (drop_head (drop_app hs')).2
 obtain ⟨f, hf⟩ := h.2 s _ _ h3 (fun c hc => by simp at hc; subst hc; rfl)
 have h2 : s.drop (k + (putQ x.1).length + 1 + t.length) = 44 :: (t' ++ 125 :: rest) := drop_app h3
 obtain ⟨g, hg⟩ := h' s (k + (putQ x.1).length + 1 + t.length + 1) (m0 ++ [(x.1, x.2)]) rest (drop_head h2).2 (fun p hp q hq => by
  rcases List.mem_append.1 hp with hp | hp
  ·exact hm p hp q (by simp [hq])
  ·simp only [List.mem_singleton] at hp
   subst hp
   exact hx q hq) (asc_end ha hmx)
 refine ⟨max f g + 1, ?_⟩
 rw [tkM, keyA_put hv hl hs']
 simp only
 rw [tkV_le hf (Nat.le_max_left f g)]
 simp only
 rw [ws_not h2 rfl, has_cons h2 (by decide), if_neg (by simp), if_pos (hasA_one.2 (drop_head h2).1), hp, tkM_le hg (Nat.le_max_right f g)]
 simp only [List.append_assoc, List.singleton_append, List.length_append, List.length_cons, List.length_nil, Option.some.injEq, Except.ok.injEq, Prod.mk.injEq, true_and, List.cons_append, List.nil_append]
 omega
theorem bk_lst0 {deep : Nat} (hd : deep ≠ 32) : Bk (JV.lst []) deep [91, 93] := by
 refine ⟨⟨91, _, rfl, by decide, by decide, by decide⟩, fun s k rest h _ => ⟨1, ?_⟩⟩
 have hs : s.drop k = 91 :: (93 :: rest) := h
 have h2 := (drop_head hs).2
 rw [tkV]
 simp only
 rw [ws_not hs rfl, has_cons hs (by decide), has_cons hs (by decide), has_cons hs (by decide), has_cons hs (by decide)]
 simp only [Bool.false_eq_true, if_false]
 rw [hasA_one.2 (drop_head hs).1, Bool.true_or, if_pos rfl, if_neg hd, if_pos rfl, ws_not h2 rfl, if_pos (hasA_one.2 (drop_head h2).1)]
 rfl
theorem bk_obj0 {deep : Nat} (hd : deep ≠ 32) : Bk (JV.obj []) deep [123, 125] := by
 refine ⟨⟨123, _, rfl, by decide, by decide, by decide⟩, fun s k rest h _ => ⟨1, ?_⟩⟩
 have hs : s.drop k = 123 :: (125 :: rest) := h
 have h2 := (drop_head hs).2
 rw [tkV]
 simp only
 rw [ws_not hs rfl, has_cons hs (by decide), has_cons hs (by decide), has_cons hs (by decide), has_cons hs (by decide), has_cons (d := 91) hs (by decide)]
 simp only [Bool.false_eq_true, if_false]
 rw [hasA_one.2 (drop_head hs).1, Bool.or_true, if_pos rfl, if_neg hd, ws_not h2 rfl, if_pos (hasA_one.2 (drop_head h2).1)]
 rfl
theorem bk_lst {l : List JV} {deep : Nat} {c : UInt8} {r : Str} (hd : deep ≠ 32) (hc : vch c) (h : BkL l deep (c :: r)) : Bk (JV.lst l) deep (91 :: ((c :: r) ++ [93])) := by
 refine ⟨⟨91, _, rfl, by decide, by decide, by decide⟩, fun s k rest hs _ => ?_⟩
 have hs' : s.drop k = 91 :: ((c :: r) ++ 93 :: rest) := by rw [hs]; simp
 have h2 := (drop_head hs').2
 obtain ⟨f, hf⟩ := h s (k + 1) [] rest h2
 refine ⟨f + 1, ?_⟩
 have h2' : s.drop (k + 1) = c :: (r ++ 93 :: rest) := h2
 rw [tkV]
 simp only
 rw [ws_not hs' rfl, has_cons hs' (by decide), has_cons hs' (by decide), has_cons hs' (by decide), has_cons hs' (by decide)]
 simp only [Bool.false_eq_true, if_false]
 rw [hasA_one.2 (drop_head hs').1, Bool.true_or, if_pos rfl, if_neg hd, if_pos rfl, ws_not h2' hc.1, has_cons h2' hc.2.1.symm, if_neg (by simp), hf]
 simp only [List.nil_append, List.length_append, List.length_cons, List.length_nil, Option.some.injEq, Except.ok.injEq, Prod.mk.injEq, true_and]
 omega
theorem bk_obj {m : List (Str × JV)} {deep : Nat} {c : UInt8} {r : Str} (hd : deep ≠ 32) (hc : vch c) (h : BkM m deep (c :: r)) : Bk (JV.obj m) deep (123 :: ((c :: r) ++ [125])) := by
 refine ⟨⟨123, _, rfl, by decide, by decide, by decide⟩, fun s k rest hs _ => ?_⟩
 have hs' : s.drop k = 123 :: ((c :: r) ++ 125 :: rest) := by rw [hs]; simp
 have h2 := (drop_head hs').2
 obtain ⟨f, hf⟩ := h s (k + 1) [] rest h2 (by simp) List.Pairwise.nil
 refine ⟨f + 1, ?_⟩
 have h2' : s.drop (k + 1) = c :: (r ++ 125 :: rest) := h2
 rw [tkV]
 simp only
 rw [ws_not hs' rfl, has_cons hs' (by decide), has_cons hs' (by decide), has_cons hs' (by decide), has_cons hs' (by decide), has_cons (d := 91) hs' (by decide)]
 simp only [Bool.false_eq_true, if_false]
 rw [hasA_one.2 (drop_head hs').1, Bool.or_true, if_pos rfl, if_neg hd, ws_not h2' hc.1, has_cons h2' hc.2.2.symm, if_neg (by simp), hf]
 simp only [List.nil_append, List.length_append, List.length_cons, List.length_nil, Option.some.injEq, Except.ok.injEq, Prod.mk.injEq, true_and]
 omega
theorem txtW_valid {b s b' : Str} (h : txtW b s = .ok b') : validR s = true ∧ b' = b ++ putQ s := by
 unfold txtW at h
 split at h
 ·cases h
 ·split at h
  ·rename_i hv
   exact ⟨hv, (lng_ok h).1⟩
  ·cases h
theorem txt_valid {s : Str} (h : ∀ c : Str, (c ++ putQ s).length ≤ 65536 → txtW c s = .ok (c ++ putQ s)) (hl : (putQ s).length ≤ 65536) : validR s = true := (txtW_valid (h [] (by simpa using hl))).1
namespace JV
theorem list_nil {v : JV} (h : v.list.length = 0) : v.list = [] := List.eq_nil_of_length_eq_zero h
theorem map_nil {v : JV} (h : v.map.length = 0) : v.map = [] := List.eq_nil_of_length_eq_zero h
theorem bare_parts {v : JV} (h : v.bare = true) : (v.kind = 1 ∨ v.is = false) ∧ (v.kind = 2 ∨ v.num = 0) ∧ (v.kind = 3 ∨ v.str = []) ∧ (v.kind = 4 ∨ v.list = []) ∧ (v.kind = 5 ∨ v.map = []) := by
 unfold bare at h
 simp only [Bool.and_eq_true, Bool.or_eq_true, decide_eq_true_eq, Bool.not_eq_true', decide_eq_false_iff_not] at h
 obtain ⟨⟨⟨⟨⟨⟨h0, h1⟩, h2⟩, h3⟩, h4⟩, h5⟩, h6⟩ := h
 exact ⟨h1, h2, h3, h4.imp id list_nil, h5.imp id map_nil⟩
theorem mk_eq {v : JV} {k n : Int} {i : Bool} {s : Str} {l : List JV} {m : List (Str × JV)} (h1 : v.kind = k) (h2 : v.is = i) (h3 : v.num = n) (h4 : v.str = s) (h5 : v.list = l) (h6 : v.map = m) : v = .mk k i n s l m := by
 rw [eta v, h1, h2, h3, h4, h5, h6]
end JV
end Go.Proofs.YtknndpjacklkeaaGreatDoor.V

set_option linter.unusedVariables false
set_option linter.unusedSimpArgs false
namespace Go.Proofs.YtknndpjacklkeaaGreatDoor.V
open Go
theorem lng_eq {b t b' : Str} (h : lng (b ++ t) = .ok b') : b' = b ++ t := (lng_ok h).1
theorem bkl_all {N : Nat} (ih : ∀ (v : JV) (deep : Nat) (b b' : Str), v.sz ≤ N → JV.wr v deep b = .ok b' → ∃ t, b' = b ++ t ∧ Bk v deep t) :
  ∀ (x : JV) (l : List JV) (deep : Nat) (fst : Bool) (b b' : Str), (∀ y ∈ x :: l, y.sz ≤ N) → JV.wrl (x :: l) deep fst b = .ok b' → ∃ t, b' = b ++ (if fst then [] else [44]) ++ t ∧ (∃ c r, t = c :: r ∧ vch c) ∧ BkL (x :: l) deep t
 | x, l, deep, fst, b, b', hN, h => by
  rw [JV.wrl_step'] at h
  obtain ⟨b1, h1, h⟩ := bind_ok h
  obtain ⟨b2, h2, h⟩ := bind_ok h
  obtain ⟨t, rfl, hb⟩ := ih _ _ _ _ (hN x (by simp)) h2
  have e1 : b1 = b ++ (if fst then [] else [44]) := by
   cases fst with
   | true => injection h1 with h1; subst h1; simp
   | false => exact lng_eq h1
  subst e1
  cases l with
  | nil =>
   rw [JV.wrl] at h
   injection h with h
   exact ⟨t, h.symm, hb.1, bkL_one hb⟩
  | cons y l =>
   obtain ⟨t', rfl, _, hb'⟩ := bkl_all ih y l deep false _ _ (fun z hz => hN z (by simp [List.mem_cons.1 hz])) h
   refine ⟨t ++ [44] ++ t', by simp, ?_, bkL_more hb hb'⟩
   obtain ⟨c, r, rfl, hc⟩ := hb.1
   exact ⟨c, _, rfl, hc⟩
theorem bkm_all {N : Nat} (ih : ∀ (v : JV) (deep : Nat) (b b' : Str), v.sz ≤ N → JV.wr v deep b = .ok b' → ∃ t, b' = b ++ t ∧ Bk v deep t) :
  ∀ (x : Str × JV) (m : List (Str × JV)) (deep : Nat) (prev : Option Str) (b b' : Str), b'.length ≤ 65536 → (∀ y ∈ x :: m, y.2.sz ≤ N) → JV.wrm (x :: m) deep prev b = .ok b' → ∃ t, b' = b ++ JV.comma prev ++ t ∧ (∃ c r, t = c :: r ∧ vch c) ∧ BkM (x :: m) deep t
 | x, m, deep, prev, b, b', hl, hN, h => by
  obtain ⟨_, b2, h2, h3, ht, hq⟩ := JV.mem_ok h
  have hv : validR x.1 = true := txt_valid ht (by simp only [List.length_append] at hq ⊢; omega)
  obtain ⟨t, rfl, hb⟩ := ih _ _ _ _ (hN x (by simp)) h2
  cases m with
  | nil =>
   rw [JV.wrm] at h3
   injection h3 with h3
   exact ⟨putQ x.1 ++ [58] ++ t, by rw [← h3]; simp, ⟨34, _, rfl, by decide, by decide, by decide⟩, bkM_one hv hb⟩
  | cons y m =>
   have hx := (JV.wrm_asc _ _ _ _ _ h3).2 x.1 rfl
   obtain ⟨t', rfl, _, hb'⟩ := bkm_all ih y m deep (some x.1) _ _ hl (fun z hz => hN z (by simp [List.mem_cons.1 hz])) h3
   exact ⟨putQ x.1 ++ [58] ++ t ++ [44] ++ t', by simp [JV.comma], ⟨34, _, rfl, by decide, by decide, by decide⟩, bkM_more hv hx hb hb'⟩
theorem back_all : ∀ (N : Nat) (v : JV) (deep : Nat) (b b' : Str), v.sz ≤ N → JV.wr v deep b = .ok b' → ∃ t, b' = b ++ t ∧ Bk v deep t
 | 0, v, _, _, _, h, _ => absurd (JV.sz_eq v) (by omega)
 | N + 1, v, deep, b, b', hN, h => by
  have ih := back_all N
  have hlen : b'.length ≤ 65536 := (JV.fit h).elim fun t ht => ht.2.1
  rw [JV.wr_eq] at h
  split at h
  ·cases h
  rename_i hb
  have hb : v.bare = true := by simpa using hb
  have hn2 := @JV.bare_kind v hb
  obtain ⟨p1, p2, p3, p4, p5⟩ := JV.bare_parts hb
  split at h
  ·rename_i k0
   obtain rfl : v = JV.nul := JV.mk_eq k0 (p1.resolve_left (by omega)) (p2.resolve_left (by omega)) (p3.resolve_left (by omega)) (p4.resolve_left (by omega)) (p5.resolve_left (by omega))
   exact ⟨_, lng_eq h, bk_nul⟩
  rename_i k0
  split at h
  ·rename_i k1
   cases hi : v.is with
   | true =>
    obtain rfl : v = .mk 1 true 0 [] [] [] := JV.mk_eq k1 hi (p2.resolve_left (by omega)) (p3.resolve_left (by omega)) (p4.resolve_left (by omega)) (p5.resolve_left (by omega))
    exact ⟨_, lng_eq h, bk_true⟩
   | false =>
    obtain rfl : v = .mk 1 false 0 [] [] [] := JV.mk_eq k1 hi (p2.resolve_left (by omega)) (p3.resolve_left (by omega)) (p4.resolve_left (by omega)) (p5.resolve_left (by omega))
    exact ⟨_, lng_eq h, bk_false⟩
  rename_i k1
  split at h
  ·rename_i k2
   obtain ⟨n0, n1⟩ := bare_num hb k2
   have hv : v = JV.numV v.num := JV.mk_eq k2 (p1.resolve_left (by omega)) rfl (p3.resolve_left (by omega)) (p4.resolve_left (by omega)) (p5.resolve_left (by omega))
   rw [hv]
   exact ⟨_, lng_eq h, bk_num n0 n1⟩
  rename_i k2
  split at h
  ·rename_i k3
   have hv : v = JV.txtV v.str := JV.mk_eq k3 (p1.resolve_left (by omega)) (p2.resolve_left (by omega)) rfl (p4.resolve_left (by omega)) (p5.resolve_left (by omega))
   obtain ⟨h1, h2⟩ := txtW_valid h
   rw [hv]
   exact ⟨_, h2, bk_txt h1⟩
  rename_i k3
  split at h
  ·cases h
  rename_i hd
  split at h
  ·rename_i k4
   have hv : v = JV.lst v.list := JV.mk_eq k4 (p1.resolve_left (by omega)) (p2.resolve_left (by omega)) (p3.resolve_left (by omega)) rfl (p5.resolve_left (by omega))
   obtain ⟨b1, h1, h3⟩ := bind_ok h
   obtain ⟨b2, h2, h4⟩ := bind_ok h3
   have e1 := lng_eq h1
   have e4 := lng_eq h4
   clear h3 h4 h1 h
   subst e1
   subst e4
   have hsz : ∀ y ∈ v.list, y.sz ≤ N := fun y hy => by have := JV.sz_in_list hy; omega
   rw [hv]
   cases hl : v.list with
   | nil =>
    rw [hl, JV.wrl] at h2
    injection h2 with h2
    subst h2
    exact ⟨[91, 93], by simp, bk_lst0 hd⟩
   | cons x l =>
    rw [hl] at h2 hsz
    obtain ⟨t, rfl, ⟨c, r, rfl, hc⟩, hB⟩ := bkl_all ih x l deep true _ _ hsz h2
    exact ⟨91 :: ((c :: r) ++ [93]), by simp, bk_lst hd hc hB⟩
  ·rename_i k4
   have k5 : v.kind = 5 := by omega
   have hv : v = JV.obj v.map := JV.mk_eq k5 (p1.resolve_left (by omega)) (p2.resolve_left (by omega)) (p3.resolve_left (by omega)) (p4.resolve_left (by omega)) rfl
   obtain ⟨b1, h1, h3⟩ := bind_ok h
   obtain ⟨b2, h2, h4⟩ := bind_ok h3
   have e1 := lng_eq h1
   have e4 := lng_eq h4
   clear h3 h4 h1 h
   subst e1
   subst e4
   have hsz : ∀ y ∈ v.map, y.2.sz ≤ N := fun y hy => by have := JV.sz_in_map hy; omega
   rw [hv]
   cases hl : v.map with
   | nil =>
    rw [hl, JV.wrm] at h2
    injection h2 with h2
    subst h2
    exact ⟨[123, 125], by simp, bk_obj0 hd⟩
   | cons x m =>
    rw [hl] at h2 hsz
    obtain ⟨t, rfl, ⟨c, r, rfl, hc⟩, hB⟩ := bkm_all ih x m deep none _ _ (by simp only [List.length_append] at hlen ⊢; omega) hsz h2
    exact ⟨123 :: ((c :: r) ++ [125]), by simp [JV.comma], bk_obj hd hc hB⟩
theorem rdA_of {s : Str} {f : Nat} {r : PR} (h : tkV f s 0 0 = some r) : rdA s = r := tkV_det (rdA_eq s) h
theorem parse_wr {v : JV} {t : Str} (h : v.wr 0 [] = .ok t) : parse t = .ok v := by
 obtain ⟨t', e, hB⟩ := back_all v.sz v 0 [] t (Nat.le_refl _) h
 rw [List.nil_append] at e
 subst e
 have hlen : t.length ≤ 65536 := (JV.fit h).elim fun t ht => ht.2.1
 obtain ⟨f, hf⟩ := hB.2 t 0 [] (by simp) (fun c hc => by simp at hc)
 unfold parse
 rw [if_neg (by omega), rdA_of hf]
 simp only
 rw [spanA_end (by omega), if_neg (by omega)]
end Go.Proofs.YtknndpjacklkeaaGreatDoor.V

set_option linter.unusedVariables false
set_option linter.unusedSimpArgs false
set_option maxRecDepth 10000
namespace Go.Proofs.YtknndpjacklkeaaGreatDoor.V
open Go Go.Proofs
theorem ent17 : Ent Tryz.prog 17 := Ent.of Tryz.func17 (by kernel_rfl) (by kernel_rfl)
theorem ent18 : Ent Tryz.prog 18 := Ent.of Tryz.func18 (by kernel_rfl) (by kernel_rfl)
theorem c_great09 (w : World) (v : JV) (us : List Value) (R : Reps [] w v.D us) : Calls Tryz.prog 18 [.agg us.toArray].toArray w (Ret fun u w' => u = .bool (decide (v.weigh 8192 60 < 0)) ∧ Mod [] w w') := by
 refine enter Tryz.func18 rfl rfl rfl (l := [(0, _)]) ⟨rfl, trivial⟩ ?_
 have E := Mod.refl [] w
 obtain ⟨al, cl, am, cm, rfl, Rl, Rm⟩ := JV.cells_ R
 have R := JV.reps_ Rl Rm
 refine Cq fun K1 hK1 => ?_
 refine Cr ?_
 refine s_box rfl rfl rfl fun g1 w1 N1 => ?_
 have Lg1_E := N1.le E
 replace E := E.then N1.mod
 have Bg1 := N1.blk
 refine sv (o_as rfl) rfl ?_
 refine Ln ?_
 refine e_K (hK1 _ _ _ _ ?_)
 refine Cq fun K2 hK2 => ?_
 refine Cr ?_
 refine sv (o_lda (vs := [_, _, _, _, _, _]) ag25 rfl rfl (Bg1.cs rfl)) rfl ?_
 refine sc (oC ent34 rfl) (c_weigh _ v _ 8192 60 (R.to0 E)) rfl fun v_ w2 h_ => ?_
 obtain ⟨rfl, E_⟩ := h_
 replace Bg1 := Bg1.mod0 E_
 replace E := E.then E_
 refine tW 2 rfl ?_
 refine Ln ?_
 refine e_K (hK2 _ _ _ _ ?_)
 refine cR ?_
 exact ret1 rfl rfl ⟨rfl, E⟩

end Go.Proofs.YtknndpjacklkeaaGreatDoor.V

set_option linter.unusedVariables false
set_option maxRecDepth 100000
namespace Go.Proofs.YtknndpjacklkeaaGreatDoor.V
open Go Go.Proofs Go.Lib
theorem laid_first : Go.Pinned.utf8First = Lib.firstData := by kernel_rfl
theorem laid_acc : (Go.Proofs.YtknndpjacklkeaaGreatDoor.Rows.laid_unicode_utf8_acceptRanges : DataW Unit) = Lib.acceptData := by kernel_rfl
theorem utOf {W : World} (h3 : VarReads Tryz.prog W "unicode/utf8.first" Lib.firstData) (h4 : VarReads Tryz.prog W "unicode/utf8.acceptRanges" Lib.acceptData) : UtT W :=
 utf8Tabs_of_reads (P := Tryz.prog) (ρ := Tryz.lays197_ren) { Tryz.lays197 with } ⟨by kernel_rfl, by kernel_rfl, by kernel_rfl, by kernel_rfl, by kernel_rfl, by kernel_rfl, by kernel_rfl⟩ h3 h4
theorem laid_tl {P : Program} {n1 : String} {d1 : DataW Unit} {rest : List (String × DataW Unit)} {W : World} (h : laidMet P ((n1, d1) :: rest) W) : laidMet P rest W := by
 obtain ⟨ps, ⟨g, t, cs, fuel, p, q, _, _, _, _, hq, rfl⟩, hn, hc⟩ := h
 exact ⟨q, hq, (List.nodup_append.1 hn).2.1, fun b off hb => hc b off (List.mem_append_right _ hb)⟩
theorem errOf {W : World} {n nm : String} {d : DataW Unit} {g t : Nat} {ms : Array (String × TypeId)} (h : VarReads Tryz.prog W n (.iface nm d)) (hg : Tryz.prog.globalNamed n = some g) (hy : (Tryz.prog.globals[g]?).map (·.type) = some t) (ht : Tryz.prog.underlying t = some (.interface ms)) : ∃ u v, W.cell? ⟨g, 0, none⟩ = some (.iface u v) := by
 obtain ⟨g', t', cs, fuel, p, h1, h2, h3, h4⟩ := h
 rw [hg] at h1
 injection h1 with h1
 subst h1
 rw [hy] at h2
 injection h2 with h2
 subst h2
 have hcs : ∃ u v, cs.toList = [.iface u v] := by
  cases fuel with
  | zero => simp [DataW.trod] at h4
  | succ fuel =>
   unfold DataW.trod at h4
   simp only [ht] at h4
   split at h4 <;> first | (exact ⟨_, _, by assumption⟩) | (simp at h4; done) | (rename_i e1 e2; exact ⟨_, _, e2⟩) | simp_all
 obtain ⟨u, v, hcs⟩ := hcs
 refine ⟨u, v, ?_⟩
 unfold World.var? at h3
 rw [hg] at h3
 simp only [Option.bind_some] at h3
 unfold World.cell?
 split at h3
 ·rename_i c t f hh
  injection h3 with h3
  subst h3
  rw [hh]
  have : c = #[.iface u v] := by rw [← Array.toList_inj]; exact hcs
  subst this
  rfl
 ·cases h3
theorem envOf {W : World} (h : laidMet Tryz.prog Go.Proofs.YtknndpjacklkeaaGreatDoor.Rows.jsonTellsRow.laid W) : Env W := by
 have hU : UtT W := utOf (laid_first ▸ laidMet.reads h (.tail _ (.tail _ (.tail _ (.tail _ (.tail _ (.tail _ (.head _)))))))) (laid_acc ▸ laidMet.reads h (.tail _ (.tail _ (.tail _ (.head _)))))
 have hR := errOf (g := 3) (laidMet.reads h (.tail _ (.tail _ (.tail _ (.tail _ (.head _)))))) (by kernel_rfl) (by kernel_rfl) ifn168
 have hS := errOf (g := 2) (laidMet.reads h (.tail _ (.tail _ (.tail _ (.tail _ (.tail _ (.head _))))))) (by kernel_rfl) (by kernel_rfl) ifn168
 obtain ⟨u1, v1, h1⟩ := hR
 obtain ⟨u2, v2, h2⟩ := hS
 refine ⟨?_, hU, ⟨⟨_, h2, .inr ⟨_, _, rfl⟩⟩, ⟨_, h1, .inr ⟨_, _, rfl⟩⟩⟩, ?_⟩
 ·exact Lib.tabIs_of_head (rest := _) gPow (by kernel_rfl) Tryz.underlying245 Tryz.underlying182 (by kernel_rfl) (by kernel_rfl) (laid_tl (laid_tl h))
 ·have h0 := (hU.2 0 (by decide)).1
  rcases Nat.lt_or_ge 6 W.heap.size with hl | hl
  ·exact hl
  ·unfold World.cell? at h0
   rw [Array.getElem?_eq_none hl] at h0
   cases h0
end Go.Proofs.YtknndpjacklkeaaGreatDoor.V

set_option linter.unusedVariables false
set_option linter.unusedSimpArgs false
set_option maxRecDepth 10000
namespace Go.Proofs.YtknndpjacklkeaaGreatDoor.V
open Go Go.Proofs

section
variable {H : Type} {enc : TypeId × Value → H} {w : World}
theorem opn_jv (n : Nat) : OpnN enc Tryz.prog w n 25 JV.D JV.ok := by
 induction n using Nat.strongRecOn with
 | ind n ih =>
  cases n with
  | zero => exact OpnN.zero
  | succ n =>
   have hl : OpnN enc Tryz.prog w n 22 (fun xs : List JV => [.sl 6 (xs.map JV.D)]) (fun xs => (∀ x ∈ xs, x.ok) ∧ xs.length * 88 ≤ 140737488351232) := by
    cases n with
    | zero => exact OpnN.zero
    | succ n => exact opn_slice Tryz.underlying22 (by kernel_rfl) (by kernel_rfl) (by decide) (ih n (by omega))
   have hm : OpnN enc Tryz.prog w n 23 (fun xs : List (List UInt8 × JV) => [.sl 7 (xs.map JV.Dp)]) (fun xs => (∀ x ∈ xs, x.1.length ≤ 140737488351232 ∧ x.2.ok) ∧ xs.length * 104 ≤ 140737488351232) := by
    cases n with
    | zero => exact OpnN.zero
    | succ n =>
     refine opn_slice Tryz.underlying23 (by kernel_rfl) (by kernel_rfl) (by decide) ?_
     cases n with
     | zero => exact OpnN.zero
     | succ n =>
      exact OpnN.to (opn_struct (tot := 7) Tryz.underlying44 (by kernel_rfl) (opn_cons (k := 1) rfl (by kernel_rfl) (opn_str Tryz.underlying9) (opn_cons (k := 6) rfl (by kernel_rfl) (ih n (by omega)) opn_nil))) (fun p => (p.1, p.2.1)) (fun p => by simp [JV.Dp]) (fun p h => ⟨h.1, h.2.1⟩)
   refine OpnN.to (opn_struct (tot := 6) Tryz.underlying25 (by kernel_rfl) (opn_cons (k := 1) rfl (by kernel_rfl) (opn_int Tryz.underlying3) (opn_cons (k := 1) rfl (by kernel_rfl) (opn_bool Tryz.underlying4) (opn_cons (k := 1) rfl (by kernel_rfl) (opn_int Tryz.underlying3) (opn_cons (k := 1) rfl (by kernel_rfl) (opn_str Tryz.underlying9) (opn_cons (k := 1) rfl (by kernel_rfl) hl (opn_cons (k := 1) rfl (by kernel_rfl) hm opn_nil))))))) (fun p => JV.mk p.1 p.2.1 p.2.2.1 p.2.2.2.1 p.2.2.2.2.1 p.2.2.2.2.2.1) (fun p => by rw [JV.D_eq]; rfl) (fun p h => ?_)
   obtain ⟨h1, h2, h3, h4, h5, h6, _⟩ := h
   rw [JV.ok_eq]
   refine ⟨h4, ?_, ?_, h5.1, h6.1⟩
   ·have := h5.2; show p.2.2.2.2.1.length ≤ _; omega
   ·have := h6.2; show p.2.2.2.2.2.1.length ≤ _; omega
end
end Go.Proofs.YtknndpjacklkeaaGreatDoor.V

set_option linter.unusedVariables false
set_option linter.unusedSimpArgs false
namespace Go.Proofs.YtknndpjacklkeaaGreatDoor.V
open Go
theorem bind_err {α β : Type} {x : Except Int α} {f : α → Except Int β} {e : Int} (h : x.bind f = .error e) : x = .error e ∨ ∃ a, x = .ok a ∧ f a = .error e := by
 cases x with
 | error e' => exact .inl (by injection h with h; rw [h])
 | ok a => exact .inr ⟨a, rfl, h⟩
end Go.Proofs.YtknndpjacklkeaaGreatDoor.V

set_option linter.unusedVariables false
set_option linter.unusedSimpArgs false
namespace Go.Proofs.YtknndpjacklkeaaGreatDoor.V
open Go
theorem ofNat_lt {m : Nat} (h : m < 256) : (UInt8.ofNat m).toNat = m := UInt8.toNat_ofNat_of_lt' (by simpa using h)
theorem runeR_enc {c : Nat} (h : c ≤ 1114111) (h2 : ¬ (55296 ≤ c ∧ c ≤ 57343)) (X : Str) : runeR (encB c ++ X) = (c, (encB c).length) := by
 unfold encB encL
 by_cases h7 : c < 128
 ·rw [if_pos h7]
  show runeR (UInt8.ofNat c :: X) = _
  rw [runeR_small (by rw [ofNat_lt (by omega)]; exact h7), ofNat_lt (by omega)]
  rfl
 rw [if_neg h7]
 by_cases h11 : c < 2048
 ·rw [if_pos h11]
  show runeR (UInt8.ofNat (192 + c / 64) :: (UInt8.ofNat (128 + c % 64) :: X)) = _
  have e0 := ofNat_lt (m := 192 + c / 64) (by omega)
  have e1 := ofNat_lt (m := 128 + c % 64) (by omega)
  refine runeR_good (n := 2) (l := 128) (c := (192 + c / 64) % 32) (d := c) (by omega) (by rw [e0]; unfold runeH; rw [if_pos (by omega)]) (by simp) ?_ (by omega)
  show runeC [UInt8.ofNat (128 + c % 64)] _ = _
  rw [runeC, if_neg (by omega), runeC, e1]
  congr 1
  omega
 rw [if_neg h11]
 by_cases h16 : c < 65536
 ·rw [if_pos h16]
  show runeR (UInt8.ofNat (224 + c / 4096) :: (UInt8.ofNat (128 + c / 64 % 64) :: UInt8.ofNat (128 + c % 64) :: X)) = _
  have e0 := ofNat_lt (m := 224 + c / 4096) (by omega)
  have e1 := ofNat_lt (m := 128 + c / 64 % 64) (by omega)
  have e2 := ofNat_lt (m := 128 + c % 64) (by omega)
  refine runeR_good (n := 3) (l := 2048) (c := (224 + c / 4096) % 16) (d := c) (by omega) (by rw [e0]; unfold runeH; rw [if_neg (by omega), if_pos (by omega)]) (by simp) ?_ (by omega)
  show runeC [UInt8.ofNat (128 + c / 64 % 64), UInt8.ofNat (128 + c % 64)] _ = _
  rw [runeC, if_neg (by omega), runeC, if_neg (by omega), runeC, e1, e2]
  congr 1
  omega
 ·rw [if_neg h16]
  show runeR (UInt8.ofNat (240 + c / 262144) :: (UInt8.ofNat (128 + c / 4096 % 64) :: UInt8.ofNat (128 + c / 64 % 64) :: UInt8.ofNat (128 + c % 64) :: X)) = _
  have e0 := ofNat_lt (m := 240 + c / 262144) (by omega)
  have e1 := ofNat_lt (m := 128 + c / 4096 % 64) (by omega)
  have e2 := ofNat_lt (m := 128 + c / 64 % 64) (by omega)
  have e3 := ofNat_lt (m := 128 + c % 64) (by omega)
  refine runeR_good (n := 4) (l := 65536) (c := (240 + c / 262144) % 8) (d := c) (by omega) (by rw [e0]; unfold runeH; rw [if_neg (by omega), if_neg (by omega), if_pos (by omega)]) (by simp) ?_ (by omega)
  show runeC [UInt8.ofNat (128 + c / 4096 % 64), UInt8.ofNat (128 + c / 64 % 64), UInt8.ofNat (128 + c % 64)] _ = _
  rw [runeC, if_neg (by omega), runeC, if_neg (by omega), runeC, if_neg (by omega), runeC, e1, e2, e3]
  congr 1
  omega
theorem encB_pos (c : Nat) : encB c ≠ [] := by
 unfold encB encL
 repeat' split
 all_goals simp
theorem valid_enc {c : Nat} (h : c ≤ 1114111) (h2 : ¬ (55296 ≤ c ∧ c ≤ 57343)) (X : Str) : validR (encB c ++ X) = validR X := by
 have hp := List.length_pos_iff.2 (encB_pos c)
 have hr := runeR_enc h h2 X
 rw [validR_go (by simp [encB_pos]) (by rw [hr]; simp only; omega), hr]
 simp
theorem valid_app : ∀ (N : Nat) (a b : Str), a.length ≤ N → validR a = true → validR (a ++ b) = validR b
 | _, [], b, _, _ => rfl
 | 0, x :: a, b, h, _ => by simp at h
 | N + 1, x :: a, b, hN, hv => by
  have h0 := valid_pos (l := x :: a) (by simp) hv
  have hle := runeR_le (x :: a)
  have hr : runeR (x :: a ++ b) = runeR (x :: a) := runeR_pre h0 ((List.take_prefix _ _).trans (List.prefix_append _ _))
  rw [validR_go (by simp) h0] at hv
  rw [validR_go (by simp) (by rw [hr]; exact h0), hr, List.drop_append_of_le_length hle]
  exact valid_app N _ _ (by rw [List.length_drop]; simp only [List.length_cons] at hN ⊢; omega) hv
theorem valid_snoc {a : Str} {c : Nat} (hv : validR a = true) (h : c ≤ 1114111) (h2 : ¬ (55296 ≤ c ∧ c ≤ 57343)) : validR (a ++ encB c) = true := by
 rw [valid_app a.length a _ (Nat.le_refl _) hv]
 have := valid_enc h h2 []
 rw [List.append_nil, validR_nil] at this
 exact this
theorem strF_valid : ∀ (f : Nat) (l : Str) (i : Nat) (out t : Str) (k : Nat), validR out = true → strF f l i out = some (t, k) → validR t = true
 | 0, _, _, _, _, _, _, h => by simp [strF] at h
 | _ + 1, [], _, _, _, _, _, h => by simp [strF] at h
 | f + 1, c :: r, i, out, t, k, hv, h => by
  rw [strF] at h
  split at h
  ·injection h with h
   injection h with h _
   rw [← h]
   exact hv
  ·dsimp only at h
   by_cases h92 : c = 92
   ·rw [if_pos h92] at h
    split at h
    ·cases h
    ·rename_i hx
     subst h92
     have hp := escP_le r
     unfold escP at hp
     rw [if_neg (fun e => hx (.inl e))] at hp
     exact strF_valid f _ _ _ _ _ (valid_snoc hv hp.1 hp.2.1) h
   ·rw [if_neg h92] at h
    split at h
    ·cases h
    ·rename_i hx
     rcases ok_all (l := c :: r) (by simp) with ⟨h1, _⟩ | ⟨_, _, _, h4, h5, _⟩
     ·exact absurd (.inl h1) hx
     ·exact strF_valid f _ _ _ _ _ (valid_snoc hv h4 h5) h
theorem strT_valid {s t : Str} {k k1 : Nat} (h : strT s k = some (t, k1)) : validR t = true := by
 unfold strT at h
 split at h
 ·exact strF_valid _ _ _ _ _ _ validR_nil h
 ·cases h
def Wl (v : JV) (d : Nat) : Prop := ∀ b e, JV.wr v d b = .error e → e = 3
theorem lng_e {b : Str} {e : Int} (h : lng b = .error e) : e = 3 := by
 unfold lng at h
 split at h
 ·injection h with h; exact h.symm
 ·cases h
theorem txtW_e {b s : Str} {e : Int} (hv : validR s = true) (h : txtW b s = .error e) : e = 3 := by
 unfold txtW at h
 split at h
 ·injection h with h; exact h.symm
 ·first | exact lng_e h | (rw [if_pos hv] at h; exact lng_e h)
theorem wrl_e : ∀ (l : List JV) (d : Nat) (f : Bool) (b : Str) (e : Int), (∀ x ∈ l, Wl x (d + 1)) → JV.wrl l d f b = .error e → e = 3
 | [], d, f, b, e, ih, h => by rw [JV.wrl] at h; cases h
 | x :: l, d, f, b, e, ih, h => by
  rw [JV.wrl] at h
  rcases bind_err h with h | ⟨b1, h1, h⟩
  ·cases f with
   | true => cases h
   | false => exact lng_e h
  rcases bind_err h with h | ⟨b2, h2, h⟩
  ·exact ih x (List.mem_cons_self ..) _ _ h
  ·exact wrl_e l d false b2 e (fun y hy => ih y (List.mem_cons_of_mem _ hy)) h
theorem wrm_e : ∀ (m : List (Str × JV)) (d : Nat) (q : Option Str) (b : Str) (e : Int), (∀ x ∈ m, validR x.1 = true ∧ Wl x.2 (d + 1)) → ascM m → (∀ q', q = some q' → ∀ x ∈ m, bl q' x.1 = true) → JV.wrm m d q b = .error e → e = 3
 | [], d, q, b, e, ih, _, _, h => by rw [JV.wrm] at h; cases h
 | x :: m, d, q, b, e, ih, ha, hq, h => by
  rw [JV.wrm_step'] at h
  have ha' := List.pairwise_cons.1 ha
  rcases bind_err h with h | ⟨b1, h1, h⟩
  ·cases q with
   | none => cases h
   | some q =>
    rcases bind_err h with h | ⟨b2, h2, h⟩
    ·exact lng_e h
    ·rw [if_pos (hq q rfl x (List.mem_cons_self ..))] at h
     cases h
  rcases bind_err h with h | ⟨b2, h2, h⟩
  ·exact txtW_e (ih x (List.mem_cons_self ..)).1 h
  rcases bind_err h with h | ⟨b3, h3, h⟩
  ·exact lng_e h
  rcases bind_err h with h | ⟨b4, h4, h⟩
  ·exact (ih x (List.mem_cons_self ..)).2 _ _ h
  ·exact wrm_e m d _ b4 e (fun y hy => ih y (List.mem_cons_of_mem _ hy)) ha'.2 (fun q' e y hy => by injection e with e; subst e; exact ha'.1 y hy) h
theorem wl_nul {d : Nat} : Wl JV.nul d := fun b e h => by
 rw [JV.wr_eq, if_neg (by decide), if_pos (by decide)] at h
 exact lng_e h
theorem wl_bool {d : Nat} {t : Bool} : Wl (.mk 1 t 0 [] [] []) d := fun b e h => by
 rw [JV.wr_eq, if_neg (by cases t <;> decide), if_neg (by cases t <;> decide), if_pos (by cases t <;> decide)] at h
 exact lng_e h
theorem bare_numV {n : Int} (h0 : -9007199254740991 ≤ n) (h1 : n ≤ 9007199254740991) : (JV.numV n).bare = true := by
 simp [JV.bare, JV.numV, JV.kind, JV.is, JV.num, JV.str, JV.list, JV.map]
 exact decide_eq_true ⟨h0, h1⟩
theorem wl_num {d : Nat} {n : Int} (h0 : -9007199254740991 ≤ n) (h1 : n ≤ 9007199254740991) : Wl (JV.numV n) d := fun b e h => by
 rw [JV.wr_eq, if_neg (by rw [bare_numV h0 h1]; simp), if_neg (by simp [JV.numV, JV.kind]), if_neg (by simp [JV.numV, JV.kind]), if_pos (by simp [JV.numV, JV.kind])] at h
 exact lng_e h
theorem bare_txtV {t : Str} : (JV.txtV t).bare = true := by
 simp [JV.bare, JV.txtV, JV.kind, JV.is, JV.num, JV.str, JV.list, JV.map]
theorem wl_txt {d : Nat} {t : Str} (hv : validR t = true) : Wl (JV.txtV t) d := fun b e h => by
 rw [JV.wr_eq, if_neg (by rw [bare_txtV]; simp), if_neg (by simp [JV.txtV, JV.kind]), if_neg (by simp [JV.txtV, JV.kind]), if_neg (by simp [JV.txtV, JV.kind]), if_pos (by simp [JV.txtV, JV.kind])] at h
 exact txtW_e hv h
theorem bare_lst {l : List JV} : (JV.lst l).bare = true := by
 simp [JV.bare, JV.lst, JV.kind, JV.is, JV.num, JV.str, JV.list, JV.map]
theorem bare_obj {l : List (Str × JV)} : (JV.obj l).bare = true := by
 simp [JV.bare, JV.obj, JV.kind, JV.is, JV.num, JV.str, JV.list, JV.map]
theorem wl_lst {d : Nat} {l : List JV} (hd : d ≠ 32) (hl : ∀ x ∈ l, Wl x (d + 1)) : Wl (JV.lst l) d := fun b e h => by
 rw [JV.wr_eq, if_neg (by rw [bare_lst]; simp), if_neg (by simp [JV.lst, JV.kind]), if_neg (by simp [JV.lst, JV.kind]), if_neg (by simp [JV.lst, JV.kind]), if_neg (by simp [JV.lst, JV.kind]), if_neg hd, if_pos (by simp [JV.lst, JV.kind])] at h
 rcases bind_err h with h | ⟨b1, h1, h⟩
 ·exact lng_e h
 rcases bind_err h with h | ⟨b2, h2, h⟩
 ·exact wrl_e _ _ _ _ _ hl h
 ·exact lng_e h
theorem wl_obj {d : Nat} {m : List (Str × JV)} (hd : d ≠ 32) (hm : ∀ x ∈ m, validR x.1 = true ∧ Wl x.2 (d + 1)) (ha : ascM m) : Wl (JV.obj m) d := fun b e h => by
 rw [JV.wr_eq, if_neg (by rw [bare_obj]; simp), if_neg (by simp [JV.obj, JV.kind]), if_neg (by simp [JV.obj, JV.kind]), if_neg (by simp [JV.obj, JV.kind]), if_neg (by simp [JV.obj, JV.kind]), if_neg hd, if_neg (by simp [JV.obj, JV.kind])] at h
 rcases bind_err h with h | ⟨b1, h1, h⟩
 ·exact lng_e h
 rcases bind_err h with h | ⟨b2, h2, h⟩
 ·exact wrm_e _ _ _ _ _ hm ha (fun q' e => by cases e) h
 ·exact lng_e h
theorem putM_all {p : Str × JV → Prop} {m : List (Str × JV)} {k : Str} {x : JV} (h : ∀ y ∈ m, p y) (hp : p (k, x)) : ∀ y ∈ putM m k x, p y := by
 intro y hy
 unfold putM at hy
 simp only [List.mem_append, List.mem_filter, List.mem_singleton] at hy
 rcases hy with (⟨hy, _⟩ | rfl) | ⟨hy, _⟩
 ·exact h y hy
 ·exact hp
 ·exact h y hy
theorem tk_wl (s : Str) : ∀ f : Nat, (∀ k deep x k1, deep ≤ 32 → tkV f s k deep = some (.ok (x, k1)) → Wl x deep) ∧
  (∀ k deep acc x k1, deep < 32 → (∀ y ∈ acc, Wl y (deep + 1)) → tkL f s k (deep + 1) acc = some (.ok (x, k1)) → Wl x deep) ∧
  (∀ k deep m x k1, deep < 32 → (∀ y ∈ m, validR y.1 = true ∧ Wl y.2 (deep + 1)) → ascM m → tkM f s k (deep + 1) m = some (.ok (x, k1)) → Wl x deep)
 | 0 => ⟨fun _ _ _ _ _ h => by simp [tkV] at h, fun _ _ _ _ _ _ _ h => by simp [tkL] at h, fun _ _ _ _ _ _ _ _ h => by simp [tkM] at h⟩
 | f + 1 => by
  obtain ⟨ihV, ihL, ihM⟩ := tk_wl s f
  refine ⟨fun k0 deep x k1 hd h => ?_, fun k deep acc x k1 hd ha h => ?_, fun k deep m x k1 hd hm ha h => ?_⟩
  ·rw [tkV] at h
   generalize spanA isWs s k0 = k at h
   dsimp only at h
   split at h
   ·injection h with h; injection h with h; injection h with h _; subst h; exact wl_nul
   split at h
   ·injection h with h; injection h with h; injection h with h _; subst h; exact wl_bool
   split at h
   ·injection h with h; injection h with h; injection h with h _; subst h; exact wl_bool
   split at h
   ·split at h
    ·cases h
    ·rename_i hs
     injection h with h; injection h with h; injection h with h _; subst h
     exact wl_txt (strT_valid hs)
   split at h
   ·split at h
    ·cases h
    ·rename_i hd'
     split at h
     ·split at h
      ·injection h with h; injection h with h; injection h with h _; subst h
       exact wl_lst hd' (by simp)
      ·exact ihL _ _ _ _ _ (by omega) (by simp) h
     ·split at h
      ·injection h with h; injection h with h; injection h with h _; subst h
       exact wl_obj hd' (by simp) List.Pairwise.nil
      ·exact ihM _ _ _ _ _ (by omega) (by simp) List.Pairwise.nil h
   ·injection h with h
    unfold numA at h
    cases hn : numW ((s.drop k).take (spanA isNm s k - k)) with
    | error e => rw [hn] at h; cases h
    | ok n =>
     rw [hn] at h
     injection h with h
     injection h with h _
     subst h
     unfold numW at hn
     split at hn
     ·cases hn
     ·split at hn
      ·cases hn
      ·rename_i hz
       injection hn with hn
       subst hn
       obtain ⟨h0, h1, _⟩ := numZ_of hz
       exact wl_num h0 h1
  ·rw [tkL] at h
   split at h
   ·cases h
   ·cases h
   ·rename_i y k2 h1
    have hy := ihV _ _ _ _ (by omega) h1
    have hA : ∀ z ∈ acc ++ [y], Wl z (deep + 1) := fun z hz => by
     rcases List.mem_append.1 hz with hz | hz
     ·exact ha z hz
     ·rw [List.mem_singleton.1 hz]; exact hy
    dsimp only at h
    split at h
    ·injection h with h; injection h with h; injection h with h _; subst h
     exact wl_lst (by omega) hA
    ·split at h
     ·exact ihL _ _ _ _ _ hd hA h
     ·cases h
  ·rw [tkM] at h
   split at h
   ·cases h
   ·rename_i t k2 hkey
    obtain ⟨k3, hs, _, _, _⟩ := keyA_ok hkey
    split at h
    ·cases h
    ·cases h
    ·rename_i y k4 h1
     have hy := ihV _ _ _ _ (by omega) h1
     have hA : ∀ z ∈ putM m t y, validR z.1 = true ∧ Wl z.2 (deep + 1) := putM_all (p := fun z => validR z.1 = true ∧ Wl z.2 (deep + 1)) hm ⟨strT_valid hs, hy⟩
     dsimp only at h
     split at h
     ·injection h with h; injection h with h; injection h with h _; subst h
      exact wl_obj (by omega) hA (ascM_put ha)
     ·split at h
      ·exact ihM _ _ _ _ _ hd hA (ascM_put ha) h
      ·cases h
theorem parse_wl {s : Str} {v : JV} (h : parse s = .ok v) : (∃ t, v.wr 0 [] = .ok t) ∨ v.wr 0 [] = .error 3 := by
 have hw : Wl v 0 := by
  unfold parse at h
  split at h
  ·cases h
  ·have e := rdA_eq s
   split at h
   ·cases h
   ·rename_i x k hr
    rw [hr] at e
    split at h
    ·cases h
    ·injection h with h
     subst h
     exact (tk_wl s _).1 _ _ _ _ (by decide) e
 cases hr : v.wr 0 [] with
 | ok t => exact .inl ⟨t, rfl⟩
 | error e => exact .inr (by rw [hw _ _ hr])
theorem keyA_ne {s : Str} {k : Nat} {m : List (Str × JV)} {e : Int} (h : keyA s k m = .error e) : e ≠ 0 := by
 unfold keyA at h
 split at h
 ·injection h with h; omega
 ·split at h
  ·injection h with h; omega
  ·split at h
   ·cases h
   ·injection h with h; omega
theorem numA_ne {s : Str} {k : Nat} {e : Int} (h : numA s k = .error e) : e ≠ 0 := by
 unfold numA at h
 cases hn : numW ((s.drop k).take (spanA isNm s k - k)) with
 | ok n => rw [hn] at h; cases h
 | error e' =>
  rw [hn] at h
  injection h with h
  subst h
  unfold numW at hn
  split at hn
  ·injection hn with hn; omega
  ·split at hn
   ·injection hn with hn; omega
   ·cases hn
theorem tk_ne (s : Str) : ∀ f : Nat, (∀ k deep e, tkV f s k deep = some (.error e) → e ≠ 0) ∧ (∀ k deep acc e, tkL f s k deep acc = some (.error e) → e ≠ 0) ∧ (∀ k deep m e, tkM f s k deep m = some (.error e) → e ≠ 0)
 | 0 => ⟨fun _ _ _ h => by simp [tkV] at h, fun _ _ _ _ h => by simp [tkL] at h, fun _ _ _ _ h => by simp [tkM] at h⟩
 | f + 1 => by
  obtain ⟨ihV, ihL, ihM⟩ := tk_ne s f
  refine ⟨fun k0 deep e h => ?_, fun k deep acc e h => ?_, fun k deep m e h => ?_⟩
  ·rw [tkV] at h
   generalize spanA isWs s k0 = k at h
   dsimp only at h
   split at h; · cases h
   split at h; · cases h
   split at h; · cases h
   split at h
   ·split at h
    ·injection h with h; injection h with h; omega
    ·cases h
   split at h
   ·split at h
    ·injection h with h; injection h with h; omega
    ·split at h
     ·split at h
      ·cases h
      ·exact ihL _ _ _ _ h
     ·split at h
      ·cases h
      ·exact ihM _ _ _ _ h
   ·injection h with h
    exact numA_ne h
  ·rw [tkL] at h
   split at h
   ·cases h
   ·rename_i h1
    injection h with h; injection h with h; subst h
    exact ihV _ _ _ h1
   ·dsimp only at h
    split at h
    ·cases h
    ·split at h
     ·exact ihL _ _ _ _ h
     ·injection h with h; injection h with h; omega
  ·rw [tkM] at h
   split at h
   ·rename_i h1
    injection h with h; injection h with h; subst h
    exact keyA_ne h1
   ·split at h
    ·cases h
    ·rename_i h1
     injection h with h; injection h with h; subst h
     exact ihV _ _ _ h1
    ·dsimp only at h
     split at h
     ·cases h
     ·split at h
      ·exact ihM _ _ _ _ h
      ·injection h with h; injection h with h; omega
theorem parse_ne {s : Str} {e : Int} (h : parse s = .error e) : e ≠ 0 := by
 unfold parse at h
 split at h
 ·injection h with h; omega
 ·have e' := rdA_eq s
  split at h
  ·rename_i hr
   rw [hr] at e'
   injection h with h
   subst h
   exact (tk_ne s _).1 _ _ _ e'
  ·split at h
   ·injection h with h; omega
   ·cases h
end Go.Proofs.YtknndpjacklkeaaGreatDoor.V
