/-
  A part of the proof: an event as a JSON value, in plain Lean; the reading of JSON texts, as the document tells it, in plain Lean; the reading of JSON texts: it goes on, it ends; and the same with a stack; regions that draw and end with two operations in either order: one operation that all these wait for, some that touch no memory, then the two; maps with texts as keys: what a block that is one holds, and the operations on it; a map made, written, counted; its entries one by one. No condition of its own.
-/
import Derived.Test.YtknndpjacklkeaaGreatDoorM6
import Derived.Test.YtknndpjacklkeaaGreatDoorM3
import Derived.Test.YtknndpjacklkeaaGreatDoorM2
import Derived.Maps.RangeRun
set_option linter.unusedVariables false
set_option linter.unusedSimpArgs false
namespace Go.Proofs.YtknndpjacklkeaaGreatDoor.V
open Go
namespace JV
def numV (n : Int) : JV := .mk 2 false n [] [] []
def lst (l : List JV) : JV := .mk 4 false 0 [] l []
theorem num_reps {A : List Nat} {w : World} {n : Int} : Reps A w (numV n).D [.int .i64 2, .bool false, .int .i64 n, S [], .slice none 0 0, .slice none 0 0] := by
 have := reps_ (A := A) (w := w) (v := numV n) (al := none) (am := none) (cl := 0) (cm := 0) Rep.sl_nil Rep.sl_nil
 exact this
theorem lst_reps {A : List Nat} {w : World} {l : List JV} {al : Option Addr} {cl : Nat} (R : Rep A w (.sl 6 (l.map D)) (.slice al l.length cl)) : Reps A w (lst l).D [.int .i64 4, .bool false, .int .i64 0, S [], .slice al l.length cl, .slice none 0 0] :=
 reps_ (v := lst l) (am := none) (cm := 0) R Rep.sl_nil
theorem txt_repsN {A : List Nat} {w : World} {s : Str} : Reps A w (txtV s).D [.int .i64 3, .bool false, .int .i64 0, S s, .slice none 0 0, .slice none 0 0] := txt_reps
theorem put_mem {m : List (Str × JV)} {k : Str} {x : JV} {p : Str × JV} (h : p ∈ putM m k x) : p ∈ m ∨ p = (k, x) := by
 unfold putM at h
 simp only [List.mem_append, List.mem_filter, List.mem_singleton] at h
 rcases h with (h | h) | h
 ·exact .inl h.1
 ·exact .inr h
 ·exact .inl h.1
end JV
abbrev kAuth : Str := [97, 117, 116, 104, 95, 101, 118, 101, 110, 116, 115]
abbrev kCont : Str := [99, 111, 110, 116, 101, 110, 116]
abbrev kDepth : Str := [100, 101, 112, 116, 104]
abbrev kHashes : Str := [104, 97, 115, 104, 101, 115]
abbrev kSha : Str := [115, 104, 97, 50, 53, 54]
abbrev kOts : Str := [111, 114, 105, 103, 105, 110, 95, 115, 101, 114, 118, 101, 114, 95, 116, 115]
abbrev kPrev : Str := [112, 114, 101, 118, 95, 101, 118, 101, 110, 116, 115]
abbrev kRoom : Str := [114, 111, 111, 109, 95, 105, 100]
abbrev kSender : Str := [115, 101, 110, 100, 101, 114]
abbrev kSigs : Str := [115, 105, 103, 110, 97, 116, 117, 114, 101, 115]
abbrev kType : Str := [116, 121, 112, 101]
abbrev kState : Str := [115, 116, 97, 116, 101, 95, 107, 101, 121]
namespace EV
open JV
def one (m : List (Str × JV)) (k : Str) : JV := (look m k).getD JV.nul
def sgStep (m : List (Str × JV)) (s : Sig3) : List (Str × JV) := putM m s.srv (obj (putM (one m s.srv).map s.key (txtV s.sig)))
def sg (l : List Sig3) (k : Nat) : List (Str × JV) := (l.take k).foldl sgStep []
structure SgI (m : List (Str × JV)) (n : Nat) : Prop where
 asc : ascM m
 len : m.length ≤ n
 each : ∀ p ∈ m, ∃ m', p.2 = obj m' ∧ ascM m' ∧ m'.length ≤ n
theorem SgI.one_ {m : List (Str × JV)} {n : Nat} (h : SgI m n) (k : Str) : (one m k).tbl = (one m k).map ∧ ascM (one m k).map ∧ (one m k).map.length ≤ n := by
 unfold one
 cases hl : look m k with
 | none => exact ⟨by simp [JV.nul, JV.tbl, JV.map, JV.kind], by simp [JV.nul, JV.map, ascM], by simp [JV.nul, JV.map]⟩
 | some y =>
  obtain ⟨m', h1, h2, h3⟩ := h.each _ (look_some hl)
  have h1' : y = obj m' := h1
  subst h1'
  exact ⟨by simp [obj, tbl, map, kind], h2, h3⟩
theorem SgI.step {m : List (Str × JV)} {n : Nat} {s : Sig3} (h : SgI m n) : SgI (sgStep m s) (n + 1) := by
 obtain ⟨_, h2, h3⟩ := h.one_ s.srv
 refine ⟨ascM_put h.asc, Nat.le_trans (putM_len h.asc) (by have := h.len; omega), fun p hp => ?_⟩
 rcases put_mem hp with hp | rfl
 ·obtain ⟨m', h4, h5, h6⟩ := h.each p hp
  exact ⟨m', h4, h5, by omega⟩
 ·exact ⟨_, rfl, ascM_put h2, Nat.le_trans (putM_len h2) (by omega)⟩
def mem10 (e : EV) : List (Str × JV) := [(kAuth, lst (e.auth.map txtV)), (kCont, e.con), (kDepth, numV e.dep), (kHashes, obj [(kSha, txtV e.hash)]), (kOts, numV e.time), (kPrev, lst (e.prev.map txtV)), (kRoom, txtV e.room), (kSender, txtV e.snd), (kSigs, obj (sg e.sigs e.sigs.length)), (kType, txtV e.ty)]
def memV (e : EV) : List (Str × JV) := if e.st then putM e.mem10 kState (txtV e.key) else e.mem10
def val (e : EV) : JV := obj e.memV
noncomputable def ern (e : EV) : Int := if e.chk ≠ 0 then e.chk else Go.Proofs.YtknndpjacklkeaaGreatDoor.V.ern (e.val.wr 0 [])
noncomputable def txt (e : EV) : Str := if e.chk ≠ 0 then [] else bts (e.val.wr 0 [])
end EV
end Go.Proofs.YtknndpjacklkeaaGreatDoor.V

set_option linter.unusedVariables false
set_option linter.unusedSimpArgs false
namespace Go.Proofs.YtknndpjacklkeaaGreatDoor.V
open Go
def isWs (c : UInt8) : Bool := c == 32 || c == 9 || c == 10 || c == 13
def isDg (c : UInt8) : Bool := decide (48 ≤ c.toNat) && decide (c.toNat ≤ 57)
def isNm (c : UInt8) : Bool := isDg c || c == 43 || c == 45 || c == 46 || c == 101 || c == 69
def spanA (p : UInt8 → Bool) (s : Str) (k : Nat) : Nat := k + ((s.drop k).takeWhile p).length
theorem drop_get {s : Str} {k : Nat} {c : UInt8} (h : s[k]? = some c) : s.drop k = c :: s.drop (k + 1) := by
 obtain ⟨hk, e⟩ := List.getElem?_eq_some_iff.1 h
 rw [List.drop_eq_getElem_cons hk, e]
theorem spanA_go {p : UInt8 → Bool} {s : Str} {k : Nat} {c : UInt8} (h : s[k]? = some c) (hp : p c = true) : spanA p s (k + 1) = spanA p s k := by
 unfold spanA
 rw [drop_get h, List.takeWhile_cons, if_pos hp]
 simp only [List.length_cons]
 omega
theorem spanA_stop {p : UInt8 → Bool} {s : Str} {k : Nat} {c : UInt8} (h : s[k]? = some c) (hp : p c = false) : spanA p s k = k := by
 unfold spanA
 rw [drop_get h, List.takeWhile_cons, if_neg (by simp [hp])]
 rfl
theorem spanA_end {p : UInt8 → Bool} {s : Str} {k : Nat} (h : s.length ≤ k) : spanA p s k = k := by
 unfold spanA
 rw [List.drop_eq_nil_of_le h]
 rfl
theorem spanA_ge (p : UInt8 → Bool) (s : Str) (k : Nat) : k ≤ spanA p s k := Nat.le_add_right _ _
theorem tw_len (p : UInt8 → Bool) : ∀ l : Str, (l.takeWhile p).length ≤ l.length
 | [] => Nat.le_refl _
 | c :: r => by
  rw [List.takeWhile_cons]
  split
  ·have := tw_len p r
   simp only [List.length_cons]
   omega
  ·simp
theorem spanA_le {p : UInt8 → Bool} {s : Str} {k : Nat} (h : k ≤ s.length) : spanA p s k ≤ s.length := by
 unfold spanA
 have := tw_len p (s.drop k)
 rw [List.length_drop] at this
 omega
def hasA (s : Str) (k : Nat) (t : Str) : Bool := t.isPrefixOf (s.drop k)
theorem hasA_iff {s t : Str} {k : Nat} : hasA s k t = true ↔ (s.drop k).take t.length = t := by
 rw [hasA, List.isPrefixOf_iff_prefix, List.prefix_iff_eq_take]
 exact eq_comm
theorem hasA_len {s t : Str} {k : Nat} (h : hasA s k t = true) (ht : t ≠ []) : k + t.length ≤ s.length := by
 have := congrArg List.length (hasA_iff.1 h)
 rw [List.length_take, List.length_drop] at this
 have : 0 < t.length := List.length_pos_iff.2 ht
 omega
theorem hasA_one {s : Str} {k : Nat} {c : UInt8} : hasA s k [c] = true ↔ s[k]? = some c := by
 rw [hasA]
 cases h : s[k]? with
 | none =>
  rw [List.drop_eq_nil_of_le (by simpa using h)]
  simp
 | some d =>
  rw [drop_get h]
  simp [List.isPrefixOf]
  exact eq_comm
theorem hasA_one' {s : Str} {k : Nat} {c : UInt8} : hasA s k [c] = decide (s[k]? = some c) := by
 rw [Bool.eq_iff_iff, hasA_one, decide_eq_true_eq]
def wholeA (w : Str) : Bool × Bool :=
 let a := if hasA w 0 [45] then 1 else 0
 let e := spanA isDg w a
 if e = a ∨ (a + 1 < e ∧ w[a]? = some 48) then (false, false)
 else
  let m := hasA w e [46]
  let k := spanA isDg w (e + 1)
  if m = true ∧ k = e + 1 then (false, false)
  else
   let e1 := if m then k else e
   if hasA w e1 [101] || hasA w e1 [69] then
    let e2 := if hasA w (e1 + 1) [43] || hasA w (e1 + 1) [45] then e1 + 2 else e1 + 1
    let k2 := spanA isDg w e2
    if k2 = e2 then (false, false) else (decide (k2 = w.length), true)
   else (decide (e1 = w.length), m)
noncomputable def numZ (w : Str) : Option Int :=
 open Classical in if h : ∃ n : Int, -9007199254740991 ≤ n ∧ n ≤ 9007199254740991 ∧ Lib.itoa n = w then some h.choose else none
noncomputable def numW (w : Str) : Except Int Int :=
 if (wholeA w).1 = false then .error 4
 else match numZ w with
  | none => .error 7
  | some n => .ok n
noncomputable def numA (s : Str) (k : Nat) : Except Int (JV × Nat) :=
 (numW ((s.drop k).take (spanA isNm s k - k))).bind fun n => .ok (JV.numV n, spanA isNm s k)
def hexv (c : UInt8) : Option Nat :=
 if 48 ≤ c.toNat ∧ c.toNat ≤ 57 then some (c.toNat - 48)
 else if 97 ≤ c.toNat ∧ c.toNat ≤ 102 then some (c.toNat - 87)
 else if 65 ≤ c.toNat ∧ c.toNat ≤ 70 then some (c.toNat - 55)
 else none
def hexF : Nat → Str → Nat → Option Nat
 | 0, _, n => some n
 | _ + 1, [], _ => none
 | f + 1, c :: r, n => match hexv c with
  | none => none
  | some d => hexF f r (16 * n + d)
def escC (c : UInt8) : Option Nat :=
 if c = 34 then some 34 else if c = 92 then some 92 else if c = 47 then some 47 else if c = 98 then some 8 else if c = 102 then some 12 else if c = 110 then some 10 else if c = 114 then some 13 else if c = 116 then some 9 else none
def hexU (l : Str) : Option Nat :=
 match l with
 | 92 :: 117 :: r => hexF 4 r 0
 | _ => none
def escR (l : Str) : Nat × Nat :=
 match l with
 | _ :: c :: _ =>
  match escC c with
  | some d => (d, 2)
  | none =>
   match hexU l with
   | none => (0, 0)
   | some n =>
    if 56320 ≤ n ∧ n ≤ 57343 then (0, 0)
    else if n < 55296 ∨ 57343 < n then (n, 6)
    else match hexU (l.drop 6) with
     | none => (0, 0)
     | some m => if m < 56320 ∨ 57343 < m then (0, 0) else (65536 + 1024 * (n - 55296) + (m - 56320), 12)
 | _ => (0, 0)
def strF : Nat → Str → Nat → Str → Option (Str × Nat)
 | 0, _, _, _ => none
 | _ + 1, [], _, _ => none
 | f + 1, c :: r, i, out =>
  if c = 34 then some (out, i + 1)
  else
   let x := if c = 92 then escR (c :: r) else runeR (c :: r)
   if x.2 = 0 ∨ (c ≠ 92 ∧ x.1 < 32) then none
   else strF f ((c :: r).drop x.2) (i + x.2) (out ++ encB x.1)
def strT (s : Str) (k : Nat) : Option (Str × Nat) := if s[k]? = some 34 then strF (s.length - k) (s.drop (k + 1)) (k + 1) [] else none
abbrev PR := Except Int (JV × Nat)
def keyA (s : Str) (k : Nat) (m : List (Str × JV)) : Except Int (Str × Nat) :=
 match strT s (spanA isWs s k) with
 | none => .error 4
 | some (t, k1) =>
  if (look m t).isSome then .error 6
  else if hasA s (spanA isWs s k1) [58] then .ok (t, spanA isWs s k1 + 1) else .error 4
mutual
noncomputable def tkV : Nat → Str → Nat → Nat → Option PR
 | 0, _, _, _ => none
 | f + 1, s, k0, deep =>
  let k := spanA isWs s k0
  if hasA s k JV.tNull then some (.ok (JV.nul, k + 4))
  else if hasA s k JV.tTrue then some (.ok (.mk 1 true 0 [] [] [], k + 4))
  else if hasA s k JV.tFalse then some (.ok (.mk 1 false 0 [] [] [], k + 5))
  else if hasA s k [34] then
   match strT s k with
   | none => some (.error 4)
   | some (t, k1) => some (.ok (JV.txtV t, k1))
  else if hasA s k [91] || hasA s k [123] then
   if deep = 32 then some (.error 5)
   else
    let k1 := spanA isWs s (k + 1)
    if hasA s k [91] then
     if hasA s k1 [93] then some (.ok (JV.lst [], k1 + 1)) else tkL f s k1 (deep + 1) []
    else
     if hasA s k1 [125] then some (.ok (JV.obj [], k1 + 1)) else tkM f s k1 (deep + 1) []
  else some (numA s k)
noncomputable def tkL : Nat → Str → Nat → Nat → List JV → Option PR
 | 0, _, _, _, _ => none
 | f + 1, s, k, deep, acc =>
  match tkV f s k deep with
  | none => none
  | some (.error e) => some (.error e)
  | some (.ok (x, k1)) =>
   let k2 := spanA isWs s k1
   if hasA s k2 [93] then some (.ok (JV.lst (acc ++ [x]), k2 + 1))
   else if hasA s k2 [44] then tkL f s (k2 + 1) deep (acc ++ [x])
   else some (.error 4)
noncomputable def tkM : Nat → Str → Nat → Nat → List (Str × JV) → Option PR
 | 0, _, _, _, _ => none
 | f + 1, s, k, deep, m =>
  match keyA s k m with
  | .error e => some (.error e)
  | .ok (t, k1) =>
   match tkV f s k1 deep with
   | none => none
   | some (.error e) => some (.error e)
   | some (.ok (x, k2)) =>
    let k3 := spanA isWs s k2
    if hasA s k3 [125] then some (.ok (JV.obj (putM m t x), k3 + 1))
    else if hasA s k3 [44] then tkM f s (k3 + 1) deep (putM m t x)
    else some (.error 4)
end
end Go.Proofs.YtknndpjacklkeaaGreatDoor.V

set_option linter.unusedVariables false
set_option linter.unusedSimpArgs false
namespace Go.Proofs.YtknndpjacklkeaaGreatDoor.V
open Go
theorem keyA_ok {s : Str} {k : Nat} {m : List (Str × JV)} {t : Str} {k1 : Nat} (h : keyA s k m = .ok (t, k1)) : ∃ k2, strT s (spanA isWs s k) = some (t, k2) ∧ (look m t).isSome = false ∧ hasA s (spanA isWs s k2) [58] = true ∧ k1 = spanA isWs s k2 + 1 := by
 unfold keyA at h
 split at h
 ·cases h
 ·rename_i t' k2 h2
  split at h
  ·cases h
  ·rename_i h3
   split at h
   ·rename_i h4
    injection h with h
    injection h with h5 h6
    subst h5
    exact ⟨k2, h2, by simpa using h3, h4, h6.symm⟩
   ·cases h
theorem strF_bound : ∀ (f : Nat) (l : Str) (i : Nat) (out t : Str) (k : Nat), strF f l i out = some (t, k) → i < k ∧ k ≤ i + l.length
 | 0, _, _, _, _, _, h => by simp [strF] at h
 | _ + 1, [], _, _, _, _, h => by simp [strF] at h
 | f + 1, c :: r, i, out, t, k, h => by
  rw [strF] at h
  split at h
  ·injection h with h
   injection h with _ h
   subst h
   simp
  ·dsimp only at h
   generalize (if c = 92 then escR (c :: r) else runeR (c :: r)) = x at h
   split at h
   ·cases h
   ·rename_i hx
    have ih := strF_bound f _ _ _ _ _ h
    rw [List.length_drop] at ih
    by_cases hx2 : x.2 ≤ (c :: r).length
    ·omega
    ·rw [List.drop_eq_nil_of_le (by omega)] at h
     cases f <;> simp [strF] at h
theorem strT_bound {s : Str} {k : Nat} {t : Str} {k1 : Nat} (h : strT s k = some (t, k1)) : k + 1 < k1 ∧ k1 ≤ s.length ∧ s[k]? = some 34 := by
 unfold strT at h
 split at h
 ·rename_i h0
  have hk := (List.getElem?_eq_some_iff.1 h0).1
  have := strF_bound _ _ _ _ _ _ h
  rw [List.length_drop] at this
  exact ⟨this.1, by omega, h0⟩
 ·cases h
theorem keyA_bound {s : Str} {k : Nat} {m : List (Str × JV)} {t : Str} {k1 : Nat} (h : keyA s k m = .ok (t, k1)) : k < k1 ∧ k1 ≤ s.length := by
 obtain ⟨k2, h1, _, h3, rfl⟩ := keyA_ok h
 obtain ⟨h4, h5, _⟩ := strT_bound h1
 have := hasA_len h3 (by simp)
 have := spanA_ge isWs s k
 have := spanA_ge isWs s k2
 simp only [List.length_singleton] at *
 omega
theorem wholeA_nil : (wholeA []).1 = false := by rfl
theorem numA_bound {s : Str} {k : Nat} {v : JV} {k1 : Nat} (h : numA s k = .ok (v, k1)) (hk : k ≤ s.length) : k < k1 ∧ k1 ≤ s.length := by
 unfold numA at h
 cases h1 : numW ((s.drop k).take (spanA isNm s k - k)) with
 | error e => rw [h1] at h; cases h
 | ok n =>
  rw [h1] at h
  injection h with h
  injection h with _ h
  subst h
  refine ⟨?_, spanA_le hk⟩
  have := spanA_ge isNm s k
  rcases Nat.lt_or_ge k (spanA isNm s k) with h | h
  ·exact h
  ·rw [show spanA isNm s k - k = 0 by omega, List.take_zero] at h1
   unfold numW at h1
   rw [if_pos wholeA_nil] at h1
   cases h1
theorem tk_bound (s : Str) : ∀ f : Nat, (∀ k deep x k1, k ≤ s.length → tkV f s k deep = some (.ok (x, k1)) → k < k1 ∧ k1 ≤ s.length) ∧
  (∀ k deep acc x k1, k ≤ s.length → tkL f s k deep acc = some (.ok (x, k1)) → k < k1 ∧ k1 ≤ s.length) ∧
  (∀ k deep m x k1, k ≤ s.length → tkM f s k deep m = some (.ok (x, k1)) → k < k1 ∧ k1 ≤ s.length)
 | 0 => ⟨fun _ _ _ _ _ h => by simp [tkV] at h, fun _ _ _ _ _ _ h => by simp [tkL] at h, fun _ _ _ _ _ _ h => by simp [tkM] at h⟩
 | f + 1 => by
  obtain ⟨ihV, ihL, ihM⟩ := tk_bound s f
  refine ⟨fun k0 deep x k1 hk h => ?_, fun k deep acc x k1 hk h => ?_, fun k deep m x k1 hk h => ?_⟩
  ·rw [tkV] at h
   have hg := spanA_ge isWs s k0
   generalize hkk : spanA isWs s k0 = k at h hg
   have hk' : k ≤ s.length := by rw [← hkk]; exact spanA_le hk
   dsimp only at h
   split at h
   ·rename_i h1
    have := hasA_len h1 (by decide)
    injection h with h; injection h with h; injection h with _ h
    simp only [List.length_cons, List.length_nil] at this
    omega
   split at h
   ·rename_i h1
    have := hasA_len h1 (by decide)
    injection h with h; injection h with h; injection h with _ h
    simp only [List.length_cons, List.length_nil] at this
    omega
   split at h
   ·rename_i h1
    have := hasA_len h1 (by decide)
    injection h with h; injection h with h; injection h with _ h
    simp only [List.length_cons, List.length_nil] at this
    omega
   split at h
   ·split at h
    ·cases h
    ·rename_i hs
     injection h with h; injection h with h; injection h with _ h
     have := strT_bound hs
     omega
   split at h
   ·rename_i hb
    have hkl : k + 1 ≤ s.length := by
     rcases Bool.or_eq_true_iff.1 hb with hb | hb <;> exact hasA_len hb (by decide)
    split at h
    ·cases h
    ·split at h
     ·split at h
      ·rename_i h1
       have := hasA_len h1 (by decide)
       have := spanA_ge isWs s (k + 1)
       injection h with h; injection h with h; injection h with _ h
       simp only [List.length_cons, List.length_nil] at *
       omega
      ·have := ihL _ _ _ _ _ (spanA_le hkl) h
       have := spanA_ge isWs s (k + 1)
       omega
     ·split at h
      ·rename_i h1
       have := hasA_len h1 (by decide)
       have := spanA_ge isWs s (k + 1)
       injection h with h; injection h with h; injection h with _ h
       simp only [List.length_cons, List.length_nil] at *
       omega
      ·have := ihM _ _ _ _ _ (spanA_le hkl) h
       have := spanA_ge isWs s (k + 1)
       omega
   ·injection h with h
    have := numA_bound h hk'
    omega
  ·rw [tkL] at h
   split at h
   ·cases h
   ·cases h
   ·rename_i y k2 h1
    obtain ⟨h2, h3⟩ := ihV _ _ _ _ hk h1
    have := spanA_ge isWs s k2
    dsimp only at h
    split at h
    ·rename_i h4
     have := hasA_len h4 (by decide)
     injection h with h; injection h with h; injection h with _ h
     simp only [List.length_cons, List.length_nil] at *
     omega
    ·split at h
     ·rename_i h4
      have h5 := hasA_len h4 (by decide)
      have := ihL _ _ _ _ _ h5 h
      simp only [List.length_cons, List.length_nil] at *
      omega
     ·cases h
  ·rw [tkM] at h
   split at h
   ·cases h
   ·rename_i t k2 hkey
    obtain ⟨h5, h6⟩ := keyA_bound hkey
    split at h
    ·cases h
    ·cases h
    ·rename_i y k3 h1
     obtain ⟨h2, h3⟩ := ihV _ _ _ _ h6 h1
     have := spanA_ge isWs s k3
     dsimp only at h
     split at h
     ·rename_i h4
      have := hasA_len h4 (by decide)
      injection h with h; injection h with h; injection h with _ h
      simp only [List.length_cons, List.length_nil] at *
      omega
     ·split at h
      ·rename_i h4
       have h5 := hasA_len h4 (by decide)
       have := ihM _ _ _ _ _ h5 h
       simp only [List.length_cons, List.length_nil] at *
       omega
      ·cases h
theorem tk_total (s : Str) : ∀ f : Nat, (∀ k deep, k ≤ s.length → 2 * (s.length - k) + 2 ≤ f → tkV f s k deep ≠ none) ∧
  (∀ k deep acc, k ≤ s.length → 2 * (s.length - k) + 3 ≤ f → tkL f s k deep acc ≠ none) ∧
  (∀ k deep m, k ≤ s.length → 2 * (s.length - k) + 3 ≤ f → tkM f s k deep m ≠ none)
 | 0 => ⟨fun _ _ _ h => by omega, fun _ _ _ _ h => by omega, fun _ _ _ _ h => by omega⟩
 | f + 1 => by
  obtain ⟨ihV, ihL, ihM⟩ := tk_total s f
  obtain ⟨bV, _, _⟩ := tk_bound s f
  refine ⟨fun k0 deep hk hf => ?_, fun k deep acc hk hf => ?_, fun k deep m hk hf => ?_⟩
  ·rw [tkV]
   have hg := spanA_ge isWs s k0
   have hk' : spanA isWs s k0 ≤ s.length := spanA_le hk
   generalize spanA isWs s k0 = k at hg hk'
   dsimp only
   split; · simp
   split; · simp
   split; · simp
   split; · split <;> simp
   split
   ·rename_i hb
    have hkl : k + 1 ≤ s.length := by
     rcases Bool.or_eq_true_iff.1 hb with hb | hb <;> exact hasA_len hb (by decide)
    have := spanA_ge isWs s (k + 1)
    split; · simp
    split
    ·split; · simp
     exact ihL _ _ _ (spanA_le hkl) (by omega)
    ·split; · simp
     exact ihM _ _ _ (spanA_le hkl) (by omega)
   ·simp
  ·rw [tkL]
   have hV := ihV k deep hk (by omega)
   split
   ·rename_i h; exact absurd h hV
   ·simp
   ·rename_i y k2 h1
    obtain ⟨h2, h3⟩ := bV _ _ _ _ hk h1
    have := spanA_ge isWs s k2
    dsimp only
    split; · simp
    split
    ·rename_i h4
     have h5 := hasA_len h4 (by decide)
     simp only [List.length_cons, List.length_nil] at h5
     exact ihL _ _ _ h5 (by omega)
    ·simp
  ·rw [tkM]
   split
   ·simp
   ·rename_i t k2 hkey
    obtain ⟨h5, h6⟩ := keyA_bound hkey
    have hV := ihV k2 deep h6 (by omega)
    split
    ·rename_i h; exact absurd h hV
    ·simp
    ·rename_i y k3 h1
     obtain ⟨h2, h3⟩ := bV _ _ _ _ h6 h1
     have := spanA_ge isWs s k3
     dsimp only
     split; · simp
     split
     ·rename_i h4
      have h5 := hasA_len h4 (by decide)
      simp only [List.length_cons, List.length_nil] at h5
      exact ihM _ _ _ h5 (by omega)
     ·simp
def sortM (acc : List (Str × JV)) : List (Str × JV) := acc.foldl (fun m p => putM m p.1 p.2) []
theorem sortM_snoc (acc : List (Str × JV)) (p : Str × JV) : sortM (acc ++ [p]) = putM (sortM acc) p.1 p.2 := by simp [sortM, List.foldl_append]
inductive Fm where
 | L (l : List JV)
 | M (m : List (Str × JV)) (key : Str)
 | A (m : List (Str × JV)) (key : Str)
noncomputable def begA (s : Str) (k0 n : Nat) : Except Int (Sum (JV × Nat) (Fm × Nat)) :=
 let k := spanA isWs s k0
 if hasA s k JV.tNull then .ok (.inl (JV.nul, k + 4))
 else if hasA s k JV.tTrue then .ok (.inl (.mk 1 true 0 [] [] [], k + 4))
 else if hasA s k JV.tFalse then .ok (.inl (.mk 1 false 0 [] [] [], k + 5))
 else if hasA s k [34] then
  match strT s k with
  | none => .error 4
  | some (t, k1) => .ok (.inl (JV.txtV t, k1))
 else if hasA s k [91] || hasA s k [123] then
  if n = 32 then .error 5
  else
   let k1 := spanA isWs s (k + 1)
   if hasA s k [91] then
    if hasA s k1 [93] then .ok (.inl (JV.lst [], k1 + 1)) else .ok (.inr (.L [], k1))
   else
    if hasA s k1 [125] then .ok (.inl (JV.obj [], k1 + 1))
    else match keyA s k1 [] with
     | .error e => .error e
     | .ok (t, k2) => .ok (.inr (.M [] t, k2))
 else match numA s k with
  | .error e => .error e
  | .ok x => .ok (.inl x)
inductive Run (s : Str) : Option JV → Nat → List Fm → PR → Prop where
 | err {k : Nat} {st : List Fm} {e : Int} : begA s k st.length = .error e → Run s none k st (.error e)
 | whole {k k1 : Nat} {st : List Fm} {v : JV} {r : PR} : begA s k st.length = .ok (.inl (v, k1)) → Run s (some v) k1 st r → Run s none k st r
 | push {k k1 : Nat} {st : List Fm} {x : Fm} {r : PR} : begA s k st.length = .ok (.inr (x, k1)) → Run s none k1 (x :: st) r → Run s none k st r
 | done {k : Nat} {v : JV} : Run s (some v) k [] (.ok (v, k))
 | endL {k : Nat} {v : JV} {acc : List JV} {st : List Fm} {r : PR} : hasA s (spanA isWs s k) [93] = true → Run s (some (JV.lst (acc ++ [v]))) (spanA isWs s k + 1) st r → Run s (some v) k (.L acc :: st) r
 | nextL {k : Nat} {v : JV} {acc : List JV} {st : List Fm} {r : PR} : hasA s (spanA isWs s k) [93] = false → hasA s (spanA isWs s k) [44] = true → Run s none (spanA isWs s k + 1) (.L (acc ++ [v]) :: st) r → Run s (some v) k (.L acc :: st) r
 | errL {k : Nat} {v : JV} {acc : List JV} {st : List Fm} : hasA s (spanA isWs s k) [93] = false → hasA s (spanA isWs s k) [44] = false → Run s (some v) k (.L acc :: st) (.error 4)
 | endM {k : Nat} {v : JV} {acc : List (Str × JV)} {t : Str} {st : List Fm} {r : PR} : hasA s (spanA isWs s k) [125] = true → Run s (some (JV.obj (sortM (acc ++ [(t, v)])))) (spanA isWs s k + 1) st r → Run s (some v) k (.M acc t :: st) r
 | nextM {k k' : Nat} {v : JV} {acc : List (Str × JV)} {t t' : Str} {st : List Fm} {r : PR} : hasA s (spanA isWs s k) [125] = false → hasA s (spanA isWs s k) [44] = true → keyA s (spanA isWs s k + 1) (sortM (acc ++ [(t, v)])) = .ok (t', k') → Run s none k' (.M (acc ++ [(t, v)]) t' :: st) r → Run s (some v) k (.M acc t :: st) r
 | keyM {k : Nat} {v : JV} {acc : List (Str × JV)} {t : Str} {st : List Fm} {e : Int} : hasA s (spanA isWs s k) [125] = false → hasA s (spanA isWs s k) [44] = true → keyA s (spanA isWs s k + 1) (sortM (acc ++ [(t, v)])) = .error e → Run s (some v) k (.M acc t :: st) (.error e)
 | errM {k : Nat} {v : JV} {acc : List (Str × JV)} {t : Str} {st : List Fm} : hasA s (spanA isWs s k) [125] = false → hasA s (spanA isWs s k) [44] = false → Run s (some v) k (.M acc t :: st) (.error 4)
def Ans (s : Str) (k : Nat) (st0 st : List Fm) (r : PR) : Prop := (∀ e, r = .error e → Run s none k st (.error e)) ∧ ∀ v k1, r = .ok (v, k1) → ∀ R, Run s (some v) k1 st0 R → Run s none k st R
theorem sim (s : Str) : ∀ f : Nat, (∀ k deep r, tkV f s k deep = some r → ∀ st, st.length = deep → Ans s k st st r) ∧
  (∀ k deep acc r, tkL f s k deep acc = some r → ∀ st, st.length + 1 = deep → Ans s k st (.L acc :: st) r) ∧
  (∀ k deep acc r, tkM f s k deep (sortM acc) = some r → ∀ st, st.length + 1 = deep → (∀ e, keyA s k (sortM acc) = .error e → r = .error e) ∧ ∀ t k1, keyA s k (sortM acc) = .ok (t, k1) → Ans s k1 st (.M acc t :: st) r)
 | 0 => ⟨fun _ _ _ h => by simp [tkV] at h, fun _ _ _ _ h => by simp [tkL] at h, fun _ _ _ _ h => by simp [tkM] at h⟩
 | f + 1 => by
  obtain ⟨ihV, ihL, ihM⟩ := sim s f
  refine ⟨fun k0 deep r h st hst => ?_, fun k deep acc r h st hst => ?_, fun k deep acc r h st hst => ?_⟩
  ·subst hst
   have hB := Eq.refl (begA s k0 st.length)
   conv at hB => rhs; unfold begA
   rw [tkV] at h
   generalize spanA isWs s k0 = k at h hB
   dsimp only at h hB
   have lit : ∀ v k1, begA s k0 st.length = .ok (.inl (v, k1)) → r = .ok (v, k1) → Ans s k0 st st r := fun v k1 hb hr =>
    ⟨fun e he => (by rw [hr] at he; cases he), fun v' k' he R hR => by
     rw [hr] at he
     injection he with he
     injection he with h1 h2
     subst h1; subst h2
     exact .whole hb hR⟩
   have bad : ∀ e, begA s k0 st.length = .error e → r = .error e → Ans s k0 st st r := fun e hb hr =>
    ⟨fun e' he => by
     rw [hr] at he
     injection he with he
     subst he
     exact .err hb, fun v' k' he R hR => by rw [hr] at he; cases he⟩
   split at h
   ·rename_i c1
    rw [if_pos c1] at hB
    injection h with h
    exact lit _ _ hB h.symm
   rename_i c1
   rw [if_neg c1] at hB
   split at h
   ·rename_i c2
    rw [if_pos c2] at hB
    injection h with h
    exact lit _ _ hB h.symm
   rename_i c2
   rw [if_neg c2] at hB
   split at h
   ·rename_i c3
    rw [if_pos c3] at hB
    injection h with h
    exact lit _ _ hB h.symm
   rename_i c3
   rw [if_neg c3] at hB
   split at h
   ·rename_i c4
    rw [if_pos c4] at hB
    split at h
    ·rename_i hs
     rw [hs] at hB
     injection h with h
     exact bad _ hB h.symm
    ·rename_i t k1 hs
     rw [hs] at hB
     injection h with h
     exact lit _ _ hB h.symm
   rename_i c4
   rw [if_neg c4] at hB
   split at h
   ·rename_i c5
    rw [if_pos c5] at hB
    split at h
    ·rename_i c6
     rw [if_pos c6] at hB
     injection h with h
     exact bad _ hB h.symm
    rename_i c6
    rw [if_neg c6] at hB
    split at h
    ·rename_i c7
     rw [if_pos c7] at hB
     split at h
     ·rename_i c8
      rw [if_pos c8] at hB
      injection h with h
      exact lit _ _ hB h.symm
     ·rename_i c8
      rw [if_neg c8] at hB
      obtain ⟨h1, h2⟩ := ihL _ _ _ _ h st rfl
      exact ⟨fun e he => .push hB (h1 e he), fun v k1 he R hR => .push hB (h2 v k1 he R hR)⟩
    ·rename_i c7
     rw [if_neg c7] at hB
     split at h
     ·rename_i c8
      rw [if_pos c8] at hB
      injection h with h
      exact lit _ _ hB h.symm
     ·rename_i c8
      rw [if_neg c8] at hB
      obtain ⟨h0, h1⟩ := ihM _ _ [] _ h st rfl
      cases hk : keyA s (spanA isWs s (k + 1)) [] with
      | error e =>
       rw [hk] at hB
       exact bad _ hB (h0 e hk)
      | ok p =>
       obtain ⟨t, k2⟩ := p
       rw [hk] at hB
       obtain ⟨h2, h3⟩ := h1 t k2 hk
       exact ⟨fun e he => .push hB (h2 e he), fun v k1 he R hR => .push hB (h3 v k1 he R hR)⟩
   ·rename_i c5
    rw [if_neg c5] at hB
    injection h with h
    cases hn : numA s k with
    | error e => rw [hn] at hB h; exact bad _ hB h.symm
    | ok x => obtain ⟨v, k1⟩ := x; rw [hn] at hB h; exact lit _ _ hB h.symm
  ·rw [tkL] at h
   split at h
   ·cases h
   ·rename_i e hv
    injection h with h
    subst h
    obtain ⟨h1, _⟩ := ihV _ _ _ hv (.L acc :: st) (by simpa using hst)
    exact ⟨fun e' he => by injection he with he; subst he; exact h1 _ rfl, fun v k1 he => by cases he⟩
   ·rename_i y k2 hv
    obtain ⟨_, h2⟩ := ihV _ _ _ hv (.L acc :: st) (by simpa using hst)
    have h2 := h2 y k2 rfl
    dsimp only at h
    split at h
    ·rename_i c1
     injection h with h
     subst h
     exact ⟨fun e he => (by cases he), fun v k1 he R hR => by
      injection he with he
      injection he with e1 e2
      subst e1; subst e2
      exact h2 R (.endL c1 hR)⟩
    ·rename_i c1
     split at h
     ·rename_i c2
      obtain ⟨h3, h4⟩ := ihL _ _ _ _ h st hst
      exact ⟨fun e he => h2 _ (.nextL (by simpa using c1) c2 (h3 e he)), fun v k1 he R hR => h2 _ (.nextL (by simpa using c1) c2 (h4 v k1 he R hR))⟩
     ·rename_i c2
      injection h with h
      subst h
      exact ⟨fun e he => by injection he with he; subst he; exact h2 _ (.errL (by simpa using c1) (by simpa using c2)), fun v k1 he => by cases he⟩
  ·rw [tkM] at h
   refine ⟨fun e he => ?_, fun t k1 hk => ?_⟩
   ·rw [he] at h
    injection h with h
    exact h.symm
   rw [hk] at h
   dsimp only at h
   split at h
   ·cases h
   ·rename_i e hv
    injection h with h
    subst h
    obtain ⟨h1, _⟩ := ihV _ _ _ hv (.M acc t :: st) (by simpa using hst)
    exact ⟨fun e' he => by injection he with he; subst he; exact h1 _ rfl, fun v k1 he => by cases he⟩
   ·rename_i y k2 hv
    obtain ⟨_, h2⟩ := ihV _ _ _ hv (.M acc t :: st) (by simpa using hst)
    have h2 := h2 y k2 rfl
    split at h
    ·rename_i c1
     injection h with h
     subst h
     exact ⟨fun e he => (by cases he), fun v k1 he R hR => by
      injection he with he
      injection he with e1 e2
      subst e1; subst e2
      refine h2 R (.endM c1 ?_)
      rw [sortM_snoc]
      exact hR⟩
    ·rename_i c1
     split at h
     ·rename_i c2
      have hs : putM (sortM acc) t y = sortM (acc ++ [(t, y)]) := (sortM_snoc acc (t, y)).symm
      rw [hs] at h
      obtain ⟨h3, h4⟩ := ihM _ _ _ _ h st hst
      cases hk2 : keyA s (spanA isWs s k2 + 1) (sortM (acc ++ [(t, y)])) with
      | error e =>
       have := h3 e hk2
       subst this
       exact ⟨fun e' he => by injection he with he; subst he; exact h2 _ (.keyM (by simpa using c1) c2 hk2), fun v k1 he => by cases he⟩
      | ok p =>
       obtain ⟨t', k'⟩ := p
       obtain ⟨h5, h6⟩ := h4 t' k' hk2
       exact ⟨fun e he => h2 _ (.nextM (by simpa using c1) c2 hk2 (h5 e he)), fun v k1 he R hR => h2 _ (.nextM (by simpa using c1) c2 hk2 (h6 v k1 he R hR))⟩
     ·rename_i c2
      injection h with h
      subst h
      exact ⟨fun e he => by injection he with he; subst he; exact h2 _ (.errM (by simpa using c1) (by simpa using c2)), fun v k1 he => by cases he⟩
noncomputable def rdA (s : Str) : PR := (tkV (2 * s.length + 2) s 0 0).getD (.error 0)
theorem rdA_eq (s : Str) : tkV (2 * s.length + 2) s 0 0 = some (rdA s) := by
 unfold rdA
 have := (tk_total s (2 * s.length + 2)).1 0 0 (by omega) (by omega)
 cases h : tkV (2 * s.length + 2) s 0 0 with
 | none => exact absurd h this
 | some r => rfl
theorem run_all (s : Str) : Run s none 0 [] (rdA s) := by
 obtain ⟨h1, h2⟩ := (sim s _).1 _ _ _ (rdA_eq s) [] rfl
 cases h : rdA s with
 | error e => exact h1 e h
 | ok p => exact h2 p.1 p.2 (by rw [h]) _ .done
noncomputable def parse (s : Str) : Except Int JV :=
 if 65536 < s.length then .error 3
 else match rdA s with
  | .error e => .error e
  | .ok (v, k) => if spanA isWs s k < s.length then .error 4 else .ok v
end Go.Proofs.YtknndpjacklkeaaGreatDoor.V

set_option linter.unusedVariables false
set_option linter.unusedSimpArgs false
namespace Go.Proofs.YtknndpjacklkeaaGreatDoor.V
open Go
section
variable {P : Program} {ops : Array Oper} {md : Region.Mode} {R : World → World → Prop} {C : World → Prop} {n : Nat} {ds : List Deferred} {Q : Exit → Act → World → Prop} {w w' : World} {l : List (Nat × Value)} {a : Act}
def EndQ (P : Program) (ops : Array Oper) (n : Nat) (ds : List Deferred) (Q : Exit → Act → World → Prop) (qs : List Nat) (x y : Nat) : Exit → Act → World → Prop
 | .normal, a, w => ∃ l, Has n ds l a ∧ PW P n (fun l => WL P ops Q (pick ops [x, y]) n ds l w ∧ WL P ops Q (pick ops [y, x]) n ds l w) (pick ops qs) l
 | e, a, w => Q e a w
theorem l_end {qs : List Nat} {x y : Nat} (h : PW P n (fun l => WL P ops Q (pick ops [x, y]) n ds l w ∧ WL P ops Q (pick ops [y, x]) n ds l w) (pick ops qs) l) : WL P ops (EndQ P ops n ds Q qs x y) [] n ds l w := fun a ha => ⟨l, ha, h⟩
theorem wpOp_end {qs : List Nat} {x y i : Nat} {K : Act → World → Prop} (h : ∀ a w, EndQ P ops n ds Q qs x y .normal a w → K a w) (hh : wpOp P ops (EndQ P ops n ds Q qs x y) i (EndQ P ops n ds Q qs x y .normal) a w) : wpOp P ops Q i K a w := by
 have hlet : LetsOut (EndQ P ops n ds Q qs x y) → LetsOut Q := fun ⟨a, w, h⟩ => ⟨a, w, h⟩
 unfold wpOp at *
 split
 ·exact h _ _ (by simpa [*] using hh)
 ·rename_i o ho
  simp only [ho] at hh
  split
  ·rename_i hw
   simp only [hw, if_true] at hh
   refine hh.imp (fun h1 => ?_) (fun h1 => ⟨h1.1, hlet h1.2⟩)
   unfold Oper.wp at *
   generalize (execOp a.eval o).run P w = r at *
   cases r with
   | ok n w' =>
    cases n with
    | value v => exact h _ _ h1
    | skip => exact h _ _ h1
    | defer d => exact h _ _ h1
    | enter f args =>
     refine Calls.mono h1 fun e w2 he => ?_
     cases e with
     | returned v => exact h _ _ he
     | panicked c => exact he
     | outgrown => exact hlet he
    | row rw_ args => exact Rows.mono h1 fun v w2 hv => h _ _ hv
    | _ => exact h1
   | halt s w' =>
    cases s with
    | panic v => exact h1
    | _ => exact h1
  ·rename_i hw
   simp only [hw, if_false] at hh
   exact h _ _ hh
def endB (ops : Array Oper) (t0 : Nat) (qs : List Nat) (x y : Nat) (listed : Array Bool) : Bool :=
 decide (Region.ready .any ops listed = [t0]) && pureL .any ops qs (listed.setIfInBounds t0 true) &&
 decide (Region.ready .any ops (setL (listed.setIfInBounds t0 true) qs) = [x, y]) &&
 seqL .any ops [y] ((setL (listed.setIfInBounds t0 true) qs).setIfInBounds x true) && seqL .any ops [x] ((setL (listed.setIfInBounds t0 true) qs).setIfInBounds y true)
theorem wpOp_of_list {i : Nat} {o : Oper} {rest : List Oper} (ho : ops[i]? = some o) (h : wpList P ops Q (o :: rest) a w) : wpOp P ops Q i (wpList P ops Q rest) a w := by
 unfold wpOp
 simp only [ho]
 exact h
theorem wpAny_two {x y : Nat} {l2 : Array Bool} (h1 : Region.ready .any ops l2 = [x, y]) (h2 : seqL .any ops [y] (l2.setIfInBounds x true) = true) (h3 : seqL .any ops [x] (l2.setIfInBounds y true) = true)
  (hx : wpList P ops Q (pick ops [x, y]) a w) (hy : wpList P ops Q (pick ops [y, x]) a w) : wpAny P .any ops Q 2 l2 a w := by
 have hrx : x ∈ Region.ready .any ops l2 := by rw [h1]; simp
 have hry : y ∈ Region.ready .any ops l2 := by rw [h1]; simp
 obtain ⟨_, ox, hox, _⟩ := mem_ready.1 hrx
 obtain ⟨_, oy, hoy, _⟩ := mem_ready.1 hry
 refine ⟨fun h => (by rw [h1] at h; cases h), fun i hi => ?_⟩
 rw [h1] at hi
 rcases List.mem_cons.1 hi with rfl | hi
 ·have hp : pick ops [i, y] = ox :: pick ops [y] := by simp [pick, List.filterMap_cons, hox]
  rw [hp] at hx
  exact wpOp_mono (fun a w h => wpAny_of_seqL [y] _ a w h2 h) (wpOp_of_list hox hx)
 ·obtain rfl : i = y := by simpa using hi
  have hp : pick ops [i, x] = oy :: pick ops [x] := by simp [pick, List.filterMap_cons, hoy]
  rw [hp] at hy
  exact wpOp_mono (fun a w h => wpAny_of_seqL [x] _ a w h3 h) (wpOp_of_list hoy hy)
theorem wpAny_of_endB (hQ : ∀ c a w, ¬ Q (.panic c) a w) (hsel : ∀ (j : Nat) (o : Oper) cs b, ops[j]? = some o → o.op ≠ .select cs b) {t0 x y : Nat} {qs : List Nat} {listed : Array Bool} (hB : endB ops t0 qs x y listed = true)
  (h : wpList P ops (EndQ P ops n ds Q qs x y) (pick ops [t0]) a w) : wpAny P .any ops Q (qs.length + 2 + 1) listed a w := by
 unfold endB at hB
 simp only [Bool.and_eq_true, decide_eq_true_eq] at hB
 obtain ⟨⟨⟨⟨b1, b2⟩, b3⟩, b4⟩, b5⟩ := hB
 have hr : t0 ∈ Region.ready .any ops listed := by rw [b1]; simp
 obtain ⟨_, o, ho, _⟩ := mem_ready.1 hr
 have hp : pick ops [t0] = [o] := by simp [pick, ho]
 rw [hp] at h
 refine ⟨fun h => (by rw [b1] at h; cases h), fun i hi => ?_⟩
 rw [b1] at hi
 obtain rfl : i = t0 := by simpa using hi
 refine wpOp_end (fun a' w' he => ?_) (wpOp_of_list ho h)
 obtain ⟨l', ha', hpw⟩ := he
 exact wpAny_pure (n := n) (ds := ds) hQ hsel qs _ l' a' ha' b2 hpw fun l2 a2 ha2 hk => wpAny_two b3 b4 b5 (hk.1 a2 ha2) (hk.2 a2 ha2)
def headG (md : Region.Mode) (ops : Array Oper) (B : Array Bool → Bool) : List Nat → Array Bool → Bool
 | [], listed => B listed
 | i :: hs, listed => (Region.ready md ops listed).contains i && Region.free md ops listed i && headG md ops B hs (listed.setIfInBounds i true)
theorem AnyH_lexG {B : Array Bool → Bool} {hs0 ts : List Nat} {Fin : Kn → Prop} (hb : ∀ listed, B listed = true → ∀ j ∈ Region.ready md ops listed, j ∈ ts) (hw : ∀ listed, HInv md ops hs0 ts listed → (∃ i ∈ hs0, listed.getD i true = false) → ∀ t ∈ ts, t ∉ Region.ready md ops listed) :
  ∀ (hs : List Nat) (listed : Array Bool) (N : Kn), (∀ i ∈ hs, i ∈ hs0) → (∀ i ∈ hs, i ∉ ts) → HInv md ops hs0 ts listed →
  headG md ops B hs listed = true → TW P ops R C n Fin (pick ops hs) N →
  AnyH P md ops R C n ts (fun listed' N' => B listed' = true ∧ Fin N') hs.length listed N
 | [], listed, N, _, _, _, hB, h => ⟨by simpa [headG] using hB, h⟩
 | i :: hs, listed, N, hsub, hnt, inv, hB, h => by
  simp only [headG, Bool.and_eq_true] at hB
  obtain ⟨⟨hr, hf⟩, hB'⟩ := hB
  have hr' : i ∈ Region.ready md ops listed := by simpa using hr
  obtain ⟨hun, o, ho, _⟩ := mem_ready.1 hr'
  have hp : pick ops (i :: hs) = o :: pick ops hs := by simp [pick, List.filterMap_cons, ho]
  rw [hp] at h
  obtain ⟨V, hJ, hrest⟩ := h
  exact AnyH_first ho (hnt i (by simp)) (fun listed inv hu => hw listed inv ⟨i, hsub i (by simp), hu⟩) (fun listed' N' hL => hb _ hL.1) hs.length listed N inv (Region.free_spec ho hf) hr' hJ
   (AnyH_lexG hb hw hs _ _ (fun i hi => hsub i (by simp [hi])) (fun i hi => hnt i (by simp [hi])) (inv.set hr' (hnt i (by simp))) hB' hrest)
def drawT (ops : Array Oper) (ps hs : List Nat) (t0 : Nat) (qs : List Nat) (x y : Nat) : Bool :=
 Region.noSelect ops && decide (ps.length + (hs.length + (qs.length + 2 + 1)) = ops.size) && pureL .any ops ps (Array.replicate ops.size false) &&
 closedB .any ops (setL (Array.replicate ops.size false) ps) && (t0 :: (qs ++ [x, y])).all (fun t => !(setL (Array.replicate ops.size false) ps).getD t true) &&
 hs.all (fun i => !(t0 :: (qs ++ [x, y])).contains i) && lateL .any ops t0 hs && (qs ++ [x, y]).all (fun t => Region.waitsFor .any ops t t0) && headG .any ops (endB ops t0 qs x y) hs (setL (Array.replicate ops.size false) ps)
theorem c_drawe {id : Nat} {lo : List Oper} (ps hs : List Nat) (t0 : Nat) (qs : List Nat) (x y : Nat) (hm : P.follows .mixedOrders = true) (hB : drawT lo.toArray ps hs t0 qs x y = true) (hQ : ∀ c a w, ¬ Q (.panic c) a w)
  (h : PW P n (fun l => TWL P lo.toArray w n (fun N => ∀ a w', a.defers = ds → Mod [] w w' → N.all n a w' → wpList P lo.toArray (EndQ P lo.toArray n ds Q qs x y) (pick lo.toArray [t0]) a w') (pick lo.toArray hs) l []) (pick lo.toArray ps) l) : WC P (.region id lo.toArray true) Q n ds l w := by
 intro a ha
 unfold drawT at hB
 simp only [Bool.and_eq_true, decide_eq_true_eq] at hB
 obtain ⟨⟨⟨⟨⟨⟨⟨⟨hsel, hlen⟩, hp⟩, hcl⟩, htl⟩, hht⟩, hlate⟩, hch⟩, hhd⟩ := hB
 refine wp_region_any hm ?_
 rw [← hlen]
 have hsz : (setL (Array.replicate lo.toArray.size false) ps).size = lo.toArray.size := by rw [setL_size]; simp
 have htl' : ∀ t ∈ t0 :: (qs ++ [x, y]), (setL (Array.replicate lo.toArray.size false) ps).getD t true = false := fun t ht => by
  have := List.all_eq_true.1 htl t ht
  simpa using this
 have inv0 : HInv .any lo.toArray hs (t0 :: (qs ++ [x, y])) (setL (Array.replicate lo.toArray.size false) ps) := by
  refine ⟨hsz, fun j oj hj hl e he hb => ?_, htl'⟩
  have h1 := List.all_eq_true.1 hcl j (List.mem_range.2 (Array.getElem?_eq_some_iff.1 hj).1)
  rw [hl, hj] at h1
  simp only [Bool.not_true, Bool.false_or, Array.all_eq_true_iff_forall_mem] at h1
  have h2 := h1 e he
  rw [hb] at h2
  simpa using h2
 have hw : ∀ listed, HInv .any lo.toArray hs (t0 :: (qs ++ [x, y])) listed → (∃ i ∈ hs, listed.getD i true = false) → ∀ t ∈ t0 :: (qs ++ [x, y]), t ∉ Region.ready .any lo.toArray listed := by
  rintro listed inv ⟨i, hi, hun⟩ t ht
  rcases List.mem_cons.1 ht with rfl | ht'
  ·exact head_waits inv.size inv.closed hs hlate i hi hun
  ·intro hr
   obtain ⟨_, ot, hot, hall⟩ := mem_ready.1 hr
   obtain ⟨o', ho', e, he, hb, hon⟩ := Region.waitsFor_spec (List.all_eq_true.1 hch t ht')
   have : o' = ot := Option.some.inj (ho'.symm.trans hot)
   subst this
   have h2 := hall e he hb
   rw [hon, getD_both (inv.tail t0 (by simp))] at h2
   cases h2
 have hlen2 : (Array.replicate (ps.length + (hs.length + (qs.length + 2 + 1))) false) = Array.replicate lo.toArray.size false := by rw [hlen]
 rw [hlen2]
 refine wpAny_pure (n := n) (ds := ds) hQ (Region.noSelect_spec hsel) ps _ l a ha hp h fun l a ha hT => ?_
 have hbb : ∀ listed, endB lo.toArray t0 qs x y listed = true → ∀ j ∈ Region.ready .any lo.toArray listed, j ∈ t0 :: (qs ++ [x, y]) := fun listed hb j hj => by
  unfold endB at hb
  simp only [Bool.and_eq_true, decide_eq_true_eq] at hb
  rw [hb.1.1.1.1] at hj
  simp only [List.mem_singleton] at hj
  rw [hj]
  simp
 have H := AnyH_lexG (md := .any) hbb hw hs _ (kn l []) (fun i hi => hi) (fun i hi => by
  have := List.all_eq_true.1 hht i hi
  simpa using this) inv0 hhd hT
 exact wpAny_of_H (n := n) (ds := ds) (w0 := w) (Q := Q) (g := qs.length + 2 + 1) (later w) (fun listed N a w' _ hd hC _ hN hL => wpAny_of_endB (n := n) (ds := ds) hQ (Region.noSelect_spec hsel) hL.1 (hL.2 a w' hd hC hN)) _ _ (kn l []) a _ (kn_lasts l) ha.defers (Mod.drew [] w) (Mod.drew [] w) (kn_all ha) H
end
end Go.Proofs.YtknndpjacklkeaaGreatDoor.V

set_option linter.unusedVariables false
set_option linter.unusedSimpArgs false
namespace Go.Proofs.YtknndpjacklkeaaGreatDoor.V
open Go
def ents (es : Array MapEntry) : List (Value × Value) := es.toList.map fun e => (e.key, e.val)
def rows (m : List (Str × Value)) : List (Value × Value) := m.map fun p => (S p.1, p.2)
structure MapB (w : World) (b : Nat) (m : List (Str × Value)) : Prop where
 at_ : ∃ es clock, w.heap[b]? = some (.map es clock) ∧ ents es = rows m ∧ (∀ e ∈ es.toList, e.born < clock) ∧ (es.toList.map (·.born)).Nodup
 keys : (m.map (·.1)).Nodup
variable {P : Program} {w w' : World} {b : Nat} {m : List (Str × Value)} {k : Str} {M : List Nat}
theorem MapB.lt (h : MapB w b m) : b < w.heap.size := by
 obtain ⟨es, c, h1, _⟩ := h.at_
 exact (Array.getElem?_eq_some_iff.1 h1).1
theorem MapB.mod (h : MapB w b m) (k : Mod M w w') (hb : b ∉ M) : MapB w' b m := by
 have hlt := h.lt
 obtain ⟨es, c, h1, h2⟩ := h.at_
 exact ⟨⟨es, c, (k.block b hlt hb).trans h1, h2⟩, h.keys⟩
theorem MapB.mod0 (h : MapB w b m) (k : Mod [] w w') : MapB w' b m := h.mod k (by simp)
theorem ba_beq (k l : Str) : ((⟨⟨k⟩⟩ : ByteArray) == ⟨⟨l⟩⟩) = decide (k = l) := by
 by_cases h : k = l
 ·subst h
  rw [decide_eq_true rfl]
  exact (MapKept.bytes_beq _ _).2 rfl
 ·rw [decide_eq_false h]
  cases hb : ((⟨⟨k⟩⟩ : ByteArray) == ⟨⟨l⟩⟩) with
  | false => rfl
  | true =>
   have := (MapKept.bytes_beq _ _).1 hb
   injection this with this
   injection this with this
   exact absurd this h
theorem sameNow_S (k l : Str) : Instr.sameNow .string (S k) (S l) = some (decide (k = l)) := by
 unfold S
 simp only [Instr.sameNow, ba_beq]
theorem findNow_rows {l : List MapEntry} {m : List (Str × Value)} (h : l.map (fun e => (e.key, e.val)) = rows m) (k : Str) (i : Nat) :
  ∃ j, Instr.findNow .string (S k) l i = some ((look m k).map fun v => (j, v)) ∧ (∀ v, look m k = some v → i ≤ j ∧ ∃ p, m[j - i]? = some p ∧ p.1 = k ∧ p.2 = v ∧ ∀ q, q < j - i → ∀ p', m[q]? = some p' → p'.1 ≠ k) := by
 induction l generalizing m i with
 | nil =>
  cases m with
  | nil => exact ⟨0, rfl, fun v hv => by simp [look] at hv⟩
  | cons p r => simp [rows] at h
 | cons e r ih =>
  cases m with
  | nil => simp [rows] at h
  | cons p s =>
   simp only [rows, List.map_cons, List.cons.injEq, Prod.mk.injEq] at h
   obtain ⟨⟨h1, h2⟩, h3⟩ := h
   rw [Instr.findNow, h1]
   by_cases hp : p.1 = k
   ·refine ⟨i, ?_, fun v hv => ?_⟩
    ·have : Instr.sameNow .string (S k) (S p.1) = some true := by rw [sameNow_S, decide_eq_true hp.symm]
     rw [this]
     simp only [look, if_pos hp, Option.map_some]
     rw [h2]
    ·simp only [look, if_pos hp, Option.some.injEq] at hv
     exact ⟨Nat.le_refl _, p, by simp, hp, hv, fun q hq => by omega⟩
   ·have : Instr.sameNow .string (S k) (S p.1) = some false := by rw [sameNow_S, decide_eq_false (fun e => hp e.symm)]
    rw [this]
    obtain ⟨j, h4, h5⟩ := ih (m := s) (by simpa [rows] using h3) (i + 1)
    refine ⟨j, ?_, fun v hv => ?_⟩
    ·simp only [h4, look, if_neg hp]
    ·simp only [look, if_neg hp] at hv
     obtain ⟨h6, p', h7, h8, h9, h10⟩ := h5 v hv
     refine ⟨by omega, p', ?_, h8, h9, fun q hq p2 hp2 => ?_⟩
     ·rw [show j - i = (j - (i + 1)) + 1 by omega]
      simpa using h7
     ·cases q with
      | zero => simp at hp2; subst hp2; exact hp
      | succ q => exact h10 q (by omega) p2 (by simpa using hp2)
section
variable {ops : Array Oper} {Q : Exit → Act → World → Prop} {n : Nat} {ds : List Deferred} {l : List (Nat × Value)} {rest : List Oper} {d : Nat} {ty : TypeId} {pos : String} {af : Array Edge} {dd : Option Nat} {gg : Option (Nat × Bool)} {x y : Operand} {t kt et : TypeId} {z v : Value}
def MapV (w : World) (u : Value) (m : List (Str × Value)) : Prop := (u = .map none ∧ m = []) ∨ ∃ b, u = .map (some b) ∧ MapB w b m
theorem run_check (hk : P.underlying kt = some .string) (e : Bool) (k : Str) : (Instr.checkKey e 10000 kt (S k)).run P w = .ok () w := by
 unfold Instr.checkKey
 simp [underlying, hk, S]
theorem run_findKey (hk : P.underlying kt = some .string) {l : List MapEntry} {m : List (Str × Value)} (h : l.map (fun e => (e.key, e.val)) = rows m) (k : Str) :
  ∃ j, (Instr.findKey kt (S k) l).run P w = .ok ((look m k).map fun v => (j, v)) w ∧ (∀ v, look m k = some v → ∃ p, m[j]? = some p ∧ p.1 = k ∧ p.2 = v ∧ ∀ q, q < j → ∀ p', m[q]? = some p' → p'.1 ≠ k) := by
 obtain ⟨j, h1, h2⟩ := findNow_rows h k 0
 refine ⟨j, ?_, fun v hv => ?_⟩
 ·unfold Instr.findKey
  simp [underlying, hk, h1]
 ·obtain ⟨_, p, h3, h4, h5, h6⟩ := h2 v hv
  exact ⟨p, h3, h4, h5, h6⟩
theorem run_zero (hz : (P.info? et).bind (·.zero) = some z) (w : World) : (zeroValue et).run P w = .ok z w := by
 obtain ⟨i, h2, h3⟩ := Option.bind_eq_some_iff.1 hz
 simp [zeroValue, typeInfo, h2, h3]
theorem o_lk (ht : P.underlying t = some (.map kt et)) (hk : P.underlying kt = some .string) (hz0 : (P.info? et).bind (·.zero) = some z) (hx : evO l x = some v) (hm : MapV w v m) (hy : evO l y = some (S k)) :
  Runs P l ⟨dd, .lookup t x y false, ty, pos, af, gg⟩ w ((look m k).getD z) w := fun ρ h => by
 have hz := run_zero hz0
 rcases hm with ⟨rfl, rfl⟩ | ⟨b, rfl, hm⟩
 ·simp [execOp, h _ _ hx, h _ _ hy, Instr.lookup, underlying, ht, run_check hk, Instr.findKey, hk, Instr.findNow, hz, look]
 ·obtain ⟨es, c, h1, h2, _⟩ := hm.at_
  obtain ⟨j, h3, h4⟩ := run_findKey (P := P) (w := w) hk h2 k
  cases hl : look m k with
  | none => simp [execOp, h _ _ hx, h _ _ hy, Instr.lookup, underlying, ht, getObj, Sem.run, Result.andThen, h1, run_check hk, h3, hl, hz]
  | some u => simp [execOp, h _ _ hx, h _ _ hy, Instr.lookup, underlying, ht, getObj, Sem.run, Result.andThen, h1, run_check hk, h3, hl]
def setM {β : Type} (m : List (Str × β)) (k : Str) (v : β) : List (Str × β) := if (look m k).isSome then m.map (fun p => if p.1 = k then (p.1, v) else p) else m ++ [(k, v)]
theorem setM_keys {β : Type} {m : List (Str × β)} {k : Str} {v : β} (h : (m.map (·.1)).Nodup) : ((setM m k v).map (·.1)).Nodup := by
 unfold setM
 split
 ·have : (m.map fun p => if p.1 = k then (p.1, v) else p).map (·.1) = m.map (·.1) := by
   rw [List.map_map]
   apply List.map_congr_left
   intro p _
   simp only [Function.comp]
   split <;> rfl
  rw [this]
  exact h
 ·rename_i hn
  rw [List.map_append, List.nodup_append]
  refine ⟨h, by simp, fun a ha b hb => ?_⟩
  simp only [List.map_cons, List.map_nil, List.mem_singleton] at hb
  subst hb
  intro e
  subst e
  obtain ⟨p, hp, hpk⟩ := List.mem_map.1 ha
  have hl : look m a = none := by simpa using hn
  exact look_none hl p hp hpk
end
end Go.Proofs.YtknndpjacklkeaaGreatDoor.V

set_option linter.unusedVariables false
set_option linter.unusedSimpArgs false
namespace Go.Proofs.YtknndpjacklkeaaGreatDoor.V
open Go
open Go.ChangeMaps (setBlock)
section
variable {P : Program} {w w' : World} {b : Nat} {m : List (Str × Value)} {k : Str} {M : List Nat}
variable {ops : Array Oper} {Q : Exit → Act → World → Prop} {n : Nat} {ds : List Deferred} {l : List (Nat × Value)} {rest : List Oper} {d : Nat} {ty : TypeId} {pos : String} {af : Array Edge} {dd : Option Nat} {gg : Option (Nat × Bool)} {x y z : Operand} {t kt et : TypeId} {v : Value}
theorem MapB.nil (w : World) : MapB (w.alloc (.map #[] 0)) w.heap.size [] :=
 ⟨⟨#[], 0, heap_alloc_new w _, rfl, by simp, by simp⟩, by simp⟩
theorem s_mmap (hd : Nat.blt d n = true) (h : ∀ b w', MapB w' b [] → b = w.heap.size → Mod [] w w' → WL P ops Q rest n ds ((d, .map (some b)) :: l) w') : WL P ops Q (⟨some d, .makeMap t none, ty, pos, af, none⟩ :: rest) n ds l w :=
 sv (v := .map (some w.heap.size)) (w' := w.alloc (.map #[] 0)) (fun ρ hρ => by simp [execOp, Instr.makeMap, newObj, Sem.run, Result.andThen]) hd (h _ _ (MapB.nil w) rfl (Mod.alloc w _))
theorem setBlock_at {o o' : Obj} {g : Nat} (hg : w.heap[g]? = some o) : (setBlock w g o').heap[g]? = some o' := by
 have hlt := (Array.getElem?_eq_some_iff.1 hg).1
 simp [setBlock, Array.getElem?_setIfInBounds, hlt]
theorem setBlock_mod {o o' : Obj} {g : Nat} (hg : w.heap[g]? = some o) : Mod [g] w (setBlock w g o') := by
 refine ⟨rfl, rfl, rfl, by simp [setBlock], fun i hi hn => ?_⟩
 have : i ≠ g := fun e => hn (by simp [e])
 simp [setBlock, Array.getElem?_setIfInBounds, Ne.symm this]
theorem run_set {o' : Obj} {g : Nat} {es : Array MapEntry} {c : Nat} (hg : w.heap[g]? = some (.map es c)) : (setObj g o').run P w = .ok () (setBlock w g o') := by
 simp [setObj, Sem.run, hg, setBlock]
theorem ents_push {es : Array MapEntry} {e : MapEntry} : ents (es.push e) = ents es ++ [(e.key, e.val)] := by simp [ents]
theorem ents_modify {es : Array MapEntry} {j : Nat} {p : Str × Value} (h : ents es = rows m) (hk : (m.map (·.1)).Nodup) (hj : m[j]? = some p) (hp : p.1 = k) : ents (es.modify j fun e => { e with key := S k, val := v }) = rows (m.map fun q => if q.1 = k then (q.1, v) else q) := by
 unfold ents rows at h ⊢
 apply List.ext_getElem?
 intro i
 have hi := congrArg (fun z => z[i]?) h
 simp only [List.getElem?_map] at hi
 simp only [List.getElem?_map, Array.getElem?_toList, Array.getElem?_modify] at hi ⊢
 by_cases hij : j = i
 ·subst hij
  rw [if_pos rfl]
  rw [hj] at hi ⊢
  cases he : es[j]? with
  | none => rw [he] at hi; simp at hi
  | some e => simp [hp]
 ·rw [if_neg hij]
  cases hq : m[i]? with
  | none => rw [hq] at hi; simp at hi ⊢; exact hi
  | some q =>
   rw [hq] at hi
   have hne : ¬ q.1 = k := fun e => by
    have h1 := (List.getElem?_eq_some_iff.1 hj)
    have h2 := (List.getElem?_eq_some_iff.1 hq)
    obtain ⟨h1a, h1b⟩ := h1
    obtain ⟨h2a, h2b⟩ := h2
    have hpw := List.pairwise_iff_getElem.1 hk
    rcases Nat.lt_or_gt_of_ne hij with hlt | hlt
    ·exact hpw j i (by simpa using h1a) (by simpa using h2a) hlt (by simp [h1b, h2b, hp, e])
    ·exact hpw i j (by simpa using h2a) (by simpa using h1a) hlt (by simp [h1b, h2b, hp, e])
   rw [hi]
   simp [hne]
theorem born_modify {es : Array MapEntry} {j : Nat} {f : MapEntry → MapEntry} (hf : ∀ e, (f e).born = e.born) : (es.modify j f).toList.map (·.born) = es.toList.map (·.born) := by
 apply List.ext_getElem?
 intro i
 simp only [List.getElem?_map, Array.getElem?_toList, Array.getElem?_modify]
 split
 ·cases es[i]? <;> simp [hf]
 ·rfl
theorem s_mset (ht : P.underlying t = some (.map kt et)) (hk : P.underlying kt = some .string) (hx : evO l x = some (.map (some b))) (hm : MapB w b m) (hy : evO l y = some (S k)) (hz : evO l z = some v)
  (h : ∀ w', MapB w' b (setM m k v) → Mod [b] w w' → WL P ops Q rest n ds l w') : WL P ops Q (⟨none, .mapUpdate t x y z, ty, pos, af, none⟩ :: rest) n ds l w := by
 obtain ⟨es, c, h1, h2, h3, h4⟩ := hm.at_
 obtain ⟨j, h5, h6⟩ := run_findKey (P := P) (w := w) hk h2 k
 cases hl : look m k with
 | none =>
  rw [hl] at h5
  have hB : MapB (setBlock w b (.map (es.push { key := S k, val := v, born := c }) (c + 1))) b (setM m k v) := by
   refine ⟨⟨_, _, setBlock_at h1, ?_, fun e he => ?_, ?_⟩, setM_keys hm.keys⟩
   ·rw [ents_push, h2]
    unfold setM
    rw [hl]
    simp [rows]
   ·simp only [Array.toList_push, List.mem_append, List.mem_singleton] at he
    rcases he with he | rfl
    ·have := h3 e he; omega
    ·exact Nat.lt_succ_self _
   ·simp only [Array.toList_push, List.map_append, List.map_cons, List.map_nil, List.nodup_append]
    refine ⟨h4, by simp, fun a ha q hq => ?_⟩
    simp only [List.mem_singleton] at hq
    subst hq
    obtain ⟨e, he, rfl⟩ := List.mem_map.1 ha
    have := h3 e he
    omega
  intro a ha
  refine wpList_plain rfl fun K hK => ?_
  have hr : (execOp a.eval ⟨none, .mapUpdate t x y z, ty, pos, af, none⟩).run P w = .ok .skip (setBlock w b (.map (es.push { key := S k, val := v, born := c }) (c + 1))) := by
   simp [execOp, ha.ev hx, ha.ev hy, ha.ev hz, Instr.mapUpdate, underlying, ht, getObj, Sem.run, Result.andThen, h1, run_check hk, h5, run_set h1]
  simp only [Oper.wp, hr, Oper.upon]
  exact hK _ _ (h _ hB (setBlock_mod h1) _ (by simpa [Act.put] using ha))
 | some u =>
  rw [hl] at h5
  obtain ⟨p, h7, h8, h9, h10⟩ := h6 u hl
  have hB : MapB (setBlock w b (.map (es.modify j fun e => { e with key := S k, val := v }) c)) b (setM m k v) := by
   refine ⟨⟨_, _, setBlock_at h1, ?_, fun e he => ?_, ?_⟩, setM_keys hm.keys⟩
   ·rw [ents_modify h2 hm.keys h7 h8]
    unfold setM
    rw [hl]
    rfl
   ·have hb := born_modify (es := es) (j := j) (f := fun e => { e with key := S k, val := v }) (fun _ => rfl)
    have : e.born ∈ es.toList.map (·.born) := by rw [← hb]; exact List.mem_map_of_mem he
    obtain ⟨e', he', hbe⟩ := List.mem_map.1 this
    have := h3 e' he'
    omega
   ·rw [born_modify (f := fun e => { e with key := S k, val := v }) (fun _ => rfl)]
    exact h4
  have hkey : ((es[j]?).map (·.key)).getD (S k) = S k := by
   have hi := congrArg (fun z => z[j]?) h2
   simp only [ents, rows, List.getElem?_map, h7, Array.getElem?_toList] at hi
   cases he : es[j]? with
   | none => rfl
   | some e =>
    rw [he] at hi
    simp only [Option.map_some, Option.some.injEq, Prod.mk.injEq] at hi
    simp [hi.1, h8]
  have hstay : (Instr.keyThatStays (S k) (S k)).run P w = .ok (S k) w := by
   have : Instr.sameBits 10000 (S k) (S k) = true := by
    unfold S
    simp only [Instr.sameBits, ba_beq]
    simp
   simp [Instr.keyThatStays, this]
  intro a ha
  refine wpList_plain rfl fun K hK => ?_
  have hr : (execOp a.eval ⟨none, .mapUpdate t x y z, ty, pos, af, none⟩).run P w = .ok .skip (setBlock w b (.map (es.modify j fun e => { e with key := S k, val := v }) c)) := by
   simp [execOp, ha.ev hx, ha.ev hy, ha.ev hz, Instr.mapUpdate, underlying, ht, getObj, Sem.run, Result.andThen, h1, run_check hk, h5, hkey, hstay, run_set h1]
  simp only [Oper.wp, hr, Oper.upon]
  exact hK _ _ (h _ hB (setBlock_mod h1) _ (by simpa [Act.put] using ha))
end
end Go.Proofs.YtknndpjacklkeaaGreatDoor.V
