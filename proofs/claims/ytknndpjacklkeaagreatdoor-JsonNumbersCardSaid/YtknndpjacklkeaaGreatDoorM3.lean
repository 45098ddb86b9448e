/-
  A part of the proof: members by rising keys: found, put, in plain Lean; JSON values in memory: their cells, the rows of their lists and maps; how much a JSON value weighs, whether its keys rise, whether two are the same, in plain Lean; members put into a map: rows of seven cells; runes, texts between quotes, canonical texts of JSON values, as the document tells them, in plain Lean; runes, step by step; the model's reading of a rune, and the document's: the same; the rest of a slice of the call's own is cleared; a drawn region's end with two slots of which something is known; a text between quotes, byte by byte; errors' numbers; bytes that grow behind one another while a JSON value is read: what is kept from step to step; panics that go through a call; a range over a string. No condition of its own.
-/
import Derived.Test.YtknndpjacklkeaaGreatDoorM2
import Derived.Lib.ItoaLen
import Derived.Laws.RangeString
import Derived.WalkSmall
set_option linter.unusedVariables false
set_option linter.unusedSimpArgs false
namespace Go.Proofs.YtknndpjacklkeaaGreatDoor.V
open Go
theorem cmp_scmp : ∀ a b : Str, Lib.compareBytes a b = scmp a b
 | [], [] => rfl
 | [], _ :: _ => by simp [Lib.compareBytes, scmp, bl, Op.bytesLess]
 | _ :: _, [] => by simp [Lib.compareBytes, scmp, bl, Op.bytesLess]
 | x :: a, y :: b => by
  have ih := cmp_scmp a b
  simp only [Lib.compareBytes]
  unfold scmp at ih ⊢
  by_cases h : x < y
  ·simp [h, bl, Op.bytesLess]
  ·by_cases h' : y < x
   ·have hne : x ≠ y := fun e => by subst e; exact h h'
    simp [h, h', bl, Op.bytesLess, hne]
   ·have hxy : x = y := UInt8.le_antisymm (UInt8.not_lt.1 h') (UInt8.not_lt.1 h)
    subst hxy
    simp [bl, Op.bytesLess]
    rw [ih]
section
variable {β : Type}
def ascM (m : List (Str × β)) : Prop := m.Pairwise fun a b => bl a.1 b.1 = true
def look : List (Str × β) → Str → Option β
 | [], _ => none
 | p :: r, k => if p.1 = k then some p.2 else look r k
def putM (m : List (Str × β)) (k : Str) (x : β) : List (Str × β) := m.filter (fun p => bl p.1 k) ++ [(k, x)] ++ m.filter (fun p => bl k p.1)
variable {m m' : List (Str × β)} {k : Str} {x : β}
theorem look_none_of (h : ∀ (j : Nat) (y : Str × β), m[j]? = some y → y.1 ≠ k) : look m k = none := by
 induction m with
 | nil => rfl
 | cons p r ih =>
  rw [look, if_neg (h 0 p rfl)]
  exact ih fun j y hy => h (j + 1) y (by simpa using hy)
theorem look_some : ∀ {m : List (Str × β)} {x : β}, look m k = some x → (k, x) ∈ m
 | p :: r, x, h => by
  rw [look] at h
  by_cases hp : p.1 = k
  ·rw [if_pos hp] at h
   injection h with h
   subst hp; subst h
   exact List.mem_cons_self ..
  ·rw [if_neg hp] at h
   exact List.mem_cons_of_mem _ (look_some h)
theorem look_mem : ∀ {m : List (Str × β)} {p : Str × β}, ascM m → p ∈ m → look m p.1 = some p.2
 | q :: r, p, h, hp => by
  rcases List.mem_cons.1 hp with rfl | hp
  ·rw [look, if_pos rfl]
  ·have := List.rel_of_pairwise_cons h hp
   rw [look, if_neg (fun e => by rw [e, bl_irrefl] at this; cases this)]
   exact look_mem (List.Pairwise.of_cons h) hp
theorem look_none : ∀ {m : List (Str × β)}, look m k = none → ∀ p ∈ m, p.1 ≠ k
 | q :: r, h, p, hp => by
  rw [look] at h
  by_cases hq : q.1 = k
  ·rw [if_pos hq] at h; cases h
  ·rw [if_neg hq] at h
   rcases List.mem_cons.1 hp with rfl | hp
   ·exact hq
   ·exact look_none h p hp
theorem ascM_ext : ∀ {m m' : List (Str × β)}, ascM m → ascM m' → (∀ k, look m k = look m' k) → m = m'
 | [], [], _, _, _ => rfl
 | [], p :: r, _, h', e => by have := e p.1; rw [look_mem h' (List.mem_cons_self ..)] at this; cases this
 | p :: r, [], h, _, e => by have := e p.1; rw [look_mem h (List.mem_cons_self ..)] at this; cases this
 | p :: r, p' :: r', h, h', e => by
  have h1 := look_some ((e p.1).symm.trans (look_mem h (List.mem_cons_self ..)))
  have h2 := look_some ((e p'.1).trans (look_mem h' (List.mem_cons_self ..)))
  have hk : p.1 = p'.1 := by
   rcases List.mem_cons.1 h1 with h3 | h3
   ·rw [← h3]
   ·rcases List.mem_cons.1 h2 with h4 | h4
    ·rw [← h4]
    ·have a := List.rel_of_pairwise_cons h' h3
     have b := List.rel_of_pairwise_cons h h4
     have := bl_trans a b
     rw [bl_irrefl] at this
     cases this
  have hpe : p = p' := by
   have e0 := e p.1
   rw [look, if_pos rfl, look, if_pos hk.symm] at e0
   injection e0 with e0
   exact Prod.ext hk e0
  subst hpe
  congr 1
  refine ascM_ext (List.Pairwise.of_cons h) (List.Pairwise.of_cons h') fun k => ?_
  by_cases hkk : p.1 = k
  ·subst hkk
   have n1 : ∀ {r : List (Str × β)}, ascM (p :: r) → look r p.1 = none := fun hr => look_none_of fun j y hy e => by
    have := List.rel_of_pairwise_cons hr (List.mem_of_getElem? hy)
    rw [e, bl_irrefl] at this
    cases this
   rw [n1 h, n1 h']
  ·have e0 := e k
   rwa [look, if_neg hkk, look, if_neg hkk] at e0
theorem ascM_filter {q : Str × β → Bool} (h : ascM m) : ascM (m.filter q) := List.Pairwise.filter q h
theorem ascM_put (h : ascM m) : ascM (putM m k x) := by
 unfold putM ascM
 rw [List.append_assoc, List.pairwise_append]
 refine ⟨ascM_filter h, ?_, ?_⟩
 ·rw [List.pairwise_append]
  refine ⟨by simp, ascM_filter h, ?_⟩
  intro a ha b hb
  simp at ha
  subst ha
  simpa using (List.mem_filter.1 hb).2
 ·intro a ha b hb
  have h1 : bl a.1 k = true := by simpa using (List.mem_filter.1 ha).2
  rcases List.mem_append.1 hb with hb | hb
  ·simp at hb; subst hb; exact h1
  ·exact bl_trans h1 (by simpa using (List.mem_filter.1 hb).2)
theorem look_append : ∀ {a b : List (Str × β)}, look (a ++ b) k = (look a k).or (look b k)
 | [], b => by simp [look]
 | p :: r, b => by
  simp only [List.cons_append, look]
  by_cases hp : p.1 = k
  ·simp [hp]
  ·simp [hp, look_append (a := r) (b := b)]
theorem look_filter {q : Str × β → Bool} {b : Bool} (hq : ∀ p ∈ m, p.1 = k → q p = b) : look (m.filter q) k = if b then look m k else none := by
 induction m with
 | nil => simp [look]
 | cons p r ih =>
  have ih := ih fun p' hp' => hq p' (List.mem_cons_of_mem _ hp')
  have hp := hq p (List.mem_cons_self ..)
  by_cases hk : p.1 = k
  ·have := hp hk
   cases b
   ·rw [List.filter_cons_of_neg (by simp [this]), ih]; rfl
   ·rw [List.filter_cons_of_pos this, look, if_pos hk, if_pos rfl, look, if_pos hk]
  ·by_cases hqp : q p = true
   ·rw [List.filter_cons_of_pos hqp, look, if_neg hk, ih, look, if_neg hk]
   ·rw [List.filter_cons_of_neg hqp, ih, look, if_neg hk]
theorem look_put {k' : Str} : look (putM m k x) k' = if k' = k then some x else look m k' := by
 unfold putM
 rw [look_append, look_append]
 by_cases h : k' = k
 ·subst h
  rw [look_filter (b := false) (fun p _ e => by rw [e, bl_irrefl])]
  simp [look]
 ·rw [if_neg h]
  have h1 : look [(k, x)] k' = none := by simp [look, Ne.symm h]
  rw [h1, Option.or_none]
  rcases bl_total k' k with h2 | h2 | h2
  ·rw [look_filter (b := true) (fun p _ e => by rw [e]; exact h2), look_filter (b := false) (fun p _ e => by rw [e]; exact bl_asymm h2)]
   simp
  ·exact absurd h2 h
  ·rw [look_filter (b := false) (fun p _ e => by rw [e]; exact bl_asymm h2), look_filter (b := true) (fun p _ e => by rw [e]; exact h2)]
   simp
end
end Go.Proofs.YtknndpjacklkeaaGreatDoor.V

set_option linter.unusedVariables false
set_option linter.unusedSimpArgs false
namespace Go.Proofs.YtknndpjacklkeaaGreatDoor.V
open Go
section
variable {A : List Nat} {w w' : World}
theorem JV.cells_ {v : JV} {us : List Value} (R : Reps A w v.D us) : ∃ al cl am cm, us = [.int .i64 v.kind, .bool v.is, .int .i64 v.num, S v.str, .slice al v.list.length cl, .slice am v.map.length cm] ∧
  Rep A w (.sl 6 (v.list.map JV.D)) (.slice al v.list.length cl) ∧ Rep A w (.sl 7 (v.map.map JV.Dp)) (.slice am v.map.length cm) := by
 rw [JV.D_eq] at R
 obtain ⟨_, _, rfl, h1, R⟩ := R
 obtain ⟨_, _, rfl, h2, R⟩ := R
 obtain ⟨_, _, rfl, h3, R⟩ := R
 obtain ⟨_, _, rfl, h4, R⟩ := R
 obtain ⟨_, _, rfl, h5, R⟩ := R
 obtain ⟨_, _, rfl, h6, R⟩ := R
 obtain rfl := R
 obtain rfl := h1.v_eq
 obtain rfl := h2.v_eq
 obtain rfl := h3.v_eq
 obtain rfl := h4.v_eq
 obtain ⟨al, cl, rfl, _⟩ := h5.sl_
 obtain ⟨am, cm, rfl, _⟩ := h6.sl_
 rw [List.length_map] at h5 h6 ⊢
 rw [List.length_map]
 exact ⟨al, cl, am, cm, rfl, h5, h6⟩
theorem JV.reps_ {v : JV} {al am : Option Addr} {cl cm : Nat} (Rl : Rep A w (.sl 6 (v.list.map JV.D)) (.slice al v.list.length cl)) (Rm : Rep A w (.sl 7 (v.map.map JV.Dp)) (.slice am v.map.length cm)) :
  Reps A w v.D [.int .i64 v.kind, .bool v.is, .int .i64 v.num, S v.str, .slice al v.list.length cl, .slice am v.map.length cm] := by
 rw [JV.D_eq]
 exact Reps.cons_ (Rep.v_ rfl) (Reps.cons_ (Rep.v_ rfl) (Reps.cons_ (Rep.v_ rfl) (Reps.cons_ (Rep.v_ rfl) (Reps.cons_ Rl (Reps.cons_ Rm Reps.nil_)))))
theorem JV.cap_l {l : List JV} {ad : Option Addr} {n c : Nat} (R : Rep A w (.sl 6 (l.map JV.D)) (.slice ad n c)) : l.length = n ∧ n ≤ c ∧ c ≤ 9223372036854775807 := by
 obtain ⟨ad', c', h1, h2, h3⟩ := R.sl_
 injection h1 with h4 h5 h6
 rw [List.length_map] at h5 h2
 omega
theorem JV.cap_m {m : List (Str × JV)} {ad : Option Addr} {n c : Nat} (R : Rep A w (.sl 7 (m.map JV.Dp)) (.slice ad n c)) : m.length = n ∧ n ≤ c ∧ c ≤ 9223372036854775807 := by
 obtain ⟨ad', c', h1, h2, h3⟩ := R.sl_
 injection h1 with h4 h5 h6
 rw [List.length_map] at h5 h2
 omega
theorem JV.at_l {l : List JV} {x : JV} {ad : Option Addr} {n c i : Nat} (R : Rep A w (.sl 6 (l.map JV.D)) (.slice ad n c)) (h : l[i]? = some x) : ∃ a us, ad = some a ∧ Reps A w x.D us ∧ Cs w (a.add (i * 6)) us := by
 obtain ⟨a, us, h1, h2, _, h3, _⟩ := Rep.at_ (i := i) (r := x.D) R (by simp [h])
 exact ⟨a, us, h1, h2, h3⟩
theorem JV.at_m {m : List (Str × JV)} {p : Str × JV} {ad : Option Addr} {n c i : Nat} (R : Rep A w (.sl 7 (m.map JV.Dp)) (.slice ad n c)) (h : m[i]? = some p) : ∃ a us, ad = some a ∧ Reps A w p.2.D us ∧ Cs w (a.add (i * 7)) (S p.1 :: us) := by
 obtain ⟨a, us, h1, h2, _, h3, _⟩ := Rep.at_ (i := i) (r := JV.Dp p) R (by simp [h])
 obtain ⟨u, us', rfl, h4, h5⟩ := h2
 obtain rfl := h4.v_eq
 exact ⟨a, us', h1, h5, h3⟩
def JV.nul : JV := .mk 0 false 0 [] [] []
theorem JV.nul_reps : Reps A w JV.nul.D [.int .i64 0, .bool false, .int .i64 0, S [], .slice none 0 0, .slice none 0 0] := by
 have := JV.reps_ (A := A) (w := w) (v := JV.nul) (al := none) (am := none) (cl := 0) (cm := 0) Rep.sl_nil Rep.sl_nil
 exact this
theorem JV.cells_one {v : JV} {us : List Value} (R : Reps A w v.D us) : us.length = 6 ∧ ∀ u ∈ us, u.oneCell' = true := ⟨by rw [R.length, JV.D_len], R.one⟩
theorem JV.Dp_reps {p : Str × JV} {us : List Value} (R : Reps A w p.2.D us) : Reps A w (JV.Dp p) (S p.1 :: us) := Reps.cons_ (Rep.v_ rfl) R
theorem JV.rows_snoc {m : List (Str × JV)} {p : Str × JV} {vs us : List Value} (h : Reps A w (m.map JV.Dp).flatten vs) (hp : Reps A w (JV.Dp p) us) : Reps A w ((m ++ [p]).map JV.Dp).flatten (vs ++ us) := by
 rw [List.map_append, List.flatten_append]
 refine h.append ?_
 simpa using hp
variable {P : Program} {ops : Array Oper} {Q : Exit → Act → World → Prop} {n : Nat} {ds : List Deferred} {l : List (Nat × Value)}
variable {rest : List Oper} {ty : TypeId} {pos : String} {af : Array Edge} {x y : Operand}
end
end Go.Proofs.YtknndpjacklkeaaGreatDoor.V

set_option linter.unusedVariables false
set_option linter.unusedSimpArgs false
namespace Go.Proofs.YtknndpjacklkeaaGreatDoor.V
open Go
abbrev w64 (z : Int) : Int := IntKind.i64.wrap z
namespace JV
mutual
def weigh : JV → Int → Int → Int
 | .mk _ _ _ s l m, left, deep => if deep = 0 then -1 else weighm m (weighl l (w64 (w64 (left - 1) - s.length)) (w64 (deep - 1))) (w64 (deep - 1))
def weighl : List JV → Int → Int → Int
 | [], left, _ => left
 | v :: r, left, d => if left < 0 then left else weighl r (v.weigh left d) d
def weighm : List (List UInt8 × JV) → Int → Int → Int
 | [], left, _ => left
 | p :: r, left, d => if left < 0 then left else weighm r (p.2.weigh (w64 (left - p.1.length)) d) d
end
mutual
def Rise : JV → Prop
 | .mk _ _ _ _ l m => ascM m ∧ Risel l ∧ Risem m
def Risel : List JV → Prop
 | [] => True
 | v :: r => v.Rise ∧ Risel r
def Risem : List (List UInt8 × JV) → Prop
 | [] => True
 | p :: r => p.2.Rise ∧ Risem r
end
open Classical in
noncomputable def rises (v : JV) : Bool := decide v.Rise
end JV
end Go.Proofs.YtknndpjacklkeaaGreatDoor.V

set_option linter.unusedVariables false
set_option linter.unusedSimpArgs false
namespace Go.Proofs.YtknndpjacklkeaaGreatDoor.V
open Go
namespace JV
def get (v : JV) (k : Str) : Option JV := if v.kind = 5 then look v.map k else none
def tbl (v : JV) : List (Str × JV) := if v.kind = 5 then v.map else []
def obj (m : List (Str × JV)) : JV := .mk 5 false 0 [] [] m
end JV
end Go.Proofs.YtknndpjacklkeaaGreatDoor.V

set_option linter.unusedVariables false
set_option linter.unusedSimpArgs false
namespace Go.Proofs.YtknndpjacklkeaaGreatDoor.V
open Go
def runeC : List UInt8 → Nat → Option Nat
 | [], c => some c
 | b :: r, c => if b.toNat < 128 ∨ 192 ≤ b.toNat then none else runeC r (c * 64 + b.toNat % 64)
def runeH (c : Nat) : Nat × Nat × Nat :=
 if 192 ≤ c ∧ c < 224 then (2, 128, c % 32) else if 224 ≤ c ∧ c < 240 then (3, 2048, c % 16) else if 240 ≤ c ∧ c < 248 then (4, 65536, c % 8) else (0, 0, c)
def runeR (s : Str) : Nat × Nat := match s with
 | [] => (0, 0)
 | b :: r => if b.toNat < 128 then (b.toNat, 1) else
  if (runeH b.toNat).1 = 0 ∨ s.length < (runeH b.toNat).1 then (0, 0) else
   match runeC (r.take ((runeH b.toNat).1 - 1)) (runeH b.toNat).2.2 with
   | none => (0, 0)
   | some c => if c < (runeH b.toNat).2.1 ∨ 1114111 < c ∨ (55296 ≤ c ∧ c ≤ 57343) then (0, 0) else (c, (runeH b.toNat).1)
theorem runeR_le (s : Str) : (runeR s).2 ≤ s.length := by
 unfold runeR
 split
 ·simp
 ·rename_i b r
  split
  ·simp
  ·split
   ·simp
   ·rename_i h
    split
    ·simp
    ·split
     ·simp
     ·simp only
      omega
def validR (s : Str) : Bool :=
 if h : s = [] then true else if h0 : (runeR s).2 = 0 then false else validR (s.drop (runeR s).2)
termination_by s.length
decreasing_by
 have := runeR_le s
 rw [List.length_drop]
 have : s.length ≠ 0 := fun e => h (List.eq_nil_of_length_eq_zero e)
 omega
theorem validR_nil : validR [] = true := by rw [validR]; simp
theorem validR_no {s : Str} (h : s ≠ []) (h0 : (runeR s).2 = 0) : validR s = false := by rw [validR]; simp [h, h0]
theorem validR_go {s : Str} (h : s ≠ []) (h0 : (runeR s).2 ≠ 0) : validR s = validR (s.drop (runeR s).2) := by
 rw [validR]
 simp [h, h0]
abbrev hexD : Str := [48, 49, 50, 51, 52, 53, 54, 55, 56, 57, 97, 98, 99, 100, 101, 102]
def escQ (c : UInt8) : Str :=
 if c = 34 ∨ c = 92 then [92, c] else if c = 8 then [92, 98] else if c = 9 then [92, 116] else if c = 10 then [92, 110] else if c = 12 then [92, 102] else if c = 13 then [92, 114]
 else if c.toNat < 32 then [92, 117, 48, 48, hexD.getD (c.toNat / 16) 0, hexD.getD (c.toNat % 16) 0] else [c]
def escs (s : Str) : Str := (s.map escQ).flatten
def putQ (s : Str) : Str := 34 :: escs s ++ [34]
theorem escQ_len (c : UInt8) : (escQ c).length ≤ 6 := by
 unfold escQ
 repeat' split
 all_goals simp
theorem escs_len : ∀ s : Str, (escs s).length ≤ 6 * s.length
 | [] => by simp [escs]
 | c :: s => by
  have h1 := escs_len s
  have h2 := escQ_len c
  simp only [escs, List.map_cons, List.flatten_cons, List.length_append, List.length_cons] at h1 ⊢
  omega
def lng (b : Str) : Except Int Str := if 65536 < b.length then .error 3 else .ok b
def txtW (b s : Str) : Except Int Str := if 65536 < s.length then .error 3 else if validR s then lng (b ++ putQ s) else .error 1
theorem lng_ok {b b' : Str} (h : lng b = .ok b') : b' = b ∧ b.length ≤ 65536 := by
 unfold lng at h
 split at h
 ·cases h
 ·injection h with h; exact ⟨h.symm, by omega⟩
namespace JV
def bare (v : JV) : Bool := decide (0 ≤ v.kind ∧ v.kind ≤ 5) && (decide (v.kind = 1) || !v.is) && (decide (v.kind = 2) || decide (v.num = 0)) && (decide (v.kind = 3) || decide (v.str = [])) && (decide (v.kind = 4) || decide (v.list.length = 0)) && (decide (v.kind = 5) || decide (v.map.length = 0)) && (!decide (v.kind = 2) || decide (-9007199254740991 ≤ v.num ∧ v.num ≤ 9007199254740991))
abbrev tNull : Str := [110, 117, 108, 108]
abbrev tTrue : Str := [116, 114, 117, 101]
abbrev tFalse : Str := [102, 97, 108, 115, 101]
mutual
def wr : JV → Nat → Str → Except Int Str
 | .mk k is n s l m, deep, b =>
  if bare (.mk k is n s l m) = false then .error 1 else
  if k = 0 then lng (b ++ tNull) else
  if k = 1 then lng (b ++ if is then tTrue else tFalse) else
  if k = 2 then lng (b ++ Lib.itoa n) else
  if k = 3 then txtW b s else
  if deep = 32 then .error 5 else
  if k = 4 then (lng (b ++ [91])).bind fun b => (wrl l deep true b).bind fun b => lng (b ++ [93])
  else (lng (b ++ [123])).bind fun b => (wrm m deep none b).bind fun b => lng (b ++ [125])
def wrl : List JV → Nat → Bool → Str → Except Int Str
 | [], _, _, b => .ok b
 | v :: r, deep, fst, b => (if fst then Except.ok b else lng (b ++ [44])).bind fun b => (wr v (deep + 1) b).bind fun b => wrl r deep false b
def wrm : List (List UInt8 × JV) → Nat → Option Str → Str → Except Int Str
 | [], _, _, b => .ok b
 | p :: r, deep, prev, b => (match prev with
   | none => Except.ok b
   | some q => (lng (b ++ [44])).bind fun b => if bl q p.1 then .ok b else .error 1).bind fun b =>
  (txtW b p.1).bind fun b => (lng (b ++ [58])).bind fun b => (wr p.2 (deep + 1) b).bind fun b => wrm r deep (some p.1) b
end
theorem wr_eq (v : JV) (deep : Nat) (b : Str) : wr v deep b = 
  if bare v = false then .error 1 else
  if v.kind = 0 then lng (b ++ tNull) else
  if v.kind = 1 then lng (b ++ if v.is then tTrue else tFalse) else
  if v.kind = 2 then lng (b ++ Lib.itoa v.num) else
  if v.kind = 3 then txtW b v.str else
  if deep = 32 then .error 5 else
  if v.kind = 4 then (lng (b ++ [91])).bind fun b => (wrl v.list deep true b).bind fun b => lng (b ++ [93])
  else (lng (b ++ [123])).bind fun b => (wrm v.map deep none b).bind fun b => lng (b ++ [125]) := by
 cases v
 rw [wr]
 rfl
end JV
end Go.Proofs.YtknndpjacklkeaaGreatDoor.V

set_option linter.unusedVariables false
set_option linter.unusedSimpArgs false
namespace Go.Proofs.YtknndpjacklkeaaGreatDoor.V
open Go
section
variable {P : Program} {l : List (Nat × Value)} {w : World} {ty : TypeId} {pos : String} {af : Array Edge} {dd : Option Nat} {gg : Option (Nat × Bool)} {x y lo : Operand} {t : TypeId}
theorem o_ssfrom {u : List UInt8} {n : Nat} (ht : P.underlying t = some .string) (hx : evO l x = some (S u)) (hl : evO l lo = some (.int .i64 (n : Int))) (hb : n ≤ u.length) : Runs P l ⟨dd, .slice t x (some lo) none none, ty, pos, af, gg⟩ w (S (u.drop n)) w :=
 (o_ssl (pl := some (.i64, (n : Int))) (ph := none) ht hx (by simp [evS, hl]) rfl (by simp only [loV, hiV]; omega)).to (by
  simp only [loV, hiV, Int.toNat_natCast]
  rw [List.take_of_length_le (by simp)])
end
theorem runeR_small {b0 : UInt8} {r : Str} (h : b0.toNat < 128) : runeR (b0 :: r) = (b0.toNat, 1) := by simp [runeR, h]
theorem runeR_short {b0 : UInt8} {r : Str} {n l c : Nat} (hge : ¬ b0.toNat < 128) (hH : runeH b0.toNat = (n, l, c)) (h : n = 0 ∨ (b0 :: r).length < n) : runeR (b0 :: r) = (0, 0) := by
 unfold runeR
 simp only [if_neg hge, hH]
 rw [if_pos h]
theorem runeR_at {b0 : UInt8} {r : Str} {n l c : Nat} (hge : ¬ b0.toNat < 128) (hH : runeH b0.toNat = (n, l, c)) (h : ¬ (n = 0 ∨ (b0 :: r).length < n)) :
  runeR (b0 :: r) = match runeC (r.take (n - 1)) c with | none => (0, 0) | some c => if c < l ∨ 1114111 < c ∨ (55296 ≤ c ∧ c ≤ 57343) then (0, 0) else (c, n) := by
 show (if b0.toNat < 128 then (b0.toNat, 1) else if (runeH b0.toNat).1 = 0 ∨ (b0 :: r).length < (runeH b0.toNat).1 then (0, 0) else _) = _
 rw [if_neg hge, hH, if_neg h] <;> rfl
theorem runeR_none {b0 : UInt8} {r : Str} {n l c : Nat} (hge : ¬ b0.toNat < 128) (hH : runeH b0.toNat = (n, l, c)) (h : ¬ (n = 0 ∨ (b0 :: r).length < n)) (hc : runeC (r.take (n - 1)) c = none) : runeR (b0 :: r) = (0, 0) := by rw [runeR_at hge hH h, hc]
theorem runeR_bad {b0 : UInt8} {r : Str} {n l c d : Nat} (hge : ¬ b0.toNat < 128) (hH : runeH b0.toNat = (n, l, c)) (h : ¬ (n = 0 ∨ (b0 :: r).length < n)) (hc : runeC (r.take (n - 1)) c = some d) (hb : d < l ∨ 1114111 < d ∨ (55296 ≤ d ∧ d ≤ 57343)) : runeR (b0 :: r) = (0, 0) := by
 rw [runeR_at hge hH h, hc]
 exact if_pos hb
theorem runeR_good {b0 : UInt8} {r : Str} {n l c d : Nat} (hge : ¬ b0.toNat < 128) (hH : runeH b0.toNat = (n, l, c)) (h : ¬ (n = 0 ∨ (b0 :: r).length < n)) (hc : runeC (r.take (n - 1)) c = some d) (hb : ¬ (d < l ∨ 1114111 < d ∨ (55296 ≤ d ∧ d ≤ 57343))) : runeR (b0 :: r) = (d, n) := by
 rw [runeR_at hge hH h, hc]
 exact if_neg hb
end Go.Proofs.YtknndpjacklkeaaGreatDoor.V

set_option linter.unusedVariables false
set_option linter.unusedSimpArgs false
namespace Go.Proofs.YtknndpjacklkeaaGreatDoor.V
open Go
def atL (l : Str) (k : Nat) : Nat := (l.getD k 0).toNat
def contL (l : Str) (k : Nat) : Bool := decide (k < l.length) && atL l k / 64 == 2
def decL (l : Str) : Nat × Nat :=
 if atL l 0 < 0x80 then (atL l 0, 1)
 else if atL l 0 / 32 == 6 && contL l 1 then
  if (atL l 0 % 32) * 64 + atL l 1 % 64 ≥ 0x80 then ((atL l 0 % 32) * 64 + atL l 1 % 64, 2) else (65533, 1)
 else if atL l 0 / 16 == 14 && contL l 1 && contL l 2 then
  if (atL l 0 % 16) * 4096 + (atL l 1 % 64) * 64 + atL l 2 % 64 ≥ 0x800 && Utf8.valid ((atL l 0 % 16) * 4096 + (atL l 1 % 64) * 64 + atL l 2 % 64 : Nat) then ((atL l 0 % 16) * 4096 + (atL l 1 % 64) * 64 + atL l 2 % 64, 3) else (65533, 1)
 else if atL l 0 / 8 == 30 && contL l 1 && contL l 2 && contL l 3 then
  if (atL l 0 % 8) * 262144 + (atL l 1 % 64) * 4096 + (atL l 2 % 64) * 64 + atL l 3 % 64 ≥ 0x10000 && Utf8.valid ((atL l 0 % 8) * 262144 + (atL l 1 % 64) * 4096 + (atL l 2 % 64) * 64 + atL l 3 % 64 : Nat) then ((atL l 0 % 8) * 262144 + (atL l 1 % 64) * 4096 + (atL l 2 % 64) * 64 + atL l 3 % 64, 4) else (65533, 1)
 else (65533, 1)
theorem get_at (s : Str) (i k : Nat) : ((⟨⟨s⟩⟩ : ByteArray).get! (i + k)).toNat = atL (s.drop i) k := by
 show ((⟨s⟩ : Array UInt8)[i + k]!).toNat = _
 unfold atL
 congr 1
 rw [List.getD_eq_getElem?_getD, List.getElem?_drop]
 by_cases h : i + k < s.length
 ·rw [getElem!_pos (⟨s⟩ : Array UInt8) (i + k) h]
  simp [h]
 ·rw [getElem!_neg (⟨s⟩ : Array UInt8) (i + k) h, List.getElem?_eq_none (by omega)]
  rfl
theorem cont_at (s : Str) (i k : Nat) : (decide (i + k < (⟨⟨s⟩⟩ : ByteArray).size) && atL (s.drop i) k / 64 == 2) = contL (s.drop i) k := by
 unfold contL
 have hs : (⟨⟨s⟩⟩ : ByteArray).size = s.length := rfl
 rw [hs, List.length_drop]
 congr 1
 by_cases h : i + k < s.length
 ·rw [decide_eq_true h, decide_eq_true (by omega)]
 ·rw [decide_eq_false h, decide_eq_false (by omega)]
theorem decode_eq (s : Str) (i : Nat) : Utf8.decode ⟨⟨s⟩⟩ i = decL (s.drop i) := by
 unfold Utf8.decode
 simp only [get_at, cont_at, Utf8.runeError]
 rfl
theorem valid_nat (c : Nat) : Utf8.valid (c : Int) = decide (c < 55296 ∨ (57344 ≤ c ∧ c ≤ 1114111)) := by
 unfold Utf8.valid
 rw [Bool.eq_iff_iff]
 simp only [Bool.or_eq_true, Bool.and_eq_true, decide_eq_true_eq]
 omega
def encL (c : Nat) : List Nat :=
 if c < 128 then [c] else if c < 2048 then [192 + c / 64, 128 + c % 64] else if c < 65536 then [224 + c / 4096, 128 + c / 64 % 64, 128 + c % 64] else [240 + c / 262144, 128 + c / 4096 % 64, 128 + c / 64 % 64, 128 + c % 64]
def okR (l : Str) : Prop := ((runeR l).2 = 0 ∧ decL l = (65533, 1)) ∨ ((runeR l).2 ≠ 0 ∧ decL l = runeR l ∧ (l.take (runeR l).2).map UInt8.toNat = encL (runeR l).1 ∧ (runeR l).1 ≤ 1114111 ∧ ¬ (55296 ≤ (runeR l).1 ∧ (runeR l).1 ≤ 57343) ∧ (runeR l).2 ≤ 4)
theorem dec_fail {l : Str} (h0 : ¬ atL l 0 < 128) (h1 : (atL l 0 / 32 == 6 && contL l 1) = false) (h2 : (atL l 0 / 16 == 14 && contL l 1 && contL l 2) = false) (h3 : (atL l 0 / 8 == 30 && contL l 1 && contL l 2 && contL l 3) = false) : decL l = (65533, 1) := by
 unfold decL
 rw [if_neg h0, h1, h2, h3]
 rfl
theorem beq_no {a b : Nat} (h : a ≠ b) : (a == b) = false := by simp [h]
theorem ok_one {b0 : UInt8} {r : Str} (h : b0.toNat < 128) : okR (b0 :: r) := by
 refine .inr ?_
 have hd : decL (b0 :: r) = (b0.toNat, 1) := by unfold decL; rw [if_pos (by simpa [atL] using h)]; rfl
 rw [runeR_small h, hd]
 refine ⟨by simp, rfl, by simp [encL, h], by dsimp only; omega, by dsimp only; omega, by simp⟩
theorem ok_none {b0 : UInt8} {r : Str} (h : 128 ≤ b0.toNat) (h' : b0.toNat < 192 ∨ 248 ≤ b0.toNat) : okR (b0 :: r) := by
 have hb := b0.toNat_lt
 have ha : atL (b0 :: r) 0 = b0.toNat := rfl
 have hH : runeH b0.toNat = (0, 0, b0.toNat) := by unfold runeH; rw [if_neg (by omega), if_neg (by omega), if_neg (by omega)]
 refine .inl ⟨by rw [runeR_short (by omega) hH (.inl rfl)], dec_fail (by omega) ?_ ?_ ?_⟩
 ·rw [ha, beq_no (by omega)]; rfl
 ·rw [ha, beq_no (by omega)]; rfl
 ·rw [ha, beq_no (by omega)]; rfl
theorem cont_iff {l : Str} {k : Nat} {b : UInt8} (h : l[k]? = some b) : contL l k = decide (128 ≤ b.toNat ∧ b.toNat < 192) ∧ atL l k = b.toNat := by
 obtain ⟨hk, rfl⟩ := List.getElem?_eq_some_iff.1 h
 have ha : atL l k = (l[k]).toNat := by simp [atL, hk]
 refine ⟨?_, ha⟩
 unfold contL
 rw [ha, decide_eq_true hk, Bool.eq_iff_iff]
 simp only [Bool.true_and, beq_iff_eq, decide_eq_true_eq]
 omega
theorem cont_no {l : Str} {k : Nat} (h : l.length ≤ k) : contL l k = false := by
 unfold contL
 rw [decide_eq_false (by omega)]
 rfl
theorem runeC_bad {b : UInt8} {r : Str} {c : Nat} (h : ¬ (128 ≤ b.toNat ∧ b.toNat < 192)) : runeC (b :: r) c = none := by rw [runeC, if_pos (by omega)]
theorem runeC_ok {b : UInt8} {r : Str} {c : Nat} (h : 128 ≤ b.toNat ∧ b.toNat < 192) : runeC (b :: r) c = runeC r (c * 64 + b.toNat % 64) := by rw [runeC, if_neg (by omega)]
theorem ok_two {b0 : UInt8} {r : Str} (h : 192 ≤ b0.toNat) (h' : b0.toNat < 224) : okR (b0 :: r) := by
 have ha : atL (b0 :: r) 0 = b0.toNat := rfl
 have hH : runeH b0.toNat = (2, 128, b0.toNat % 32) := by unfold runeH; rw [if_pos (by omega)]
 have e1 : (b0.toNat / 32 == 6) = true := by simp; omega
 have e2 : (b0.toNat / 16 == 14) = false := beq_no (by omega)
 have e3 : (b0.toNat / 8 == 30) = false := beq_no (by omega)
 have hf : contL (b0 :: r) 1 = false → decL (b0 :: r) = (65533, 1) := fun hc => dec_fail (by omega) (by rw [hc, Bool.and_false]) (by rw [ha, e2]; rfl) (by rw [ha, e3]; rfl)
 cases r with
 | nil => exact .inl ⟨by rw [runeR_short (by omega) hH (.inr (by simp))], hf (cont_no (by simp))⟩
 | cons b1 r =>
  obtain ⟨hc1, ha1⟩ := cont_iff (l := b0 :: b1 :: r) (k := 1) (b := b1) rfl
  have hln : ¬ (2 = 0 ∨ (b0 :: b1 :: r).length < 2) := by simp
  have htk : (b1 :: r).take (2 - 1) = [b1] := rfl
  by_cases hb : 128 ≤ b1.toNat ∧ b1.toNat < 192
  ·have hrc : runeC ((b1 :: r).take (2 - 1)) (b0.toNat % 32) = some (b0.toNat % 32 * 64 + b1.toNat % 64) := by rw [htk, runeC_ok hb]; rfl
   have hd : decL (b0 :: b1 :: r) = if b0.toNat % 32 * 64 + b1.toNat % 64 ≥ 128 then (b0.toNat % 32 * 64 + b1.toNat % 64, 2) else (65533, 1) := by
    unfold decL
    rw [if_neg (by omega), ha, ha1, e1, hc1, decide_eq_true hb]
    rfl
   by_cases hv : b0.toNat % 32 * 64 + b1.toNat % 64 ≥ 128
   ·have hR := runeR_good (by omega) hH hln hrc (by omega)
    refine .inr ?_
    rw [hR, hd, if_pos hv]
    refine ⟨by simp, rfl, ?_, by dsimp only; omega, by dsimp only; omega, by simp⟩
    unfold encL
    rw [if_neg (by dsimp only; omega), if_pos (by dsimp only; omega)]
    simp only [List.take_succ_cons, List.take_zero, List.map_cons, List.map_nil, List.cons.injEq, and_true]
    omega
   ·exact .inl ⟨by rw [runeR_bad (by omega) hH hln hrc (by omega)], by rw [hd, if_neg hv]⟩
  ·exact .inl ⟨by rw [runeR_none (by omega) hH hln (by rw [htk, runeC_bad hb])], hf (by rw [hc1, decide_eq_false hb])⟩
theorem ok_three {b0 : UInt8} {r : Str} (h : 224 ≤ b0.toNat) (h' : b0.toNat < 240) : okR (b0 :: r) := by
 have ha : atL (b0 :: r) 0 = b0.toNat := rfl
 have hH : runeH b0.toNat = (3, 2048, b0.toNat % 16) := by unfold runeH; rw [if_neg (by omega), if_pos (by omega)]
 have e1 : (b0.toNat / 32 == 6) = false := beq_no (by omega)
 have e2 : (b0.toNat / 16 == 14) = true := by simp; omega
 have e3 : (b0.toNat / 8 == 30) = false := beq_no (by omega)
 have hf : (contL (b0 :: r) 1 && contL (b0 :: r) 2) = false → decL (b0 :: r) = (65533, 1) := fun hc => dec_fail (by omega) (by rw [ha, e1]; rfl) (by rw [Bool.and_assoc, hc, Bool.and_false]) (by rw [ha, e3]; rfl)
 match r with
 | [] => exact .inl ⟨by rw [runeR_short (by omega) hH (.inr (by simp))], hf (by rw [cont_no (by simp)]; rfl)⟩
 | [b1] => exact .inl ⟨by rw [runeR_short (by omega) hH (.inr (by simp))], hf (by rw [cont_no (k := 2) (by simp), Bool.and_false])⟩
 | b1 :: b2 :: r =>
  obtain ⟨hc1, ha1⟩ := cont_iff (l := b0 :: b1 :: b2 :: r) (k := 1) (b := b1) rfl
  obtain ⟨hc2, ha2⟩ := cont_iff (l := b0 :: b1 :: b2 :: r) (k := 2) (b := b2) rfl
  have hln : ¬ (3 = 0 ∨ (b0 :: b1 :: b2 :: r).length < 3) := by simp
  have htk : (b1 :: b2 :: r).take (3 - 1) = [b1, b2] := rfl
  by_cases hb : 128 ≤ b1.toNat ∧ b1.toNat < 192
  ·by_cases hb2 : 128 ≤ b2.toNat ∧ b2.toNat < 192
   ·have hrc : runeC ((b1 :: b2 :: r).take (3 - 1)) (b0.toNat % 16) = some ((b0.toNat % 16 * 64 + b1.toNat % 64) * 64 + b2.toNat % 64) := by rw [htk, runeC_ok hb, runeC_ok hb2]; rfl
    have hd : decL (b0 :: b1 :: b2 :: r) = if (b0.toNat % 16 * 4096 + b1.toNat % 64 * 64 + b2.toNat % 64 ≥ 2048 && Utf8.valid (b0.toNat % 16 * 4096 + b1.toNat % 64 * 64 + b2.toNat % 64 : Nat)) = true then (b0.toNat % 16 * 4096 + b1.toNat % 64 * 64 + b2.toNat % 64, 3) else (65533, 1) := by
     unfold decL
     rw [if_neg (by omega), ha, ha1, ha2, e1, e2, hc1, hc2, decide_eq_true hb, decide_eq_true hb2]
     rfl
    rw [valid_nat] at hd
    by_cases hv : (b0.toNat % 16 * 64 + b1.toNat % 64) * 64 + b2.toNat % 64 < 2048 ∨ 1114111 < (b0.toNat % 16 * 64 + b1.toNat % 64) * 64 + b2.toNat % 64 ∨ (55296 ≤ (b0.toNat % 16 * 64 + b1.toNat % 64) * 64 + b2.toNat % 64 ∧ (b0.toNat % 16 * 64 + b1.toNat % 64) * 64 + b2.toNat % 64 ≤ 57343)
    ·refine .inl ⟨by rw [runeR_bad (by omega) hH hln hrc hv], ?_⟩
     rw [hd, if_neg]
     simp only [Bool.and_eq_true, decide_eq_true_eq]
     omega
    ·have hR := runeR_good (by omega) hH hln hrc hv
     refine .inr ?_
     rw [hR, hd, if_pos (by simp only [Bool.and_eq_true, decide_eq_true_eq]; omega)]
     refine ⟨by simp, by simp only [Prod.mk.injEq, and_true]; omega, ?_, by dsimp only; omega, by dsimp only; omega, by simp⟩
     unfold encL
     rw [if_neg (by dsimp only; omega), if_neg (by dsimp only; omega), if_pos (by dsimp only; omega)]
     simp only [List.take_succ_cons, List.take_zero, List.map_cons, List.map_nil, List.cons.injEq, and_true]
     omega
   ·exact .inl ⟨by rw [runeR_none (by omega) hH hln (by rw [htk, runeC_ok hb, runeC_bad hb2])], hf (by rw [hc2, decide_eq_false hb2, Bool.and_false])⟩
  ·exact .inl ⟨by rw [runeR_none (by omega) hH hln (by rw [htk, runeC_bad hb])], hf (by rw [hc1, decide_eq_false hb]; rfl)⟩
theorem ok_four {b0 : UInt8} {r : Str} (h : 240 ≤ b0.toNat) (h' : b0.toNat < 248) : okR (b0 :: r) := by
 have ha : atL (b0 :: r) 0 = b0.toNat := rfl
 have hH : runeH b0.toNat = (4, 65536, b0.toNat % 8) := by unfold runeH; rw [if_neg (by omega), if_neg (by omega), if_pos (by omega)]
 have e1 : (b0.toNat / 32 == 6) = false := beq_no (by omega)
 have e2 : (b0.toNat / 16 == 14) = false := beq_no (by omega)
 have e3 : (b0.toNat / 8 == 30) = true := by simp; omega
 have hf : (contL (b0 :: r) 1 && contL (b0 :: r) 2 && contL (b0 :: r) 3) = false → decL (b0 :: r) = (65533, 1) := fun hc => dec_fail (by omega) (by rw [ha, e1]; rfl) (by rw [ha, e2]; rfl) (by rw [Bool.and_assoc, Bool.and_assoc, ← Bool.and_assoc (contL (b0 :: r) 1), hc, Bool.and_false])
 match r with
 | [] => exact .inl ⟨by rw [runeR_short (by omega) hH (.inr (by simp))], hf (by rw [cont_no (by simp)]; rfl)⟩
 | [b1] => exact .inl ⟨by rw [runeR_short (by omega) hH (.inr (by simp))], hf (by rw [cont_no (k := 2) (by simp), Bool.and_false]; rfl)⟩
 | [b1, b2] => exact .inl ⟨by rw [runeR_short (by omega) hH (.inr (by simp))], hf (by rw [cont_no (k := 3) (by simp), Bool.and_false])⟩
 | b1 :: b2 :: b3 :: r =>
  obtain ⟨hc1, ha1⟩ := cont_iff (l := b0 :: b1 :: b2 :: b3 :: r) (k := 1) (b := b1) rfl
  obtain ⟨hc2, ha2⟩ := cont_iff (l := b0 :: b1 :: b2 :: b3 :: r) (k := 2) (b := b2) rfl
  obtain ⟨hc3, ha3⟩ := cont_iff (l := b0 :: b1 :: b2 :: b3 :: r) (k := 3) (b := b3) rfl
  have hln : ¬ (4 = 0 ∨ (b0 :: b1 :: b2 :: b3 :: r).length < 4) := by simp
  have htk : (b1 :: b2 :: b3 :: r).take (4 - 1) = [b1, b2, b3] := rfl
  by_cases hb : 128 ≤ b1.toNat ∧ b1.toNat < 192
  ·by_cases hb2 : 128 ≤ b2.toNat ∧ b2.toNat < 192
   ·by_cases hb3 : 128 ≤ b3.toNat ∧ b3.toNat < 192
    ·have hrc : runeC ((b1 :: b2 :: b3 :: r).take (4 - 1)) (b0.toNat % 8) = some (((b0.toNat % 8 * 64 + b1.toNat % 64) * 64 + b2.toNat % 64) * 64 + b3.toNat % 64) := by rw [htk, runeC_ok hb, runeC_ok hb2, runeC_ok hb3]; rfl
     have hd : decL (b0 :: b1 :: b2 :: b3 :: r) = if (b0.toNat % 8 * 262144 + b1.toNat % 64 * 4096 + b2.toNat % 64 * 64 + b3.toNat % 64 ≥ 65536 && Utf8.valid (b0.toNat % 8 * 262144 + b1.toNat % 64 * 4096 + b2.toNat % 64 * 64 + b3.toNat % 64 : Nat)) = true then (b0.toNat % 8 * 262144 + b1.toNat % 64 * 4096 + b2.toNat % 64 * 64 + b3.toNat % 64, 4) else (65533, 1) := by
      unfold decL
      rw [if_neg (by omega), ha, ha1, ha2, ha3, e1, e2, e3, hc1, hc2, hc3, decide_eq_true hb, decide_eq_true hb2, decide_eq_true hb3]
      rfl
     rw [valid_nat] at hd
     by_cases hv : ((b0.toNat % 8 * 64 + b1.toNat % 64) * 64 + b2.toNat % 64) * 64 + b3.toNat % 64 < 65536 ∨ 1114111 < ((b0.toNat % 8 * 64 + b1.toNat % 64) * 64 + b2.toNat % 64) * 64 + b3.toNat % 64 ∨ (55296 ≤ ((b0.toNat % 8 * 64 + b1.toNat % 64) * 64 + b2.toNat % 64) * 64 + b3.toNat % 64 ∧ ((b0.toNat % 8 * 64 + b1.toNat % 64) * 64 + b2.toNat % 64) * 64 + b3.toNat % 64 ≤ 57343)
     ·refine .inl ⟨by rw [runeR_bad (by omega) hH hln hrc hv], ?_⟩
      rw [hd, if_neg]
      simp only [Bool.and_eq_true, decide_eq_true_eq]
      omega
     ·have hR := runeR_good (by omega) hH hln hrc hv
      refine .inr ?_
      rw [hR, hd, if_pos (by simp only [Bool.and_eq_true, decide_eq_true_eq]; omega)]
      refine ⟨by simp, by simp only [Prod.mk.injEq, and_true]; omega, ?_, by dsimp only; omega, by dsimp only; omega, by simp⟩
      unfold encL
      rw [if_neg (by dsimp only; omega), if_neg (by dsimp only; omega), if_neg (by dsimp only; omega)]
      simp only [List.take_succ_cons, List.take_zero, List.map_cons, List.map_nil, List.cons.injEq, and_true]
      omega
    ·exact .inl ⟨by rw [runeR_none (by omega) hH hln (by rw [htk, runeC_ok hb, runeC_ok hb2, runeC_bad hb3])], hf (by rw [hc3, decide_eq_false hb3, Bool.and_false])⟩
   ·exact .inl ⟨by rw [runeR_none (by omega) hH hln (by rw [htk, runeC_ok hb, runeC_bad hb2])], hf (by rw [hc2, decide_eq_false hb2, Bool.and_false]; rfl)⟩
  ·exact .inl ⟨by rw [runeR_none (by omega) hH hln (by rw [htk, runeC_bad hb])], hf (by rw [hc1, decide_eq_false hb]; rfl)⟩
theorem ok_all {l : Str} (h : l ≠ []) : okR l := by
 cases l with
 | nil => exact absurd rfl h
 | cons b0 r =>
  have hb := b0.toNat_lt
  rcases Nat.lt_or_ge b0.toNat 128 with h1 | h1
  ·exact ok_one h1
  ·rcases Nat.lt_or_ge b0.toNat 192 with h2 | h2
   ·exact ok_none h1 (.inl h2)
   ·rcases Nat.lt_or_ge b0.toNat 224 with h3 | h3
    ·exact ok_two h2 h3
    ·rcases Nat.lt_or_ge b0.toNat 240 with h4 | h4
     ·exact ok_three h3 h4
     ·rcases Nat.lt_or_ge b0.toNat 248 with h5 | h5
      ·exact ok_four h4 h5
      ·exact ok_none h1 (.inr h5)
end Go.Proofs.YtknndpjacklkeaaGreatDoor.V

set_option linter.unusedVariables false
set_option linter.unusedSimpArgs false
namespace Go.Proofs.YtknndpjacklkeaaGreatDoor.V
open Go
section
variable {P : Program} {ops : Array Oper} {Q : Exit → Act → World → Prop} {n' : Nat} {ds : List Deferred} {l : List (Nat × Value)} {w w' : World}
variable {rest : List Oper} {ty : TypeId} {pos : String} {af : Array Edge} {x y : Operand} {t : TypeId}
end
end Go.Proofs.YtknndpjacklkeaaGreatDoor.V

set_option linter.unusedVariables false
set_option linter.unusedSimpArgs false
namespace Go.Proofs.YtknndpjacklkeaaGreatDoor.V
open Go
section
variable {P : Program} {ops : Array Oper} {Q : Exit → Act → World → Prop} {n : Nat} {ds : List Deferred} {l : List (Nat × Value)} {M : List (Nat × (Value → World → Prop))} {w : World}
end
end Go.Proofs.YtknndpjacklkeaaGreatDoor.V

set_option linter.unusedVariables false
set_option linter.unusedSimpArgs false
namespace Go.Proofs.YtknndpjacklkeaaGreatDoor.V
open Go
abbrev b8c (c : UInt8) : List Value := [B8 c]
theorem cells_b8 (b : List UInt8) : (b.map b8c).flatten = b.map B8 := by
 induction b with
 | nil => rfl
 | cons c b ih => simp [ih]
theorem u8_eq {c d : UInt8} (h : (c.toNat : Int) = d.toNat) : c = d := UInt8.toNat_inj.1 (by omega)
theorem escQ1 {c : UInt8} (h : (c.toNat : Int) = 34 ∨ (c.toNat : Int) = 92) : escQ c = [92, c] := by
 unfold escQ
 rw [if_pos (h.imp (fun h => u8_eq h) (fun h => u8_eq h))]
theorem escQ2 {c : UInt8} (h : (c.toNat : Int) = 8) : escQ c = [92, 98] := by obtain rfl : c = 8 := u8_eq h; rfl
theorem escQ3 {c : UInt8} (h : (c.toNat : Int) = 9) : escQ c = [92, 116] := by obtain rfl : c = 9 := u8_eq h; rfl
theorem escQ4 {c : UInt8} (h : (c.toNat : Int) = 10) : escQ c = [92, 110] := by obtain rfl : c = 10 := u8_eq h; rfl
theorem escQ5 {c : UInt8} (h : (c.toNat : Int) = 12) : escQ c = [92, 102] := by obtain rfl : c = 12 := u8_eq h; rfl
theorem escQ6 {c : UInt8} (h : (c.toNat : Int) = 13) : escQ c = [92, 114] := by obtain rfl : c = 13 := u8_eq h; rfl
theorem u8_ne {c d : UInt8} (h : ¬ (c.toNat : Int) = d.toNat) : c ≠ d := fun e => h (by rw [e])
theorem escQ7 {c : UInt8} (h1 : ¬ (c.toNat : Int) = 34) (h2 : ¬ (c.toNat : Int) = 92) (h3 : ¬ (c.toNat : Int) = 8) (h4 : ¬ (c.toNat : Int) = 9) (h5 : ¬ (c.toNat : Int) = 10) (h6 : ¬ (c.toNat : Int) = 12) (h7 : ¬ (c.toNat : Int) = 13) :
  escQ c = if c.toNat < 32 then [92, 117, 48, 48, hexD.getD (c.toNat / 16) 0, hexD.getD (c.toNat % 16) 0] else [c] := by
 unfold escQ
 rw [if_neg (fun h => h.elim (u8_ne (d := 34) h1) (u8_ne (d := 92) h2)), if_neg (u8_ne (d := 8) h3), if_neg (u8_ne (d := 9) h4), if_neg (u8_ne (d := 10) h5), if_neg (u8_ne (d := 12) h6), if_neg (u8_ne (d := 13) h7)]
theorem hex_at {i : Nat} (h : i < 16) : hexD[i]? = some (hexD.getD i 0) := by
 have : ∀ j : Fin 16, hexD[j.val]? = some (hexD.getD j.val 0) := by decide
 exact this ⟨i, h⟩
def bts : Except Int Str → Str
 | .ok b => b
 | .error _ => []
def ern : Except Int Str → Int
 | .ok _ => 0
 | .error e => if e = 0 then 1 else e
theorem ern_no {r : Except Int Str} (h : ¬ ern r = 0) : ∃ e, r = .error e := by
 cases r with
 | ok b => exact absurd rfl h
 | error e => exact ⟨e, rfl⟩
theorem lng_bts (b : Str) : (lng b = .ok b ∧ b.length ≤ 65536) ∨ (lng b = .error 3 ∧ 65536 < b.length) := by
 unfold lng
 by_cases h : 65536 < b.length
 ·exact .inr ⟨if_pos h, h⟩
 ·exact .inl ⟨if_neg h, by omega⟩
theorem lng_len (b : Str) : (bts (lng b)).length ≤ 65536 := by
 rcases lng_bts b with ⟨h, h2⟩ | ⟨h, _⟩
 ·rw [h]; exact h2
 ·rw [h]; simp [bts]
end Go.Proofs.YtknndpjacklkeaaGreatDoor.V

set_option linter.unusedVariables false
set_option linter.unusedSimpArgs false
namespace Go.Proofs.YtknndpjacklkeaaGreatDoor.V
open Go
section
variable {w0 w wA w' : World} {u0 u u1 u2 res : Value} {b t : Str} {r : Except Int Str}
abbrev OwB (w : World) (u : Value) (b : Str) : Prop := Own w 5 1 u b.length ((b.map b8c).flatten)
def WR (w0 w : World) (u0 : Value) (r : Except Int Str) (res : Value) : Prop :=
 ∃ u, res = .tuple #[u, .int .i64 (ern r)] ∧ OwB w u (bts r) ∧ (∀ x ∈ ob u, x ∈ ob u0 ∨ w0.heap.size ≤ x) ∧ Mod (ob u0) w0 w ∧ (bts r).length ≤ 65536
theorem long_own (h : u2 = u1 ∧ bts (lng b) = b ∨ u2 = .slice none 0 0 ∧ bts (lng b) = []) (O : OwB w u1 b) : OwB w u2 (bts (lng b)) ∧ ∀ x ∈ ob u2, x ∈ ob u1 := by
 rcases h with ⟨rfl, h⟩ | ⟨rfl, h⟩
 ·rw [h]; exact ⟨O, fun x hx => hx⟩
 ·rw [h]; exact ⟨Own.nil w 5 1, by simp [ob]⟩
theorem WR.applong {n : Nat} {vs : List Value} (E : Mod [] w0 w) (AA : App w wA 5 1 u0 u1 n vs) (O1 : OwB wA u1 (b ++ t)) (h : u2 = u1 ∧ bts (lng (b ++ t)) = b ++ t ∨ u2 = .slice none 0 0 ∧ bts (lng (b ++ t)) = []) (E_ : Mod [] wA w') (hr : r = lng (b ++ t)) :
  WR w0 w' u0 r (.tuple #[u2, .int .i64 (ern (lng (b ++ t)))]) := by
 subst hr
 obtain ⟨h1, h2⟩ := long_own h (O1.mod0 E_)
 exact ⟨u2, rfl, h1, fun x hx => (AA.ob_ x (h2 x hx)).imp id (fun h => Nat.le_trans E.size h), ((E.mono (by simp)).trans AA.mod).trans (E_.mono (by simp)), lng_len _⟩
theorem WR.err {e : Int} (E : Mod [] w0 w) (he : e ≠ 0) (hr : r = .error e) : WR w0 w u0 r (.tuple #[.slice none 0 0, .int .i64 e]) := by
 subst hr
 exact ⟨_, by simp [ern, he], Own.nil w 5 1, by simp [ob], E.mono (by simp), by simp [bts]⟩
structure WS (w0 w : World) (u0 : Value) (g V : Nat) (cells : List Value) (v : JV) (al am : Option Addr) (cl cm : Nat) (u : Value) (b : Str) : Prop where
 own : OwB w u b
 len : b.length ≤ 65536
 hob : ∀ x ∈ ob u, x ∈ ob u0 ∨ w0.heap.size ≤ x
 mod : Mod (ob u0) w0 w
 blk : Blk w g V cells
 dis : ∀ x ∈ ob u, x ≠ g
 rl : Rep (ob u) w (.sl 6 (v.list.map JV.D)) (.slice al v.list.length cl)
 rm : Rep (ob u) w (.sl 7 (v.map.map JV.Dp)) (.slice am v.map.length cm)
variable {g V : Nat} {cells : List Value} {v : JV} {al am : Option Addr} {cl cm : Nat}
theorem WS.step (H : WS w0 w u0 g V cells v al am cl cm u b) {b' : Str} {u' : Value} (k : Mod (ob u) w w') (O : OwB w' u' b') (ho : ∀ x ∈ ob u', x ∈ ob u ∨ w.heap.size ≤ x) (hl : b'.length ≤ 65536) : WS w0 w' u0 g V cells v al am cl cm u' b' where
 own := O
 len := hl
 hob := fun x hx => (ho x hx).elim (H.hob x) (fun h => .inr (Nat.le_trans H.mod.size h))
 mod := H.mod.trans' k H.hob
 blk := H.blk.mod k (fun hx => H.dis _ hx rfl)
 dis := fun x hx => (ho x hx).elim (H.dis x) (fun h e => by have := H.blk.lt; omega)
 rl := Rep.to k (fun x hx => hx) ho _ _ H.rl
 rm := Rep.to k (fun x hx => hx) ho _ _ H.rm
theorem WS.mod0 (H : WS w0 w u0 g V cells v al am cl cm u b) (k : Mod [] w w') : WS w0 w' u0 g V cells v al am cl cm u b :=
 H.step (k.mono (by simp)) (H.own.mod0 k) (fun x hx => .inl hx) H.len
theorem WS.applong {n : Nat} {vs : List Value} (H : WS w0 w u0 g V cells v al am cl cm u b) (AA : App w wA 5 1 u u1 n vs) (O1 : OwB wA u1 (b ++ t)) (h : u2 = u1 ∧ bts (lng (b ++ t)) = b ++ t ∨ u2 = .slice none 0 0 ∧ bts (lng (b ++ t)) = []) (E_ : Mod [] wA w') :
  WS w0 w' u0 g V cells v al am cl cm u2 (bts (lng (b ++ t))) := by
 obtain ⟨h1, h2⟩ := long_own h (O1.mod0 E_)
 exact H.step (AA.mod.trans (E_.mono (by simp))) h1 (fun x hx => AA.ob_ x (h2 x hx)) (lng_len _)
theorem WS.wr (H : WS w0 w u0 g V cells v al am cl cm u b) (h : WR w w' u r res) : ∃ u', res = .tuple #[u', .int .i64 (ern r)] ∧ WS w0 w' u0 g V cells v al am cl cm u' (bts r) := by
 obtain ⟨u', h1, h2, h3, h4, h5⟩ := h
 exact ⟨u', h1, H.step h4 h2 h3 h5⟩
theorem WS.err (H : WS w0 w u0 g V cells v al am cl cm u b) (hr : ¬ ern r = 0) : WR w0 w u0 r (.tuple #[.slice none 0 0, .int .i64 (ern r)]) := by
 obtain ⟨e, rfl⟩ := ern_no hr
 exact ⟨_, rfl, Own.nil w 5 1, by simp [ob], H.mod, by simp [bts]⟩
theorem WS.fin {n : Nat} {vs : List Value} (H : WS w0 w u0 g V cells v al am cl cm u b) (AA : App w wA 5 1 u u1 n vs) (O1 : OwB wA u1 (b ++ t)) (h : u2 = u1 ∧ bts (lng (b ++ t)) = b ++ t ∨ u2 = .slice none 0 0 ∧ bts (lng (b ++ t)) = []) (E_ : Mod [] wA w') (hr : r = lng (b ++ t)) :
  WR w0 w' u0 r (.tuple #[u2, .int .i64 (ern (lng (b ++ t)))]) := by
 subst hr
 have H' := H.applong AA O1 h E_
 exact ⟨u2, rfl, H'.own, H'.hob, H'.mod, H'.len⟩
theorem WS.ok (H : WS w0 w u0 g V cells v al am cl cm u (bts (.ok b))) : WS w0 w u0 g V cells v al am cl cm u b := H
end
theorem WS.init {w0 w : World} {u0 : Value} {b : Str} {g V : Nat} {cells : List Value} {v : JV} {al am : Option Addr} {cl cm : Nat} (E : Mod [] w0 w) (O : OwB w0 u0 b) (hb : b.length ≤ 65536) (B : Blk w g V cells) (hg : w0.heap.size ≤ g)
  (Rl : Rep (ob u0) w0 (.sl 6 (v.list.map JV.D)) (.slice al v.list.length cl)) (Rm : Rep (ob u0) w0 (.sl 7 (v.map.map JV.Dp)) (.slice am v.map.length cm)) : WS w0 w u0 g V cells v al am cl cm u0 b where
 own := O.mod0 E
 len := hb
 hob := fun x hx => .inl hx
 mod := E.mono (by simp)
 blk := B
 dis := fun x hx e => by have := O.lt x hx; omega
 rl := Rl.to0 E
 rm := Rm.to0 E
theorem bare_num {v : JV} (h : v.bare = true) (h2 : v.kind = 2) : -9007199254740991 ≤ v.num ∧ v.num ≤ 9007199254740991 := by
 simp only [JV.bare, h2] at h
 simp at h
 omega
theorem okb {f : Str → Except Int Str} {b : Str} {W : Except Int Str} (h : (Except.ok b : Except Int Str).bind f = W) : f b = W := h
def prevK (m : List (Str × JV)) (k : Nat) : Option Str := if k = 0 then none else (m[k - 1]?).map (·.1)
theorem wrl_at {l : List JV} {k : Nat} {x : JV} {deep : Nat} {fst : Bool} {b : Str} (h : l[k]? = some x) : JV.wrl (l.drop k) deep fst b = (if fst then Except.ok b else lng (b ++ [44])).bind fun b => (JV.wr x (deep + 1) b).bind fun b => JV.wrl (l.drop (k + 1)) deep false b := by
 obtain ⟨hk, rfl⟩ := List.getElem?_eq_some_iff.1 h
 rw [List.drop_eq_getElem_cons hk, JV.wrl]
theorem wrl_end {l : List JV} {k deep : Nat} {fst : Bool} {b : Str} (h : l.length ≤ k) : JV.wrl (l.drop k) deep fst b = .ok b := by
 rw [List.drop_eq_nil_of_le h, JV.wrl]
theorem wrm_none (p : List UInt8 × JV) (r : List (List UInt8 × JV)) (deep : Nat) (b : Str) : JV.wrm (p :: r) deep none b = (txtW b p.1).bind fun b => (lng (b ++ [58])).bind fun b => (JV.wr p.2 (deep + 1) b).bind fun b => JV.wrm r deep (some p.1) b := by
 rw [JV.wrm.eq_def]
 rfl
theorem wrm_some (p : List UInt8 × JV) (q : Str) (r : List (List UInt8 × JV)) (deep : Nat) (b : Str) : JV.wrm (p :: r) deep (some q) b = ((lng (b ++ [44])).bind fun b => if bl q p.1 then .ok b else .error 1).bind fun b => (txtW b p.1).bind fun b => (lng (b ++ [58])).bind fun b => (JV.wr p.2 (deep + 1) b).bind fun b => JV.wrm r deep (some p.1) b := by
 rw [JV.wrm.eq_def]
theorem wrm_end {m : List (Str × JV)} {k deep : Nat} {p : Option Str} {b : Str} (h : m.length ≤ k) : JV.wrm (m.drop k) deep p b = .ok b := by
 rw [List.drop_eq_nil_of_le h, JV.wrm]
theorem prevK_succ {m : List (Str × JV)} {k : Nat} {p : Str × JV} (h : m[k]? = some p) : prevK m (k + 1) = some p.1 := by
 simp [prevK, h]
theorem wrm_at0 {m : List (Str × JV)} {p : Str × JV} {deep : Nat} {b : Str} (h : m[0]? = some p) : JV.wrm (m.drop 0) deep (prevK m 0) b = (txtW b p.1).bind fun b => (lng (b ++ [58])).bind fun b => (JV.wr p.2 (deep + 1) b).bind fun b => JV.wrm (m.drop (0 + 1)) deep (prevK m (0 + 1)) b := by
 rw [prevK_succ h]
 obtain ⟨hk, rfl⟩ := List.getElem?_eq_some_iff.1 h
 rw [List.drop_eq_getElem_cons hk]
 exact wrm_none _ _ _ _
theorem wrm_at {m : List (Str × JV)} {k : Nat} {p q : Str × JV} {deep : Nat} {b : Str} (h : m[k]? = some p) (hq : m[k - 1]? = some q) (h0 : 0 < k) : JV.wrm (m.drop k) deep (prevK m k) b = ((lng (b ++ [44])).bind fun b => if bl q.1 p.1 then .ok b else .error 1).bind fun b => (txtW b p.1).bind fun b => (lng (b ++ [58])).bind fun b => (JV.wr p.2 (deep + 1) b).bind fun b => JV.wrm (m.drop (k + 1)) deep (prevK m (k + 1)) b := by
 rw [prevK_succ h]
 have hp : prevK m k = some q.1 := by simp [prevK, hq]; omega
 obtain ⟨hk, rfl⟩ := List.getElem?_eq_some_iff.1 h
 rw [List.drop_eq_getElem_cons hk, hp]
 exact wrm_some _ _ _ _ _
theorem wrm_step0 {m : List (Str × JV)} {k deep : Nat} {x : Str × JV} {b1 : Str} {W : Except Int Str} (hx : m[k]? = some x) (h0 : k = 0) (hinv : ((Except.ok b1 : Except Int Str).bind fun b => JV.wrm (m.drop k) deep (prevK m k) b) = W) :
  ((txtW b1 x.1).bind fun b => (lng (b ++ [58])).bind fun b => (JV.wr x.2 (deep + 1) b).bind fun b => JV.wrm (m.drop (k + 1)) deep (prevK m (k + 1)) b) = W := by
 subst h0
 have h2 : JV.wrm (m.drop 0) deep (prevK m 0) b1 = W := hinv
 rwa [wrm_at0 hx] at h2
theorem wrm_step {m : List (Str × JV)} {k deep : Nat} {x q : Str × JV} {b1 : Str} {W : Except Int Str} (hx : m[k]? = some x) (hq : m[k - 1]? = some q) (h0 : 0 < k) (hinv : ((Except.ok b1 : Except Int Str).bind fun b => JV.wrm (m.drop k) deep (prevK m k) b) = W) :
  (((lng (b1 ++ [44])).bind fun b => if bl q.1 x.1 then .ok b else .error 1).bind fun b => (txtW b x.1).bind fun b => (lng (b ++ [58])).bind fun b => (JV.wr x.2 (deep + 1) b).bind fun b => JV.wrm (m.drop (k + 1)) deep (prevK m (k + 1)) b) = W := by
 have h2 : JV.wrm (m.drop k) deep (prevK m k) b1 = W := hinv
 rwa [wrm_at hx hq h0] at h2
end Go.Proofs.YtknndpjacklkeaaGreatDoor.V

set_option linter.unusedVariables false
set_option linter.unusedSimpArgs false
namespace Go.Proofs.YtknndpjacklkeaaGreatDoor.V
open Go
section
variable {P : Program} {ops : Array Oper} {Q : Exit → Act → World → Prop} {n : Nat} {ds : List Deferred} {l : List (Nat × Value)} {w w' : World} {a : Act}
variable {rest : List Oper} {d : Nat} {op : Op} {ty : TypeId} {pos : String} {af : Array Edge} {x y : Operand} {t : TypeId}
theorem scp {f : FuncId} {args : Array Value} {R : Ending → World → Prop} (hr : RunsC P l ⟨some d, op, ty, pos, af, none⟩ w f args) (hc : Calls P f args w R) (hd : Nat.blt d n = true) (ho : ∀ w', ¬ R .outgrown w')
  (hp : ∀ c w', R (.panicked c) w' → WE Q (.panic c) n ds l w') (h : ∀ v w', R (.returned v) w' → WL P ops Q rest n ds ((d, v) :: l) w') :
  WL P ops Q (⟨some d, op, ty, pos, af, none⟩ :: rest) n ds l w := by
 intro a ha
 refine wpList_plain rfl fun K hK => ?_
 have := hr a.eval (fun x u hx => ha.ev hx)
 simp only [Oper.wp, this, Oper.upon]
 refine hc.mono fun e w' he => ?_
 cases e with
 | returned v => exact hK _ _ (h v w' he _ (ha.put hd v))
 | panicked c => exact hp c w' he a ha
 | outgrown => exact absurd he (ho w')
theorem s_panic {T : TypeId} {v : Value} (hx : evO l x = some (.iface T v)) (h : WE Q (.panic [{ v := .iface T v, recovered := false }]) n ds l w) :
  WL P ops Q (⟨none, .panic x, ty, pos, af, none⟩ :: rest) n ds l w := by
 intro a ha
 refine wpList_plain rfl fun K hK => ?_
 simp only [Oper.wp, execOp, ha.ev hx, Sem.run_bind, run_panic_iface, Oper.upon]
 exact h a ha
variable {fn : Func} {R : Ending → World → Prop}
theorem endp {c : List PanicEntry} (h : R (.panicked c) w) : WE (bodyPost P fn R) (.panic c) n [] l w := fun a ha => ⟨ha.defers, h⟩
theorem end0R (hr : fn.results = #[]) (h : R (.returned (.tuple #[])) w) : WE (bodyPost P fn R) .normal n [] l w := fun a ha => ⟨ha.defers, _, results_none hr _ _ _, h⟩
/-! ### a range over a string -/
def It (w : World) (g : Nat) (s : Str) (p : Nat) : Prop := w.heap[g]? = some (.stringIter ⟨⟨s⟩⟩ p)
theorem It.lt {g : Nat} {s : Str} {p : Nat} (h : It w g s p) : g < w.heap.size := (Array.getElem?_eq_some_iff.1 h).1
theorem It.mod {M : List Nat} {g : Nat} {s : Str} {p : Nat} (h : It w g s p) (k : Mod M w w') (hg : g ∉ M) : It w' g s p := (k.block g h.lt hg).trans h
theorem It.mod0 {g : Nat} {s : Str} {p : Nat} (h : It w g s p) (k : Mod [] w w') : It w' g s p := h.mod k (by simp)
theorem s_range {u : Str} (ht : P.underlying t = some .string) (hx : evO l x = some (S u)) (hd : Nat.blt d n = true)
  (h : ∀ g w', It w' g u 0 → g = w.heap.size → Mod [] w w' → WL P ops Q rest n ds ((d, .pointer (some ⟨g, 0, none⟩)) :: l) w') :
  WL P ops Q (⟨some d, .range t x, ty, pos, af, none⟩ :: rest) n ds l w := by
 refine sv (v := .pointer (some ⟨w.heap.size, 0, none⟩)) (w' := w.iter ⟨⟨u⟩⟩ 0) (fun ρ hρ => ?_) hd (h _ _ (World.iter_heap _ _ _) rfl ⟨rfl, rfl, rfl, ?_, fun i hi _ => ?_⟩)
 ·simp [execOp, hρ _ _ hx, run_range_string _ _ _ ht]
 ·show w.heap.size ≤ (w.heap.push _).size
  simp
 ·show (w.heap.push _)[i]? = _
  rw [Array.getElem?_push_lt hi, Array.getElem?_eq_getElem hi]
theorem s_next_end {g p : Nat} {u : Str} (hx : evO l x = some (.pointer (some ⟨g, 0, none⟩))) (I : It w g u p) (hp : ¬ p < u.length) (hd : Nat.blt d n = true)
  (h : WL P ops Q rest n ds ((d, .tuple #[.bool false]) :: l) w) : WL P ops Q (⟨some d, .next x true, ty, pos, af, none⟩ :: rest) n ds l w := by
 refine sv (v := .tuple #[.bool false]) (w' := w) (fun ρ hρ => ?_) hd h
 have hs : (⟨⟨u⟩⟩ : ByteArray).size = u.length := rfl
 unfold It at I
 simp [execOp, hρ _ _ hx, Instr.next, getObj, Sem.run, I, Result.andThen, hs, hp]
theorem s_next {g p c m : Nat} {u : Str} (hx : evO l x = some (.pointer (some ⟨g, 0, none⟩))) (I : It w g u p) (hp : p < u.length) (hdec : Utf8.decode ⟨⟨u⟩⟩ p = (c, m)) (hd : Nat.blt d n = true)
  (h : ∀ w', It w' g u (p + m) → Mod [g] w w' → w'.heap.size = w.heap.size → WL P ops Q rest n ds ((d, .tuple #[.bool true, .int .i64 (p : Int), .int .i32 (c : Int)]) :: l) w') :
  WL P ops Q (⟨some d, .next x true, ty, pos, af, none⟩ :: rest) n ds l w := by
 have hs : (⟨⟨u⟩⟩ : ByteArray).size = u.length := rfl
 have hlt := I.lt
 refine sv (v := .tuple #[.bool true, .int .i64 (p : Int), .int .i32 (c : Int)]) (w' := { w with heap := w.heap.setIfInBounds g (.stringIter ⟨⟨u⟩⟩ (p + m)) }) (fun ρ hρ => ?_) hd (h _ ?_ ⟨rfl, rfl, rfl, by simp, fun i hi hM => ?_⟩ (by simp))
 ·unfold It at I
  simp [execOp, hρ _ _ hx, Instr.next, getObj, setObj, Sem.run, I, Result.andThen, hs, hp, hdec, goInt]
 ·show (w.heap.setIfInBounds g _)[g]? = _
  simp [hlt]
 ·show (w.heap.setIfInBounds g _)[i]? = _
  have : g ≠ i := fun e => hM (by simp [e])
  simp [Array.getElem?_setIfInBounds_ne this]
theorem App.neI {e sz c g p : Nat} {s : Str} {v v' : Value} {vs : List Value} (h : App w w' e sz v v' c vs) (D : ∀ x ∈ ob v, x ≠ g) (B : It w g s p) : ∀ x ∈ ob v', x ≠ g := fun x hx => by
 rcases h.ob_ x hx with h1 | h1
 ·exact D x h1
 ·have := B.lt; omega
end
end Go.Proofs.YtknndpjacklkeaaGreatDoor.V
