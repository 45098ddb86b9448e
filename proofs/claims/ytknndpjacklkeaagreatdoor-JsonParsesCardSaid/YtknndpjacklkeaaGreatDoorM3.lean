/-
  A part of the proof: JSON values in memory: their cells, the rows of their lists and maps; how much a JSON value weighs, whether its keys rise, whether two are the same, in plain Lean; members put into a map: rows of seven cells; runes, texts between quotes, canonical texts of JSON values, as the document tells them, in plain Lean; runes, step by step; the model's reading of a rune, and the document's: the same; the rest of a slice of the call's own is cleared; a drawn region's end with two slots of which something is known; a text between quotes, byte by byte; errors' numbers; bytes that grow behind one another while a JSON value is read: what is kept from step to step; panics that go through a call; a range over a string; bits of bytes; the letter behind a backslash; a text between quotes, rune by rune; the operations that make the bytes of a rune; a text between quotes, rune by rune: what each round adds; a writer in memory: what its functions leave, whether they return or panic; the writing of lists and maps, step by step. No condition of its own.
-/
import Derived.Test.YtknndpjacklkeaaGreatDoorM2
import Derived.Lib.ItoaLen
import Derived.Laws.RangeString
import Derived.WalkSmall
import Derived.Recover
set_option linter.unusedVariables false
set_option linter.unusedSimpArgs false
namespace Go.Proofs.YtknndpjacklkeaaGreatDoor.V
open Go
section
variable {A : List Nat} {w w' : World}
theorem Addr.add_add' (a : Addr) (i j : Nat) : (a.add i).add j = a.add (i + j) := by
 unfold Addr.add
 by_cases h : i = 0 <;> by_cases h' : j = 0 <;> simp [h, h', Nat.add_assoc]
theorem Cs.tail_ {a : Addr} {v : Value} {vs : List Value} (h : Cs w a (v :: vs)) : Cs w (a.add 1) vs := fun j u hu => by
 have := h (j + 1) u (by simpa using hu)
 rwa [Addr.add_add', Nat.add_comm 1 j]
theorem JV.cells_ {v : JV} {us : List Value} (R : Reps A w v.D us) : ∃ al cl am cm, us = [.int .i64 v.kind, .bool v.is, .int .i64 v.num, S v.str, .slice al v.list.length cl, .slice am v.map.length cm] ∧
  Rep A w (.sl 6 (v.list.map JV.D)) (.slice al v.list.length cl) ∧ Rep A w (.sl 7 (v.map.map JV.Dp)) (.slice am v.map.length cm) := by
 rw [JV.D_eq] at R
 obtain ⟨_, _, rfl, h1, R⟩ := R
 obtain ⟨_, _, rfl, h2, R⟩ := R
 obtain ⟨_, _, rfl, h3, R⟩ := R
 obtain ⟨_, _, rfl, h4, R⟩ := R
 obtain ⟨_, _, rfl, h5, R⟩ := R
 obtain ⟨_, _, rfl, h6, R⟩ := R
 obtain rfl := R
 obtain rfl := h1.v_eq
 obtain rfl := h2.v_eq
 obtain rfl := h3.v_eq
 obtain rfl := h4.v_eq
 obtain ⟨al, cl, rfl, _⟩ := h5.sl_
 obtain ⟨am, cm, rfl, _⟩ := h6.sl_
 rw [List.length_map] at h5 h6 ⊢
 rw [List.length_map]
 exact ⟨al, cl, am, cm, rfl, h5, h6⟩
theorem JV.reps_ {v : JV} {al am : Option Addr} {cl cm : Nat} (Rl : Rep A w (.sl 6 (v.list.map JV.D)) (.slice al v.list.length cl)) (Rm : Rep A w (.sl 7 (v.map.map JV.Dp)) (.slice am v.map.length cm)) :
  Reps A w v.D [.int .i64 v.kind, .bool v.is, .int .i64 v.num, S v.str, .slice al v.list.length cl, .slice am v.map.length cm] := by
 rw [JV.D_eq]
 exact Reps.cons_ (Rep.v_ rfl) (Reps.cons_ (Rep.v_ rfl) (Reps.cons_ (Rep.v_ rfl) (Reps.cons_ (Rep.v_ rfl) (Reps.cons_ Rl (Reps.cons_ Rm Reps.nil_)))))
theorem JV.cap_l {l : List JV} {ad : Option Addr} {n c : Nat} (R : Rep A w (.sl 6 (l.map JV.D)) (.slice ad n c)) : l.length = n ∧ n ≤ c ∧ c ≤ 9223372036854775807 := by
 obtain ⟨ad', c', h1, h2, h3⟩ := R.sl_
 injection h1 with h4 h5 h6
 rw [List.length_map] at h5 h2
 omega
theorem JV.cap_m {m : List (Str × JV)} {ad : Option Addr} {n c : Nat} (R : Rep A w (.sl 7 (m.map JV.Dp)) (.slice ad n c)) : m.length = n ∧ n ≤ c ∧ c ≤ 9223372036854775807 := by
 obtain ⟨ad', c', h1, h2, h3⟩ := R.sl_
 injection h1 with h4 h5 h6
 rw [List.length_map] at h5 h2
 omega
theorem JV.at_l {l : List JV} {x : JV} {ad : Option Addr} {n c i : Nat} (R : Rep A w (.sl 6 (l.map JV.D)) (.slice ad n c)) (h : l[i]? = some x) : ∃ a us, ad = some a ∧ Reps A w x.D us ∧ Cs w (a.add (i * 6)) us := by
 obtain ⟨a, us, h1, h2, _, h3, _⟩ := Rep.at_ (i := i) (r := x.D) R (by simp [h])
 exact ⟨a, us, h1, h2, h3⟩
theorem JV.at_m {m : List (Str × JV)} {p : Str × JV} {ad : Option Addr} {n c i : Nat} (R : Rep A w (.sl 7 (m.map JV.Dp)) (.slice ad n c)) (h : m[i]? = some p) : ∃ a us, ad = some a ∧ Reps A w p.2.D us ∧ Cs w (a.add (i * 7)) (S p.1 :: us) := by
 obtain ⟨a, us, h1, h2, _, h3, _⟩ := Rep.at_ (i := i) (r := JV.Dp p) R (by simp [h])
 obtain ⟨u, us', rfl, h4, h5⟩ := h2
 obtain rfl := h4.v_eq
 exact ⟨a, us', h1, h5, h3⟩
def JV.nul : JV := .mk 0 false 0 [] [] []
theorem JV.nul_reps : Reps A w JV.nul.D [.int .i64 0, .bool false, .int .i64 0, S [], .slice none 0 0, .slice none 0 0] := by
 have := JV.reps_ (A := A) (w := w) (v := JV.nul) (al := none) (am := none) (cl := 0) (cm := 0) Rep.sl_nil Rep.sl_nil
 exact this
theorem JV.cells_one {v : JV} {us : List Value} (R : Reps A w v.D us) : us.length = 6 ∧ ∀ u ∈ us, u.oneCell' = true := ⟨by rw [R.length, JV.D_len], R.one⟩
theorem JV.Dp_all (m : List (Str × JV)) : ∀ r ∈ m.map JV.Dp, r.length = 7 := by
 intro r hr
 obtain ⟨p, _, rfl⟩ := List.mem_map.1 hr
 exact JV.Dp_len p
theorem JV.Dp_reps {p : Str × JV} {us : List Value} (R : Reps A w p.2.D us) : Reps A w (JV.Dp p) (S p.1 :: us) := Reps.cons_ (Rep.v_ rfl) R
theorem JV.rows_snoc {m : List (Str × JV)} {p : Str × JV} {vs us : List Value} (h : Reps A w (m.map JV.Dp).flatten vs) (hp : Reps A w (JV.Dp p) us) : Reps A w ((m ++ [p]).map JV.Dp).flatten (vs ++ us) := by
 rw [List.map_append, List.flatten_append]
 refine h.append ?_
 simpa using hp
theorem Own.mem_ {e : Nat} {v : Value} {m : List (Str × JV)} {n : Nat} {vs : List Value} (O : Own w e 7 v n vs) (h : Reps A w (m.map JV.Dp).flatten vs) (hn : m.length = n) (hA : ∀ x ∈ ob v, x ∉ A) : Rep A w (.sl 7 (m.map JV.Dp)) v :=
 O.rep h (JV.Dp_all m) (by simpa using hn) hA
variable {P : Program} {ops : Array Oper} {Q : Exit → Act → World → Prop} {n : Nat} {ds : List Deferred} {l : List (Nat × Value)}
variable {rest : List Oper} {ty : TypeId} {pos : String} {af : Array Edge} {x y : Operand}
end
end Go.Proofs.YtknndpjacklkeaaGreatDoor.V

set_option linter.unusedVariables false
set_option linter.unusedSimpArgs false
namespace Go.Proofs.YtknndpjacklkeaaGreatDoor.V
open Go
abbrev w64 (z : Int) : Int := IntKind.i64.wrap z
namespace JV
mutual
def weigh : JV → Int → Int → Int
 | .mk _ _ _ s l m, left, deep => if deep = 0 then -1 else weighm m (weighl l (w64 (w64 (left - 1) - s.length)) (w64 (deep - 1))) (w64 (deep - 1))
def weighl : List JV → Int → Int → Int
 | [], left, _ => left
 | v :: r, left, d => if left < 0 then left else weighl r (v.weigh left d) d
def weighm : List (List UInt8 × JV) → Int → Int → Int
 | [], left, _ => left
 | p :: r, left, d => if left < 0 then left else weighm r (p.2.weigh (w64 (left - p.1.length)) d) d
end
mutual
def Rise : JV → Prop
 | .mk _ _ _ _ l m => ascM m ∧ Risel l ∧ Risem m
def Risel : List JV → Prop
 | [] => True
 | v :: r => v.Rise ∧ Risel r
def Risem : List (List UInt8 × JV) → Prop
 | [] => True
 | p :: r => p.2.Rise ∧ Risem r
end
open Classical in
noncomputable def rises (v : JV) : Bool := decide v.Rise
open Classical in
noncomputable def eqJ (a b : JV) : Bool := decide (a = b)
theorem eqJ_iff {a b : JV} : eqJ a b = true ↔ a = b := by simp [eqJ]
theorem eqJ_self (a : JV) : eqJ a a = true := by simp [eqJ]
theorem eqJ_ne {a b : JV} (h : a ≠ b) : eqJ a b = false := by simp [eqJ, h]
theorem ext_ {a b : JV} (h1 : a.kind = b.kind) (h2 : a.is = b.is) (h3 : a.num = b.num) (h4 : a.str = b.str) (h5 : a.list = b.list) (h6 : a.map = b.map) : a = b := by
 rw [eta a, eta b, h1, h2, h3, h4, h5, h6]
theorem list_ext_ {α : Type} {a b : List α} (hl : a.length = b.length) (h : ∀ (i : Nat) (x y : α), i < a.length → a[i]? = some x → b[i]? = some y → x = y) : a = b := by
 apply List.ext_getElem hl
 intro i h1 h2
 exact h i _ _ h1 (List.getElem?_eq_getElem h1) (List.getElem?_eq_getElem h2)
end JV
end Go.Proofs.YtknndpjacklkeaaGreatDoor.V

set_option linter.unusedVariables false
set_option linter.unusedSimpArgs false
namespace Go.Proofs.YtknndpjacklkeaaGreatDoor.V
open Go
namespace JV
def get (v : JV) (k : Str) : Option JV := if v.kind = 5 then look v.map k else none
def tbl (v : JV) : List (Str × JV) := if v.kind = 5 then v.map else []
def obj (m : List (Str × JV)) : JV := .mk 5 false 0 [] [] m
theorem obj_reps {A : List Nat} {w : World} {m : List (Str × JV)} {am : Option Addr} {cm : Nat} (R : Rep A w (.sl 7 (m.map Dp)) (.slice am m.length cm)) : Reps A w (obj m).D [.int .i64 5, .bool false, .int .i64 0, S [], .slice none 0 0, .slice am m.length cm] :=
 reps_ (v := obj m) (al := none) (cl := 0) Rep.sl_nil R
end JV
end Go.Proofs.YtknndpjacklkeaaGreatDoor.V

set_option linter.unusedVariables false
set_option linter.unusedSimpArgs false
namespace Go.Proofs.YtknndpjacklkeaaGreatDoor.V
open Go
def runeC : List UInt8 → Nat → Option Nat
 | [], c => some c
 | b :: r, c => if b.toNat < 128 ∨ 192 ≤ b.toNat then none else runeC r (c * 64 + b.toNat % 64)
def runeH (c : Nat) : Nat × Nat × Nat :=
 if 192 ≤ c ∧ c < 224 then (2, 128, c % 32) else if 224 ≤ c ∧ c < 240 then (3, 2048, c % 16) else if 240 ≤ c ∧ c < 248 then (4, 65536, c % 8) else (0, 0, c)
def runeR (s : Str) : Nat × Nat := match s with
 | [] => (0, 0)
 | b :: r => if b.toNat < 128 then (b.toNat, 1) else
  if (runeH b.toNat).1 = 0 ∨ s.length < (runeH b.toNat).1 then (0, 0) else
   match runeC (r.take ((runeH b.toNat).1 - 1)) (runeH b.toNat).2.2 with
   | none => (0, 0)
   | some c => if c < (runeH b.toNat).2.1 ∨ 1114111 < c ∨ (55296 ≤ c ∧ c ≤ 57343) then (0, 0) else (c, (runeH b.toNat).1)
theorem runeR_le (s : Str) : (runeR s).2 ≤ s.length := by
 unfold runeR
 split
 ·simp
 ·rename_i b r
  split
  ·simp
  ·split
   ·simp
   ·rename_i h
    split
    ·simp
    ·split
     ·simp
     ·simp only
      omega
def validR (s : Str) : Bool :=
 if h : s = [] then true else if h0 : (runeR s).2 = 0 then false else validR (s.drop (runeR s).2)
termination_by s.length
decreasing_by
 have := runeR_le s
 rw [List.length_drop]
 have : s.length ≠ 0 := fun e => h (List.eq_nil_of_length_eq_zero e)
 omega
theorem validR_no {s : Str} (h : s ≠ []) (h0 : (runeR s).2 = 0) : validR s = false := by rw [validR]; simp [h, h0]
theorem validR_go {s : Str} (h : s ≠ []) (h0 : (runeR s).2 ≠ 0) : validR s = validR (s.drop (runeR s).2) := by
 rw [validR]
 simp [h, h0]
abbrev hexD : Str := [48, 49, 50, 51, 52, 53, 54, 55, 56, 57, 97, 98, 99, 100, 101, 102]
def escQ (c : UInt8) : Str :=
 if c = 34 ∨ c = 92 then [92, c] else if c = 8 then [92, 98] else if c = 9 then [92, 116] else if c = 10 then [92, 110] else if c = 12 then [92, 102] else if c = 13 then [92, 114]
 else if c.toNat < 32 then [92, 117, 48, 48, hexD.getD (c.toNat / 16) 0, hexD.getD (c.toNat % 16) 0] else [c]
def escs (s : Str) : Str := (s.map escQ).flatten
def putQ (s : Str) : Str := 34 :: escs s ++ [34]
def lng (b : Str) : Except Int Str := if 65536 < b.length then .error 3 else .ok b
def txtW (b s : Str) : Except Int Str := if 65536 < s.length then .error 3 else if validR s then lng (b ++ putQ s) else .error 1
theorem lng_ok {b b' : Str} (h : lng b = .ok b') : b' = b ∧ b.length ≤ 65536 := by
 unfold lng at h
 split at h
 ·cases h
 ·injection h with h; exact ⟨h.symm, by omega⟩
namespace JV
def bare (v : JV) : Bool := decide (0 ≤ v.kind ∧ v.kind ≤ 5) && (decide (v.kind = 1) || !v.is) && (decide (v.kind = 2) || decide (v.num = 0)) && (decide (v.kind = 3) || decide (v.str = [])) && (decide (v.kind = 4) || decide (v.list.length = 0)) && (decide (v.kind = 5) || decide (v.map.length = 0)) && (!decide (v.kind = 2) || decide (-9007199254740991 ≤ v.num ∧ v.num ≤ 9007199254740991))
abbrev tNull : Str := [110, 117, 108, 108]
abbrev tTrue : Str := [116, 114, 117, 101]
abbrev tFalse : Str := [102, 97, 108, 115, 101]
mutual
def wr : JV → Nat → Str → Except Int Str
 | .mk k is n s l m, deep, b =>
  if bare (.mk k is n s l m) = false then .error 1 else
  if k = 0 then lng (b ++ tNull) else
  if k = 1 then lng (b ++ if is then tTrue else tFalse) else
  if k = 2 then lng (b ++ Lib.itoa n) else
  if k = 3 then txtW b s else
  if deep = 32 then .error 5 else
  if k = 4 then (lng (b ++ [91])).bind fun b => (wrl l deep true b).bind fun b => lng (b ++ [93])
  else (lng (b ++ [123])).bind fun b => (wrm m deep none b).bind fun b => lng (b ++ [125])
def wrl : List JV → Nat → Bool → Str → Except Int Str
 | [], _, _, b => .ok b
 | v :: r, deep, fst, b => (if fst then Except.ok b else lng (b ++ [44])).bind fun b => (wr v (deep + 1) b).bind fun b => wrl r deep false b
def wrm : List (List UInt8 × JV) → Nat → Option Str → Str → Except Int Str
 | [], _, _, b => .ok b
 | p :: r, deep, prev, b => (match prev with
   | none => Except.ok b
   | some q => (lng (b ++ [44])).bind fun b => if bl q p.1 then .ok b else .error 1).bind fun b =>
  (txtW b p.1).bind fun b => (lng (b ++ [58])).bind fun b => (wr p.2 (deep + 1) b).bind fun b => wrm r deep (some p.1) b
end
theorem wr_eq (v : JV) (deep : Nat) (b : Str) : wr v deep b = 
  if bare v = false then .error 1 else
  if v.kind = 0 then lng (b ++ tNull) else
  if v.kind = 1 then lng (b ++ if v.is then tTrue else tFalse) else
  if v.kind = 2 then lng (b ++ Lib.itoa v.num) else
  if v.kind = 3 then txtW b v.str else
  if deep = 32 then .error 5 else
  if v.kind = 4 then (lng (b ++ [91])).bind fun b => (wrl v.list deep true b).bind fun b => lng (b ++ [93])
  else (lng (b ++ [123])).bind fun b => (wrm v.map deep none b).bind fun b => lng (b ++ [125]) := by
 cases v
 rw [wr]
 rfl
end JV
end Go.Proofs.YtknndpjacklkeaaGreatDoor.V

set_option linter.unusedVariables false
set_option linter.unusedSimpArgs false
namespace Go.Proofs.YtknndpjacklkeaaGreatDoor.V
open Go
section
variable {P : Program} {l : List (Nat × Value)} {w : World} {ty : TypeId} {pos : String} {af : Array Edge} {dd : Option Nat} {gg : Option (Nat × Bool)} {x y lo : Operand} {t : TypeId}
theorem o_ssfrom {u : List UInt8} {n : Nat} (ht : P.underlying t = some .string) (hx : evO l x = some (S u)) (hl : evO l lo = some (.int .i64 (n : Int))) (hb : n ≤ u.length) : Runs P l ⟨dd, .slice t x (some lo) none none, ty, pos, af, gg⟩ w (S (u.drop n)) w :=
 (o_ssl (pl := some (.i64, (n : Int))) (ph := none) ht hx (by simp [evS, hl]) rfl (by simp only [loV, hiV]; omega)).to (by
  simp only [loV, hiV, Int.toNat_natCast]
  rw [List.take_of_length_le (by simp)])
end
theorem runeC_no {l : List UInt8} {j d : Nat} {b : UInt8} (h : l[j]? = some b) (hb : b.toNat < 128 ∨ 192 ≤ b.toNat) : runeC (l.drop j) d = none := by
 obtain ⟨hj, rfl⟩ := List.getElem?_eq_some_iff.1 h
 rw [List.drop_eq_getElem_cons hj, runeC, if_pos hb]
theorem runeC_go {l : List UInt8} {j d : Nat} {b : UInt8} (h : l[j]? = some b) (hb : ¬ (b.toNat < 128 ∨ 192 ≤ b.toNat)) : runeC (l.drop j) d = runeC (l.drop (j + 1)) (d * 64 + b.toNat % 64) := by
 obtain ⟨hj, rfl⟩ := List.getElem?_eq_some_iff.1 h
 rw [List.drop_eq_getElem_cons hj, runeC, if_neg hb]
theorem runeR_small {b0 : UInt8} {r : Str} (h : b0.toNat < 128) : runeR (b0 :: r) = (b0.toNat, 1) := by simp [runeR, h]
theorem runeR_short {b0 : UInt8} {r : Str} {n l c : Nat} (hge : ¬ b0.toNat < 128) (hH : runeH b0.toNat = (n, l, c)) (h : n = 0 ∨ (b0 :: r).length < n) : runeR (b0 :: r) = (0, 0) := by
 unfold runeR
 simp only [if_neg hge, hH]
 rw [if_pos h]
theorem runeR_at {b0 : UInt8} {r : Str} {n l c : Nat} (hge : ¬ b0.toNat < 128) (hH : runeH b0.toNat = (n, l, c)) (h : ¬ (n = 0 ∨ (b0 :: r).length < n)) :
  runeR (b0 :: r) = match runeC (r.take (n - 1)) c with | none => (0, 0) | some c => if c < l ∨ 1114111 < c ∨ (55296 ≤ c ∧ c ≤ 57343) then (0, 0) else (c, n) := by
 show (if b0.toNat < 128 then (b0.toNat, 1) else if (runeH b0.toNat).1 = 0 ∨ (b0 :: r).length < (runeH b0.toNat).1 then (0, 0) else _) = _
 rw [if_neg hge, hH, if_neg h] <;> rfl
theorem runeR_none {b0 : UInt8} {r : Str} {n l c : Nat} (hge : ¬ b0.toNat < 128) (hH : runeH b0.toNat = (n, l, c)) (h : ¬ (n = 0 ∨ (b0 :: r).length < n)) (hc : runeC (r.take (n - 1)) c = none) : runeR (b0 :: r) = (0, 0) := by rw [runeR_at hge hH h, hc]
theorem runeR_bad {b0 : UInt8} {r : Str} {n l c d : Nat} (hge : ¬ b0.toNat < 128) (hH : runeH b0.toNat = (n, l, c)) (h : ¬ (n = 0 ∨ (b0 :: r).length < n)) (hc : runeC (r.take (n - 1)) c = some d) (hb : d < l ∨ 1114111 < d ∨ (55296 ≤ d ∧ d ≤ 57343)) : runeR (b0 :: r) = (0, 0) := by
 rw [runeR_at hge hH h, hc]
 exact if_pos hb
theorem runeR_good {b0 : UInt8} {r : Str} {n l c d : Nat} (hge : ¬ b0.toNat < 128) (hH : runeH b0.toNat = (n, l, c)) (h : ¬ (n = 0 ∨ (b0 :: r).length < n)) (hc : runeC (r.take (n - 1)) c = some d) (hb : ¬ (d < l ∨ 1114111 < d ∨ (55296 ≤ d ∧ d ≤ 57343))) : runeR (b0 :: r) = (d, n) := by
 rw [runeR_at hge hH h, hc]
 exact if_neg hb
end Go.Proofs.YtknndpjacklkeaaGreatDoor.V

set_option linter.unusedVariables false
set_option linter.unusedSimpArgs false
namespace Go.Proofs.YtknndpjacklkeaaGreatDoor.V
open Go
def atL (l : Str) (k : Nat) : Nat := (l.getD k 0).toNat
def contL (l : Str) (k : Nat) : Bool := decide (k < l.length) && atL l k / 64 == 2
def decL (l : Str) : Nat × Nat :=
 if atL l 0 < 0x80 then (atL l 0, 1)
 else if atL l 0 / 32 == 6 && contL l 1 then
  if (atL l 0 % 32) * 64 + atL l 1 % 64 ≥ 0x80 then ((atL l 0 % 32) * 64 + atL l 1 % 64, 2) else (65533, 1)
 else if atL l 0 / 16 == 14 && contL l 1 && contL l 2 then
  if (atL l 0 % 16) * 4096 + (atL l 1 % 64) * 64 + atL l 2 % 64 ≥ 0x800 && Utf8.valid ((atL l 0 % 16) * 4096 + (atL l 1 % 64) * 64 + atL l 2 % 64 : Nat) then ((atL l 0 % 16) * 4096 + (atL l 1 % 64) * 64 + atL l 2 % 64, 3) else (65533, 1)
 else if atL l 0 / 8 == 30 && contL l 1 && contL l 2 && contL l 3 then
  if (atL l 0 % 8) * 262144 + (atL l 1 % 64) * 4096 + (atL l 2 % 64) * 64 + atL l 3 % 64 ≥ 0x10000 && Utf8.valid ((atL l 0 % 8) * 262144 + (atL l 1 % 64) * 4096 + (atL l 2 % 64) * 64 + atL l 3 % 64 : Nat) then ((atL l 0 % 8) * 262144 + (atL l 1 % 64) * 4096 + (atL l 2 % 64) * 64 + atL l 3 % 64, 4) else (65533, 1)
 else (65533, 1)
theorem get_at (s : Str) (i k : Nat) : ((⟨⟨s⟩⟩ : ByteArray).get! (i + k)).toNat = atL (s.drop i) k := by
 show ((⟨s⟩ : Array UInt8)[i + k]!).toNat = _
 unfold atL
 congr 1
 rw [List.getD_eq_getElem?_getD, List.getElem?_drop]
 by_cases h : i + k < s.length
 ·rw [getElem!_pos (⟨s⟩ : Array UInt8) (i + k) h]
  simp [h]
 ·rw [getElem!_neg (⟨s⟩ : Array UInt8) (i + k) h, List.getElem?_eq_none (by omega)]
  rfl
theorem cont_at (s : Str) (i k : Nat) : (decide (i + k < (⟨⟨s⟩⟩ : ByteArray).size) && atL (s.drop i) k / 64 == 2) = contL (s.drop i) k := by
 unfold contL
 have hs : (⟨⟨s⟩⟩ : ByteArray).size = s.length := rfl
 rw [hs, List.length_drop]
 congr 1
 by_cases h : i + k < s.length
 ·rw [decide_eq_true h, decide_eq_true (by omega)]
 ·rw [decide_eq_false h, decide_eq_false (by omega)]
theorem decode_eq (s : Str) (i : Nat) : Utf8.decode ⟨⟨s⟩⟩ i = decL (s.drop i) := by
 unfold Utf8.decode
 simp only [get_at, cont_at, Utf8.runeError]
 rfl
theorem valid_nat (c : Nat) : Utf8.valid (c : Int) = decide (c < 55296 ∨ (57344 ≤ c ∧ c ≤ 1114111)) := by
 unfold Utf8.valid
 rw [Bool.eq_iff_iff]
 simp only [Bool.or_eq_true, Bool.and_eq_true, decide_eq_true_eq]
 omega
def encL (c : Nat) : List Nat :=
 if c < 128 then [c] else if c < 2048 then [192 + c / 64, 128 + c % 64] else if c < 65536 then [224 + c / 4096, 128 + c / 64 % 64, 128 + c % 64] else [240 + c / 262144, 128 + c / 4096 % 64, 128 + c / 64 % 64, 128 + c % 64]
def okR (l : Str) : Prop := ((runeR l).2 = 0 ∧ decL l = (65533, 1)) ∨ ((runeR l).2 ≠ 0 ∧ decL l = runeR l ∧ (l.take (runeR l).2).map UInt8.toNat = encL (runeR l).1 ∧ (runeR l).1 ≤ 1114111 ∧ ¬ (55296 ≤ (runeR l).1 ∧ (runeR l).1 ≤ 57343) ∧ (runeR l).2 ≤ 4)
theorem dec_fail {l : Str} (h0 : ¬ atL l 0 < 128) (h1 : (atL l 0 / 32 == 6 && contL l 1) = false) (h2 : (atL l 0 / 16 == 14 && contL l 1 && contL l 2) = false) (h3 : (atL l 0 / 8 == 30 && contL l 1 && contL l 2 && contL l 3) = false) : decL l = (65533, 1) := by
 unfold decL
 rw [if_neg h0, h1, h2, h3]
 rfl
theorem beq_no {a b : Nat} (h : a ≠ b) : (a == b) = false := by simp [h]
theorem ok_one {b0 : UInt8} {r : Str} (h : b0.toNat < 128) : okR (b0 :: r) := by
 refine .inr ?_
 have hd : decL (b0 :: r) = (b0.toNat, 1) := by unfold decL; rw [if_pos (by simpa [atL] using h)]; rfl
 rw [runeR_small h, hd]
 refine ⟨by simp, rfl, by simp [encL, h], by dsimp only; omega, by dsimp only; omega, by simp⟩
theorem ok_none {b0 : UInt8} {r : Str} (h : 128 ≤ b0.toNat) (h' : b0.toNat < 192 ∨ 248 ≤ b0.toNat) : okR (b0 :: r) := by
 have hb := b0.toNat_lt
 have ha : atL (b0 :: r) 0 = b0.toNat := rfl
 have hH : runeH b0.toNat = (0, 0, b0.toNat) := by unfold runeH; rw [if_neg (by omega), if_neg (by omega), if_neg (by omega)]
 refine .inl ⟨by rw [runeR_short (by omega) hH (.inl rfl)], dec_fail (by omega) ?_ ?_ ?_⟩
 ·rw [ha, beq_no (by omega)]; rfl
 ·rw [ha, beq_no (by omega)]; rfl
 ·rw [ha, beq_no (by omega)]; rfl
theorem cont_iff {l : Str} {k : Nat} {b : UInt8} (h : l[k]? = some b) : contL l k = decide (128 ≤ b.toNat ∧ b.toNat < 192) ∧ atL l k = b.toNat := by
 obtain ⟨hk, rfl⟩ := List.getElem?_eq_some_iff.1 h
 have ha : atL l k = (l[k]).toNat := by simp [atL, hk]
 refine ⟨?_, ha⟩
 unfold contL
 rw [ha, decide_eq_true hk, Bool.eq_iff_iff]
 simp only [Bool.true_and, beq_iff_eq, decide_eq_true_eq]
 omega
theorem cont_no {l : Str} {k : Nat} (h : l.length ≤ k) : contL l k = false := by
 unfold contL
 rw [decide_eq_false (by omega)]
 rfl
theorem runeC_bad {b : UInt8} {r : Str} {c : Nat} (h : ¬ (128 ≤ b.toNat ∧ b.toNat < 192)) : runeC (b :: r) c = none := by rw [runeC, if_pos (by omega)]
theorem runeC_ok {b : UInt8} {r : Str} {c : Nat} (h : 128 ≤ b.toNat ∧ b.toNat < 192) : runeC (b :: r) c = runeC r (c * 64 + b.toNat % 64) := by rw [runeC, if_neg (by omega)]
theorem ok_two {b0 : UInt8} {r : Str} (h : 192 ≤ b0.toNat) (h' : b0.toNat < 224) : okR (b0 :: r) := by
 have ha : atL (b0 :: r) 0 = b0.toNat := rfl
 have hH : runeH b0.toNat = (2, 128, b0.toNat % 32) := by unfold runeH; rw [if_pos (by omega)]
 have e1 : (b0.toNat / 32 == 6) = true := by simp; omega
 have e2 : (b0.toNat / 16 == 14) = false := beq_no (by omega)
 have e3 : (b0.toNat / 8 == 30) = false := beq_no (by omega)
 have hf : contL (b0 :: r) 1 = false → decL (b0 :: r) = (65533, 1) := fun hc => dec_fail (by omega) (by rw [hc, Bool.and_false]) (by rw [ha, e2]; rfl) (by rw [ha, e3]; rfl)
 cases r with
 | nil => exact .inl ⟨by rw [runeR_short (by omega) hH (.inr (by simp))], hf (cont_no (by simp))⟩
 | cons b1 r =>
  obtain ⟨hc1, ha1⟩ := cont_iff (l := b0 :: b1 :: r) (k := 1) (b := b1) rfl
  have hln : ¬ (2 = 0 ∨ (b0 :: b1 :: r).length < 2) := by simp
  have htk : (b1 :: r).take (2 - 1) = [b1] := rfl
  by_cases hb : 128 ≤ b1.toNat ∧ b1.toNat < 192
  ·have hrc : runeC ((b1 :: r).take (2 - 1)) (b0.toNat % 32) = some (b0.toNat % 32 * 64 + b1.toNat % 64) := by rw [htk, runeC_ok hb]; rfl
   have hd : decL (b0 :: b1 :: r) = if b0.toNat % 32 * 64 + b1.toNat % 64 ≥ 128 then (b0.toNat % 32 * 64 + b1.toNat % 64, 2) else (65533, 1) := by
    unfold decL
    rw [if_neg (by omega), ha, ha1, e1, hc1, decide_eq_true hb]
    rfl
   by_cases hv : b0.toNat % 32 * 64 + b1.toNat % 64 ≥ 128
   ·have hR := runeR_good (by omega) hH hln hrc (by omega)
    refine .inr ?_
    rw [hR, hd, if_pos hv]
    refine ⟨by simp, rfl, ?_, by dsimp only; omega, by dsimp only; omega, by simp⟩
    unfold encL
    rw [if_neg (by dsimp only; omega), if_pos (by dsimp only; omega)]
    simp only [List.take_succ_cons, List.take_zero, List.map_cons, List.map_nil, List.cons.injEq, and_true]
    omega
   ·exact .inl ⟨by rw [runeR_bad (by omega) hH hln hrc (by omega)], by rw [hd, if_neg hv]⟩
  ·exact .inl ⟨by rw [runeR_none (by omega) hH hln (by rw [htk, runeC_bad hb])], hf (by rw [hc1, decide_eq_false hb])⟩
theorem ok_three {b0 : UInt8} {r : Str} (h : 224 ≤ b0.toNat) (h' : b0.toNat < 240) : okR (b0 :: r) := by
 have ha : atL (b0 :: r) 0 = b0.toNat := rfl
 have hH : runeH b0.toNat = (3, 2048, b0.toNat % 16) := by unfold runeH; rw [if_neg (by omega), if_pos (by omega)]
 have e1 : (b0.toNat / 32 == 6) = false := beq_no (by omega)
 have e2 : (b0.toNat / 16 == 14) = true := by simp; omega
 have e3 : (b0.toNat / 8 == 30) = false := beq_no (by omega)
 have hf : (contL (b0 :: r) 1 && contL (b0 :: r) 2) = false → decL (b0 :: r) = (65533, 1) := fun hc => dec_fail (by omega) (by rw [ha, e1]; rfl) (by rw [Bool.and_assoc, hc, Bool.and_false]) (by rw [ha, e3]; rfl)
 match r with
 | [] => exact .inl ⟨by rw [runeR_short (by omega) hH (.inr (by simp))], hf (by rw [cont_no (by simp)]; rfl)⟩
 | [b1] => exact .inl ⟨by rw [runeR_short (by omega) hH (.inr (by simp))], hf (by rw [cont_no (k := 2) (by simp), Bool.and_false])⟩
 | b1 :: b2 :: r =>
  obtain ⟨hc1, ha1⟩ := cont_iff (l := b0 :: b1 :: b2 :: r) (k := 1) (b := b1) rfl
  obtain ⟨hc2, ha2⟩ := cont_iff (l := b0 :: b1 :: b2 :: r) (k := 2) (b := b2) rfl
  have hln : ¬ (3 = 0 ∨ (b0 :: b1 :: b2 :: r).length < 3) := by simp
  have htk : (b1 :: b2 :: r).take (3 - 1) = [b1, b2] := rfl
  by_cases hb : 128 ≤ b1.toNat ∧ b1.toNat < 192
  ·by_cases hb2 : 128 ≤ b2.toNat ∧ b2.toNat < 192
   ·have hrc : runeC ((b1 :: b2 :: r).take (3 - 1)) (b0.toNat % 16) = some ((b0.toNat % 16 * 64 + b1.toNat % 64) * 64 + b2.toNat % 64) := by rw [htk, runeC_ok hb, runeC_ok hb2]; rfl
    have hd : decL (b0 :: b1 :: b2 :: r) = if (b0.toNat % 16 * 4096 + b1.toNat % 64 * 64 + b2.toNat % 64 ≥ 2048 && Utf8.valid (b0.toNat % 16 * 4096 + b1.toNat % 64 * 64 + b2.toNat % 64 : Nat)) = true then (b0.toNat % 16 * 4096 + b1.toNat % 64 * 64 + b2.toNat % 64, 3) else (65533, 1) := by
     unfold decL
     rw [if_neg (by omega), ha, ha1, ha2, e1, e2, hc1, hc2, decide_eq_true hb, decide_eq_true hb2]
     rfl
    rw [valid_nat] at hd
    by_cases hv : (b0.toNat % 16 * 64 + b1.toNat % 64) * 64 + b2.toNat % 64 < 2048 ∨ 1114111 < (b0.toNat % 16 * 64 + b1.toNat % 64) * 64 + b2.toNat % 64 ∨ (55296 ≤ (b0.toNat % 16 * 64 + b1.toNat % 64) * 64 + b2.toNat % 64 ∧ (b0.toNat % 16 * 64 + b1.toNat % 64) * 64 + b2.toNat % 64 ≤ 57343)
    ·refine .inl ⟨by rw [runeR_bad (by omega) hH hln hrc hv], ?_⟩
     rw [hd, if_neg]
     simp only [Bool.and_eq_true, decide_eq_true_eq]
     omega
    ·have hR := runeR_good (by omega) hH hln hrc hv
     refine .inr ?_
     rw [hR, hd, if_pos (by simp only [Bool.and_eq_true, decide_eq_true_eq]; omega)]
     refine ⟨by simp, by simp only [Prod.mk.injEq, and_true]; omega, ?_, by dsimp only; omega, by dsimp only; omega, by simp⟩
     unfold encL
     rw [if_neg (by dsimp only; omega), if_neg (by dsimp only; omega), if_pos (by dsimp only; omega)]
     simp only [List.take_succ_cons, List.take_zero, List.map_cons, List.map_nil, List.cons.injEq, and_true]
     omega
   ·exact .inl ⟨by rw [runeR_none (by omega) hH hln (by rw [htk, runeC_ok hb, runeC_bad hb2])], hf (by rw [hc2, decide_eq_false hb2, Bool.and_false])⟩
  ·exact .inl ⟨by rw [runeR_none (by omega) hH hln (by rw [htk, runeC_bad hb])], hf (by rw [hc1, decide_eq_false hb]; rfl)⟩
theorem ok_four {b0 : UInt8} {r : Str} (h : 240 ≤ b0.toNat) (h' : b0.toNat < 248) : okR (b0 :: r) := by
 have ha : atL (b0 :: r) 0 = b0.toNat := rfl
 have hH : runeH b0.toNat = (4, 65536, b0.toNat % 8) := by unfold runeH; rw [if_neg (by omega), if_neg (by omega), if_pos (by omega)]
 have e1 : (b0.toNat / 32 == 6) = false := beq_no (by omega)
 have e2 : (b0.toNat / 16 == 14) = false := beq_no (by omega)
 have e3 : (b0.toNat / 8 == 30) = true := by simp; omega
 have hf : (contL (b0 :: r) 1 && contL (b0 :: r) 2 && contL (b0 :: r) 3) = false → decL (b0 :: r) = (65533, 1) := fun hc => dec_fail (by omega) (by rw [ha, e1]; rfl) (by rw [ha, e2]; rfl) (by rw [Bool.and_assoc, Bool.and_assoc, ← Bool.and_assoc (contL (b0 :: r) 1), hc, Bool.and_false])
 match r with
 | [] => exact .inl ⟨by rw [runeR_short (by omega) hH (.inr (by simp))], hf (by rw [cont_no (by simp)]; rfl)⟩
 | [b1] => exact .inl ⟨by rw [runeR_short (by omega) hH (.inr (by simp))], hf (by rw [cont_no (k := 2) (by simp), Bool.and_false]; rfl)⟩
 | [b1, b2] => exact .inl ⟨by rw [runeR_short (by omega) hH (.inr (by simp))], hf (by rw [cont_no (k := 3) (by simp), Bool.and_false])⟩
 | b1 :: b2 :: b3 :: r =>
  obtain ⟨hc1, ha1⟩ := cont_iff (l := b0 :: b1 :: b2 :: b3 :: r) (k := 1) (b := b1) rfl
  obtain ⟨hc2, ha2⟩ := cont_iff (l := b0 :: b1 :: b2 :: b3 :: r) (k := 2) (b := b2) rfl
  obtain ⟨hc3, ha3⟩ := cont_iff (l := b0 :: b1 :: b2 :: b3 :: r) (k := 3) (b := b3) rfl
  have hln : ¬ (4 = 0 ∨ (b0 :: b1 :: b2 :: b3 :: r).length < 4) := by simp
  have htk : (b1 :: b2 :: b3 :: r).take (4 - 1) = [b1, b2, b3] := rfl
  by_cases hb : 128 ≤ b1.toNat ∧ b1.toNat < 192
  ·by_cases hb2 : 128 ≤ b2.toNat ∧ b2.toNat < 192
   ·by_cases hb3 : 128 ≤ b3.toNat ∧ b3.toNat < 192
    ·have hrc : runeC ((b1 :: b2 :: b3 :: r).take (4 - 1)) (b0.toNat % 8) = some (((b0.toNat % 8 * 64 + b1.toNat % 64) * 64 + b2.toNat % 64) * 64 + b3.toNat % 64) := by rw [htk, runeC_ok hb, runeC_ok hb2, runeC_ok hb3]; rfl
     have hd : decL (b0 :: b1 :: b2 :: b3 :: r) = if (b0.toNat % 8 * 262144 + b1.toNat % 64 * 4096 + b2.toNat % 64 * 64 + b3.toNat % 64 ≥ 65536 && Utf8.valid (b0.toNat % 8 * 262144 + b1.toNat % 64 * 4096 + b2.toNat % 64 * 64 + b3.toNat % 64 : Nat)) = true then (b0.toNat % 8 * 262144 + b1.toNat % 64 * 4096 + b2.toNat % 64 * 64 + b3.toNat % 64, 4) else (65533, 1) := by
      unfold decL
      rw [if_neg (by omega), ha, ha1, ha2, ha3, e1, e2, e3, hc1, hc2, hc3, decide_eq_true hb, decide_eq_true hb2, decide_eq_true hb3]
      rfl
     rw [valid_nat] at hd
     by_cases hv : ((b0.toNat % 8 * 64 + b1.toNat % 64) * 64 + b2.toNat % 64) * 64 + b3.toNat % 64 < 65536 ∨ 1114111 < ((b0.toNat % 8 * 64 + b1.toNat % 64) * 64 + b2.toNat % 64) * 64 + b3.toNat % 64 ∨ (55296 ≤ ((b0.toNat % 8 * 64 + b1.toNat % 64) * 64 + b2.toNat % 64) * 64 + b3.toNat % 64 ∧ ((b0.toNat % 8 * 64 + b1.toNat % 64) * 64 + b2.toNat % 64) * 64 + b3.toNat % 64 ≤ 57343)
     ·refine .inl ⟨by rw [runeR_bad (by omega) hH hln hrc hv], ?_⟩
      rw [hd, if_neg]
      simp only [Bool.and_eq_true, decide_eq_true_eq]
      omega
     ·have hR := runeR_good (by omega) hH hln hrc hv
      refine .inr ?_
      rw [hR, hd, if_pos (by simp only [Bool.and_eq_true, decide_eq_true_eq]; omega)]
      refine ⟨by simp, by simp only [Prod.mk.injEq, and_true]; omega, ?_, by dsimp only; omega, by dsimp only; omega, by simp⟩
      unfold encL
      rw [if_neg (by dsimp only; omega), if_neg (by dsimp only; omega), if_neg (by dsimp only; omega)]
      simp only [List.take_succ_cons, List.take_zero, List.map_cons, List.map_nil, List.cons.injEq, and_true]
      omega
    ·exact .inl ⟨by rw [runeR_none (by omega) hH hln (by rw [htk, runeC_ok hb, runeC_ok hb2, runeC_bad hb3])], hf (by rw [hc3, decide_eq_false hb3, Bool.and_false])⟩
   ·exact .inl ⟨by rw [runeR_none (by omega) hH hln (by rw [htk, runeC_ok hb, runeC_bad hb2])], hf (by rw [hc2, decide_eq_false hb2, Bool.and_false]; rfl)⟩
  ·exact .inl ⟨by rw [runeR_none (by omega) hH hln (by rw [htk, runeC_bad hb])], hf (by rw [hc1, decide_eq_false hb]; rfl)⟩
theorem ok_all {l : Str} (h : l ≠ []) : okR l := by
 cases l with
 | nil => exact absurd rfl h
 | cons b0 r =>
  have hb := b0.toNat_lt
  rcases Nat.lt_or_ge b0.toNat 128 with h1 | h1
  ·exact ok_one h1
  ·rcases Nat.lt_or_ge b0.toNat 192 with h2 | h2
   ·exact ok_none h1 (.inl h2)
   ·rcases Nat.lt_or_ge b0.toNat 224 with h3 | h3
    ·exact ok_two h2 h3
    ·rcases Nat.lt_or_ge b0.toNat 240 with h4 | h4
     ·exact ok_three h3 h4
     ·rcases Nat.lt_or_ge b0.toNat 248 with h5 | h5
      ·exact ok_four h4 h5
      ·exact ok_none h1 (.inr h5)
end Go.Proofs.YtknndpjacklkeaaGreatDoor.V

set_option linter.unusedVariables false
set_option linter.unusedSimpArgs false
namespace Go.Proofs.YtknndpjacklkeaaGreatDoor.V
open Go
section
variable {P : Program} {ops : Array Oper} {Q : Exit → Act → World → Prop} {n' : Nat} {ds : List Deferred} {l : List (Nat × Value)} {w w' : World}
variable {rest : List Oper} {ty : TypeId} {pos : String} {af : Array Edge} {x y : Operand} {t : TypeId}
end
end Go.Proofs.YtknndpjacklkeaaGreatDoor.V

set_option linter.unusedVariables false
set_option linter.unusedSimpArgs false
namespace Go.Proofs.YtknndpjacklkeaaGreatDoor.V
open Go
section
variable {P : Program} {ops : Array Oper} {Q : Exit → Act → World → Prop} {n : Nat} {ds : List Deferred} {l : List (Nat × Value)} {M : List (Nat × (Value → World → Prop))} {w : World}
end
end Go.Proofs.YtknndpjacklkeaaGreatDoor.V

set_option linter.unusedVariables false
set_option linter.unusedSimpArgs false
namespace Go.Proofs.YtknndpjacklkeaaGreatDoor.V
open Go
abbrev b8c (c : UInt8) : List Value := [B8 c]
theorem cells_b8 (b : List UInt8) : (b.map b8c).flatten = b.map B8 := by
 induction b with
 | nil => rfl
 | cons c b ih => simp [ih]
theorem u8_eq {c d : UInt8} (h : (c.toNat : Int) = d.toNat) : c = d := UInt8.toNat_inj.1 (by omega)
theorem u8_ne {c d : UInt8} (h : ¬ (c.toNat : Int) = d.toNat) : c ≠ d := fun e => h (by rw [e])
theorem escQ7 {c : UInt8} (h1 : ¬ (c.toNat : Int) = 34) (h2 : ¬ (c.toNat : Int) = 92) (h3 : ¬ (c.toNat : Int) = 8) (h4 : ¬ (c.toNat : Int) = 9) (h5 : ¬ (c.toNat : Int) = 10) (h6 : ¬ (c.toNat : Int) = 12) (h7 : ¬ (c.toNat : Int) = 13) :
  escQ c = if c.toNat < 32 then [92, 117, 48, 48, hexD.getD (c.toNat / 16) 0, hexD.getD (c.toNat % 16) 0] else [c] := by
 unfold escQ
 rw [if_neg (fun h => h.elim (u8_ne (d := 34) h1) (u8_ne (d := 92) h2)), if_neg (u8_ne (d := 8) h3), if_neg (u8_ne (d := 9) h4), if_neg (u8_ne (d := 10) h5), if_neg (u8_ne (d := 12) h6), if_neg (u8_ne (d := 13) h7)]
def bts : Except Int Str → Str
 | .ok b => b
 | .error _ => []
def ern : Except Int Str → Int
 | .ok _ => 0
 | .error e => if e = 0 then 1 else e
theorem ern_no {r : Except Int Str} (h : ¬ ern r = 0) : ∃ e, r = .error e := by
 cases r with
 | ok b => exact absurd rfl h
 | error e => exact ⟨e, rfl⟩
end Go.Proofs.YtknndpjacklkeaaGreatDoor.V

set_option linter.unusedVariables false
set_option linter.unusedSimpArgs false
namespace Go.Proofs.YtknndpjacklkeaaGreatDoor.V
open Go
section
variable {w0 w wA w' : World} {u0 u u1 u2 res : Value} {b t : Str} {r : Except Int Str}
abbrev OwB (w : World) (u : Value) (b : Str) : Prop := Own w 5 1 u b.length ((b.map b8c).flatten)
def WR (w0 w : World) (u0 : Value) (r : Except Int Str) (res : Value) : Prop :=
 ∃ u, res = .tuple #[u, .int .i64 (ern r)] ∧ OwB w u (bts r) ∧ (∀ x ∈ ob u, x ∈ ob u0 ∨ w0.heap.size ≤ x) ∧ Mod (ob u0) w0 w ∧ (bts r).length ≤ 65536
theorem WR.err {e : Int} (E : Mod [] w0 w) (he : e ≠ 0) (hr : r = .error e) : WR w0 w u0 r (.tuple #[.slice none 0 0, .int .i64 e]) := by
 subst hr
 exact ⟨_, by simp [ern, he], Own.nil w 5 1, by simp [ob], E.mono (by simp), by simp [bts]⟩
structure WS (w0 w : World) (u0 : Value) (g V : Nat) (cells : List Value) (v : JV) (al am : Option Addr) (cl cm : Nat) (u : Value) (b : Str) : Prop where
 own : OwB w u b
 len : b.length ≤ 65536
 hob : ∀ x ∈ ob u, x ∈ ob u0 ∨ w0.heap.size ≤ x
 mod : Mod (ob u0) w0 w
 blk : Blk w g V cells
 dis : ∀ x ∈ ob u, x ≠ g
 rl : Rep (ob u) w (.sl 6 (v.list.map JV.D)) (.slice al v.list.length cl)
 rm : Rep (ob u) w (.sl 7 (v.map.map JV.Dp)) (.slice am v.map.length cm)
variable {g V : Nat} {cells : List Value} {v : JV} {al am : Option Addr} {cl cm : Nat}
theorem WS.step (H : WS w0 w u0 g V cells v al am cl cm u b) {b' : Str} {u' : Value} (k : Mod (ob u) w w') (O : OwB w' u' b') (ho : ∀ x ∈ ob u', x ∈ ob u ∨ w.heap.size ≤ x) (hl : b'.length ≤ 65536) : WS w0 w' u0 g V cells v al am cl cm u' b' where
 own := O
 len := hl
 hob := fun x hx => (ho x hx).elim (H.hob x) (fun h => .inr (Nat.le_trans H.mod.size h))
 mod := H.mod.trans' k H.hob
 blk := H.blk.mod k (fun hx => H.dis _ hx rfl)
 dis := fun x hx => (ho x hx).elim (H.dis x) (fun h e => by have := H.blk.lt; omega)
 rl := Rep.to k (fun x hx => hx) ho _ _ H.rl
 rm := Rep.to k (fun x hx => hx) ho _ _ H.rm
theorem WS.mod0 (H : WS w0 w u0 g V cells v al am cl cm u b) (k : Mod [] w w') : WS w0 w' u0 g V cells v al am cl cm u b :=
 H.step (k.mono (by simp)) (H.own.mod0 k) (fun x hx => .inl hx) H.len
theorem WS.wr (H : WS w0 w u0 g V cells v al am cl cm u b) (h : WR w w' u r res) : ∃ u', res = .tuple #[u', .int .i64 (ern r)] ∧ WS w0 w' u0 g V cells v al am cl cm u' (bts r) := by
 obtain ⟨u', h1, h2, h3, h4, h5⟩ := h
 exact ⟨u', h1, H.step h4 h2 h3 h5⟩
theorem WS.err (H : WS w0 w u0 g V cells v al am cl cm u b) (hr : ¬ ern r = 0) : WR w0 w u0 r (.tuple #[.slice none 0 0, .int .i64 (ern r)]) := by
 obtain ⟨e, rfl⟩ := ern_no hr
 exact ⟨_, rfl, Own.nil w 5 1, by simp [ob], H.mod, by simp [bts]⟩
theorem WS.ok (H : WS w0 w u0 g V cells v al am cl cm u (bts (.ok b))) : WS w0 w u0 g V cells v al am cl cm u b := H
end
theorem WS.init {w0 w : World} {u0 : Value} {b : Str} {g V : Nat} {cells : List Value} {v : JV} {al am : Option Addr} {cl cm : Nat} (E : Mod [] w0 w) (O : OwB w0 u0 b) (hb : b.length ≤ 65536) (B : Blk w g V cells) (hg : w0.heap.size ≤ g)
  (Rl : Rep (ob u0) w0 (.sl 6 (v.list.map JV.D)) (.slice al v.list.length cl)) (Rm : Rep (ob u0) w0 (.sl 7 (v.map.map JV.Dp)) (.slice am v.map.length cm)) : WS w0 w u0 g V cells v al am cl cm u0 b where
 own := O.mod0 E
 len := hb
 hob := fun x hx => .inl hx
 mod := E.mono (by simp)
 blk := B
 dis := fun x hx e => by have := O.lt x hx; omega
 rl := Rl.to0 E
 rm := Rm.to0 E
theorem bare_num {v : JV} (h : v.bare = true) (h2 : v.kind = 2) : -9007199254740991 ≤ v.num ∧ v.num ≤ 9007199254740991 := by
 simp only [JV.bare, h2] at h
 simp at h
 omega
end Go.Proofs.YtknndpjacklkeaaGreatDoor.V

set_option linter.unusedVariables false
set_option linter.unusedSimpArgs false
namespace Go.Proofs.YtknndpjacklkeaaGreatDoor.V
open Go
section
variable {P : Program} {ops : Array Oper} {Q : Exit → Act → World → Prop} {n : Nat} {ds : List Deferred} {l : List (Nat × Value)} {w w' : World} {a : Act}
variable {rest : List Oper} {d : Nat} {op : Op} {ty : TypeId} {pos : String} {af : Array Edge} {x y : Operand} {t : TypeId}
theorem scp {f : FuncId} {args : Array Value} {R : Ending → World → Prop} (hr : RunsC P l ⟨some d, op, ty, pos, af, none⟩ w f args) (hc : Calls P f args w R) (hd : Nat.blt d n = true) (ho : ∀ w', ¬ R .outgrown w')
  (hp : ∀ c w', R (.panicked c) w' → WE Q (.panic c) n ds l w') (h : ∀ v w', R (.returned v) w' → WL P ops Q rest n ds ((d, v) :: l) w') :
  WL P ops Q (⟨some d, op, ty, pos, af, none⟩ :: rest) n ds l w := by
 intro a ha
 refine wpList_plain rfl fun K hK => ?_
 have := hr a.eval (fun x u hx => ha.ev hx)
 simp only [Oper.wp, this, Oper.upon]
 refine hc.mono fun e w' he => ?_
 cases e with
 | returned v => exact hK _ _ (h v w' he _ (ha.put hd v))
 | panicked c => exact hp c w' he a ha
 | outgrown => exact absurd he (ho w')
theorem s_panic {T : TypeId} {v : Value} (hx : evO l x = some (.iface T v)) (h : WE Q (.panic [{ v := .iface T v, recovered := false }]) n ds l w) :
  WL P ops Q (⟨none, .panic x, ty, pos, af, none⟩ :: rest) n ds l w := by
 intro a ha
 refine wpList_plain rfl fun K hK => ?_
 simp only [Oper.wp, execOp, ha.ev hx, Sem.run_bind, run_panic_iface, Oper.upon]
 exact h a ha
variable {fn : Func} {R : Ending → World → Prop}
theorem endp {c : List PanicEntry} (h : R (.panicked c) w) : WE (bodyPost P fn R) (.panic c) n [] l w := fun a ha => ⟨ha.defers, h⟩
theorem end0R (hr : fn.results = #[]) (h : R (.returned (.tuple #[])) w) : WE (bodyPost P fn R) .normal n [] l w := fun a ha => ⟨ha.defers, _, results_none hr _ _ _, h⟩
/-! ### a range over a string -/
def It (w : World) (g : Nat) (s : Str) (p : Nat) : Prop := w.heap[g]? = some (.stringIter ⟨⟨s⟩⟩ p)
theorem It.lt {g : Nat} {s : Str} {p : Nat} (h : It w g s p) : g < w.heap.size := (Array.getElem?_eq_some_iff.1 h).1
theorem It.mod {M : List Nat} {g : Nat} {s : Str} {p : Nat} (h : It w g s p) (k : Mod M w w') (hg : g ∉ M) : It w' g s p := (k.block g h.lt hg).trans h
theorem It.mod0 {g : Nat} {s : Str} {p : Nat} (h : It w g s p) (k : Mod [] w w') : It w' g s p := h.mod k (by simp)
theorem s_range {u : Str} (ht : P.underlying t = some .string) (hx : evO l x = some (S u)) (hd : Nat.blt d n = true)
  (h : ∀ g w', It w' g u 0 → g = w.heap.size → Mod [] w w' → WL P ops Q rest n ds ((d, .pointer (some ⟨g, 0, none⟩)) :: l) w') :
  WL P ops Q (⟨some d, .range t x, ty, pos, af, none⟩ :: rest) n ds l w := by
 refine sv (v := .pointer (some ⟨w.heap.size, 0, none⟩)) (w' := w.iter ⟨⟨u⟩⟩ 0) (fun ρ hρ => ?_) hd (h _ _ (World.iter_heap _ _ _) rfl ⟨rfl, rfl, rfl, ?_, fun i hi _ => ?_⟩)
 ·simp [execOp, hρ _ _ hx, run_range_string _ _ _ ht]
 ·show w.heap.size ≤ (w.heap.push _).size
  simp
 ·show (w.heap.push _)[i]? = _
  rw [Array.getElem?_push_lt hi, Array.getElem?_eq_getElem hi]
theorem s_next_end {g p : Nat} {u : Str} (hx : evO l x = some (.pointer (some ⟨g, 0, none⟩))) (I : It w g u p) (hp : ¬ p < u.length) (hd : Nat.blt d n = true)
  (h : WL P ops Q rest n ds ((d, .tuple #[.bool false]) :: l) w) : WL P ops Q (⟨some d, .next x true, ty, pos, af, none⟩ :: rest) n ds l w := by
 refine sv (v := .tuple #[.bool false]) (w' := w) (fun ρ hρ => ?_) hd h
 have hs : (⟨⟨u⟩⟩ : ByteArray).size = u.length := rfl
 unfold It at I
 simp [execOp, hρ _ _ hx, Instr.next, getObj, Sem.run, I, Result.andThen, hs, hp]
theorem s_next {g p c m : Nat} {u : Str} (hx : evO l x = some (.pointer (some ⟨g, 0, none⟩))) (I : It w g u p) (hp : p < u.length) (hdec : Utf8.decode ⟨⟨u⟩⟩ p = (c, m)) (hd : Nat.blt d n = true)
  (h : ∀ w', It w' g u (p + m) → Mod [g] w w' → w'.heap.size = w.heap.size → WL P ops Q rest n ds ((d, .tuple #[.bool true, .int .i64 (p : Int), .int .i32 (c : Int)]) :: l) w') :
  WL P ops Q (⟨some d, .next x true, ty, pos, af, none⟩ :: rest) n ds l w := by
 have hs : (⟨⟨u⟩⟩ : ByteArray).size = u.length := rfl
 have hlt := I.lt
 refine sv (v := .tuple #[.bool true, .int .i64 (p : Int), .int .i32 (c : Int)]) (w' := { w with heap := w.heap.setIfInBounds g (.stringIter ⟨⟨u⟩⟩ (p + m)) }) (fun ρ hρ => ?_) hd (h _ ?_ ⟨rfl, rfl, rfl, by simp, fun i hi hM => ?_⟩ (by simp))
 ·unfold It at I
  simp [execOp, hρ _ _ hx, Instr.next, getObj, setObj, Sem.run, I, Result.andThen, hs, hp, hdec, goInt]
 ·show (w.heap.setIfInBounds g _)[g]? = _
  simp [hlt]
 ·show (w.heap.setIfInBounds g _)[i]? = _
  have : g ≠ i := fun e => hM (by simp [e])
  simp [Array.getElem?_setIfInBounds_ne this]
end
end Go.Proofs.YtknndpjacklkeaaGreatDoor.V

set_option linter.unusedVariables false
set_option linter.unusedSimpArgs false
namespace Go.Proofs.YtknndpjacklkeaaGreatDoor.V
open Go
section
variable {P : Program} {l : List (Nat × Value)} {w : World} {ty : TypeId} {pos : String} {af : Array Edge} {dd : Option Nat} {gg : Option (Nat × Bool)} {x y hi : Operand} {t : TypeId}
theorem o_ssto {u : List UInt8} {n : Nat} (ht : P.underlying t = some .string) (hx : evO l x = some (S u)) (hh : evO l hi = some (.int .i64 (n : Int))) (hb : n ≤ u.length) : Runs P l ⟨dd, .slice t x none (some hi) none, ty, pos, af, gg⟩ w (S (u.take n)) w :=
 (o_ssl (pl := none) (ph := some (.i64, (n : Int))) ht hx rfl (by simp [evS, hh]) (by simp only [loV, hiV]; omega)).to (by
  simp only [loV, hiV, Int.toNat_natCast]
  simp)
end
theorem or192 {m : Nat} (h : m < 32) : IntKind.u8.wrap (BitVec.ofInt IntKind.u8.bits 192 ||| BitVec.ofInt IntKind.u8.bits (m : Int)).toNat = ((192 + m : Nat) : Int) := by
 have : ∀ m : Fin 32, IntKind.u8.wrap (BitVec.ofInt IntKind.u8.bits 192 ||| BitVec.ofInt IntKind.u8.bits (m.val : Int)).toNat = ((192 + m.val : Nat) : Int) := by decide +kernel
 exact this ⟨m, h⟩
theorem or224 {m : Nat} (h : m < 16) : IntKind.u8.wrap (BitVec.ofInt IntKind.u8.bits 224 ||| BitVec.ofInt IntKind.u8.bits (m : Int)).toNat = ((224 + m : Nat) : Int) := by
 have : ∀ m : Fin 16, IntKind.u8.wrap (BitVec.ofInt IntKind.u8.bits 224 ||| BitVec.ofInt IntKind.u8.bits (m.val : Int)).toNat = ((224 + m.val : Nat) : Int) := by decide +kernel
 exact this ⟨m, h⟩
theorem or240 {m : Nat} (h : m < 8) : IntKind.u8.wrap (BitVec.ofInt IntKind.u8.bits 240 ||| BitVec.ofInt IntKind.u8.bits (m : Int)).toNat = ((240 + m : Nat) : Int) := by
 have : ∀ m : Fin 8, IntKind.u8.wrap (BitVec.ofInt IntKind.u8.bits 240 ||| BitVec.ofInt IntKind.u8.bits (m.val : Int)).toNat = ((240 + m.val : Nat) : Int) := by decide +kernel
 exact this ⟨m, h⟩
theorem or128 {m : Nat} (h : m < 64) : IntKind.u8.wrap (BitVec.ofInt IntKind.u8.bits 128 ||| BitVec.ofInt IntKind.u8.bits (m : Int)).toNat = ((128 + m : Nat) : Int) := by
 have : ∀ m : Fin 64, IntKind.u8.wrap (BitVec.ofInt IntKind.u8.bits 128 ||| BitVec.ofInt IntKind.u8.bits (m.val : Int)).toNat = ((128 + m.val : Nat) : Int) := by decide +kernel
 exact this ⟨m, h⟩
theorem and63 {m : Nat} (h : m < 256) : IntKind.u8.wrap (BitVec.ofInt IntKind.u8.bits (m : Int) &&& BitVec.ofInt IntKind.u8.bits 63).toNat = ((m % 64 : Nat) : Int) := by
 have : ∀ m : Fin 256, IntKind.u8.wrap (BitVec.ofInt IntKind.u8.bits (m.val : Int) &&& BitVec.ofInt IntKind.u8.bits 63).toNat = ((m.val % 64 : Nat) : Int) := by decide +kernel
 exact this ⟨m, h⟩
theorem shrN {c e : Nat} (he : e ≤ 31) : (c : Int).fdiv (2 ^ (min (e : Int).toNat IntKind.i32.bits)) = ((c / 2 ^ e : Nat) : Int) := by
 have h1 : min (e : Int).toNat IntKind.i32.bits = e := by
  show min e 32 = e
  omega
 rw [h1, Int.fdiv_eq_ediv_of_nonneg _ (by exact_mod_cast Nat.zero_le (2 ^ e)), Int.natCast_ediv]
 norm_cast
theorem convu8 (m : Nat) : IntKind.u8.wrap (m : Int) = ((m % 256 : Nat) : Int) := by
 have : ((m % 256 : Nat) : Int) = (m : Int) % 256 := Int.natCast_emod ..
 rw [this]
 rfl
theorem convu32 {m : Nat} (h : m < 4294967296) : IntKind.u32.wrap (m : Int) = (m : Int) := by
 show (m : Int) % 4294967296 = m
 exact Int.emod_eq_of_lt (by omega) (by omega)
def shq (c : Nat) : Nat := if c = 34 then 34 else if c = 92 then 92 else if c = 8 then 98 else if c = 9 then 116 else if c = 10 then 110 else if c = 12 then 102 else if c = 13 then 114 else 0
theorem shq_big {c : Nat} (h : 128 ≤ c) : shq c = 0 := by
 unfold shq
 rw [if_neg (by omega), if_neg (by omega), if_neg (by omega), if_neg (by omega), if_neg (by omega), if_neg (by omega), if_neg (by omega)]
theorem shq_none {c : UInt8} (h : ¬ shq c.toNat ≠ 0) : escQ c = if c.toNat < 32 then [92, 117, 48, 48, hexD.getD (c.toNat / 16) 0, hexD.getD (c.toNat % 16) 0] else [c] := by
 have h := Classical.not_not.1 h
 unfold shq at h
 repeat' split at h
 all_goals first | (exact absurd h (by decide)) | skip
 exact escQ7 (by omega) (by omega) (by omega) (by omega) (by omega) (by omega) (by omega)
theorem escs_big {l : Str} (h : ∀ b ∈ l, 128 ≤ b.toNat) : escs l = l := by
 induction l with
 | nil => rfl
 | cons b r ih =>
  have hb := h b (by simp)
  have h1 : escQ b = [b] := by rw [shq_none (by rw [shq_big hb]; simp), if_neg (by omega)]
  have h2 := ih fun x hx => h x (by simp [hx])
  simp only [escs, List.map_cons, List.flatten_cons, h1] at h2 ⊢
  rw [h2]
  rfl
theorem encL_big {c : Nat} (h : 128 ≤ c) (h2 : c ≤ 1114111) : ∀ m ∈ encL c, 128 ≤ m ∧ m < 256 := by
 intro m hm
 unfold encL at hm
 rw [if_neg (by omega)] at hm
 split at hm
 ·simp at hm; omega
 ·split at hm
  ·simp at hm; omega
  ·simp at hm; omega
theorem encL_len (c : Nat) : (encL c).length ≤ 4 := by
 unfold encL
 repeat' split
 all_goals simp
theorem enc_take {l : Str} (h : l ≠ []) (h0 : (runeR l).2 ≠ 0) : Utf8.decode ⟨⟨l⟩⟩ 0 = runeR l ∧ (l.take (runeR l).2).map B8 = (encL (runeR l).1).map (fun m : Nat => Value.int .u8 (m : Int)) ∧ (runeR l).1 ≤ 1114111 ∧ ¬ (55296 ≤ (runeR l).1 ∧ (runeR l).1 ≤ 57343) := by
 rcases ok_all h with ⟨h1, _⟩ | ⟨_, h2, h3, h4, h5, _⟩
 ·exact absurd h1 h0
 ·refine ⟨by rw [decode_eq]; exact h2, ?_, h4, h5⟩
  rw [← h3, List.map_map]
  rfl
theorem rune_byte {l : Str} (h : l ≠ []) (h0 : (runeR l).2 ≠ 0) (hc : (runeR l).1 < 128) : ∃ b, l.take (runeR l).2 = [b] ∧ b.toNat = (runeR l).1 := by
 rcases ok_all h with ⟨h1, _⟩ | ⟨_, h2, h3, h4, h5, _⟩
 ·exact absurd h1 h0
 ·unfold encL at h3
  rw [if_pos hc] at h3
  match hl : l.take (runeR l).2, h3 with
  | [b], h3 => exact ⟨b, rfl, by simpa using h3⟩
  | [], h3 => simp at h3
  | _ :: _ :: _, h3 => simp at h3
theorem rune_bytes {l : Str} (h : l ≠ []) (h0 : (runeR l).2 ≠ 0) (hc : 128 ≤ (runeR l).1) : ∀ b ∈ l.take (runeR l).2, 128 ≤ b.toNat := by
 rcases ok_all h with ⟨h1, _⟩ | ⟨_, h2, h3, h4, h5, _⟩
 ·exact absurd h1 h0
 ·intro b hb
  have : b.toNat ∈ encL (runeR l).1 := by rw [← h3]; exact List.mem_map_of_mem hb
  exact (encL_big hc h4 _ this).1
theorem dec_at {s : Str} {p : Nat} (h : p < s.length) : s.drop p ≠ [] := fun e => by have := congrArg List.length e; simp at this; omega
theorem dec_ok {s : Str} {p : Nat} (h : p < s.length) (h0 : (runeR (s.drop p)).2 ≠ 0) : Utf8.decode ⟨⟨s⟩⟩ p = ((runeR (s.drop p)).1, (runeR (s.drop p)).2) := by
 rcases ok_all (dec_at h) with ⟨h1, _⟩ | ⟨_, h2, _⟩
 ·exact absurd h1 h0
 ·rw [decode_eq, h2]
theorem dec_bad {s : Str} {p : Nat} (h : p < s.length) (h0 : (runeR (s.drop p)).2 = 0) : Utf8.decode ⟨⟨s⟩⟩ p = (65533, 1) := by
 rcases ok_all (dec_at h) with ⟨_, h2⟩ | ⟨h1, _⟩
 ·rw [decode_eq, h2]
 ·exact absurd h0 h1
theorem valid_pos {l : Str} (h : l ≠ []) (hv : validR l = true) : (runeR l).2 ≠ 0 := fun h0 => by rw [validR_no h h0] at hv; cases hv
end Go.Proofs.YtknndpjacklkeaaGreatDoor.V

set_option linter.unusedVariables false
set_option linter.unusedSimpArgs false
namespace Go.Proofs.YtknndpjacklkeaaGreatDoor.V
open Go
section
variable {P : Program} {l : List (Nat × Value)} {w w' : World} {ty : TypeId} {pos : String} {af : Array Edge} {dd : Option Nat} {gg : Option (Nat × Bool)} {x y : Operand} {t t' : TypeId}
theorem o_shE {c : Nat} (e d : Nat) (hx : evO l x = some (.int .i32 (c : Int))) (hy : evO l y = some (.int .u64 (e : Int))) (he : e ≤ 31) (hd : 2 ^ e = d) : Runs P l ⟨dd, .binOp .shr t x y t', ty, pos, af, gg⟩ w (.int .i32 ((c / d : Nat) : Int)) w :=
 (o_shr hx hy (by omega)).to (by rw [shrN he, hd])
theorem o_cv8 {m : Nat} {d0 : TypeDesc} (hs : P.underlying t = some d0) (ht : P.underlying t' = some (.int .u8)) (hx : evO l x = some (.int .i32 (m : Int))) : Runs P l ⟨dd, .convert t t' x, ty, pos, af, gg⟩ w (.int .u8 ((m % 256 : Nat) : Int)) w :=
 (o_conv hs ht hx).to (by rw [convu8])
theorem o_a63 {m : Nat} (hx : evO l x = some (.int .u8 ((m % 256 : Nat) : Int))) (hy : evO l y = some (.int .u8 63)) : Runs P l ⟨dd, .binOp .and t x y t', ty, pos, af, gg⟩ w (.int .u8 ((m % 64 : Nat) : Int)) w :=
 (o_and hx hy).to (by rw [and63 (Nat.mod_lt _ (by decide)), show m % 256 % 64 = m % 64 by omega])
theorem o_o128 {m : Nat} (hx : evO l x = some (.int .u8 128)) (hy : evO l y = some (.int .u8 ((m % 64 : Nat) : Int))) : Runs P l ⟨dd, .binOp .or t x y t', ty, pos, af, gg⟩ w (.int .u8 ((128 + m % 64 : Nat) : Int)) w :=
 (o_or hx hy).to (by rw [or128 (Nat.mod_lt _ (by decide))])
theorem o_o192 {m : Nat} (hx : evO l x = some (.int .u8 192)) (hy : evO l y = some (.int .u8 ((m % 256 : Nat) : Int))) (h : m < 32) : Runs P l ⟨dd, .binOp .or t x y t', ty, pos, af, gg⟩ w (.int .u8 ((192 + m : Nat) : Int)) w :=
 (o_or hx hy).to (by rw [show m % 256 = m by omega, or192 h])
theorem o_o224 {m : Nat} (hx : evO l x = some (.int .u8 224)) (hy : evO l y = some (.int .u8 ((m % 256 : Nat) : Int))) (h : m < 16) : Runs P l ⟨dd, .binOp .or t x y t', ty, pos, af, gg⟩ w (.int .u8 ((224 + m : Nat) : Int)) w :=
 (o_or hx hy).to (by rw [show m % 256 = m by omega, or224 h])
theorem o_o240 {m : Nat} (hx : evO l x = some (.int .u8 240)) (hy : evO l y = some (.int .u8 ((m % 256 : Nat) : Int))) (h : m < 8) : Runs P l ⟨dd, .binOp .or t x y t', ty, pos, af, gg⟩ w (.int .u8 ((240 + m : Nat) : Int)) w :=
 (o_or hx hy).to (by rw [show m % 256 = m by omega, or240 h])
theorem o_cu32 {m : Nat} {d0 : TypeDesc} (hs : P.underlying t = some d0) (ht : P.underlying t' = some (.int .u32)) (hx : evO l x = some (.int .i32 (m : Int))) (h : m ≤ 1114111) : Runs P l ⟨dd, .convert t t' x, ty, pos, af, gg⟩ w (.int .u32 (m : Int)) w :=
 o_convN hs ht hx (convu32 (by omega))
end
theorem encL_lt {c : Nat} (h2 : c ≤ 1114111) : ∀ m ∈ encL c, m < 256 := by
 intro m hm
 by_cases h : 128 ≤ c
 ·exact (encL_big h h2 m hm).2
 ·unfold encL at hm
  rw [if_pos (by omega)] at hm
  simp at hm
  omega
def encB (c : Nat) : Str := (encL c).map UInt8.ofNat
theorem encB_cells {c : Nat} (h2 : c ≤ 1114111) : (encB c).map B8 = (encL c).map (fun m : Nat => Value.int .u8 (m : Int)) := by
 unfold encB
 rw [List.map_map]
 refine List.map_congr_left fun m hm => ?_
 have := encL_lt h2 m hm
 simp only [Function.comp, B8]
 rw [UInt8.toNat_ofNat_of_lt' (by simpa using this)]
theorem own_enc {w : World} {v : Value} {b : Str} {n c : Nat} {vs : List Value} (hc : c ≤ 1114111) (h : Own w 5 1 v n vs) (hn : n = b.length + (encL c).length) (hv : vs = (b.map b8c).flatten ++ (encL c).map (fun m : Nat => Value.int .u8 (m : Int))) : OwB w v (b ++ encB c) :=
 h.same (by rw [hn, List.length_append]; simp [encB]) (by rw [hv, List.map_append, List.flatten_append, cells_b8 (encB c), encB_cells hc])
theorem encB_len (c : Nat) : (encB c).length ≤ 4 := by
 have := encL_len c
 simpa [encB] using this
theorem encB_take {l : Str} (h : l ≠ []) (h0 : (runeR l).2 ≠ 0) : encB (runeR l).1 = l.take (runeR l).2 := by
 rcases ok_all h with ⟨h1, _⟩ | ⟨_, h2, h3, h4, h5, _⟩
 ·exact absurd h1 h0
 ·unfold encB
  rw [← h3, List.map_map]
  refine (List.map_congr_left fun b hb => ?_).trans (List.map_id _)
  simp [Function.comp]
end Go.Proofs.YtknndpjacklkeaaGreatDoor.V

set_option linter.unusedVariables false
set_option linter.unusedSimpArgs false
namespace Go.Proofs.YtknndpjacklkeaaGreatDoor.V
open Go
section
variable {P : Program} {l : List (Nat × Value)} {w w' : World} {ty : TypeId} {pos : String} {af : Array Edge} {dd : Option Nat} {gg : Option (Nat × Bool)} {x y : Operand} {t t' : TypeId}
end
section
variable {s : Str} {p : Nat}
end
end Go.Proofs.YtknndpjacklkeaaGreatDoor.V

set_option linter.unusedVariables false
set_option linter.unusedSimpArgs false
namespace Go.Proofs.YtknndpjacklkeaaGreatDoor.V
open Go
def pEnt (T : TypeId) (e : Int) : List PanicEntry := [{ v := .iface T (.agg #[.int .i64 e]), recovered := false }]
def WrF (T : TypeId) (e : Int) (w : World) : Ending → World → Prop
 | .panicked c, w' => c = pEnt T e ∧ w' = w
 | _, _ => False
structure WrB (w : World) (g V : Nat) (u : Value) (b : Str) : Prop where
 blk : Blk w g V [u]
 own : OwB w u b
 ne : ∀ x ∈ ob u, x ≠ g
 len : b.length ≤ 65536
def WrP (w : World) (g V T : Nat) (u : Value) (r : Except Int Str) : Ending → World → Prop
 | .returned _, w' => ∃ u' b, r = .ok b ∧ WrB w' g V u' b ∧ Mod (g :: ob u) w w' ∧ ∀ x ∈ ob u', x ∈ ob u ∨ w.heap.size ≤ x
 | .panicked c, w' => ∃ e, r = .error e ∧ e ≠ 0 ∧ c = pEnt T e ∧ Mod (g :: ob u) w w'
 | .outgrown, _ => False
structure WrT (w0 w : World) (u0 : Value) (g V : Nat) (u : Value) (b : Str) : Prop where
 wb : WrB w g V u b
 hob : ∀ x ∈ ob u, x ∈ ob u0 ∨ w0.heap.size ≤ x
 mod : Mod (g :: ob u0) w0 w
section
variable {w0 w wA w' : World} {u0 u u1 x : Value} {g V T : Nat} {b t : Str} {r r1 : Except Int Str} {c : List PanicEntry} {e : Int}
theorem WrB.mod0 (H : WrB w g V u b) (k : Mod [] w w') : WrB w' g V u b := ⟨H.blk.mod0 k, H.own.mod0 k, H.ne, H.len⟩
theorem WrT.init (H : WrB w g V u b) : WrT w w u g V u b := ⟨H, fun x hx => .inl hx, Mod.refl _ _⟩
theorem WrT.mod0 (H : WrT w0 w u0 g V u b) (k : Mod [] w w') : WrT w0 w' u0 g V u b := ⟨H.wb.mod0 k, H.hob, H.mod.then k⟩
theorem WrT.in_ (H : WrT w0 w u0 g V u b) : ∀ x ∈ g :: ob u, x ∈ g :: ob u0 ∨ w0.heap.size ≤ x := fun x hx => by
 rcases List.mem_cons.1 hx with rfl | h
 ·exact .inl (by simp)
 ·exact (H.hob x h).imp (fun h => by simp [h]) id
theorem WrT.rep {d : D} {v : Value} (H : WrT w0 w u0 g V u b) (R : Rep (g :: ob u0) w0 d v) : Rep (g :: ob u) w d v := Rep.to H.mod (fun x hx => hx) H.in_ d v R
theorem WrT.ret (H : WrT w0 w u0 g V u b) (h : WrP w g V T u r1 (.returned x) w') : ∃ u' b', r1 = .ok b' ∧ WrT w0 w' u0 g V u' b' ∧ Mod (g :: ob u) w w' ∧ ∀ x ∈ ob u', x ∈ ob u ∨ w.heap.size ≤ x := by
 obtain ⟨u', b', h1, h2, h3, h4⟩ := h
 exact ⟨u', b', h1, ⟨h2, fun x hx => (h4 x hx).elim (H.hob x) (fun h => .inr (Nat.le_trans H.mod.size h)), H.mod.trans' h3 H.in_⟩, h3, h4⟩
theorem WrT.panic (H : WrT w0 w u0 g V u b) (h : WrP w g V T u r1 (.panicked c) w') (hr : ∀ e, r1 = .error e → r = .error e) : WrP w0 g V T u0 r (.panicked c) w' := by
 obtain ⟨e, h1, h0, h2, h3⟩ := h
 exact ⟨e, hr e h1, h0, h2, H.mod.trans' h3 H.in_⟩
theorem WrT.app {n : Nat} {vs : List Value} (H : WrT w0 w u0 g V u b) (AA : App w wA 5 1 u u1 n vs) (k : Mod [g] wA w') : Mod (g :: ob u0) w0 w' :=
 (H.mod.trans' AA.mod (fun x hx => H.in_ x (by simp [hx]))).trans' k (fun x hx => .inl (by simp at hx; simp [hx]))
structure WrK (w : World) (g : Nat) (u : Value) (h W : Nat) (cells : List Value) : Prop where
 blk : Blk w h W cells
 ne : h ≠ g
 dis : ∀ x ∈ ob u, x ≠ h
variable {h W : Nat} {cells : List Value}
theorem WrK.mod0 (K : WrK w g u h W cells) (k : Mod [] w w') : WrK w' g u h W cells := ⟨K.blk.mod0 k, K.ne, K.dis⟩
theorem WrK.step (K : WrK w g u h W cells) (k : Mod (g :: ob u) w w') (ho : ∀ x ∈ ob u1, x ∈ ob u ∨ w.heap.size ≤ x) : WrK w' g u1 h W cells :=
 ⟨K.blk.mod k (fun hx => by
  rcases List.mem_cons.1 hx with h1 | h1
  ·exact K.ne h1
  ·exact K.dis _ h1 rfl), K.ne, fun x hx => (ho x hx).elim (K.dis x) (fun h e => by have := K.blk.lt; omega)⟩
end
def JV.plain (v : JV) : Bool := decide (0 ≤ v.kind ∧ v.kind ≤ 5) && (decide (v.kind = 1) || !v.is) && (decide (v.kind = 2) || decide (v.num = 0)) && (decide (v.kind = 3) || decide (v.str = [])) && (decide (v.kind = 4) || decide (v.list.length = 0)) && (decide (v.kind = 5) || decide (v.map.length = 0))
end Go.Proofs.YtknndpjacklkeaaGreatDoor.V

set_option linter.unusedVariables false
set_option linter.unusedSimpArgs false
namespace Go.Proofs.YtknndpjacklkeaaGreatDoor.V
open Go
section
variable {w w' : World} {g : Nat} {u u1 : Value} {ds : List D} {us : List Value} {A : List Nat}
theorem Reps.mod0 (R : Reps A w ds us) (k : Mod [] w w') : Reps A w' ds us := R.to0 k
end
theorem JV.bare_kind {v : JV} (h : v.bare = true) : 0 ≤ v.kind ∧ v.kind ≤ 5 := by
 unfold JV.bare at h
 simp only [Bool.and_eq_true, decide_eq_true_eq] at h
 omega
end Go.Proofs.YtknndpjacklkeaaGreatDoor.V
