/-
  A part of the proof: JSON values: what they stand for in memory, and what Same, rises, Get and Find say of them, in plain Lean; members by rising keys: found, put, in plain Lean; JSON values in memory: their cells, the rows of their lists and maps; how much a JSON value weighs, whether its keys rise, whether two are the same, in plain Lean; members put into a map: rows of seven cells; runes, texts between quotes, canonical texts of JSON values, as the document tells them, in plain Lean; runes, step by step. No condition of its own.
-/
import Derived.Test.YtkhbnhdlelmbnaaDoorM2
import Derived.Lib.ItoaLen
import Derived.Test.YtkhbnhdlelmbnaaDoorProg
set_option linter.unusedVariables false
set_option linter.unusedSimpArgs false
namespace Go.Proofs.YtkhbnhdlelmbnaaDoor.V
open Go
inductive JV where
  | mk (k : Int) (b : Bool) (n : Int) (s : List UInt8) (l : List JV) (m : List (List UInt8 × JV))
namespace JV
def kind : JV → Int | .mk k _ _ _ _ _ => k
def is : JV → Bool | .mk _ b _ _ _ _ => b
def num : JV → Int | .mk _ _ n _ _ _ => n
def str : JV → List UInt8 | .mk _ _ _ s _ _ => s
def list : JV → List JV | .mk _ _ _ _ l _ => l
def map : JV → List (List UInt8 × JV) | .mk _ _ _ _ _ m => m
mutual
def D : JV → List Go.Proofs.YtkhbnhdlelmbnaaDoor.V.D
  | .mk k b n s l m => [.v (.int .i64 k), .v (.bool b), .v (.int .i64 n), .v (S s), .sl 6 (Dl l), .sl 7 (Dm m)]
def Dl : List JV → List (List Go.Proofs.YtkhbnhdlelmbnaaDoor.V.D)
  | [] => []
  | v :: r => v.D :: Dl r
def Dm : List (List UInt8 × JV) → List (List Go.Proofs.YtkhbnhdlelmbnaaDoor.V.D)
  | [] => []
  | p :: r => (.v (S p.1) :: p.2.D) :: Dm r
end
abbrev Dp (p : List UInt8 × JV) : List Go.Proofs.YtkhbnhdlelmbnaaDoor.V.D := .v (S p.1) :: p.2.D
theorem Dl_eq : ∀ l : List JV, Dl l = l.map D
  | [] => rfl
  | v :: r => by simp [Dl, Dl_eq r]
theorem Dm_eq : ∀ m : List (List UInt8 × JV), Dm m = m.map Dp
  | [] => rfl
  | v :: r => by simp [Dm, Dm_eq r]
theorem D_eq (v : JV) : v.D = [.v (.int .i64 v.kind), .v (.bool v.is), .v (.int .i64 v.num), .v (S v.str), .sl 6 (v.list.map D), .sl 7 (v.map.map Dp)] := by
  cases v
  simp [D, kind, is, num, str, list, map, Dl_eq, Dm_eq]
mutual
/-- how many values stand in it -/
def sz : JV → Nat
  | .mk _ _ _ _ l m => 1 + szl l + szm m
def szl : List JV → Nat
  | [] => 0
  | v :: r => v.sz + szl r
def szm : List (List UInt8 × JV) → Nat
  | [] => 0
  | p :: r => p.2.sz + szm r
end
theorem sz_list {l : List JV} {v : JV} (h : v ∈ l) : v.sz ≤ szl l := by
  induction l with
  | nil => cases h
  | cons a r ih =>
    simp only [szl]
    rcases List.mem_cons.1 h with rfl | h
    · omega
    · have := ih h; omega
theorem sz_map {l : List (List UInt8 × JV)} {p : List UInt8 × JV} (h : p ∈ l) : p.2.sz ≤ szm l := by
  induction l with
  | nil => cases h
  | cons a r ih =>
    simp only [szm]
    rcases List.mem_cons.1 h with rfl | h
    · omega
    · have := ih h; omega
theorem sz_eq (v : JV) : v.sz = 1 + szl v.list + szm v.map := by cases v; simp [sz, list, map]
theorem sz_in_list {v x : JV} (h : x ∈ v.list) : x.sz < v.sz := by have := sz_list h; rw [sz_eq v]; omega
theorem sz_in_map {v : JV} {p : List UInt8 × JV} (h : p ∈ v.map) : p.2.sz < v.sz := by have := sz_map h; rw [sz_eq v]; omega
mutual
/-- all lists and texts in it are no longer than memory -/
def ok : JV → Prop
  | .mk k b n s l m => s.length ≤ 140737488351232 ∧ l.length ≤ 1599289640400 ∧ m.length ≤ 1353245080300 ∧ okl l ∧ okm m
def okl : List JV → Prop
  | [] => True
  | v :: r => v.ok ∧ okl r
def okm : List (List UInt8 × JV) → Prop
  | [] => True
  | p :: r => (p.1.length ≤ 140737488351232 ∧ p.2.ok) ∧ okm r
end
theorem okl_mem : ∀ {l : List JV}, okl l ↔ ∀ v ∈ l, v.ok
  | [] => by simp [okl]
  | v :: r => by simp [okl, okl_mem (l := r)]
theorem okm_mem : ∀ {l : List (List UInt8 × JV)}, okm l ↔ ∀ p ∈ l, p.1.length ≤ 140737488351232 ∧ p.2.ok
  | [] => by simp [okm]
  | v :: r => by simp [okm, okm_mem (l := r)]
theorem ok_eq (v : JV) : v.ok ↔ v.str.length ≤ 140737488351232 ∧ v.list.length ≤ 1599289640400 ∧ v.map.length ≤ 1353245080300 ∧ (∀ x ∈ v.list, x.ok) ∧ ∀ p ∈ v.map, p.1.length ≤ 140737488351232 ∧ p.2.ok := by
  cases v
  simp [ok, str, list, map, okl_mem, okm_mem]
end JV
end Go.Proofs.YtkhbnhdlelmbnaaDoor.V

set_option linter.unusedVariables false
set_option linter.unusedSimpArgs false
namespace Go.Proofs.YtkhbnhdlelmbnaaDoor.V
open Go
section
variable {β : Type}
def ascM (m : List (Str × β)) : Prop := m.Pairwise fun a b => bl a.1 b.1 = true
def look : List (Str × β) → Str → Option β
  | [], _ => none
  | p :: r, k => if p.1 = k then some p.2 else look r k
def putM (m : List (Str × β)) (k : Str) (x : β) : List (Str × β) := m.filter (fun p => bl p.1 k) ++ [(k, x)] ++ m.filter (fun p => bl k p.1)
variable {m m' : List (Str × β)} {k : Str} {x : β}
end
end Go.Proofs.YtkhbnhdlelmbnaaDoor.V

set_option linter.unusedVariables false
set_option linter.unusedSimpArgs false
namespace Go.Proofs.YtkhbnhdlelmbnaaDoor.V
open Go
section
variable {A : List Nat} {w w' : World}
theorem Addr.add_add' (a : Addr) (i j : Nat) : (a.add i).add j = a.add (i + j) := by
  unfold Addr.add
  by_cases h : i = 0 <;> by_cases h' : j = 0 <;> simp [h, h', Nat.add_assoc]
theorem Cs.tail_ {a : Addr} {v : Value} {vs : List Value} (h : Cs w a (v :: vs)) : Cs w (a.add 1) vs := fun j u hu => by
  have := h (j + 1) u (by simpa using hu)
  rwa [Addr.add_add', Nat.add_comm 1 j]
theorem JV.cells_ {v : JV} {us : List Value} (R : Reps A w v.D us) : ∃ al cl am cm, us = [.int .i64 v.kind, .bool v.is, .int .i64 v.num, S v.str, .slice al v.list.length cl, .slice am v.map.length cm] ∧
    Rep A w (.sl 6 (v.list.map JV.D)) (.slice al v.list.length cl) ∧ Rep A w (.sl 7 (v.map.map JV.Dp)) (.slice am v.map.length cm) := by
  rw [JV.D_eq] at R
  obtain ⟨_, _, rfl, h1, R⟩ := R
  obtain ⟨_, _, rfl, h2, R⟩ := R
  obtain ⟨_, _, rfl, h3, R⟩ := R
  obtain ⟨_, _, rfl, h4, R⟩ := R
  obtain ⟨_, _, rfl, h5, R⟩ := R
  obtain ⟨_, _, rfl, h6, R⟩ := R
  obtain rfl := R
  obtain rfl := h1.v_eq
  obtain rfl := h2.v_eq
  obtain rfl := h3.v_eq
  obtain rfl := h4.v_eq
  obtain ⟨al, cl, rfl, _⟩ := h5.sl_
  obtain ⟨am, cm, rfl, _⟩ := h6.sl_
  rw [List.length_map] at h5 h6 ⊢
  rw [List.length_map]
  exact ⟨al, cl, am, cm, rfl, h5, h6⟩
theorem JV.reps_ {v : JV} {al am : Option Addr} {cl cm : Nat} (Rl : Rep A w (.sl 6 (v.list.map JV.D)) (.slice al v.list.length cl)) (Rm : Rep A w (.sl 7 (v.map.map JV.Dp)) (.slice am v.map.length cm)) :
    Reps A w v.D [.int .i64 v.kind, .bool v.is, .int .i64 v.num, S v.str, .slice al v.list.length cl, .slice am v.map.length cm] := by
  rw [JV.D_eq]
  exact Reps.cons_ (Rep.v_ rfl) (Reps.cons_ (Rep.v_ rfl) (Reps.cons_ (Rep.v_ rfl) (Reps.cons_ (Rep.v_ rfl) (Reps.cons_ Rl (Reps.cons_ Rm Reps.nil_)))))
theorem JV.cap_l {l : List JV} {ad : Option Addr} {n c : Nat} (R : Rep A w (.sl 6 (l.map JV.D)) (.slice ad n c)) : l.length = n ∧ n ≤ c ∧ c ≤ 9223372036854775807 := by
  obtain ⟨ad', c', h1, h2, h3⟩ := R.sl_
  injection h1 with h4 h5 h6
  rw [List.length_map] at h5 h2
  omega
theorem JV.cap_m {m : List (Str × JV)} {ad : Option Addr} {n c : Nat} (R : Rep A w (.sl 7 (m.map JV.Dp)) (.slice ad n c)) : m.length = n ∧ n ≤ c ∧ c ≤ 9223372036854775807 := by
  obtain ⟨ad', c', h1, h2, h3⟩ := R.sl_
  injection h1 with h4 h5 h6
  rw [List.length_map] at h5 h2
  omega
theorem JV.at_l {l : List JV} {x : JV} {ad : Option Addr} {n c i : Nat} (R : Rep A w (.sl 6 (l.map JV.D)) (.slice ad n c)) (h : l[i]? = some x) : ∃ a us, ad = some a ∧ Reps A w x.D us ∧ Cs w (a.add (i * 6)) us := by
  obtain ⟨a, us, h1, h2, _, h3, _⟩ := Rep.at_ (i := i) (r := x.D) R (by simp [h])
  exact ⟨a, us, h1, h2, h3⟩
theorem JV.at_m {m : List (Str × JV)} {p : Str × JV} {ad : Option Addr} {n c i : Nat} (R : Rep A w (.sl 7 (m.map JV.Dp)) (.slice ad n c)) (h : m[i]? = some p) : ∃ a us, ad = some a ∧ Reps A w p.2.D us ∧ Cs w (a.add (i * 7)) (S p.1 :: us) := by
  obtain ⟨a, us, h1, h2, _, h3, _⟩ := Rep.at_ (i := i) (r := JV.Dp p) R (by simp [h])
  obtain ⟨u, us', rfl, h4, h5⟩ := h2
  obtain rfl := h4.v_eq
  exact ⟨a, us', h1, h5, h3⟩
/-- what is empty -/
def JV.nul : JV := .mk 0 false 0 [] [] []
theorem JV.nul_reps : Reps A w JV.nul.D [.int .i64 0, .bool false, .int .i64 0, S [], .slice none 0 0, .slice none 0 0] := by
  have := JV.reps_ (A := A) (w := w) (v := JV.nul) (al := none) (am := none) (cl := 0) (cm := 0) Rep.sl_nil Rep.sl_nil
  exact this
variable {P : Program} {ops : Array Oper} {Q : Exit → Act → World → Prop} {n : Nat} {ds : List Deferred} {l : List (Nat × Value)}
variable {rest : List Oper} {ty : TypeId} {pos : String} {af : Array Edge} {x y : Operand}
end
end Go.Proofs.YtkhbnhdlelmbnaaDoor.V

set_option linter.unusedVariables false
set_option linter.unusedSimpArgs false
namespace Go.Proofs.YtkhbnhdlelmbnaaDoor.V
open Go
abbrev w64 (z : Int) : Int := IntKind.i64.wrap z
namespace JV
mutual
def weigh : JV → Int → Int → Int
  | .mk _ _ _ s l m, left, deep => if deep = 0 then -1 else weighm m (weighl l (w64 (w64 (left - 1) - s.length)) (w64 (deep - 1))) (w64 (deep - 1))
def weighl : List JV → Int → Int → Int
  | [], left, _ => left
  | v :: r, left, d => if left < 0 then left else weighl r (v.weigh left d) d
def weighm : List (List UInt8 × JV) → Int → Int → Int
  | [], left, _ => left
  | p :: r, left, d => if left < 0 then left else weighm r (p.2.weigh (w64 (left - p.1.length)) d) d
end
theorem weigh_eq (v : JV) (left deep : Int) : v.weigh left deep = if deep = 0 then -1 else weighm v.map (weighl v.list (w64 (w64 (left - 1) - v.str.length)) (w64 (deep - 1))) (w64 (deep - 1)) := by
  cases v
  simp only [weigh, map, list, str]
theorem weighl_neg {l : List JV} {z d : Int} (h : z < 0) : weighl l z d = z := by
  cases l <;> simp [weighl, h]
theorem weighm_neg {l : List (List UInt8 × JV)} {z d : Int} (h : z < 0) : weighm l z d = z := by
  cases l <;> simp [weighm, h]
theorem weighl_at {l : List JV} {k : Nat} {x : JV} {z d : Int} (hx : l[k]? = some x) (h : ¬ z < 0) : weighl (l.drop k) z d = weighl (l.drop (k + 1)) (x.weigh z d) d := by
  obtain ⟨hk, rfl⟩ := List.getElem?_eq_some_iff.1 hx
  rw [List.drop_eq_getElem_cons hk, weighl, if_neg h]
theorem weighm_at {l : List (List UInt8 × JV)} {k : Nat} {x : List UInt8 × JV} {z d : Int} (hx : l[k]? = some x) (h : ¬ z < 0) : weighm (l.drop k) z d = weighm (l.drop (k + 1)) (x.2.weigh (w64 (z - x.1.length)) d) d := by
  obtain ⟨hk, rfl⟩ := List.getElem?_eq_some_iff.1 hx
  rw [List.drop_eq_getElem_cons hk, weighm, if_neg h]
theorem weighl_end {l : List JV} {k : Nat} {z d : Int} (h : l.length ≤ k) : weighl (l.drop k) z d = z := by
  rw [List.drop_eq_nil_of_le h, weighl]
theorem weighm_end {l : List (List UInt8 × JV)} {k : Nat} {z d : Int} (h : l.length ≤ k) : weighm (l.drop k) z d = z := by
  rw [List.drop_eq_nil_of_le h, weighm]
mutual
/-- do the keys rise, in all maps? -/
def Rise : JV → Prop
  | .mk _ _ _ _ l m => ascM m ∧ Risel l ∧ Risem m
def Risel : List JV → Prop
  | [] => True
  | v :: r => v.Rise ∧ Risel r
def Risem : List (List UInt8 × JV) → Prop
  | [] => True
  | p :: r => p.2.Rise ∧ Risem r
end
open Classical in
noncomputable def rises (v : JV) : Bool := decide v.Rise
end JV
end Go.Proofs.YtkhbnhdlelmbnaaDoor.V

set_option linter.unusedVariables false
set_option linter.unusedSimpArgs false
namespace Go.Proofs.YtkhbnhdlelmbnaaDoor.V
open Go
namespace JV
/-- what Get answers -/
def get (v : JV) (k : Str) : Option JV := if v.kind = 5 then look v.map k else none
/-- a map -/
def obj (m : List (Str × JV)) : JV := .mk 5 false 0 [] [] m
end JV
end Go.Proofs.YtkhbnhdlelmbnaaDoor.V

set_option linter.unusedVariables false
set_option linter.unusedSimpArgs false
namespace Go.Proofs.YtkhbnhdlelmbnaaDoor.V
open Go
/-- the bytes behind a rune's first -/
def runeC : List UInt8 → Nat → Option Nat
  | [], c => some c
  | b :: r, c => if b.toNat < 128 ∨ 192 ≤ b.toNat then none else runeC r (c * 64 + b.toNat % 64)
def runeH (c : Nat) : Nat × Nat × Nat :=
  if 192 ≤ c ∧ c < 224 then (2, 128, c % 32) else if 224 ≤ c ∧ c < 240 then (3, 2048, c % 16) else if 240 ≤ c ∧ c < 248 then (4, 65536, c % 8) else (0, 0, c)
/-- the rune that bytes begin with, and how many it has -/
def runeR (s : Str) : Nat × Nat := match s with
  | [] => (0, 0)
  | b :: r => if b.toNat < 128 then (b.toNat, 1) else
    if (runeH b.toNat).1 = 0 ∨ s.length < (runeH b.toNat).1 then (0, 0) else
      match runeC (r.take ((runeH b.toNat).1 - 1)) (runeH b.toNat).2.2 with
      | none => (0, 0)
      | some c => if c < (runeH b.toNat).2.1 ∨ 1114111 < c ∨ (55296 ≤ c ∧ c ≤ 57343) then (0, 0) else (c, (runeH b.toNat).1)
theorem runeR_le (s : Str) : (runeR s).2 ≤ s.length := by
  unfold runeR
  split
  · simp
  · rename_i b r
    split
    · simp
    · split
      · simp
      · rename_i h
        split
        · simp
        · split
          · simp
          · simp only
            omega
/-- is it a text? -/
def validR (s : Str) : Bool :=
  if h : s = [] then true else if h0 : (runeR s).2 = 0 then false else validR (s.drop (runeR s).2)
termination_by s.length
decreasing_by
  have := runeR_le s
  rw [List.length_drop]
  have : s.length ≠ 0 := fun e => h (List.eq_nil_of_length_eq_zero e)
  omega
theorem validR_nil : validR [] = true := by rw [validR]; simp
theorem validR_no {s : Str} (h : s ≠ []) (h0 : (runeR s).2 = 0) : validR s = false := by rw [validR]; simp [h, h0]
theorem validR_go {s : Str} (h : s ≠ []) (h0 : (runeR s).2 ≠ 0) : validR s = validR (s.drop (runeR s).2) := by
  rw [validR]
  simp [h, h0]
abbrev hexD : Str := [48, 49, 50, 51, 52, 53, 54, 55, 56, 57, 97, 98, 99, 100, 101, 102]
/-- a byte of a text between quotes -/
def escQ (c : UInt8) : Str :=
  if c = 34 ∨ c = 92 then [92, c] else if c = 8 then [92, 98] else if c = 9 then [92, 116] else if c = 10 then [92, 110] else if c = 12 then [92, 102] else if c = 13 then [92, 114]
  else if c.toNat < 32 then [92, 117, 48, 48, hexD.getD (c.toNat / 16) 0, hexD.getD (c.toNat % 16) 0] else [c]
def escs (s : Str) : Str := (s.map escQ).flatten
def putQ (s : Str) : Str := 34 :: escs s ++ [34]
theorem escQ_len (c : UInt8) : (escQ c).length ≤ 6 := by
  unfold escQ
  repeat' split
  all_goals simp
theorem escs_len : ∀ s : Str, (escs s).length ≤ 6 * s.length
  | [] => by simp [escs]
  | c :: s => by
    have h1 := escs_len s
    have h2 := escQ_len c
    simp only [escs, List.map_cons, List.flatten_cons, List.length_append, List.length_cons] at h1 ⊢
    omega
theorem escs_succ {s : Str} {k : Nat} {c : UInt8} (h : s[k]? = some c) : escs (s.take (k + 1)) = escs (s.take k) ++ escQ c := by
  have hlt := (List.getElem?_eq_some_iff.1 h).1
  rw [List.take_succ_eq_append_getElem hlt, (List.getElem?_eq_some_iff.1 h).2]
  simp [escs]
/-- no longer than may be -/
def lng (b : Str) : Except Int Str := if 65536 < b.length then .error 3 else .ok b
def txtW (b s : Str) : Except Int Str := if 65536 < s.length then .error 3 else if validR s then lng (b ++ putQ s) else .error 1
namespace JV
/-- has a value nothing but what its kind has? -/
def bare (v : JV) : Bool := decide (0 ≤ v.kind ∧ v.kind ≤ 5) && (decide (v.kind = 1) || !v.is) && (decide (v.kind = 2) || decide (v.num = 0)) && (decide (v.kind = 3) || decide (v.str = [])) && (decide (v.kind = 4) || decide (v.list.length = 0)) && (decide (v.kind = 5) || decide (v.map.length = 0)) && (!decide (v.kind = 2) || decide (-9007199254740991 ≤ v.num ∧ v.num ≤ 9007199254740991))
abbrev tNull : Str := [110, 117, 108, 108]
abbrev tTrue : Str := [116, 114, 117, 101]
abbrev tFalse : Str := [102, 97, 108, 115, 101]
mutual
/-- a value's text behind bytes; an error's number -/
def wr : JV → Nat → Str → Except Int Str
  | .mk k is n s l m, deep, b =>
    if bare (.mk k is n s l m) = false then .error 1 else
    if k = 0 then lng (b ++ tNull) else
    if k = 1 then lng (b ++ if is then tTrue else tFalse) else
    if k = 2 then lng (b ++ Lib.itoa n) else
    if k = 3 then txtW b s else
    if deep = 32 then .error 5 else
    if k = 4 then (lng (b ++ [91])).bind fun b => (wrl l deep true b).bind fun b => lng (b ++ [93])
    else (lng (b ++ [123])).bind fun b => (wrm m deep none b).bind fun b => lng (b ++ [125])
def wrl : List JV → Nat → Bool → Str → Except Int Str
  | [], _, _, b => .ok b
  | v :: r, deep, fst, b => (if fst then Except.ok b else lng (b ++ [44])).bind fun b => (wr v (deep + 1) b).bind fun b => wrl r deep false b
def wrm : List (List UInt8 × JV) → Nat → Option Str → Str → Except Int Str
  | [], _, _, b => .ok b
  | p :: r, deep, prev, b => (match prev with
      | none => Except.ok b
      | some q => (lng (b ++ [44])).bind fun b => if bl q p.1 then .ok b else .error 1).bind fun b =>
    (txtW b p.1).bind fun b => (lng (b ++ [58])).bind fun b => (wr p.2 (deep + 1) b).bind fun b => wrm r deep (some p.1) b
end
theorem wr_eq (v : JV) (deep : Nat) (b : Str) : wr v deep b = 
    if bare v = false then .error 1 else
    if v.kind = 0 then lng (b ++ tNull) else
    if v.kind = 1 then lng (b ++ if v.is then tTrue else tFalse) else
    if v.kind = 2 then lng (b ++ Lib.itoa v.num) else
    if v.kind = 3 then txtW b v.str else
    if deep = 32 then .error 5 else
    if v.kind = 4 then (lng (b ++ [91])).bind fun b => (wrl v.list deep true b).bind fun b => lng (b ++ [93])
    else (lng (b ++ [123])).bind fun b => (wrm v.map deep none b).bind fun b => lng (b ++ [125]) := by
  cases v
  rw [wr]
  rfl
end JV
end Go.Proofs.YtkhbnhdlelmbnaaDoor.V

set_option linter.unusedVariables false
set_option linter.unusedSimpArgs false
namespace Go.Proofs.YtkhbnhdlelmbnaaDoor.V
open Go
section
variable {P : Program} {l : List (Nat × Value)} {w : World} {ty : TypeId} {pos : String} {af : Array Edge} {dd : Option Nat} {gg : Option (Nat × Bool)} {x y lo : Operand} {t : TypeId}
theorem o_ssfrom {u : List UInt8} {n : Nat} (ht : P.underlying t = some .string) (hx : evO l x = some (S u)) (hl : evO l lo = some (.int .i64 (n : Int))) (hb : n ≤ u.length) : Runs P l ⟨dd, .slice t x (some lo) none none, ty, pos, af, gg⟩ w (S (u.drop n)) w :=
  (o_ssl (pl := some (.i64, (n : Int))) (ph := none) ht hx (by simp [evS, hl]) rfl (by simp only [loV, hiV]; omega)).to (by
    simp only [loV, hiV, Int.toNat_natCast]
    rw [List.take_of_length_le (by simp)])
end
theorem runeC_no {l : List UInt8} {j d : Nat} {b : UInt8} (h : l[j]? = some b) (hb : b.toNat < 128 ∨ 192 ≤ b.toNat) : runeC (l.drop j) d = none := by
  obtain ⟨hj, rfl⟩ := List.getElem?_eq_some_iff.1 h
  rw [List.drop_eq_getElem_cons hj, runeC, if_pos hb]
theorem runeC_go {l : List UInt8} {j d : Nat} {b : UInt8} (h : l[j]? = some b) (hb : ¬ (b.toNat < 128 ∨ 192 ≤ b.toNat)) : runeC (l.drop j) d = runeC (l.drop (j + 1)) (d * 64 + b.toNat % 64) := by
  obtain ⟨hj, rfl⟩ := List.getElem?_eq_some_iff.1 h
  rw [List.drop_eq_getElem_cons hj, runeC, if_neg hb]
theorem runeR_small {b0 : UInt8} {r : Str} (h : b0.toNat < 128) : runeR (b0 :: r) = (b0.toNat, 1) := by simp [runeR, h]
theorem runeR_short {b0 : UInt8} {r : Str} {n l c : Nat} (hge : ¬ b0.toNat < 128) (hH : runeH b0.toNat = (n, l, c)) (h : n = 0 ∨ (b0 :: r).length < n) : runeR (b0 :: r) = (0, 0) := by
  unfold runeR
  simp only [if_neg hge, hH]
  rw [if_pos h]
theorem runeR_at {b0 : UInt8} {r : Str} {n l c : Nat} (hge : ¬ b0.toNat < 128) (hH : runeH b0.toNat = (n, l, c)) (h : ¬ (n = 0 ∨ (b0 :: r).length < n)) :
    runeR (b0 :: r) = match runeC (r.take (n - 1)) c with | none => (0, 0) | some c => if c < l ∨ 1114111 < c ∨ (55296 ≤ c ∧ c ≤ 57343) then (0, 0) else (c, n) := by
  show (if b0.toNat < 128 then (b0.toNat, 1) else if (runeH b0.toNat).1 = 0 ∨ (b0 :: r).length < (runeH b0.toNat).1 then (0, 0) else _) = _
  rw [if_neg hge, hH, if_neg h] <;> rfl
theorem runeR_none {b0 : UInt8} {r : Str} {n l c : Nat} (hge : ¬ b0.toNat < 128) (hH : runeH b0.toNat = (n, l, c)) (h : ¬ (n = 0 ∨ (b0 :: r).length < n)) (hc : runeC (r.take (n - 1)) c = none) : runeR (b0 :: r) = (0, 0) := by rw [runeR_at hge hH h, hc]
theorem runeR_bad {b0 : UInt8} {r : Str} {n l c d : Nat} (hge : ¬ b0.toNat < 128) (hH : runeH b0.toNat = (n, l, c)) (h : ¬ (n = 0 ∨ (b0 :: r).length < n)) (hc : runeC (r.take (n - 1)) c = some d) (hb : d < l ∨ 1114111 < d ∨ (55296 ≤ d ∧ d ≤ 57343)) : runeR (b0 :: r) = (0, 0) := by
  rw [runeR_at hge hH h, hc]
  exact if_pos hb
theorem runeR_good {b0 : UInt8} {r : Str} {n l c d : Nat} (hge : ¬ b0.toNat < 128) (hH : runeH b0.toNat = (n, l, c)) (h : ¬ (n = 0 ∨ (b0 :: r).length < n)) (hc : runeC (r.take (n - 1)) c = some d) (hb : ¬ (d < l ∨ 1114111 < d ∨ (55296 ≤ d ∧ d ≤ 57343))) : runeR (b0 :: r) = (d, n) := by
  rw [runeR_at hge hH h, hc]
  exact if_neg hb
end Go.Proofs.YtkhbnhdlelmbnaaDoor.V

set_option linter.unusedVariables false
set_option linter.unusedSimpArgs false
set_option maxRecDepth 10000
namespace Go.Proofs.YtkhbnhdlelmbnaaDoor.V
open Go Go.Proofs
theorem fd25_3 : fdB Tryd.prog 25 3 3 1 = true := by kernel_rfl
theorem sc9 : scB Tryd.prog 9 = true := by kernel_rfl
theorem fd25_4 : fdB Tryd.prog 25 4 4 1 = true := by kernel_rfl
theorem sc22 : scB Tryd.prog 22 = true := by kernel_rfl
theorem sl22 : slB Tryd.prog 22 25 6 88 = true := by kernel_rfl
theorem ag25 : agB Tryd.prog 25 6 = true := by kernel_rfl
theorem ent21 : Ent Tryd.prog 21 := Ent.of Tryd.func21 (by kernel_rfl) (by kernel_rfl)
theorem fd25_5 : fdB Tryd.prog 25 5 5 1 = true := by kernel_rfl
theorem sc23 : scB Tryd.prog 23 = true := by kernel_rfl
theorem wide : Tryd.prog.follows .mixedOrders = true := by kernel_rfl
theorem sl23 : slB Tryd.prog 23 62 7 104 = true := by kernel_rfl
theorem fd62_1 : fdB Tryd.prog 62 1 1 6 = true := by kernel_rfl
theorem fd62_0 : fdB Tryd.prog 62 0 0 1 = true := by kernel_rfl
theorem ag62 : agB Tryd.prog 62 7 = true := by kernel_rfl
theorem zv62 : zvB Tryd.prog 62 ([S [], .int .i64 0, .bool false, .int .i64 0, S [], .slice none 0 0, .slice none 0 0]) := by unfold zvB; kernel_rfl
theorem zv25 : zvB Tryd.prog 25 ([.int .i64 0, .bool false, .int .i64 0, S [], .slice none 0 0, .slice none 0 0]) := by unfold zvB; kernel_rfl
theorem c_weigh_step (N : Nat) (ih : ∀ (w : World) (v : JV) (us : List Value) (left deep : Int), v.sz ≤ N → Reps [] w v.D us → Calls Tryd.prog 21 [.agg us.toArray, .int .i64 left, .int .i64 deep].toArray w (Ret fun u w' => u = .int .i64 (v.weigh left deep) ∧ Mod [] w w')) (w : World) (v : JV) (us : List Value) (left deep : Int) (hN : v.sz ≤ N + 1) (R : Reps [] w v.D us) : Calls Tryd.prog 21 [.agg us.toArray, .int .i64 left, .int .i64 deep].toArray w (Ret fun u w' => u = .int .i64 (v.weigh left deep) ∧ Mod [] w w') := by
  refine enter Tryd.func21 rfl rfl rfl (l := [(0, _), (1, _), (2, _)]) ⟨rfl, rfl, rfl, trivial⟩ ?_
  have E := Mod.refl [] w
  obtain ⟨al, cl, am, cm, rfl, Rl, Rm⟩ := JV.cells_ R
  refine c_seq fun K1 hK1 => ?_
  refine c_region ?_
  refine s_box rfl rfl rfl fun g1 w1 N1 => ?_
  have Lg1_E := N1.le E
  replace E := E.then N1.mod
  have Bg1 := N1.blk
  refine sv (o_as rfl) rfl ?_
  refine l_nil ?_
  refine e_K (hK1 _ _ _ _ ?_)
  refine c_seq fun K2 hK2 => ?_
  refine c_region ?_
  refine sv (o_mv rfl) rfl ?_
  refine sv (o_sub rfl rfl) rfl ?_
  refine sv (o_fa0 fd25_3 rfl) rfl ?_
  refine sv (o_ld sc9 rfl (Bg1.cell rfl)) rfl ?_
  refine sv (o_slen Tryd.underlying9 rfl) rfl ?_
  refine sv (o_sub rfl rfl) rfl ?_
  refine sv (o_as rfl) rfl ?_
  refine l_nil ?_
  refine e_K (hK2 _ _ _ _ ?_)
  refine c_seq fun K3 hK3 => ?_
  refine c_seq fun K4 hK4 => ?_
  refine c_region ?_
  refine sv (o_mv rfl) rfl ?_
  refine sv (o_eql rfl rfl) rfl ?_
  refine l_nil ?_
  refine e_K (hK4 _ _ _ _ ?_)
  refine c_if rfl (fun h16 => ?_) (fun h16 => ?_)
  · skip
    refine c_seq fun K5 hK5 => ?_
    refine c_region ?_
    refine sv (o_as rfl) rfl ?_
    refine l_nil ?_
    refine e_K (hK5 _ _ _ _ ?_)
    refine c_ret ?_
    refine e_then (by simp) ?_
    exact ret1 rfl rfl ⟨by rw [JV.weigh_eq, if_pos h16], E⟩
  · skip
    have hd0 : ¬ deep = 0 := h16
    have hW := JV.weigh_eq v left deep
    rw [if_neg hd0] at hW
    refine c_skip ?_
    refine e_K (hK3 _ _ _ _ ?_)
    refine c_seq fun K6 hK6 => ?_
    refine c_seq fun K7 hK7 => ?_
    refine c_region ?_
    refine sv (o_as rfl) rfl ?_
    refine l_nil ?_
    refine e_K (hK7 _ _ _ _ ?_)
    refine c_block ?_
    refine c_loop (σ := Nat × Int) (fun ⟨k, z⟩ => [(1, .int .i64 z), (2, .int .i64 deep), (3, .pointer (some ⟨g1, 0, none⟩)), (7, .int .i64 (k : Int))]) (fun ⟨k, z⟩ w1 => k ≤ v.list.length ∧ JV.weighl (v.list.drop k) z (w64 (deep - 1)) = JV.weighl v.list (w64 (w64 (left - 1) - v.str.length)) (w64 (deep - 1)) ∧ Blk w1 g1 25 [.int .i64 v.kind, .bool v.is, .int .i64 v.num, S v.str, .slice al v.list.length cl, .slice am v.map.length cm] ∧ Mod [] w w1) (fun ⟨k, z⟩ => v.list.length - k) (⟨0, (w64 (w64 (left - 1) - v.str.length))⟩) ⟨rfl, rfl, rfl, rfl, trivial⟩ (⟨by omega, rfl, Bg1, E⟩) ?_
    rintro ⟨k, z⟩ w2 ⟨hk, hz1, Bg1, E⟩
    refine c_seq fun K8 hK8 => ?_
    refine c_seq fun K9 hK9 => ?_
    by_cases hs5_0 : (k : Int) < (v.list.length : Int)
    · skip
      refine c_region ?_
      refine sv (o_mv rfl) rfl ?_
      refine sv (o_fa0 fd25_4 rfl) rfl ?_
      refine sv (o_ld sc22 rfl (Bg1.cell rfl)) rfl ?_
      refine sv (o_len Tryd.underlying22 rfl) rfl ?_
      refine sv (o_lss rfl rfl) rfl ?_
      refine sv (o_mv rfl) rfl ?_
      refine sg rfl (decide_eq_true hs5_0) (o_mv rfl) rfl ?_
      refine sg rfl (decide_eq_true hs5_0) (o_geq rfl rfl) rfl ?_
      refine sv (o_pickT (decide_eq_true hs5_0) rfl rfl) rfl ?_
      refine l_nil ?_
      refine e_K (hK9 _ _ _ _ ?_)
      refine c_if rfl (fun h25 => ?_) (fun h25 => ?_)
      · skip
        obtain ⟨x, hx_x⟩ : ∃ x, v.list[k]? = some x := ⟨_, List.getElem?_eq_getElem (by omega)⟩
        obtain ⟨a_x, us_x, ha_x, R_x, hcs0_x⟩ := JV.at_l Rl hx_x
        obtain ⟨al_x, cl_x, am_x, cm_x, rfl, Rl_x, Rm_x⟩ := JV.cells_ R_x
        have hcs_x := hcs0_x.mod0 E
        have hcap_x := JV.cap_l Rl
        obtain rfl := ha_x
        have hz : ¬ z < 0 := by omega
        have hS := JV.weighl_at (d := (w64 (deep - 1))) hx_x hz
        refine c_skip ?_
        refine e_K (hK8 _ _ _ _ ?_)
        refine c_seq fun K10 hK10 => ?_
        refine c_block ?_
        refine c_region ?_
        refine sv (o_fa0 fd25_4 rfl) rfl ?_
        refine sv (o_ld sc22 rfl (Bg1.cell rfl)) rfl ?_
        refine sv (o_mv rfl) rfl ?_
        refine sv (o_ix sl22 rfl rfl (by omega)) rfl ?_
        refine sv (o_lda ag25 rfl rfl hcs_x) rfl ?_
        refine sv (o_mv rfl) rfl ?_
        refine sv (o_mv rfl) rfl ?_
        refine sv (o_sub rfl rfl) rfl ?_
        refine sc (o_call ent21 rfl) (ih _ x _ z _ (by have := JV.sz_in_list (List.mem_of_getElem? hx_x); omega) (R_x.to0 E)) rfl fun v_ w3 h_ => ?_
        obtain ⟨rfl, E_⟩ := h_
        replace Bg1 := Bg1.mod0 E_
        replace E := E.then E_
        refine sv (o_as rfl) rfl ?_
        refine l_nil ?_
        refine e_in (by simp) ?_
        refine e_K (hK10 _ _ _ _ ?_)
        refine c_region ?_
        refine sv (o_mv rfl) rfl ?_
        refine sv (o_addN rfl rfl (by omega)) rfl ?_
        refine sv (o_as rfl) rfl ?_
        refine l_nil ?_
        have hcap := JV.cap_l Rl
        exact e_round (σ := Nat × Int) (s := ⟨k, z⟩) (⟨k + 1, x.weigh z (w64 (deep - 1))⟩) ⟨rfl, rfl, rfl, rfl, trivial⟩ ⟨by omega, by rw [← hS]; exact hz1, Bg1, E⟩ (by dsimp only; omega)
      · skip
        have hz2 : JV.weighl v.list (w64 (w64 (left - 1) - v.str.length)) (w64 (deep - 1)) = z := by rw [← hz1]; exact JV.weighl_neg (by omega)
        refine c_exit ?_
        refine e_then (by simp) ?_
        refine e_then (by simp) ?_
        refine e_hit ?_
        refine e_K (hK6 _ _ _ _ ?_)
        refine c_seq fun K11 hK11 => ?_
        refine c_seq fun K12 hK12 => ?_
        refine c_region ?_
        refine sv (o_as rfl) rfl ?_
        refine l_nil ?_
        refine e_K (hK12 _ _ _ _ ?_)
        refine c_block ?_
        refine c_loop (σ := Nat × Int) (fun ⟨k, y⟩ => [(1, .int .i64 y), (2, .int .i64 deep), (3, .pointer (some ⟨g1, 0, none⟩)), (8, .int .i64 (k : Int))]) (fun ⟨k, y⟩ w1 => k ≤ v.map.length ∧ JV.weighm (v.map.drop k) y (w64 (deep - 1)) = JV.weighm v.map z (w64 (deep - 1)) ∧ Blk w1 g1 25 [.int .i64 v.kind, .bool v.is, .int .i64 v.num, S v.str, .slice al v.list.length cl, .slice am v.map.length cm] ∧ Mod [] w w1) (fun ⟨k, y⟩ => v.map.length - k) (⟨0, z⟩) ⟨rfl, rfl, rfl, rfl, trivial⟩ (⟨by omega, rfl, Bg1, E⟩) ?_
        rintro ⟨k, y⟩ w4 ⟨hk, hy1, Bg1, E⟩
        refine c_seq fun K13 hK13 => ?_
        refine c_seq fun K14 hK14 => ?_
        by_cases hs9_0 : (k : Int) < (v.map.length : Int)
        · skip
          refine c_region ?_
          refine sv (o_mv rfl) rfl ?_
          refine sv (o_fa0 fd25_5 rfl) rfl ?_
          refine sv (o_ld sc23 rfl (Bg1.cell rfl)) rfl ?_
          refine sv (o_len Tryd.underlying23 rfl) rfl ?_
          refine sv (o_lss rfl rfl) rfl ?_
          refine sv (o_mv rfl) rfl ?_
          refine sg rfl (decide_eq_true hs9_0) (o_mv rfl) rfl ?_
          refine sg rfl (decide_eq_true hs9_0) (o_geq rfl rfl) rfl ?_
          refine sv (o_pickT (decide_eq_true hs9_0) rfl rfl) rfl ?_
          refine l_nil ?_
          refine e_K (hK14 _ _ _ _ ?_)
          refine c_if rfl (fun h45 => ?_) (fun h45 => ?_)
          · skip
            obtain ⟨x, hx_x⟩ : ∃ x, v.map[k]? = some x := ⟨_, List.getElem?_eq_getElem (by omega)⟩
            obtain ⟨a_x, us_x, ha_x, R_x, hcs0_x⟩ := JV.at_m Rm hx_x
            obtain ⟨al_x, cl_x, am_x, cm_x, rfl, Rl_x, Rm_x⟩ := JV.cells_ R_x
            have hcs_x := hcs0_x.mod0 E
            have hcap_x := JV.cap_m Rm
            obtain rfl := ha_x
            have hz : ¬ y < 0 := by omega
            have hS := JV.weighm_at (d := (w64 (deep - 1))) hx_x hz
            refine c_skip ?_
            refine e_K (hK13 _ _ _ _ ?_)
            refine c_seq fun K15 hK15 => ?_
            refine c_block ?_
            refine c_draw wide (by kernel_rfl) ?_
            refine tv (fun w_ E_ => (o_fa0 fd25_5 rfl)) rfl rfl ?_
            refine tv (fun w_ E_ => (o_ld sc23 rfl ((Bg1.mod0 E_).cell rfl))) rfl rfl ?_
            refine tv (fun w_ E_ => (o_mv rfl)) rfl rfl ?_
            refine tv (fun w_ E_ => (o_ix sl23 rfl rfl (by omega))) rfl rfl ?_
            refine tv (fun w_ E_ => (o_fad fd62_1 rfl)) rfl rfl ?_
            refine tv (fun w_ E_ => (o_lda ag25 rfl rfl (hcs_x.mod0 E_).tail_)) rfl rfl ?_
            refine tv (fun w_ E_ => (o_mv rfl)) rfl rfl ?_
            refine tv (fun w_ E_ => (o_fa0 fd25_5 rfl)) rfl rfl ?_
            refine tv (fun w_ E_ => (o_ld sc23 rfl ((Bg1.mod0 E_).cell rfl))) rfl rfl ?_
            refine tv (fun w_ E_ => (o_mv rfl)) rfl rfl ?_
            refine tv (fun w_ E_ => (o_ix sl23 rfl rfl (by omega))) rfl rfl ?_
            refine tv (fun w_ E_ => (o_fad fd62_0 rfl)) rfl rfl ?_
            refine tv (fun w_ E_ => (o_ld sc9 rfl ((hcs_x.mod0 E_) 0 _ rfl))) rfl rfl ?_
            refine tv (fun w_ E_ => (o_slen Tryd.underlying9 rfl)) rfl rfl ?_
            refine tv (fun w_ E_ => (o_sub rfl rfl)) rfl rfl ?_
            refine tv (fun w_ E_ => (o_mv rfl)) rfl rfl ?_
            refine tv (fun w_ E_ => (o_sub rfl rfl)) rfl rfl ?_
            refine tc (fun w_ E_ => o_call ent21 rfl) (fun w_ E_ => ih _ x.2 _ _ _ (by have := JV.sz_in_map (List.mem_of_getElem? hx_x); omega) (R_x.to0 (E.then E_))) rfl rfl ?_
            refine tv (fun w_ E_ => (o_as rfl)) rfl rfl ?_
            refine tw_nil rfl fun w5 E_ => ?_
            replace Bg1 := Bg1.mod0 E_
            replace E := E.then E_
            refine e_in (by simp) ?_
            refine e_K (hK15 _ _ _ _ ?_)
            refine c_region ?_
            refine sv (o_mv rfl) rfl ?_
            refine sv (o_addN rfl rfl (by omega)) rfl ?_
            refine sv (o_as rfl) rfl ?_
            refine l_nil ?_
            have hcap := JV.cap_m Rm
            exact e_round (σ := Nat × Int) (s := ⟨k, y⟩) (⟨k + 1, x.2.weigh (w64 (y - x.1.length)) (w64 (deep - 1))⟩) ⟨rfl, rfl, rfl, rfl, trivial⟩ ⟨by omega, by rw [← hS]; exact hy1, Bg1, E⟩ (by dsimp only; omega)
          · skip
            have hz3 : v.weigh left deep = y := by rw [hW, hz2, ← hy1]; exact JV.weighm_neg (by omega)
            refine c_exit ?_
            refine e_then (by simp) ?_
            refine e_then (by simp) ?_
            refine e_hit ?_
            refine e_K (hK11 _ _ _ _ ?_)
            refine c_seq fun K16 hK16 => ?_
            refine c_region ?_
            refine sv (o_mv rfl) rfl ?_
            refine sv (o_as rfl) rfl ?_
            refine l_nil ?_
            refine e_K (hK16 _ _ _ _ ?_)
            refine c_ret ?_
            exact ret1 rfl rfl ⟨by rw [hz3], E⟩
        · skip
          refine c_region ?_
          refine sv (o_mv rfl) rfl ?_
          refine sv (o_fa0 fd25_5 rfl) rfl ?_
          refine sv (o_ld sc23 rfl (Bg1.cell rfl)) rfl ?_
          refine sv (o_len Tryd.underlying23 rfl) rfl ?_
          refine sv (o_lss rfl rfl) rfl ?_
          refine sv (o_mv rfl) rfl ?_
          refine sn rfl (fun e_ => absurd ((decide_eq_false hs9_0).symm.trans e_) (by decide)) rfl ?_
          refine sn rfl (fun e_ => absurd ((decide_eq_false hs9_0).symm.trans e_) (by decide)) rfl ?_
          refine sv (o_pickF (decide_eq_false hs9_0) rfl rfl) rfl ?_
          refine l_nil ?_
          refine e_K (hK14 _ _ _ _ ?_)
          refine c_false rfl ?_
          have hz3 : v.weigh left deep = y := by rw [hW, hz2, ← hy1]; exact JV.weighm_end (by omega)
          refine c_exit ?_
          refine e_then (by simp) ?_
          refine e_then (by simp) ?_
          refine e_hit ?_
          refine e_K (hK11 _ _ _ _ ?_)
          refine c_seq fun K17 hK17 => ?_
          refine c_region ?_
          refine sv (o_mv rfl) rfl ?_
          refine sv (o_as rfl) rfl ?_
          refine l_nil ?_
          refine e_K (hK17 _ _ _ _ ?_)
          refine c_ret ?_
          exact ret1 rfl rfl ⟨by rw [hz3], E⟩
    · skip
      refine c_region ?_
      refine sv (o_mv rfl) rfl ?_
      refine sv (o_fa0 fd25_4 rfl) rfl ?_
      refine sv (o_ld sc22 rfl (Bg1.cell rfl)) rfl ?_
      refine sv (o_len Tryd.underlying22 rfl) rfl ?_
      refine sv (o_lss rfl rfl) rfl ?_
      refine sv (o_mv rfl) rfl ?_
      refine sn rfl (fun e_ => absurd ((decide_eq_false hs5_0).symm.trans e_) (by decide)) rfl ?_
      refine sn rfl (fun e_ => absurd ((decide_eq_false hs5_0).symm.trans e_) (by decide)) rfl ?_
      refine sv (o_pickF (decide_eq_false hs5_0) rfl rfl) rfl ?_
      refine l_nil ?_
      refine e_K (hK9 _ _ _ _ ?_)
      refine c_false rfl ?_
      have hz2 : JV.weighl v.list (w64 (w64 (left - 1) - v.str.length)) (w64 (deep - 1)) = z := by rw [← hz1]; exact JV.weighl_end (by omega)
      refine c_exit ?_
      refine e_then (by simp) ?_
      refine e_then (by simp) ?_
      refine e_hit ?_
      refine e_K (hK6 _ _ _ _ ?_)
      refine c_seq fun K18 hK18 => ?_
      refine c_seq fun K19 hK19 => ?_
      refine c_region ?_
      refine sv (o_as rfl) rfl ?_
      refine l_nil ?_
      refine e_K (hK19 _ _ _ _ ?_)
      refine c_block ?_
      refine c_loop (σ := Nat × Int) (fun ⟨k, y⟩ => [(1, .int .i64 y), (2, .int .i64 deep), (3, .pointer (some ⟨g1, 0, none⟩)), (8, .int .i64 (k : Int))]) (fun ⟨k, y⟩ w1 => k ≤ v.map.length ∧ JV.weighm (v.map.drop k) y (w64 (deep - 1)) = JV.weighm v.map z (w64 (deep - 1)) ∧ Blk w1 g1 25 [.int .i64 v.kind, .bool v.is, .int .i64 v.num, S v.str, .slice al v.list.length cl, .slice am v.map.length cm] ∧ Mod [] w w1) (fun ⟨k, y⟩ => v.map.length - k) (⟨0, z⟩) ⟨rfl, rfl, rfl, rfl, trivial⟩ (⟨by omega, rfl, Bg1, E⟩) ?_
      rintro ⟨k, y⟩ w6 ⟨hk, hy1, Bg1, E⟩
      refine c_seq fun K20 hK20 => ?_
      refine c_seq fun K21 hK21 => ?_
      by_cases hs9_0 : (k : Int) < (v.map.length : Int)
      · skip
        refine c_region ?_
        refine sv (o_mv rfl) rfl ?_
        refine sv (o_fa0 fd25_5 rfl) rfl ?_
        refine sv (o_ld sc23 rfl (Bg1.cell rfl)) rfl ?_
        refine sv (o_len Tryd.underlying23 rfl) rfl ?_
        refine sv (o_lss rfl rfl) rfl ?_
        refine sv (o_mv rfl) rfl ?_
        refine sg rfl (decide_eq_true hs9_0) (o_mv rfl) rfl ?_
        refine sg rfl (decide_eq_true hs9_0) (o_geq rfl rfl) rfl ?_
        refine sv (o_pickT (decide_eq_true hs9_0) rfl rfl) rfl ?_
        refine l_nil ?_
        refine e_K (hK21 _ _ _ _ ?_)
        refine c_if rfl (fun h45 => ?_) (fun h45 => ?_)
        · skip
          obtain ⟨x, hx_x⟩ : ∃ x, v.map[k]? = some x := ⟨_, List.getElem?_eq_getElem (by omega)⟩
          obtain ⟨a_x, us_x, ha_x, R_x, hcs0_x⟩ := JV.at_m Rm hx_x
          obtain ⟨al_x, cl_x, am_x, cm_x, rfl, Rl_x, Rm_x⟩ := JV.cells_ R_x
          have hcs_x := hcs0_x.mod0 E
          have hcap_x := JV.cap_m Rm
          obtain rfl := ha_x
          have hz : ¬ y < 0 := by omega
          have hS := JV.weighm_at (d := (w64 (deep - 1))) hx_x hz
          refine c_skip ?_
          refine e_K (hK20 _ _ _ _ ?_)
          refine c_seq fun K22 hK22 => ?_
          refine c_block ?_
          refine c_draw wide (by kernel_rfl) ?_
          refine tv (fun w_ E_ => (o_fa0 fd25_5 rfl)) rfl rfl ?_
          refine tv (fun w_ E_ => (o_ld sc23 rfl ((Bg1.mod0 E_).cell rfl))) rfl rfl ?_
          refine tv (fun w_ E_ => (o_mv rfl)) rfl rfl ?_
          refine tv (fun w_ E_ => (o_ix sl23 rfl rfl (by omega))) rfl rfl ?_
          refine tv (fun w_ E_ => (o_fad fd62_1 rfl)) rfl rfl ?_
          refine tv (fun w_ E_ => (o_lda ag25 rfl rfl (hcs_x.mod0 E_).tail_)) rfl rfl ?_
          refine tv (fun w_ E_ => (o_mv rfl)) rfl rfl ?_
          refine tv (fun w_ E_ => (o_fa0 fd25_5 rfl)) rfl rfl ?_
          refine tv (fun w_ E_ => (o_ld sc23 rfl ((Bg1.mod0 E_).cell rfl))) rfl rfl ?_
          refine tv (fun w_ E_ => (o_mv rfl)) rfl rfl ?_
          refine tv (fun w_ E_ => (o_ix sl23 rfl rfl (by omega))) rfl rfl ?_
          refine tv (fun w_ E_ => (o_fad fd62_0 rfl)) rfl rfl ?_
          refine tv (fun w_ E_ => (o_ld sc9 rfl ((hcs_x.mod0 E_) 0 _ rfl))) rfl rfl ?_
          refine tv (fun w_ E_ => (o_slen Tryd.underlying9 rfl)) rfl rfl ?_
          refine tv (fun w_ E_ => (o_sub rfl rfl)) rfl rfl ?_
          refine tv (fun w_ E_ => (o_mv rfl)) rfl rfl ?_
          refine tv (fun w_ E_ => (o_sub rfl rfl)) rfl rfl ?_
          refine tc (fun w_ E_ => o_call ent21 rfl) (fun w_ E_ => ih _ x.2 _ _ _ (by have := JV.sz_in_map (List.mem_of_getElem? hx_x); omega) (R_x.to0 (E.then E_))) rfl rfl ?_
          refine tv (fun w_ E_ => (o_as rfl)) rfl rfl ?_
          refine tw_nil rfl fun w7 E_ => ?_
          replace Bg1 := Bg1.mod0 E_
          replace E := E.then E_
          refine e_in (by simp) ?_
          refine e_K (hK22 _ _ _ _ ?_)
          refine c_region ?_
          refine sv (o_mv rfl) rfl ?_
          refine sv (o_addN rfl rfl (by omega)) rfl ?_
          refine sv (o_as rfl) rfl ?_
          refine l_nil ?_
          have hcap := JV.cap_m Rm
          exact e_round (σ := Nat × Int) (s := ⟨k, y⟩) (⟨k + 1, x.2.weigh (w64 (y - x.1.length)) (w64 (deep - 1))⟩) ⟨rfl, rfl, rfl, rfl, trivial⟩ ⟨by omega, by rw [← hS]; exact hy1, Bg1, E⟩ (by dsimp only; omega)
        · skip
          have hz3 : v.weigh left deep = y := by rw [hW, hz2, ← hy1]; exact JV.weighm_neg (by omega)
          refine c_exit ?_
          refine e_then (by simp) ?_
          refine e_then (by simp) ?_
          refine e_hit ?_
          refine e_K (hK18 _ _ _ _ ?_)
          refine c_seq fun K23 hK23 => ?_
          refine c_region ?_
          refine sv (o_mv rfl) rfl ?_
          refine sv (o_as rfl) rfl ?_
          refine l_nil ?_
          refine e_K (hK23 _ _ _ _ ?_)
          refine c_ret ?_
          exact ret1 rfl rfl ⟨by rw [hz3], E⟩
      · skip
        refine c_region ?_
        refine sv (o_mv rfl) rfl ?_
        refine sv (o_fa0 fd25_5 rfl) rfl ?_
        refine sv (o_ld sc23 rfl (Bg1.cell rfl)) rfl ?_
        refine sv (o_len Tryd.underlying23 rfl) rfl ?_
        refine sv (o_lss rfl rfl) rfl ?_
        refine sv (o_mv rfl) rfl ?_
        refine sn rfl (fun e_ => absurd ((decide_eq_false hs9_0).symm.trans e_) (by decide)) rfl ?_
        refine sn rfl (fun e_ => absurd ((decide_eq_false hs9_0).symm.trans e_) (by decide)) rfl ?_
        refine sv (o_pickF (decide_eq_false hs9_0) rfl rfl) rfl ?_
        refine l_nil ?_
        refine e_K (hK21 _ _ _ _ ?_)
        refine c_false rfl ?_
        have hz3 : v.weigh left deep = y := by rw [hW, hz2, ← hy1]; exact JV.weighm_end (by omega)
        refine c_exit ?_
        refine e_then (by simp) ?_
        refine e_then (by simp) ?_
        refine e_hit ?_
        refine e_K (hK18 _ _ _ _ ?_)
        refine c_seq fun K24 hK24 => ?_
        refine c_region ?_
        refine sv (o_mv rfl) rfl ?_
        refine sv (o_as rfl) rfl ?_
        refine l_nil ?_
        refine e_K (hK24 _ _ _ _ ?_)
        refine c_ret ?_
        exact ret1 rfl rfl ⟨by rw [hz3], E⟩

theorem c_weigh_all : ∀ N : Nat, ∀ (w : World) (v : JV) (us : List Value) (left deep : Int), v.sz ≤ N → Reps [] w v.D us → Calls Tryd.prog 21 [.agg us.toArray, .int .i64 left, .int .i64 deep].toArray w (Ret fun u w' => u = .int .i64 (v.weigh left deep) ∧ Mod [] w w')
  | 0, w, v, us, left, deep, h, R => absurd (JV.sz_eq v) (by omega)
  | N + 1, w, v, us, left, deep, h, R => c_weigh_step N (c_weigh_all N) w v us left deep h R
theorem c_weigh (w : World) (v : JV) (us : List Value) (left deep : Int) (R : Reps [] w v.D us) : Calls Tryd.prog 21 [.agg us.toArray, .int .i64 left, .int .i64 deep].toArray w (Ret fun u w' => u = .int .i64 (v.weigh left deep) ∧ Mod [] w w') := c_weigh_all v.sz w v us left deep (Nat.le_refl _) R

end Go.Proofs.YtkhbnhdlelmbnaaDoor.V

set_option linter.unusedVariables false
set_option linter.unusedSimpArgs false
set_option maxRecDepth 10000
namespace Go.Proofs.YtkhbnhdlelmbnaaDoor.V
open Go Go.Proofs
theorem fd25_0 : fdB Tryd.prog 25 0 0 1 = true := by kernel_rfl
theorem sc3 : scB Tryd.prog 3 = true := by kernel_rfl
theorem fd25_1 : fdB Tryd.prog 25 1 1 1 = true := by kernel_rfl
theorem sc4 : scB Tryd.prog 4 = true := by kernel_rfl
theorem fd25_2 : fdB Tryd.prog 25 2 2 1 = true := by kernel_rfl
end Go.Proofs.YtkhbnhdlelmbnaaDoor.V

set_option linter.unusedVariables false
set_option linter.unusedSimpArgs false
set_option maxRecDepth 10000
namespace Go.Proofs.YtkhbnhdlelmbnaaDoor.V
open Go Go.Proofs
end Go.Proofs.YtkhbnhdlelmbnaaDoor.V

set_option linter.unusedVariables false
set_option linter.unusedSimpArgs false
set_option maxRecDepth 10000
namespace Go.Proofs.YtkhbnhdlelmbnaaDoor.V
open Go Go.Proofs
theorem pl25 : plB Tryd.prog 25 [(0, 1), (1, 1), (2, 1), (3, 1), (4, 1), (5, 1)] = true := by kernel_rfl
end Go.Proofs.YtkhbnhdlelmbnaaDoor.V
