/-
  A part of the proof: how much a JSON value weighs, whether its keys rise, whether two are the same, in plain Lean; members put into a map: rows of seven cells; runes, texts between quotes, canonical texts of JSON values, as the document tells them, in plain Lean; runes, step by step. No condition of its own.
-/
import Derived.Test.YtkhbnhdlelmbnaaDoorM4
import Derived.Lib.ItoaLen
import Derived.Test.YtkhbnhdlelmbnaaDoorProg
set_option linter.unusedVariables false
set_option linter.unusedSimpArgs false
namespace Go.Proofs.YtkhbnhdlelmbnaaDoor.V
open Go
abbrev w64 (z : Int) : Int := IntKind.i64.wrap z
namespace JV
mutual
def weigh : JV → Int → Int → Int
  | .mk _ _ _ s l m, left, deep => if deep = 0 then -1 else weighm m (weighl l (w64 (w64 (left - 1) - s.length)) (w64 (deep - 1))) (w64 (deep - 1))
def weighl : List JV → Int → Int → Int
  | [], left, _ => left
  | v :: r, left, d => if left < 0 then left else weighl r (v.weigh left d) d
def weighm : List (List UInt8 × JV) → Int → Int → Int
  | [], left, _ => left
  | p :: r, left, d => if left < 0 then left else weighm r (p.2.weigh (w64 (left - p.1.length)) d) d
end
theorem weigh_eq (v : JV) (left deep : Int) : v.weigh left deep = if deep = 0 then -1 else weighm v.map (weighl v.list (w64 (w64 (left - 1) - v.str.length)) (w64 (deep - 1))) (w64 (deep - 1)) := by
  cases v
  simp only [weigh, map, list, str]
theorem weighl_neg {l : List JV} {z d : Int} (h : z < 0) : weighl l z d = z := by
  cases l <;> simp [weighl, h]
theorem weighm_neg {l : List (List UInt8 × JV)} {z d : Int} (h : z < 0) : weighm l z d = z := by
  cases l <;> simp [weighm, h]
theorem weighl_at {l : List JV} {k : Nat} {x : JV} {z d : Int} (hx : l[k]? = some x) (h : ¬ z < 0) : weighl (l.drop k) z d = weighl (l.drop (k + 1)) (x.weigh z d) d := by
  obtain ⟨hk, rfl⟩ := List.getElem?_eq_some_iff.1 hx
  rw [List.drop_eq_getElem_cons hk, weighl, if_neg h]
theorem weighm_at {l : List (List UInt8 × JV)} {k : Nat} {x : List UInt8 × JV} {z d : Int} (hx : l[k]? = some x) (h : ¬ z < 0) : weighm (l.drop k) z d = weighm (l.drop (k + 1)) (x.2.weigh (w64 (z - x.1.length)) d) d := by
  obtain ⟨hk, rfl⟩ := List.getElem?_eq_some_iff.1 hx
  rw [List.drop_eq_getElem_cons hk, weighm, if_neg h]
theorem weighl_end {l : List JV} {k : Nat} {z d : Int} (h : l.length ≤ k) : weighl (l.drop k) z d = z := by
  rw [List.drop_eq_nil_of_le h, weighl]
theorem weighm_end {l : List (List UInt8 × JV)} {k : Nat} {z d : Int} (h : l.length ≤ k) : weighm (l.drop k) z d = z := by
  rw [List.drop_eq_nil_of_le h, weighm]
open Classical in
noncomputable def ascB (m : List (List UInt8 × JV)) : Bool := decide (ascM m)
mutual
/-- do the keys rise, in all maps? -/
def Rise : JV → Prop
  | .mk _ _ _ _ l m => ascM m ∧ Risel l ∧ Risem m
def Risel : List JV → Prop
  | [] => True
  | v :: r => v.Rise ∧ Risel r
def Risem : List (List UInt8 × JV) → Prop
  | [] => True
  | p :: r => p.2.Rise ∧ Risem r
end
theorem Risel_mem : ∀ {l : List JV}, Risel l ↔ ∀ v ∈ l, v.Rise
  | [] => by simp [Risel]
  | v :: r => by simp [Risel, Risel_mem (l := r)]
theorem Risem_mem : ∀ {l : List (List UInt8 × JV)}, Risem l ↔ ∀ p ∈ l, p.2.Rise
  | [] => by simp [Risem]
  | v :: r => by simp [Risem, Risem_mem (l := r)]
theorem Rise_eq (v : JV) : v.Rise ↔ ascM v.map ∧ (∀ x ∈ v.list, x.Rise) ∧ ∀ p ∈ v.map, p.2.Rise := by
  cases v
  simp only [Rise, map, list, Risel_mem, Risem_mem]
open Classical in
noncomputable def rises (v : JV) : Bool := decide v.Rise
theorem rises_iff {v : JV} : v.rises = true ↔ v.Rise := by simp [rises]
theorem rises_false {v : JV} (h : ¬ v.Rise) : v.rises = false := by simp [rises, h]
theorem rises_true {v : JV} (h : v.Rise) : v.rises = true := by simp [rises, h]
theorem not_Rise_val {v : JV} {k : Nat} {p : List UInt8 × JV} (hp : v.map[k]? = some p) (h : p.2.rises = false) : v.rises = false := rises_false fun hr => by
  have := rises_true (((Rise_eq v).1 hr).2.2 p (List.mem_of_getElem? hp))
  rw [this] at h; cases h
theorem not_Rise_list {v x : JV} {k : Nat} (hp : v.list[k]? = some x) (h : x.rises = false) : v.rises = false := rises_false fun hr => by
  have := rises_true (((Rise_eq v).1 hr).2.1 x (List.mem_of_getElem? hp))
  rw [this] at h; cases h
theorem not_Rise_asc {v : JV} {i k : Nat} {p q : List UInt8 × JV} (hq : v.map[i]? = some q) (hp : v.map[k]? = some p) (hik : i < k) (h : bl q.1 p.1 = false) : v.rises = false := rises_false fun hr => by
  have := ascM_lt ((Rise_eq v).1 hr).1 hq hp hik
  rw [this] at h; cases h
theorem Rise_of {v : JV} (h1 : ∀ (i : Nat) (a b : List UInt8 × JV), v.map[i]? = some a → v.map[i + 1]? = some b → bl a.1 b.1 = true) (h2 : ∀ (i : Nat) (p : List UInt8 × JV), v.map[i]? = some p → p.2.rises = true) (h3 : ∀ (i : Nat) (x : JV), v.list[i]? = some x → x.rises = true) : v.rises = true := by
  refine rises_true ((Rise_eq v).2 ⟨ascM_of h1, fun x hx => ?_, fun p hp => ?_⟩)
  · obtain ⟨i, hi⟩ := List.getElem?_of_mem hx
    exact rises_iff.1 (h3 i x hi)
  · obtain ⟨i, hi⟩ := List.getElem?_of_mem hp
    exact rises_iff.1 (h2 i p hi)
open Classical in
/-- are two values the same? -/
noncomputable def eqJ (a b : JV) : Bool := decide (a = b)
theorem eqJ_iff {a b : JV} : eqJ a b = true ↔ a = b := by simp [eqJ]
theorem eqJ_self (a : JV) : eqJ a a = true := by simp [eqJ]
theorem eqJ_ne {a b : JV} (h : a ≠ b) : eqJ a b = false := by simp [eqJ, h]
theorem ext_ {a b : JV} (h1 : a.kind = b.kind) (h2 : a.is = b.is) (h3 : a.num = b.num) (h4 : a.str = b.str) (h5 : a.list = b.list) (h6 : a.map = b.map) : a = b := by
  rw [eta a, eta b, h1, h2, h3, h4, h5, h6]
theorem list_ext_ {α : Type} {a b : List α} (hl : a.length = b.length) (h : ∀ (i : Nat) (x y : α), i < a.length → a[i]? = some x → b[i]? = some y → x = y) : a = b := by
  apply List.ext_getElem hl
  intro i h1 h2
  exact h i _ _ h1 (List.getElem?_eq_getElem h1) (List.getElem?_eq_getElem h2)
end JV
end Go.Proofs.YtkhbnhdlelmbnaaDoor.V

set_option linter.unusedVariables false
set_option linter.unusedSimpArgs false
namespace Go.Proofs.YtkhbnhdlelmbnaaDoor.V
open Go
theorem ins_grow7 {n i : Nat} {vs news sc : List Value} (hv : vs.length = n * 7) (hn : news.length = (n + 1 - i) * 7) (hs : sc.length = 7) (hi : i ≤ n) :
    ((vs.take (i * 7) ++ news).take (i * 7) ++ sc ++ (vs.take (i * 7) ++ news).drop ((i + 1) * 7)).take ((i + 1) * 7) ++ (vs.drop (i * 7)).take ((n - i) * 7) ++ ((vs.take (i * 7) ++ news).take (i * 7) ++ sc ++ (vs.take (i * 7) ++ news).drop ((i + 1) * 7)).drop ((i + 1 + (n - i)) * 7) = vs.take (i * 7) ++ sc ++ vs.drop (i * 7) := by
  have h1 : (vs.take (i * 7)).length = i * 7 := by rw [List.length_take]; omega
  have h2 : (vs.take (i * 7) ++ news).take (i * 7) = vs.take (i * 7) := List.take_left' h1
  have h3 : (vs.take (i * 7) ++ sc).length = (i + 1) * 7 := by rw [List.length_append, h1, hs]; omega
  rw [h2]
  have h4 : ((vs.take (i * 7) ++ sc) ++ (vs.take (i * 7) ++ news).drop ((i + 1) * 7)).take ((i + 1) * 7) = vs.take (i * 7) ++ sc := by rw [← h3]; exact List.take_left
  have h5 : ((vs.take (i * 7) ++ sc) ++ (vs.take (i * 7) ++ news).drop ((i + 1) * 7)).drop ((i + 1 + (n - i)) * 7) = [] := List.drop_eq_nil_of_le (by rw [List.length_append, h3, List.length_drop, List.length_append, h1, hn]; omega)
  have h6 : (vs.drop (i * 7)).take ((n - i) * 7) = vs.drop (i * 7) := List.take_of_length_le (by rw [List.length_drop]; omega)
  rw [h4, h5, h6, List.append_nil]
/-- .. in place -/
theorem ins_room7 {n i : Nat} {vs vs' sc : List Value} (hv : vs.length = n * 7) (hv' : vs'.length = (n + 1) * 7) (ht : vs'.take (n * 7) = vs) (hs : sc.length = 7) (hi : i ≤ n) :
    (vs'.take ((i + 1) * 7) ++ (vs'.drop (i * 7)).take ((n - i) * 7) ++ vs'.drop ((i + 1 + (n - i)) * 7)).take (i * 7) ++ sc ++ (vs'.take ((i + 1) * 7) ++ (vs'.drop (i * 7)).take ((n - i) * 7) ++ vs'.drop ((i + 1 + (n - i)) * 7)).drop ((i + 1) * 7) = vs.take (i * 7) ++ sc ++ vs.drop (i * 7) := by
  have h1 : (vs'.take ((i + 1) * 7)).length = (i + 1) * 7 := by rw [List.length_take]; omega
  have h2 : vs'.drop ((i + 1 + (n - i)) * 7) = [] := List.drop_eq_nil_of_le (by omega)
  rw [h2, List.append_nil]
  congr 1
  · congr 1
    rw [List.take_append_of_le_length (by omega), List.take_take, ← ht, List.take_take]
    congr 1
    omega
  · rw [List.drop_left' h1, ← ht, List.drop_take]
    congr 1
    omega

theorem JV.none_m {A : List Nat} {w : World} {m : List (Str × JV)} {n c : Nat} (R : Rep A w (.sl 7 (m.map JV.Dp)) (.slice none n c)) : m = [] := by
  cases m with
  | nil => rfl
  | cons p r =>
    obtain ⟨a, us, h, _⟩ := JV.at_m (i := 0) (p := p) R rfl
    cases h
namespace JV
/-- what Get answers -/
def get (v : JV) (k : Str) : Option JV := if v.kind = 5 then look v.map k else none
/-- a map's members -/
def tbl (v : JV) : List (Str × JV) := if v.kind = 5 then v.map else []
/-- a map -/
def obj (m : List (Str × JV)) : JV := .mk 5 false 0 [] [] m
theorem obj_reps {A : List Nat} {w : World} {m : List (Str × JV)} {am : Option Addr} {cm : Nat} (R : Rep A w (.sl 7 (m.map Dp)) (.slice am m.length cm)) : Reps A w (obj m).D [.int .i64 5, .bool false, .int .i64 0, S [], .slice none 0 0, .slice am m.length cm] :=
  reps_ (v := obj m) (al := none) (cl := 0) Rep.sl_nil R
end JV
theorem posM_put {m : List (Str × JV)} {k : Str} {x : JV} (h : ascM m) : (look m k).isSome = true → putM m k x = m.set (posM m k) (k, x) := fun hs => by
  obtain ⟨y, hy, hk, _⟩ := isM_some h hs
  exact (thereM h hy hk).2 x
theorem posM_ins {m : List (Str × JV)} {k : Str} {x : JV} (h : ascM m) : (look m k).isSome = false → putM m k x = m.take (posM m k) ++ [(k, x)] ++ m.drop (posM m k) := fun hs => (goneM h (isM_none h hs)).2 x
end Go.Proofs.YtkhbnhdlelmbnaaDoor.V

set_option linter.unusedVariables false
set_option linter.unusedSimpArgs false
namespace Go.Proofs.YtkhbnhdlelmbnaaDoor.V
open Go
/-- the bytes behind a rune's first -/
def runeC : List UInt8 → Nat → Option Nat
  | [], c => some c
  | b :: r, c => if b.toNat < 128 ∨ 192 ≤ b.toNat then none else runeC r (c * 64 + b.toNat % 64)
def runeH (c : Nat) : Nat × Nat × Nat :=
  if 192 ≤ c ∧ c < 224 then (2, 128, c % 32) else if 224 ≤ c ∧ c < 240 then (3, 2048, c % 16) else if 240 ≤ c ∧ c < 248 then (4, 65536, c % 8) else (0, 0, c)
/-- the rune that bytes begin with, and how many it has -/
def runeR (s : Str) : Nat × Nat := match s with
  | [] => (0, 0)
  | b :: r => if b.toNat < 128 then (b.toNat, 1) else
    if (runeH b.toNat).1 = 0 ∨ s.length < (runeH b.toNat).1 then (0, 0) else
      match runeC (r.take ((runeH b.toNat).1 - 1)) (runeH b.toNat).2.2 with
      | none => (0, 0)
      | some c => if c < (runeH b.toNat).2.1 ∨ 1114111 < c ∨ (55296 ≤ c ∧ c ≤ 57343) then (0, 0) else (c, (runeH b.toNat).1)
theorem runeH_le (c : Nat) : (runeH c).1 ≤ 4 := by
  unfold runeH
  repeat' split
  all_goals simp
theorem runeR_le (s : Str) : (runeR s).2 ≤ s.length := by
  unfold runeR
  split
  · simp
  · rename_i b r
    split
    · simp
    · split
      · simp
      · rename_i h
        split
        · simp
        · split
          · simp
          · simp only
            omega
/-- is it a text? -/
def validR (s : Str) : Bool :=
  if h : s = [] then true else if h0 : (runeR s).2 = 0 then false else validR (s.drop (runeR s).2)
termination_by s.length
decreasing_by
  have := runeR_le s
  rw [List.length_drop]
  have : s.length ≠ 0 := fun e => h (List.eq_nil_of_length_eq_zero e)
  omega
theorem validR_nil : validR [] = true := by rw [validR]; simp
theorem validR_no {s : Str} (h : s ≠ []) (h0 : (runeR s).2 = 0) : validR s = false := by rw [validR]; simp [h, h0]
theorem validR_go {s : Str} (h : s ≠ []) (h0 : (runeR s).2 ≠ 0) : validR s = validR (s.drop (runeR s).2) := by
  rw [validR]
  simp [h, h0]
abbrev hexD : Str := [48, 49, 50, 51, 52, 53, 54, 55, 56, 57, 97, 98, 99, 100, 101, 102]
/-- a byte of a text between quotes -/
def escQ (c : UInt8) : Str :=
  if c = 34 ∨ c = 92 then [92, c] else if c = 8 then [92, 98] else if c = 9 then [92, 116] else if c = 10 then [92, 110] else if c = 12 then [92, 102] else if c = 13 then [92, 114]
  else if c.toNat < 32 then [92, 117, 48, 48, hexD.getD (c.toNat / 16) 0, hexD.getD (c.toNat % 16) 0] else [c]
def escs (s : Str) : Str := (s.map escQ).flatten
def putQ (s : Str) : Str := 34 :: escs s ++ [34]
theorem escQ_len (c : UInt8) : (escQ c).length ≤ 6 := by
  unfold escQ
  repeat' split
  all_goals simp
theorem escs_len : ∀ s : Str, (escs s).length ≤ 6 * s.length
  | [] => by simp [escs]
  | c :: s => by
    have h1 := escs_len s
    have h2 := escQ_len c
    simp only [escs, List.map_cons, List.flatten_cons, List.length_append, List.length_cons] at h1 ⊢
    omega
theorem escs_succ {s : Str} {k : Nat} {c : UInt8} (h : s[k]? = some c) : escs (s.take (k + 1)) = escs (s.take k) ++ escQ c := by
  have hlt := (List.getElem?_eq_some_iff.1 h).1
  rw [List.take_succ_eq_append_getElem hlt, (List.getElem?_eq_some_iff.1 h).2]
  simp [escs]
/-- no longer than may be -/
def lng (b : Str) : Except Int Str := if 65536 < b.length then .error 3 else .ok b
def txtW (b s : Str) : Except Int Str := if 65536 < s.length then .error 3 else if validR s then lng (b ++ putQ s) else .error 1
theorem lng_ok {b b' : Str} (h : lng b = .ok b') : b' = b ∧ b.length ≤ 65536 := by
  unfold lng at h
  split at h
  · cases h
  · injection h with h; exact ⟨h.symm, by omega⟩
namespace JV
/-- has a value nothing but what its kind has? -/
def bare (v : JV) : Bool := decide (0 ≤ v.kind ∧ v.kind ≤ 5) && (decide (v.kind = 1) || !v.is) && (decide (v.kind = 2) || decide (v.num = 0)) && (decide (v.kind = 3) || decide (v.str = [])) && (decide (v.kind = 4) || decide (v.list.length = 0)) && (decide (v.kind = 5) || decide (v.map.length = 0)) && (!decide (v.kind = 2) || decide (-9007199254740991 ≤ v.num ∧ v.num ≤ 9007199254740991))
abbrev tNull : Str := [110, 117, 108, 108]
abbrev tTrue : Str := [116, 114, 117, 101]
abbrev tFalse : Str := [102, 97, 108, 115, 101]
mutual
/-- a value's text behind bytes; an error's number -/
def wr : JV → Nat → Str → Except Int Str
  | .mk k is n s l m, deep, b =>
    if bare (.mk k is n s l m) = false then .error 1 else
    if k = 0 then lng (b ++ tNull) else
    if k = 1 then lng (b ++ if is then tTrue else tFalse) else
    if k = 2 then lng (b ++ Lib.itoa n) else
    if k = 3 then txtW b s else
    if deep = 32 then .error 5 else
    if k = 4 then (lng (b ++ [91])).bind fun b => (wrl l deep true b).bind fun b => lng (b ++ [93])
    else (lng (b ++ [123])).bind fun b => (wrm m deep none b).bind fun b => lng (b ++ [125])
def wrl : List JV → Nat → Bool → Str → Except Int Str
  | [], _, _, b => .ok b
  | v :: r, deep, fst, b => (if fst then Except.ok b else lng (b ++ [44])).bind fun b => (wr v (deep + 1) b).bind fun b => wrl r deep false b
def wrm : List (List UInt8 × JV) → Nat → Option Str → Str → Except Int Str
  | [], _, _, b => .ok b
  | p :: r, deep, prev, b => (match prev with
      | none => Except.ok b
      | some q => (lng (b ++ [44])).bind fun b => if bl q p.1 then .ok b else .error 1).bind fun b =>
    (txtW b p.1).bind fun b => (lng (b ++ [58])).bind fun b => (wr p.2 (deep + 1) b).bind fun b => wrm r deep (some p.1) b
end
theorem wr_eq (v : JV) (deep : Nat) (b : Str) : wr v deep b = 
    if bare v = false then .error 1 else
    if v.kind = 0 then lng (b ++ tNull) else
    if v.kind = 1 then lng (b ++ if v.is then tTrue else tFalse) else
    if v.kind = 2 then lng (b ++ Lib.itoa v.num) else
    if v.kind = 3 then txtW b v.str else
    if deep = 32 then .error 5 else
    if v.kind = 4 then (lng (b ++ [91])).bind fun b => (wrl v.list deep true b).bind fun b => lng (b ++ [93])
    else (lng (b ++ [123])).bind fun b => (wrm v.map deep none b).bind fun b => lng (b ++ [125]) := by
  cases v
  rw [wr]
  rfl
end JV
end Go.Proofs.YtkhbnhdlelmbnaaDoor.V

set_option linter.unusedVariables false
set_option linter.unusedSimpArgs false
namespace Go.Proofs.YtkhbnhdlelmbnaaDoor.V
open Go
section
variable {P : Program} {l : List (Nat × Value)} {w : World} {ty : TypeId} {pos : String} {af : Array Edge} {dd : Option Nat} {gg : Option (Nat × Bool)} {x y lo : Operand} {t : TypeId}
theorem o_ssfrom {u : List UInt8} {n : Nat} (ht : P.underlying t = some .string) (hx : evO l x = some (S u)) (hl : evO l lo = some (.int .i64 (n : Int))) (hb : n ≤ u.length) : Runs P l ⟨dd, .slice t x (some lo) none none, ty, pos, af, gg⟩ w (S (u.drop n)) w :=
  (o_ssl (pl := some (.i64, (n : Int))) (ph := none) ht hx (by simp [evS, hl]) rfl (by simp only [loV, hiV]; omega)).to (by
    simp only [loV, hiV, Int.toNat_natCast]
    rw [List.take_of_length_le (by simp)])
end
theorem runeC_no {l : List UInt8} {j d : Nat} {b : UInt8} (h : l[j]? = some b) (hb : b.toNat < 128 ∨ 192 ≤ b.toNat) : runeC (l.drop j) d = none := by
  obtain ⟨hj, rfl⟩ := List.getElem?_eq_some_iff.1 h
  rw [List.drop_eq_getElem_cons hj, runeC, if_pos hb]
theorem runeC_go {l : List UInt8} {j d : Nat} {b : UInt8} (h : l[j]? = some b) (hb : ¬ (b.toNat < 128 ∨ 192 ≤ b.toNat)) : runeC (l.drop j) d = runeC (l.drop (j + 1)) (d * 64 + b.toNat % 64) := by
  obtain ⟨hj, rfl⟩ := List.getElem?_eq_some_iff.1 h
  rw [List.drop_eq_getElem_cons hj, runeC, if_neg hb]
theorem runeR_small {b0 : UInt8} {r : Str} (h : b0.toNat < 128) : runeR (b0 :: r) = (b0.toNat, 1) := by simp [runeR, h]
theorem runeR_short {b0 : UInt8} {r : Str} {n l c : Nat} (hge : ¬ b0.toNat < 128) (hH : runeH b0.toNat = (n, l, c)) (h : n = 0 ∨ (b0 :: r).length < n) : runeR (b0 :: r) = (0, 0) := by
  unfold runeR
  simp only [if_neg hge, hH]
  rw [if_pos h]
theorem runeR_at {b0 : UInt8} {r : Str} {n l c : Nat} (hge : ¬ b0.toNat < 128) (hH : runeH b0.toNat = (n, l, c)) (h : ¬ (n = 0 ∨ (b0 :: r).length < n)) :
    runeR (b0 :: r) = match runeC (r.take (n - 1)) c with | none => (0, 0) | some c => if c < l ∨ 1114111 < c ∨ (55296 ≤ c ∧ c ≤ 57343) then (0, 0) else (c, n) := by
  show (if b0.toNat < 128 then (b0.toNat, 1) else if (runeH b0.toNat).1 = 0 ∨ (b0 :: r).length < (runeH b0.toNat).1 then (0, 0) else _) = _
  rw [if_neg hge, hH, if_neg h] <;> rfl
theorem runeR_none {b0 : UInt8} {r : Str} {n l c : Nat} (hge : ¬ b0.toNat < 128) (hH : runeH b0.toNat = (n, l, c)) (h : ¬ (n = 0 ∨ (b0 :: r).length < n)) (hc : runeC (r.take (n - 1)) c = none) : runeR (b0 :: r) = (0, 0) := by rw [runeR_at hge hH h, hc]
theorem runeR_bad {b0 : UInt8} {r : Str} {n l c d : Nat} (hge : ¬ b0.toNat < 128) (hH : runeH b0.toNat = (n, l, c)) (h : ¬ (n = 0 ∨ (b0 :: r).length < n)) (hc : runeC (r.take (n - 1)) c = some d) (hb : d < l ∨ 1114111 < d ∨ (55296 ≤ d ∧ d ≤ 57343)) : runeR (b0 :: r) = (0, 0) := by
  rw [runeR_at hge hH h, hc]
  exact if_pos hb
theorem runeR_good {b0 : UInt8} {r : Str} {n l c d : Nat} (hge : ¬ b0.toNat < 128) (hH : runeH b0.toNat = (n, l, c)) (h : ¬ (n = 0 ∨ (b0 :: r).length < n)) (hc : runeC (r.take (n - 1)) c = some d) (hb : ¬ (d < l ∨ 1114111 < d ∨ (55296 ≤ d ∧ d ≤ 57343))) : runeR (b0 :: r) = (d, n) := by
  rw [runeR_at hge hH h, hc]
  exact if_neg hb
end Go.Proofs.YtkhbnhdlelmbnaaDoor.V

set_option linter.unusedVariables false
set_option linter.unusedSimpArgs false
set_option maxRecDepth 10000
namespace Go.Proofs.YtkhbnhdlelmbnaaDoor.V
open Go Go.Proofs
theorem fd25_3 : fdB Tryd.prog 25 3 3 1 = true := by kernel_rfl
theorem sc9 : scB Tryd.prog 9 = true := by kernel_rfl
theorem fd25_4 : fdB Tryd.prog 25 4 4 1 = true := by kernel_rfl
theorem sc22 : scB Tryd.prog 22 = true := by kernel_rfl
theorem sl22 : slB Tryd.prog 22 25 6 88 = true := by kernel_rfl
theorem ag25 : agB Tryd.prog 25 6 = true := by kernel_rfl
theorem ent21 : Ent Tryd.prog 21 := Ent.of Tryd.func21 (by kernel_rfl) (by kernel_rfl)
theorem fd25_5 : fdB Tryd.prog 25 5 5 1 = true := by kernel_rfl
theorem sc23 : scB Tryd.prog 23 = true := by kernel_rfl
theorem wide : Tryd.prog.follows .mixedOrders = true := by kernel_rfl
theorem sl23 : slB Tryd.prog 23 62 7 104 = true := by kernel_rfl
theorem fd62_1 : fdB Tryd.prog 62 1 1 6 = true := by kernel_rfl
theorem fd62_0 : fdB Tryd.prog 62 0 0 1 = true := by kernel_rfl
theorem ag62 : agB Tryd.prog 62 7 = true := by kernel_rfl
theorem zv62 : zvB Tryd.prog 62 ([S [], .int .i64 0, .bool false, .int .i64 0, S [], .slice none 0 0, .slice none 0 0]) := by unfold zvB; kernel_rfl
theorem ent14 : Ent Tryd.prog 14 := Ent.of Tryd.func14 (by kernel_rfl) (by kernel_rfl)
theorem zv25 : zvB Tryd.prog 25 ([.int .i64 0, .bool false, .int .i64 0, S [], .slice none 0 0, .slice none 0 0]) := by unfold zvB; kernel_rfl
theorem c_weigh_step (N : Nat) (ih : ∀ (w : World) (v : JV) (us : List Value) (left deep : Int), v.sz ≤ N → Reps [] w v.D us → Calls Tryd.prog 21 [.agg us.toArray, .int .i64 left, .int .i64 deep].toArray w (Ret fun u w' => u = .int .i64 (v.weigh left deep) ∧ Mod [] w w')) (w : World) (v : JV) (us : List Value) (left deep : Int) (hN : v.sz ≤ N + 1) (R : Reps [] w v.D us) : Calls Tryd.prog 21 [.agg us.toArray, .int .i64 left, .int .i64 deep].toArray w (Ret fun u w' => u = .int .i64 (v.weigh left deep) ∧ Mod [] w w') := by
  refine enter Tryd.func21 rfl rfl rfl (l := [(0, _), (1, _), (2, _)]) ⟨rfl, rfl, rfl, trivial⟩ ?_
  have E := Mod.refl [] w
  obtain ⟨al, cl, am, cm, rfl, Rl, Rm⟩ := JV.cells_ R
  refine c_seq fun K1 hK1 => ?_
  refine c_region ?_
  refine s_box rfl rfl rfl fun g1 w1 N1 => ?_
  have Lg1_E := N1.le E
  replace E := E.then N1.mod
  have Bg1 := N1.blk
  refine sv (o_as rfl) rfl ?_
  refine l_nil ?_
  refine e_K (hK1 _ _ _ _ ?_)
  refine c_seq fun K2 hK2 => ?_
  refine c_region ?_
  refine sv (o_mv rfl) rfl ?_
  refine sv (o_sub rfl rfl) rfl ?_
  refine sv (o_fa0 fd25_3 rfl) rfl ?_
  refine sv (o_ld sc9 rfl (Bg1.cell rfl)) rfl ?_
  refine sv (o_slen Tryd.underlying9 rfl) rfl ?_
  refine sv (o_sub rfl rfl) rfl ?_
  refine sv (o_as rfl) rfl ?_
  refine l_nil ?_
  refine e_K (hK2 _ _ _ _ ?_)
  refine c_seq fun K3 hK3 => ?_
  refine c_seq fun K4 hK4 => ?_
  refine c_region ?_
  refine sv (o_mv rfl) rfl ?_
  refine sv (o_eql rfl rfl) rfl ?_
  refine l_nil ?_
  refine e_K (hK4 _ _ _ _ ?_)
  refine c_if rfl (fun h16 => ?_) (fun h16 => ?_)
  · skip
    refine c_seq fun K5 hK5 => ?_
    refine c_region ?_
    refine sv (o_as rfl) rfl ?_
    refine l_nil ?_
    refine e_K (hK5 _ _ _ _ ?_)
    refine c_ret ?_
    refine e_then (by simp) ?_
    exact ret1 rfl rfl ⟨by rw [JV.weigh_eq, if_pos h16], E⟩
  · skip
    have hd0 : ¬ deep = 0 := h16
    have hW := JV.weigh_eq v left deep
    rw [if_neg hd0] at hW
    refine c_skip ?_
    refine e_K (hK3 _ _ _ _ ?_)
    refine c_seq fun K6 hK6 => ?_
    refine c_seq fun K7 hK7 => ?_
    refine c_region ?_
    refine sv (o_as rfl) rfl ?_
    refine l_nil ?_
    refine e_K (hK7 _ _ _ _ ?_)
    refine c_block ?_
    refine c_loop (σ := Nat × Int) (fun ⟨k, z⟩ => [(1, .int .i64 z), (2, .int .i64 deep), (3, .pointer (some ⟨g1, 0, none⟩)), (7, .int .i64 (k : Int))]) (fun ⟨k, z⟩ w1 => k ≤ v.list.length ∧ JV.weighl (v.list.drop k) z (w64 (deep - 1)) = JV.weighl v.list (w64 (w64 (left - 1) - v.str.length)) (w64 (deep - 1)) ∧ Blk w1 g1 25 [.int .i64 v.kind, .bool v.is, .int .i64 v.num, S v.str, .slice al v.list.length cl, .slice am v.map.length cm] ∧ Mod [] w w1) (fun ⟨k, z⟩ => v.list.length - k) (⟨0, (w64 (w64 (left - 1) - v.str.length))⟩) ⟨rfl, rfl, rfl, rfl, trivial⟩ (⟨by omega, rfl, Bg1, E⟩) ?_
    rintro ⟨k, z⟩ w2 ⟨hk, hz1, Bg1, E⟩
    refine c_seq fun K8 hK8 => ?_
    refine c_seq fun K9 hK9 => ?_
    by_cases hs5_0 : (k : Int) < (v.list.length : Int)
    · skip
      refine c_region ?_
      refine sv (o_mv rfl) rfl ?_
      refine sv (o_fa0 fd25_4 rfl) rfl ?_
      refine sv (o_ld sc22 rfl (Bg1.cell rfl)) rfl ?_
      refine sv (o_len Tryd.underlying22 rfl) rfl ?_
      refine sv (o_lss rfl rfl) rfl ?_
      refine sv (o_mv rfl) rfl ?_
      refine sg rfl (decide_eq_true hs5_0) (o_mv rfl) rfl ?_
      refine sg rfl (decide_eq_true hs5_0) (o_geq rfl rfl) rfl ?_
      refine sv (o_pickT (decide_eq_true hs5_0) rfl rfl) rfl ?_
      refine l_nil ?_
      refine e_K (hK9 _ _ _ _ ?_)
      refine c_if rfl (fun h25 => ?_) (fun h25 => ?_)
      · skip
        obtain ⟨x, hx_x⟩ : ∃ x, v.list[k]? = some x := ⟨_, List.getElem?_eq_getElem (by omega)⟩
        obtain ⟨a_x, us_x, ha_x, R_x, hcs0_x⟩ := JV.at_l Rl hx_x
        obtain ⟨al_x, cl_x, am_x, cm_x, rfl, Rl_x, Rm_x⟩ := JV.cells_ R_x
        have hcs_x := hcs0_x.mod0 E
        have hcap_x := JV.cap_l Rl
        obtain rfl := ha_x
        have hz : ¬ z < 0 := by omega
        have hS := JV.weighl_at (d := (w64 (deep - 1))) hx_x hz
        refine c_skip ?_
        refine e_K (hK8 _ _ _ _ ?_)
        refine c_seq fun K10 hK10 => ?_
        refine c_block ?_
        refine c_region ?_
        refine sv (o_fa0 fd25_4 rfl) rfl ?_
        refine sv (o_ld sc22 rfl (Bg1.cell rfl)) rfl ?_
        refine sv (o_mv rfl) rfl ?_
        refine sv (o_ix sl22 rfl rfl (by omega)) rfl ?_
        refine sv (o_lda ag25 rfl rfl hcs_x) rfl ?_
        refine sv (o_mv rfl) rfl ?_
        refine sv (o_mv rfl) rfl ?_
        refine sv (o_sub rfl rfl) rfl ?_
        refine sc (o_call ent21 rfl) (ih _ x _ z _ (by have := JV.sz_in_list (List.mem_of_getElem? hx_x); omega) (R_x.to0 E)) rfl fun v_ w3 h_ => ?_
        obtain ⟨rfl, E_⟩ := h_
        replace Bg1 := Bg1.mod0 E_
        replace E := E.then E_
        refine sv (o_as rfl) rfl ?_
        refine l_nil ?_
        refine e_in (by simp) ?_
        refine e_K (hK10 _ _ _ _ ?_)
        refine c_region ?_
        refine sv (o_mv rfl) rfl ?_
        refine sv (o_addN rfl rfl (by omega)) rfl ?_
        refine sv (o_as rfl) rfl ?_
        refine l_nil ?_
        have hcap := JV.cap_l Rl
        exact e_round (σ := Nat × Int) (s := ⟨k, z⟩) (⟨k + 1, x.weigh z (w64 (deep - 1))⟩) ⟨rfl, rfl, rfl, rfl, trivial⟩ ⟨by omega, by rw [← hS]; exact hz1, Bg1, E⟩ (by dsimp only; omega)
      · skip
        have hz2 : JV.weighl v.list (w64 (w64 (left - 1) - v.str.length)) (w64 (deep - 1)) = z := by rw [← hz1]; exact JV.weighl_neg (by omega)
        refine c_exit ?_
        refine e_then (by simp) ?_
        refine e_then (by simp) ?_
        refine e_hit ?_
        refine e_K (hK6 _ _ _ _ ?_)
        refine c_seq fun K11 hK11 => ?_
        refine c_seq fun K12 hK12 => ?_
        refine c_region ?_
        refine sv (o_as rfl) rfl ?_
        refine l_nil ?_
        refine e_K (hK12 _ _ _ _ ?_)
        refine c_block ?_
        refine c_loop (σ := Nat × Int) (fun ⟨k, y⟩ => [(1, .int .i64 y), (2, .int .i64 deep), (3, .pointer (some ⟨g1, 0, none⟩)), (8, .int .i64 (k : Int))]) (fun ⟨k, y⟩ w1 => k ≤ v.map.length ∧ JV.weighm (v.map.drop k) y (w64 (deep - 1)) = JV.weighm v.map z (w64 (deep - 1)) ∧ Blk w1 g1 25 [.int .i64 v.kind, .bool v.is, .int .i64 v.num, S v.str, .slice al v.list.length cl, .slice am v.map.length cm] ∧ Mod [] w w1) (fun ⟨k, y⟩ => v.map.length - k) (⟨0, z⟩) ⟨rfl, rfl, rfl, rfl, trivial⟩ (⟨by omega, rfl, Bg1, E⟩) ?_
        rintro ⟨k, y⟩ w4 ⟨hk, hy1, Bg1, E⟩
        refine c_seq fun K13 hK13 => ?_
        refine c_seq fun K14 hK14 => ?_
        by_cases hs9_0 : (k : Int) < (v.map.length : Int)
        · skip
          refine c_region ?_
          refine sv (o_mv rfl) rfl ?_
          refine sv (o_fa0 fd25_5 rfl) rfl ?_
          refine sv (o_ld sc23 rfl (Bg1.cell rfl)) rfl ?_
          refine sv (o_len Tryd.underlying23 rfl) rfl ?_
          refine sv (o_lss rfl rfl) rfl ?_
          refine sv (o_mv rfl) rfl ?_
          refine sg rfl (decide_eq_true hs9_0) (o_mv rfl) rfl ?_
          refine sg rfl (decide_eq_true hs9_0) (o_geq rfl rfl) rfl ?_
          refine sv (o_pickT (decide_eq_true hs9_0) rfl rfl) rfl ?_
          refine l_nil ?_
          refine e_K (hK14 _ _ _ _ ?_)
          refine c_if rfl (fun h45 => ?_) (fun h45 => ?_)
          · skip
            obtain ⟨x, hx_x⟩ : ∃ x, v.map[k]? = some x := ⟨_, List.getElem?_eq_getElem (by omega)⟩
            obtain ⟨a_x, us_x, ha_x, R_x, hcs0_x⟩ := JV.at_m Rm hx_x
            obtain ⟨al_x, cl_x, am_x, cm_x, rfl, Rl_x, Rm_x⟩ := JV.cells_ R_x
            have hcs_x := hcs0_x.mod0 E
            have hcap_x := JV.cap_m Rm
            obtain rfl := ha_x
            have hz : ¬ y < 0 := by omega
            have hS := JV.weighm_at (d := (w64 (deep - 1))) hx_x hz
            refine c_skip ?_
            refine e_K (hK13 _ _ _ _ ?_)
            refine c_seq fun K15 hK15 => ?_
            refine c_block ?_
            refine c_draw wide (by kernel_rfl) ?_
            refine tv (fun w_ E_ => (o_fa0 fd25_5 rfl)) rfl rfl ?_
            refine tv (fun w_ E_ => (o_ld sc23 rfl ((Bg1.mod0 E_).cell rfl))) rfl rfl ?_
            refine tv (fun w_ E_ => (o_mv rfl)) rfl rfl ?_
            refine tv (fun w_ E_ => (o_ix sl23 rfl rfl (by omega))) rfl rfl ?_
            refine tv (fun w_ E_ => (o_fad fd62_1 rfl)) rfl rfl ?_
            refine tv (fun w_ E_ => (o_lda ag25 rfl rfl (hcs_x.mod0 E_).tail_)) rfl rfl ?_
            refine tv (fun w_ E_ => (o_mv rfl)) rfl rfl ?_
            refine tv (fun w_ E_ => (o_fa0 fd25_5 rfl)) rfl rfl ?_
            refine tv (fun w_ E_ => (o_ld sc23 rfl ((Bg1.mod0 E_).cell rfl))) rfl rfl ?_
            refine tv (fun w_ E_ => (o_mv rfl)) rfl rfl ?_
            refine tv (fun w_ E_ => (o_ix sl23 rfl rfl (by omega))) rfl rfl ?_
            refine tv (fun w_ E_ => (o_fad fd62_0 rfl)) rfl rfl ?_
            refine tv (fun w_ E_ => (o_ld sc9 rfl ((hcs_x.mod0 E_) 0 _ rfl))) rfl rfl ?_
            refine tv (fun w_ E_ => (o_slen Tryd.underlying9 rfl)) rfl rfl ?_
            refine tv (fun w_ E_ => (o_sub rfl rfl)) rfl rfl ?_
            refine tv (fun w_ E_ => (o_mv rfl)) rfl rfl ?_
            refine tv (fun w_ E_ => (o_sub rfl rfl)) rfl rfl ?_
            refine tc (fun w_ E_ => o_call ent21 rfl) (fun w_ E_ => ih _ x.2 _ _ _ (by have := JV.sz_in_map (List.mem_of_getElem? hx_x); omega) (R_x.to0 (E.then E_))) rfl rfl ?_
            refine tv (fun w_ E_ => (o_as rfl)) rfl rfl ?_
            refine tw_nil rfl fun w5 E_ => ?_
            replace Bg1 := Bg1.mod0 E_
            replace E := E.then E_
            refine e_in (by simp) ?_
            refine e_K (hK15 _ _ _ _ ?_)
            refine c_region ?_
            refine sv (o_mv rfl) rfl ?_
            refine sv (o_addN rfl rfl (by omega)) rfl ?_
            refine sv (o_as rfl) rfl ?_
            refine l_nil ?_
            have hcap := JV.cap_m Rm
            exact e_round (σ := Nat × Int) (s := ⟨k, y⟩) (⟨k + 1, x.2.weigh (w64 (y - x.1.length)) (w64 (deep - 1))⟩) ⟨rfl, rfl, rfl, rfl, trivial⟩ ⟨by omega, by rw [← hS]; exact hy1, Bg1, E⟩ (by dsimp only; omega)
          · skip
            have hz3 : v.weigh left deep = y := by rw [hW, hz2, ← hy1]; exact JV.weighm_neg (by omega)
            refine c_exit ?_
            refine e_then (by simp) ?_
            refine e_then (by simp) ?_
            refine e_hit ?_
            refine e_K (hK11 _ _ _ _ ?_)
            refine c_seq fun K16 hK16 => ?_
            refine c_region ?_
            refine sv (o_mv rfl) rfl ?_
            refine sv (o_as rfl) rfl ?_
            refine l_nil ?_
            refine e_K (hK16 _ _ _ _ ?_)
            refine c_ret ?_
            exact ret1 rfl rfl ⟨by rw [hz3], E⟩
        · skip
          refine c_region ?_
          refine sv (o_mv rfl) rfl ?_
          refine sv (o_fa0 fd25_5 rfl) rfl ?_
          refine sv (o_ld sc23 rfl (Bg1.cell rfl)) rfl ?_
          refine sv (o_len Tryd.underlying23 rfl) rfl ?_
          refine sv (o_lss rfl rfl) rfl ?_
          refine sv (o_mv rfl) rfl ?_
          refine sn rfl (fun e_ => absurd ((decide_eq_false hs9_0).symm.trans e_) (by decide)) rfl ?_
          refine sn rfl (fun e_ => absurd ((decide_eq_false hs9_0).symm.trans e_) (by decide)) rfl ?_
          refine sv (o_pickF (decide_eq_false hs9_0) rfl rfl) rfl ?_
          refine l_nil ?_
          refine e_K (hK14 _ _ _ _ ?_)
          refine c_false rfl ?_
          have hz3 : v.weigh left deep = y := by rw [hW, hz2, ← hy1]; exact JV.weighm_end (by omega)
          refine c_exit ?_
          refine e_then (by simp) ?_
          refine e_then (by simp) ?_
          refine e_hit ?_
          refine e_K (hK11 _ _ _ _ ?_)
          refine c_seq fun K17 hK17 => ?_
          refine c_region ?_
          refine sv (o_mv rfl) rfl ?_
          refine sv (o_as rfl) rfl ?_
          refine l_nil ?_
          refine e_K (hK17 _ _ _ _ ?_)
          refine c_ret ?_
          exact ret1 rfl rfl ⟨by rw [hz3], E⟩
    · skip
      refine c_region ?_
      refine sv (o_mv rfl) rfl ?_
      refine sv (o_fa0 fd25_4 rfl) rfl ?_
      refine sv (o_ld sc22 rfl (Bg1.cell rfl)) rfl ?_
      refine sv (o_len Tryd.underlying22 rfl) rfl ?_
      refine sv (o_lss rfl rfl) rfl ?_
      refine sv (o_mv rfl) rfl ?_
      refine sn rfl (fun e_ => absurd ((decide_eq_false hs5_0).symm.trans e_) (by decide)) rfl ?_
      refine sn rfl (fun e_ => absurd ((decide_eq_false hs5_0).symm.trans e_) (by decide)) rfl ?_
      refine sv (o_pickF (decide_eq_false hs5_0) rfl rfl) rfl ?_
      refine l_nil ?_
      refine e_K (hK9 _ _ _ _ ?_)
      refine c_false rfl ?_
      have hz2 : JV.weighl v.list (w64 (w64 (left - 1) - v.str.length)) (w64 (deep - 1)) = z := by rw [← hz1]; exact JV.weighl_end (by omega)
      refine c_exit ?_
      refine e_then (by simp) ?_
      refine e_then (by simp) ?_
      refine e_hit ?_
      refine e_K (hK6 _ _ _ _ ?_)
      refine c_seq fun K18 hK18 => ?_
      refine c_seq fun K19 hK19 => ?_
      refine c_region ?_
      refine sv (o_as rfl) rfl ?_
      refine l_nil ?_
      refine e_K (hK19 _ _ _ _ ?_)
      refine c_block ?_
      refine c_loop (σ := Nat × Int) (fun ⟨k, y⟩ => [(1, .int .i64 y), (2, .int .i64 deep), (3, .pointer (some ⟨g1, 0, none⟩)), (8, .int .i64 (k : Int))]) (fun ⟨k, y⟩ w1 => k ≤ v.map.length ∧ JV.weighm (v.map.drop k) y (w64 (deep - 1)) = JV.weighm v.map z (w64 (deep - 1)) ∧ Blk w1 g1 25 [.int .i64 v.kind, .bool v.is, .int .i64 v.num, S v.str, .slice al v.list.length cl, .slice am v.map.length cm] ∧ Mod [] w w1) (fun ⟨k, y⟩ => v.map.length - k) (⟨0, z⟩) ⟨rfl, rfl, rfl, rfl, trivial⟩ (⟨by omega, rfl, Bg1, E⟩) ?_
      rintro ⟨k, y⟩ w6 ⟨hk, hy1, Bg1, E⟩
      refine c_seq fun K20 hK20 => ?_
      refine c_seq fun K21 hK21 => ?_
      by_cases hs9_0 : (k : Int) < (v.map.length : Int)
      · skip
        refine c_region ?_
        refine sv (o_mv rfl) rfl ?_
        refine sv (o_fa0 fd25_5 rfl) rfl ?_
        refine sv (o_ld sc23 rfl (Bg1.cell rfl)) rfl ?_
        refine sv (o_len Tryd.underlying23 rfl) rfl ?_
        refine sv (o_lss rfl rfl) rfl ?_
        refine sv (o_mv rfl) rfl ?_
        refine sg rfl (decide_eq_true hs9_0) (o_mv rfl) rfl ?_
        refine sg rfl (decide_eq_true hs9_0) (o_geq rfl rfl) rfl ?_
        refine sv (o_pickT (decide_eq_true hs9_0) rfl rfl) rfl ?_
        refine l_nil ?_
        refine e_K (hK21 _ _ _ _ ?_)
        refine c_if rfl (fun h45 => ?_) (fun h45 => ?_)
        · skip
          obtain ⟨x, hx_x⟩ : ∃ x, v.map[k]? = some x := ⟨_, List.getElem?_eq_getElem (by omega)⟩
          obtain ⟨a_x, us_x, ha_x, R_x, hcs0_x⟩ := JV.at_m Rm hx_x
          obtain ⟨al_x, cl_x, am_x, cm_x, rfl, Rl_x, Rm_x⟩ := JV.cells_ R_x
          have hcs_x := hcs0_x.mod0 E
          have hcap_x := JV.cap_m Rm
          obtain rfl := ha_x
          have hz : ¬ y < 0 := by omega
          have hS := JV.weighm_at (d := (w64 (deep - 1))) hx_x hz
          refine c_skip ?_
          refine e_K (hK20 _ _ _ _ ?_)
          refine c_seq fun K22 hK22 => ?_
          refine c_block ?_
          refine c_draw wide (by kernel_rfl) ?_
          refine tv (fun w_ E_ => (o_fa0 fd25_5 rfl)) rfl rfl ?_
          refine tv (fun w_ E_ => (o_ld sc23 rfl ((Bg1.mod0 E_).cell rfl))) rfl rfl ?_
          refine tv (fun w_ E_ => (o_mv rfl)) rfl rfl ?_
          refine tv (fun w_ E_ => (o_ix sl23 rfl rfl (by omega))) rfl rfl ?_
          refine tv (fun w_ E_ => (o_fad fd62_1 rfl)) rfl rfl ?_
          refine tv (fun w_ E_ => (o_lda ag25 rfl rfl (hcs_x.mod0 E_).tail_)) rfl rfl ?_
          refine tv (fun w_ E_ => (o_mv rfl)) rfl rfl ?_
          refine tv (fun w_ E_ => (o_fa0 fd25_5 rfl)) rfl rfl ?_
          refine tv (fun w_ E_ => (o_ld sc23 rfl ((Bg1.mod0 E_).cell rfl))) rfl rfl ?_
          refine tv (fun w_ E_ => (o_mv rfl)) rfl rfl ?_
          refine tv (fun w_ E_ => (o_ix sl23 rfl rfl (by omega))) rfl rfl ?_
          refine tv (fun w_ E_ => (o_fad fd62_0 rfl)) rfl rfl ?_
          refine tv (fun w_ E_ => (o_ld sc9 rfl ((hcs_x.mod0 E_) 0 _ rfl))) rfl rfl ?_
          refine tv (fun w_ E_ => (o_slen Tryd.underlying9 rfl)) rfl rfl ?_
          refine tv (fun w_ E_ => (o_sub rfl rfl)) rfl rfl ?_
          refine tv (fun w_ E_ => (o_mv rfl)) rfl rfl ?_
          refine tv (fun w_ E_ => (o_sub rfl rfl)) rfl rfl ?_
          refine tc (fun w_ E_ => o_call ent21 rfl) (fun w_ E_ => ih _ x.2 _ _ _ (by have := JV.sz_in_map (List.mem_of_getElem? hx_x); omega) (R_x.to0 (E.then E_))) rfl rfl ?_
          refine tv (fun w_ E_ => (o_as rfl)) rfl rfl ?_
          refine tw_nil rfl fun w7 E_ => ?_
          replace Bg1 := Bg1.mod0 E_
          replace E := E.then E_
          refine e_in (by simp) ?_
          refine e_K (hK22 _ _ _ _ ?_)
          refine c_region ?_
          refine sv (o_mv rfl) rfl ?_
          refine sv (o_addN rfl rfl (by omega)) rfl ?_
          refine sv (o_as rfl) rfl ?_
          refine l_nil ?_
          have hcap := JV.cap_m Rm
          exact e_round (σ := Nat × Int) (s := ⟨k, y⟩) (⟨k + 1, x.2.weigh (w64 (y - x.1.length)) (w64 (deep - 1))⟩) ⟨rfl, rfl, rfl, rfl, trivial⟩ ⟨by omega, by rw [← hS]; exact hy1, Bg1, E⟩ (by dsimp only; omega)
        · skip
          have hz3 : v.weigh left deep = y := by rw [hW, hz2, ← hy1]; exact JV.weighm_neg (by omega)
          refine c_exit ?_
          refine e_then (by simp) ?_
          refine e_then (by simp) ?_
          refine e_hit ?_
          refine e_K (hK18 _ _ _ _ ?_)
          refine c_seq fun K23 hK23 => ?_
          refine c_region ?_
          refine sv (o_mv rfl) rfl ?_
          refine sv (o_as rfl) rfl ?_
          refine l_nil ?_
          refine e_K (hK23 _ _ _ _ ?_)
          refine c_ret ?_
          exact ret1 rfl rfl ⟨by rw [hz3], E⟩
      · skip
        refine c_region ?_
        refine sv (o_mv rfl) rfl ?_
        refine sv (o_fa0 fd25_5 rfl) rfl ?_
        refine sv (o_ld sc23 rfl (Bg1.cell rfl)) rfl ?_
        refine sv (o_len Tryd.underlying23 rfl) rfl ?_
        refine sv (o_lss rfl rfl) rfl ?_
        refine sv (o_mv rfl) rfl ?_
        refine sn rfl (fun e_ => absurd ((decide_eq_false hs9_0).symm.trans e_) (by decide)) rfl ?_
        refine sn rfl (fun e_ => absurd ((decide_eq_false hs9_0).symm.trans e_) (by decide)) rfl ?_
        refine sv (o_pickF (decide_eq_false hs9_0) rfl rfl) rfl ?_
        refine l_nil ?_
        refine e_K (hK21 _ _ _ _ ?_)
        refine c_false rfl ?_
        have hz3 : v.weigh left deep = y := by rw [hW, hz2, ← hy1]; exact JV.weighm_end (by omega)
        refine c_exit ?_
        refine e_then (by simp) ?_
        refine e_then (by simp) ?_
        refine e_hit ?_
        refine e_K (hK18 _ _ _ _ ?_)
        refine c_seq fun K24 hK24 => ?_
        refine c_region ?_
        refine sv (o_mv rfl) rfl ?_
        refine sv (o_as rfl) rfl ?_
        refine l_nil ?_
        refine e_K (hK24 _ _ _ _ ?_)
        refine c_ret ?_
        exact ret1 rfl rfl ⟨by rw [hz3], E⟩

theorem c_weigh_all : ∀ N : Nat, ∀ (w : World) (v : JV) (us : List Value) (left deep : Int), v.sz ≤ N → Reps [] w v.D us → Calls Tryd.prog 21 [.agg us.toArray, .int .i64 left, .int .i64 deep].toArray w (Ret fun u w' => u = .int .i64 (v.weigh left deep) ∧ Mod [] w w')
  | 0, w, v, us, left, deep, h, R => absurd (JV.sz_eq v) (by omega)
  | N + 1, w, v, us, left, deep, h, R => c_weigh_step N (c_weigh_all N) w v us left deep h R
theorem c_weigh (w : World) (v : JV) (us : List Value) (left deep : Int) (R : Reps [] w v.D us) : Calls Tryd.prog 21 [.agg us.toArray, .int .i64 left, .int .i64 deep].toArray w (Ret fun u w' => u = .int .i64 (v.weigh left deep) ∧ Mod [] w w') := c_weigh_all v.sz w v us left deep (Nat.le_refl _) R

theorem c_rises_step (N : Nat) (ih : ∀ (w : World) (v : JV) (us : List Value), v.sz ≤ N → Reps [] w v.D us → Calls Tryd.prog 14 [.agg us.toArray].toArray w (Ret fun u w' => u = .bool v.rises ∧ Mod [] w w')) (w : World) (v : JV) (us : List Value) (hN : v.sz ≤ N + 1) (R : Reps [] w v.D us) : Calls Tryd.prog 14 [.agg us.toArray].toArray w (Ret fun u w' => u = .bool v.rises ∧ Mod [] w w') := by
  refine enter Tryd.func14 rfl rfl rfl (l := [(0, _)]) ⟨rfl, trivial⟩ ?_
  have E := Mod.refl [] w
  obtain ⟨al, cl, am, cm, rfl, Rl, Rm⟩ := JV.cells_ R
  refine c_seq fun K1 hK1 => ?_
  refine c_region ?_
  refine s_box rfl rfl rfl fun g1 w1 N1 => ?_
  have Lg1_E := N1.le E
  replace E := E.then N1.mod
  have Bg1 := N1.blk
  refine sv (o_as rfl) rfl ?_
  refine l_nil ?_
  refine e_K (hK1 _ _ _ _ ?_)
  refine c_seq fun K2 hK2 => ?_
  refine c_seq fun K3 hK3 => ?_
  refine c_region ?_
  refine sv (o_fa0 fd25_5 rfl) rfl ?_
  refine sv (o_ld sc23 rfl (Bg1.cell rfl)) rfl ?_
  refine sv (o_len Tryd.underlying23 rfl) rfl ?_
  refine sv (o_mv rfl) rfl ?_
  refine l_nil ?_
  refine e_K (hK3 _ _ _ _ ?_)
  refine c_block ?_
  refine c_loop (σ := Nat) (fun k => [(1, .pointer (some ⟨g1, 0, none⟩)), (8, .slice am v.map.length cm), (9, .int .i64 v.map.length), (10, .int .i64 (k : Int))]) (fun k w1 => k ≤ v.map.length ∧ (∀ (i : Nat) (a b : List UInt8 × JV), i + 1 < k → v.map[i]? = some a → v.map[i + 1]? = some b → bl a.1 b.1 = true) ∧ (∀ (i : Nat) (p : List UInt8 × JV), i < k → v.map[i]? = some p → p.2.rises = true) ∧ Blk w1 g1 25 [.int .i64 v.kind, .bool v.is, .int .i64 v.num, S v.str, .slice al v.list.length cl, .slice am v.map.length cm] ∧ Mod [] w w1) (fun k => v.map.length - k) (0) ⟨rfl, rfl, rfl, rfl, trivial⟩ (⟨by omega, fun i a b h => by omega, fun i p h => by omega, Bg1, E⟩) ?_
  rintro k w2 ⟨hk, hA, hB, Bg1, E⟩
  refine c_seq fun K4 hK4 => ?_
  refine c_region ?_
  refine sv (o_lss rfl rfl) rfl ?_
  refine l_nil ?_
  refine e_K (hK4 _ _ _ _ ?_)
  refine c_seq fun K5 hK5 => ?_
  refine c_if rfl (fun h11 => ?_) (fun h11 => ?_)
  · skip
    obtain ⟨x, hx_x⟩ : ∃ x, v.map[k]? = some x := ⟨_, List.getElem?_eq_getElem (by omega)⟩
    obtain ⟨a_x, us_x, ha_x, R_x, hcs0_x⟩ := JV.at_m Rm hx_x
    obtain ⟨al_x, cl_x, am_x, cm_x, rfl, Rl_x, Rm_x⟩ := JV.cells_ R_x
    have hcs_x := hcs0_x.mod0 E
    have hcap_x := JV.cap_m Rm
    obtain rfl := ha_x
    refine c_skip ?_
    refine e_K (hK5 _ _ _ _ ?_)
    refine c_seq fun K6 hK6 => ?_
    refine c_block ?_
    refine c_seq fun K7 hK7 => ?_
    refine c_region ?_
    refine sv (o_mv rfl) rfl ?_
    refine sv (o_ix sl23 rfl rfl (by omega)) rfl ?_
    refine sv (o_lda ag62 rfl rfl hcs_x) rfl ?_
    refine s_alloc zv62 rfl fun g2 w3 N2 => ?_
    have Lg2_E := N2.le E
    have Dg1_g2 := N2.ne Bg1
    replace Bg1 := Bg1.mod0 N2.mod
    replace E := E.then N2.mod
    have Bg2 := N2.blk
    refine sv (o_as rfl) rfl ?_
    refine s_sta (vs := [_, _, _, _, _, _, _]) ag62 Bg2 rfl rfl rfl (by simp [Value.oneCell']) (by simp) fun w4 P4 => ?_
    replace Bg1 := Bg1.ne P4.mod (Ne.symm (Ne.symm Dg1_g2))
    replace E := E.own P4.mod Lg2_E
    replace Bg2 : Blk w4 g2 _ [_, _, _, _, _, _, _] := P4.blk
    refine l_nil ?_
    refine e_K (hK7 _ _ _ _ ?_)
    refine c_seq fun K8 hK8 => ?_
    by_cases hs4_0 : (k : Int) > 0
    · skip
      obtain ⟨q, hx_q⟩ : ∃ q, v.map[k - 1]? = some q := ⟨_, List.getElem?_eq_getElem (by omega)⟩
      obtain ⟨a_q, us_q, ha_q, R_q, hcs0_q⟩ := JV.at_m Rm hx_q
      have hcs_q := hcs0_q.mod0 E
      injection ha_q with ha_q
      subst ha_q
      rcases hs4_1 : (!(bl q.1 x.1)) with _ | _
      · skip
        have hAk : ∀ a b : List UInt8 × JV, 0 < k → v.map[k - 1]? = some a → v.map[k]? = some b → bl a.1 b.1 = true := fun a b h ha hb => by
          rw [hx_q] at ha
          rw [hx_x] at hb
          injection ha with ha
          injection hb with hb
          subst ha; subst hb
          simpa using hs4_1
        refine c_draw wide (by kernel_rfl) ?_
        refine tv (fun w_ E_ => (o_mv rfl)) rfl rfl ?_
        refine tv (fun w_ E_ => (o_gtr rfl rfl)) rfl rfl ?_
        refine tv (fun w_ E_ => (o_mv rfl)) rfl rfl ?_
        refine tvg rfl (decide_eq_true hs4_0) (fun w_ E_ => (o_fa0 fd25_5 rfl)) rfl rfl ?_
        refine tvg rfl (decide_eq_true hs4_0) (fun w_ E_ => (o_ld sc23 rfl ((Bg1.mod0 E_).cell rfl))) rfl rfl ?_
        refine tvg rfl (decide_eq_true hs4_0) (fun w_ E_ => (o_mv rfl)) rfl rfl ?_
        refine tvg rfl (decide_eq_true hs4_0) (fun w_ E_ => (o_subE (r := ((k - 1 : Nat) : Int)) rfl rfl (by rw [wrap64_in _ (by omega)]; omega))) rfl rfl ?_
        refine tvg rfl (decide_eq_true hs4_0) (fun w_ E_ => (o_ix sl23 rfl rfl (by omega))) rfl rfl ?_
        refine tvg rfl (decide_eq_true hs4_0) (fun w_ E_ => (o_fad fd62_0 rfl)) rfl rfl ?_
        refine tvg rfl (decide_eq_true hs4_0) (fun w_ E_ => (o_ld sc9 rfl ((hcs_q.mod0 E_) 0 _ rfl))) rfl rfl ?_
        refine tvg rfl (decide_eq_true hs4_0) (fun w_ E_ => (o_fa0 fd62_0 rfl)) rfl rfl ?_
        refine tvg rfl (decide_eq_true hs4_0) (fun w_ E_ => (o_ld sc9 rfl ((Bg2.mod0 E_).cell rfl))) rfl rfl ?_
        refine tvg rfl (decide_eq_true hs4_0) (fun w_ E_ => (o_sge rfl rfl)) rfl rfl ?_
        refine tv (fun w_ E_ => (o_pickT (decide_eq_true hs4_0) rfl rfl)) rfl rfl ?_
        refine tv (fun w_ E_ => (o_mv rfl)) rfl rfl ?_
        refine tvg rfl (hs4_1) (fun w_ E_ => (o_fa0 fd62_1 rfl)) rfl rfl ?_
        refine tvg rfl (hs4_1) (fun w_ E_ => (o_lda (vs := [_, _, _, _, _, _]) ag25 rfl rfl ((Bg2.mod0 E_).cs rfl))) rfl rfl ?_
        refine tcg rfl (hs4_1) (fun w_ E_ => o_call ent14 rfl) (fun w_ E_ => ih _ x.2 _ (by have := JV.sz_in_map (List.mem_of_getElem? hx_x); omega) (R_x.to0 (E.then E_))) rfl rfl ?_
        refine tvg rfl (hs4_1) (fun w_ E_ => (o_not rfl)) rfl rfl ?_
        refine tv (fun w_ E_ => (o_pickF (hs4_1) rfl rfl)) rfl rfl ?_
        refine tw_nil rfl fun w5 E_ => ?_
        replace Bg1 := Bg1.mod0 E_
        replace Bg2 := Bg2.mod0 E_
        replace E := E.then E_
        refine e_K (hK8 _ _ _ _ ?_)
        refine c_cond rfl (fun h34 => ?_) (fun h34 => ?_)
        · skip
          have hz3 : v.rises = false := JV.not_Rise_val hx_x (by simpa using h34)
          refine c_seq fun K9 hK9 => ?_
          refine c_region ?_
          refine sv (o_as rfl) rfl ?_
          refine l_nil ?_
          refine e_K (hK9 _ _ _ _ ?_)
          refine c_ret ?_
          refine e_in (by simp) ?_
          refine e_then (by simp) ?_
          refine e_then (by simp) ?_
          refine e_in (by simp) ?_
          refine e_then (by simp) ?_
          exact ret1 rfl rfl ⟨by rw [hz3], E⟩
        · skip
          have hB2 : ∀ (i : Nat) (p : List UInt8 × JV), i < k + 1 → v.map[i]? = some p → p.2.rises = true := fun i p hi hp => by
            rcases Nat.lt_succ_iff_lt_or_eq.1 hi with h | h
            · exact hB i p h hp
            · subst h; rw [hx_x] at hp; injection hp with hp; subst hp; simpa using h34
          have hA2 : ∀ (i : Nat) (a b : List UInt8 × JV), i + 1 < k + 1 → v.map[i]? = some a → v.map[i + 1]? = some b → bl a.1 b.1 = true := fun i a b hi ha hb => by
            rcases Nat.lt_succ_iff_lt_or_eq.1 hi with h | h
            · exact hA i a b h ha hb
            · exact hAk a b (by omega) (by rw [← h]; exact ha) (by rw [← h]; exact hb)
          refine c_skip ?_
          refine e_in (by simp) ?_
          refine e_K (hK6 _ _ _ _ ?_)
          refine c_region ?_
          refine sv (o_addN rfl rfl (by omega)) rfl ?_
          refine sv (o_mv rfl) rfl ?_
          refine l_nil ?_
          exact e_round (σ := Nat) (s := k) (k + 1) ⟨rfl, rfl, rfl, rfl, trivial⟩ ⟨by omega, hA2, hB2, Bg1, E⟩ (by omega)
      · skip
        refine c_draw wide (by kernel_rfl) ?_
        refine tv (fun w_ E_ => (o_mv rfl)) rfl rfl ?_
        refine tv (fun w_ E_ => (o_gtr rfl rfl)) rfl rfl ?_
        refine tv (fun w_ E_ => (o_mv rfl)) rfl rfl ?_
        refine tvg rfl (decide_eq_true hs4_0) (fun w_ E_ => (o_fa0 fd25_5 rfl)) rfl rfl ?_
        refine tvg rfl (decide_eq_true hs4_0) (fun w_ E_ => (o_ld sc23 rfl ((Bg1.mod0 E_).cell rfl))) rfl rfl ?_
        refine tvg rfl (decide_eq_true hs4_0) (fun w_ E_ => (o_mv rfl)) rfl rfl ?_
        refine tvg rfl (decide_eq_true hs4_0) (fun w_ E_ => (o_subE (r := ((k - 1 : Nat) : Int)) rfl rfl (by rw [wrap64_in _ (by omega)]; omega))) rfl rfl ?_
        refine tvg rfl (decide_eq_true hs4_0) (fun w_ E_ => (o_ix sl23 rfl rfl (by omega))) rfl rfl ?_
        refine tvg rfl (decide_eq_true hs4_0) (fun w_ E_ => (o_fad fd62_0 rfl)) rfl rfl ?_
        refine tvg rfl (decide_eq_true hs4_0) (fun w_ E_ => (o_ld sc9 rfl ((hcs_q.mod0 E_) 0 _ rfl))) rfl rfl ?_
        refine tvg rfl (decide_eq_true hs4_0) (fun w_ E_ => (o_fa0 fd62_0 rfl)) rfl rfl ?_
        refine tvg rfl (decide_eq_true hs4_0) (fun w_ E_ => (o_ld sc9 rfl ((Bg2.mod0 E_).cell rfl))) rfl rfl ?_
        refine tvg rfl (decide_eq_true hs4_0) (fun w_ E_ => (o_sge rfl rfl)) rfl rfl ?_
        refine tv (fun w_ E_ => (o_pickT (decide_eq_true hs4_0) rfl rfl)) rfl rfl ?_
        refine tv (fun w_ E_ => (o_mv rfl)) rfl rfl ?_
        refine tn rfl (fun e_ => absurd ((hs4_1).symm.trans e_) (by decide)) rfl ?_
        refine tn rfl (fun e_ => absurd ((hs4_1).symm.trans e_) (by decide)) rfl ?_
        refine tn rfl (fun e_ => absurd ((hs4_1).symm.trans e_) (by decide)) rfl ?_
        refine tn rfl (fun e_ => absurd ((hs4_1).symm.trans e_) (by decide)) rfl ?_
        refine tv (fun w_ E_ => (o_pickT (hs4_1) rfl rfl)) rfl rfl ?_
        refine tw_nil rfl fun w6 E_ => ?_
        replace Bg1 := Bg1.mod0 E_
        replace Bg2 := Bg2.mod0 E_
        replace E := E.then E_
        refine e_K (hK8 _ _ _ _ ?_)
        refine c_true rfl ?_
        have hz3 : v.rises = false := JV.not_Rise_asc hx_q hx_x (by omega) (by simpa using hs4_1)
        refine c_seq fun K10 hK10 => ?_
        refine c_region ?_
        refine sv (o_as rfl) rfl ?_
        refine l_nil ?_
        refine e_K (hK10 _ _ _ _ ?_)
        refine c_ret ?_
        refine e_in (by simp) ?_
        refine e_then (by simp) ?_
        refine e_then (by simp) ?_
        refine e_in (by simp) ?_
        refine e_then (by simp) ?_
        exact ret1 rfl rfl ⟨by rw [hz3], E⟩
    · skip
      have hAk : ∀ a b : List UInt8 × JV, 0 < k → v.map[k - 1]? = some a → v.map[k]? = some b → bl a.1 b.1 = true := fun a b h => by omega
      refine c_draw wide (by kernel_rfl) ?_
      refine tv (fun w_ E_ => (o_mv rfl)) rfl rfl ?_
      refine tv (fun w_ E_ => (o_gtr rfl rfl)) rfl rfl ?_
      refine tv (fun w_ E_ => (o_mv rfl)) rfl rfl ?_
      refine tn rfl (fun e_ => absurd ((decide_eq_false hs4_0).symm.trans e_) (by decide)) rfl ?_
      refine tn rfl (fun e_ => absurd ((decide_eq_false hs4_0).symm.trans e_) (by decide)) rfl ?_
      refine tn rfl (fun e_ => absurd ((decide_eq_false hs4_0).symm.trans e_) (by decide)) rfl ?_
      refine tn rfl (fun e_ => absurd ((decide_eq_false hs4_0).symm.trans e_) (by decide)) rfl ?_
      refine tn rfl (fun e_ => absurd ((decide_eq_false hs4_0).symm.trans e_) (by decide)) rfl ?_
      refine tn rfl (fun e_ => absurd ((decide_eq_false hs4_0).symm.trans e_) (by decide)) rfl ?_
      refine tn rfl (fun e_ => absurd ((decide_eq_false hs4_0).symm.trans e_) (by decide)) rfl ?_
      refine tn rfl (fun e_ => absurd ((decide_eq_false hs4_0).symm.trans e_) (by decide)) rfl ?_
      refine tn rfl (fun e_ => absurd ((decide_eq_false hs4_0).symm.trans e_) (by decide)) rfl ?_
      refine tn rfl (fun e_ => absurd ((decide_eq_false hs4_0).symm.trans e_) (by decide)) rfl ?_
      refine tv (fun w_ E_ => (o_pickF (decide_eq_false hs4_0) rfl rfl)) rfl rfl ?_
      refine tv (fun w_ E_ => (o_mv rfl)) rfl rfl ?_
      refine tvg rfl (rfl) (fun w_ E_ => (o_fa0 fd62_1 rfl)) rfl rfl ?_
      refine tvg rfl (rfl) (fun w_ E_ => (o_lda (vs := [_, _, _, _, _, _]) ag25 rfl rfl ((Bg2.mod0 E_).cs rfl))) rfl rfl ?_
      refine tcg rfl (rfl) (fun w_ E_ => o_call ent14 rfl) (fun w_ E_ => ih _ x.2 _ (by have := JV.sz_in_map (List.mem_of_getElem? hx_x); omega) (R_x.to0 (E.then E_))) rfl rfl ?_
      refine tvg rfl (rfl) (fun w_ E_ => (o_not rfl)) rfl rfl ?_
      refine tv (fun w_ E_ => (o_pickF (rfl) rfl rfl)) rfl rfl ?_
      refine tw_nil rfl fun w7 E_ => ?_
      replace Bg1 := Bg1.mod0 E_
      replace Bg2 := Bg2.mod0 E_
      replace E := E.then E_
      refine e_K (hK8 _ _ _ _ ?_)
      refine c_cond rfl (fun h34 => ?_) (fun h34 => ?_)
      · skip
        have hz3 : v.rises = false := JV.not_Rise_val hx_x (by simpa using h34)
        refine c_seq fun K11 hK11 => ?_
        refine c_region ?_
        refine sv (o_as rfl) rfl ?_
        refine l_nil ?_
        refine e_K (hK11 _ _ _ _ ?_)
        refine c_ret ?_
        refine e_in (by simp) ?_
        refine e_then (by simp) ?_
        refine e_then (by simp) ?_
        refine e_in (by simp) ?_
        refine e_then (by simp) ?_
        exact ret1 rfl rfl ⟨by rw [hz3], E⟩
      · skip
        have hB2 : ∀ (i : Nat) (p : List UInt8 × JV), i < k + 1 → v.map[i]? = some p → p.2.rises = true := fun i p hi hp => by
          rcases Nat.lt_succ_iff_lt_or_eq.1 hi with h | h
          · exact hB i p h hp
          · subst h; rw [hx_x] at hp; injection hp with hp; subst hp; simpa using h34
        have hA2 : ∀ (i : Nat) (a b : List UInt8 × JV), i + 1 < k + 1 → v.map[i]? = some a → v.map[i + 1]? = some b → bl a.1 b.1 = true := fun i a b hi ha hb => by
          rcases Nat.lt_succ_iff_lt_or_eq.1 hi with h | h
          · exact hA i a b h ha hb
          · exact hAk a b (by omega) (by rw [← h]; exact ha) (by rw [← h]; exact hb)
        refine c_skip ?_
        refine e_in (by simp) ?_
        refine e_K (hK6 _ _ _ _ ?_)
        refine c_region ?_
        refine sv (o_addN rfl rfl (by omega)) rfl ?_
        refine sv (o_mv rfl) rfl ?_
        refine l_nil ?_
        exact e_round (σ := Nat) (s := k) (k + 1) ⟨rfl, rfl, rfl, rfl, trivial⟩ ⟨by omega, hA2, hB2, Bg1, E⟩ (by omega)
  · skip
    refine c_exit ?_
    refine e_then (by simp) ?_
    refine e_then (by simp) ?_
    refine e_hit ?_
    refine e_K (hK2 _ _ _ _ ?_)
    refine c_seq fun K12 hK12 => ?_
    refine c_seq fun K13 hK13 => ?_
    refine c_region ?_
    refine sv (o_fa0 fd25_4 rfl) rfl ?_
    refine sv (o_ld sc22 rfl (Bg1.cell rfl)) rfl ?_
    refine sv (o_len Tryd.underlying22 rfl) rfl ?_
    refine sv (o_mv rfl) rfl ?_
    refine l_nil ?_
    refine e_K (hK13 _ _ _ _ ?_)
    refine c_block ?_
    refine c_loop (σ := Nat) (fun j => [(1, .pointer (some ⟨g1, 0, none⟩)), (37, .slice al v.list.length cl), (38, .int .i64 v.list.length), (39, .int .i64 (j : Int))]) (fun j w1 => j ≤ v.list.length ∧ (∀ (i : Nat) (p : JV), i < j → v.list[i]? = some p → p.rises = true) ∧ Blk w1 g1 25 [.int .i64 v.kind, .bool v.is, .int .i64 v.num, S v.str, .slice al v.list.length cl, .slice am v.map.length cm] ∧ Mod [] w w1) (fun j => v.list.length - j) (0) ⟨rfl, rfl, rfl, rfl, trivial⟩ (⟨by omega, fun i p h => by omega, Bg1, E⟩) ?_
    rintro j w8 ⟨hj, hC, Bg1, E⟩
    refine c_seq fun K14 hK14 => ?_
    refine c_region ?_
    refine sv (o_lss rfl rfl) rfl ?_
    refine l_nil ?_
    refine e_K (hK14 _ _ _ _ ?_)
    refine c_seq fun K15 hK15 => ?_
    refine c_if rfl (fun h40 => ?_) (fun h40 => ?_)
    · skip
      obtain ⟨x, hx_x⟩ : ∃ x, v.list[j]? = some x := ⟨_, List.getElem?_eq_getElem (by omega)⟩
      obtain ⟨a_x, us_x, ha_x, R_x, hcs0_x⟩ := JV.at_l Rl hx_x
      obtain ⟨al_x, cl_x, am_x, cm_x, rfl, Rl_x, Rm_x⟩ := JV.cells_ R_x
      have hcs_x := hcs0_x.mod0 E
      have hcap_x := JV.cap_l Rl
      obtain rfl := ha_x
      refine c_skip ?_
      refine e_K (hK15 _ _ _ _ ?_)
      refine c_seq fun K16 hK16 => ?_
      refine c_block ?_
      refine c_seq fun K17 hK17 => ?_
      refine c_region ?_
      refine sv (o_ix sl22 rfl rfl (by omega)) rfl ?_
      refine sv (o_lda ag25 rfl rfl hcs_x) rfl ?_
      refine s_alloc zv25 rfl fun g3 w9 N3 => ?_
      have Lg3_E := N3.le E
      have Dg1_g3 := N3.ne Bg1
      replace Bg1 := Bg1.mod0 N3.mod
      replace E := E.then N3.mod
      have Bg3 := N3.blk
      refine s_sta (vs := [_, _, _, _, _, _]) ag25 Bg3 rfl rfl rfl (by simp [Value.oneCell']) (by simp) fun w10 P10 => ?_
      replace Bg1 := Bg1.ne P10.mod (Ne.symm (Ne.symm Dg1_g3))
      replace E := E.own P10.mod Lg3_E
      replace Bg3 : Blk w10 g3 _ [_, _, _, _, _, _] := P10.blk
      refine l_nil ?_
      refine e_K (hK17 _ _ _ _ ?_)
      refine c_seq fun K18 hK18 => ?_
      refine c_region ?_
      refine sv (o_lda (vs := [_, _, _, _, _, _]) ag25 rfl rfl (Bg3.cs rfl)) rfl ?_
      refine sc (o_call ent14 rfl) (ih _ x _ (by have := JV.sz_in_list (List.mem_of_getElem? hx_x); omega) (R_x.to0 E)) rfl fun v_ w11 h_ => ?_
      obtain ⟨rfl, E_⟩ := h_
      replace Bg1 := Bg1.mod0 E_
      replace Bg3 := Bg3.mod0 E_
      replace E := E.then E_
      refine sv (o_not rfl) rfl ?_
      refine l_nil ?_
      refine e_K (hK18 _ _ _ _ ?_)
      refine c_cond rfl (fun h45 => ?_) (fun h45 => ?_)
      · skip
        have hz3 : v.rises = false := JV.not_Rise_list hx_x (by simpa using h45)
        refine c_seq fun K19 hK19 => ?_
        refine c_region ?_
        refine sv (o_as rfl) rfl ?_
        refine l_nil ?_
        refine e_K (hK19 _ _ _ _ ?_)
        refine c_ret ?_
        refine e_in (by simp) ?_
        refine e_then (by simp) ?_
        refine e_then (by simp) ?_
        refine e_in (by simp) ?_
        refine e_then (by simp) ?_
        exact ret1 rfl rfl ⟨by rw [hz3], E⟩
      · skip
        have hC2 : ∀ (i : Nat) (p : JV), i < j + 1 → v.list[i]? = some p → p.rises = true := fun i p hi hp => by
          rcases Nat.lt_succ_iff_lt_or_eq.1 hi with h | h
          · exact hC i p h hp
          · subst h; rw [hx_x] at hp; injection hp with hp; subst hp; simpa using h45
        refine c_skip ?_
        refine e_in (by simp) ?_
        refine e_K (hK16 _ _ _ _ ?_)
        refine c_region ?_
        refine sv (o_addN rfl rfl (by omega)) rfl ?_
        refine sv (o_mv rfl) rfl ?_
        refine l_nil ?_
        exact e_round (σ := Nat) (s := j) (j + 1) ⟨rfl, rfl, rfl, rfl, trivial⟩ ⟨by omega, hC2, Bg1, E⟩ (by omega)
    · skip
      refine c_exit ?_
      refine e_then (by simp) ?_
      refine e_then (by simp) ?_
      refine e_hit ?_
      refine e_K (hK12 _ _ _ _ ?_)
      refine c_seq fun K20 hK20 => ?_
      refine c_region ?_
      refine sv (o_as rfl) rfl ?_
      refine l_nil ?_
      refine e_K (hK20 _ _ _ _ ?_)
      refine c_ret ?_
      exact ret1 rfl rfl ⟨by rw [JV.Rise_of (fun i a b ha hb => hA i a b (by have := (List.getElem?_eq_some_iff.1 hb).1; omega) ha hb) (fun i p hp => hB i p (by have := (List.getElem?_eq_some_iff.1 hp).1; omega) hp) (fun i x hx => hC i x (by have := (List.getElem?_eq_some_iff.1 hx).1; omega) hx)], E⟩

theorem c_rises_all : ∀ N : Nat, ∀ (w : World) (v : JV) (us : List Value), v.sz ≤ N → Reps [] w v.D us → Calls Tryd.prog 14 [.agg us.toArray].toArray w (Ret fun u w' => u = .bool v.rises ∧ Mod [] w w')
  | 0, w, v, us, h, R => absurd (JV.sz_eq v) (by omega)
  | N + 1, w, v, us, h, R => c_rises_step N (c_rises_all N) w v us h R
theorem c_rises (w : World) (v : JV) (us : List Value) (R : Reps [] w v.D us) : Calls Tryd.prog 14 [.agg us.toArray].toArray w (Ret fun u w' => u = .bool v.rises ∧ Mod [] w w') := c_rises_all v.sz w v us (Nat.le_refl _) R
end Go.Proofs.YtkhbnhdlelmbnaaDoor.V
