/-
  A part of the proof: JSON values in memory: their cells, the rows of their lists and maps; how much a JSON value weighs, whether its keys rise, whether two are the same, in plain Lean; members put into a map: rows of seven cells; runes, texts between quotes, canonical texts of JSON values, as the document tells them, in plain Lean; runes, step by step; a text between quotes, byte by byte; errors' numbers; bytes that grow behind one another while a JSON value is read: what is kept from step to step; panics that go through a call; a range over a string; a drawn region's operations that look at two or three slots of which something is known; its tail behind two such slots. No condition of its own.
-/
import Derived.Test.YthmohmpalbnjoaaM4
import Derived.Lib.ItoaLen
import Derived.Laws.RangeString
import Derived.WalkSmall
set_option linter.unusedVariables false
set_option linter.unusedSimpArgs false
namespace Go.Proofs.Ythmohmpalbnjoaa.V
open Go
section
variable {A : List Nat} {w w' : World}
theorem Addr.add_add' (a : Addr) (i j : Nat) : (a.add i).add j = a.add (i + j) := by
  unfold Addr.add
  by_cases h : i = 0 <;> by_cases h' : j = 0 <;> simp [h, h', Nat.add_assoc]
theorem Cs.tail_ {a : Addr} {v : Value} {vs : List Value} (h : Cs w a (v :: vs)) : Cs w (a.add 1) vs := fun j u hu => by
  have := h (j + 1) u (by simpa using hu)
  rwa [Addr.add_add', Nat.add_comm 1 j]
theorem JV.cells_ {v : JV} {us : List Value} (R : Reps A w v.D us) : ∃ al cl am cm, us = [.int .i64 v.kind, .bool v.is, .int .i64 v.num, S v.str, .slice al v.list.length cl, .slice am v.map.length cm] ∧
    Rep A w (.sl 6 (v.list.map JV.D)) (.slice al v.list.length cl) ∧ Rep A w (.sl 7 (v.map.map JV.Dp)) (.slice am v.map.length cm) := by
  rw [JV.D_eq] at R
  obtain ⟨_, _, rfl, h1, R⟩ := R
  obtain ⟨_, _, rfl, h2, R⟩ := R
  obtain ⟨_, _, rfl, h3, R⟩ := R
  obtain ⟨_, _, rfl, h4, R⟩ := R
  obtain ⟨_, _, rfl, h5, R⟩ := R
  obtain ⟨_, _, rfl, h6, R⟩ := R
  obtain rfl := R
  obtain rfl := h1.v_eq
  obtain rfl := h2.v_eq
  obtain rfl := h3.v_eq
  obtain rfl := h4.v_eq
  obtain ⟨al, cl, rfl, _⟩ := h5.sl_
  obtain ⟨am, cm, rfl, _⟩ := h6.sl_
  rw [List.length_map] at h5 h6 ⊢
  rw [List.length_map]
  exact ⟨al, cl, am, cm, rfl, h5, h6⟩
theorem JV.reps_ {v : JV} {al am : Option Addr} {cl cm : Nat} (Rl : Rep A w (.sl 6 (v.list.map JV.D)) (.slice al v.list.length cl)) (Rm : Rep A w (.sl 7 (v.map.map JV.Dp)) (.slice am v.map.length cm)) :
    Reps A w v.D [.int .i64 v.kind, .bool v.is, .int .i64 v.num, S v.str, .slice al v.list.length cl, .slice am v.map.length cm] := by
  rw [JV.D_eq]
  exact Reps.cons_ (Rep.v_ rfl) (Reps.cons_ (Rep.v_ rfl) (Reps.cons_ (Rep.v_ rfl) (Reps.cons_ (Rep.v_ rfl) (Reps.cons_ Rl (Reps.cons_ Rm Reps.nil_)))))
theorem JV.cap_l {l : List JV} {ad : Option Addr} {n c : Nat} (R : Rep A w (.sl 6 (l.map JV.D)) (.slice ad n c)) : l.length = n ∧ n ≤ c ∧ c ≤ 9223372036854775807 := by
  obtain ⟨ad', c', h1, h2, h3⟩ := R.sl_
  injection h1 with h4 h5 h6
  rw [List.length_map] at h5 h2
  omega
theorem JV.cap_m {m : List (Str × JV)} {ad : Option Addr} {n c : Nat} (R : Rep A w (.sl 7 (m.map JV.Dp)) (.slice ad n c)) : m.length = n ∧ n ≤ c ∧ c ≤ 9223372036854775807 := by
  obtain ⟨ad', c', h1, h2, h3⟩ := R.sl_
  injection h1 with h4 h5 h6
  rw [List.length_map] at h5 h2
  omega
theorem JV.at_l {l : List JV} {x : JV} {ad : Option Addr} {n c i : Nat} (R : Rep A w (.sl 6 (l.map JV.D)) (.slice ad n c)) (h : l[i]? = some x) : ∃ a us, ad = some a ∧ Reps A w x.D us ∧ Cs w (a.add (i * 6)) us := by
  obtain ⟨a, us, h1, h2, _, h3, _⟩ := Rep.at_ (i := i) (r := x.D) R (by simp [h])
  exact ⟨a, us, h1, h2, h3⟩
theorem JV.at_m {m : List (Str × JV)} {p : Str × JV} {ad : Option Addr} {n c i : Nat} (R : Rep A w (.sl 7 (m.map JV.Dp)) (.slice ad n c)) (h : m[i]? = some p) : ∃ a us, ad = some a ∧ Reps A w p.2.D us ∧ Cs w (a.add (i * 7)) (S p.1 :: us) := by
  obtain ⟨a, us, h1, h2, _, h3, _⟩ := Rep.at_ (i := i) (r := JV.Dp p) R (by simp [h])
  obtain ⟨u, us', rfl, h4, h5⟩ := h2
  obtain rfl := h4.v_eq
  exact ⟨a, us', h1, h5, h3⟩
/-- what is empty -/
def JV.nul : JV := .mk 0 false 0 [] [] []
theorem JV.nul_reps : Reps A w JV.nul.D [.int .i64 0, .bool false, .int .i64 0, S [], .slice none 0 0, .slice none 0 0] := by
  have := JV.reps_ (A := A) (w := w) (v := JV.nul) (al := none) (am := none) (cl := 0) (cm := 0) Rep.sl_nil Rep.sl_nil
  exact this
theorem JV.cells_one {v : JV} {us : List Value} (R : Reps A w v.D us) : us.length = 6 ∧ ∀ u ∈ us, u.oneCell' = true := ⟨by rw [R.length, JV.D_len], R.one⟩
theorem JV.Dp_all (m : List (Str × JV)) : ∀ r ∈ m.map JV.Dp, r.length = 7 := by
  intro r hr
  obtain ⟨p, _, rfl⟩ := List.mem_map.1 hr
  exact JV.Dp_len p
theorem JV.Dp_reps {p : Str × JV} {us : List Value} (R : Reps A w p.2.D us) : Reps A w (JV.Dp p) (S p.1 :: us) := Reps.cons_ (Rep.v_ rfl) R
theorem rows_flat_len {sz : Nat} : ∀ {rows : List (List D)}, (∀ r ∈ rows, r.length = sz) → rows.flatten.length = rows.length * sz
  | [], _ => by simp
  | r :: rs, h => by
    rw [List.flatten_cons, List.length_append, h r (by simp), rows_flat_len fun r' hr' => h r' (by simp [hr']), List.length_cons, Nat.add_mul]
    omega
theorem Reps.rows_at {sz i : Nat} {rows : List (List D)} {vs : List Value} (hl : ∀ r ∈ rows, r.length = sz) (hi : i ≤ rows.length) (h : Reps A w rows.flatten vs) :
    Reps A w (rows.take i).flatten (vs.take (i * sz)) ∧ Reps A w (rows.drop i).flatten (vs.drop (i * sz)) := by
  have e : rows.flatten = (rows.take i).flatten ++ (rows.drop i).flatten := by rw [← List.flatten_append, List.take_append_drop]
  rw [e] at h
  have := h.cut
  rwa [rows_flat_len fun r hr => hl r (List.mem_of_mem_take hr), List.length_take, Nat.min_eq_left hi] at this
theorem JV.rows_ins {m : List (Str × JV)} {p : Str × JV} {vs us : List Value} {i : Nat} (h : Reps A w (m.map JV.Dp).flatten vs) (hi : i ≤ m.length) (hp : Reps A w (JV.Dp p) us) :
    Reps A w ((m.take i ++ [p] ++ m.drop i).map JV.Dp).flatten (vs.take (i * 7) ++ us ++ vs.drop (i * 7)) := by
  obtain ⟨h1, h2⟩ := Reps.rows_at (i := i) (JV.Dp_all m) (by simpa using hi) h
  rw [List.map_append, List.map_append, List.flatten_append, List.flatten_append, List.map_take, List.map_drop]
  refine (h1.append ?_).append h2
  simpa using hp
theorem JV.rows_set {m : List (Str × JV)} {p : Str × JV} {vs us : List Value} {i : Nat} (h : Reps A w (m.map JV.Dp).flatten vs) (hi : i < m.length) (hp : Reps A w (JV.Dp p) us) :
    Reps A w ((m.set i p).map JV.Dp).flatten (vs.take (i * 7) ++ us ++ vs.drop ((i + 1) * 7)) := by
  obtain ⟨h1, _⟩ := Reps.rows_at (i := i) (JV.Dp_all m) (by simpa using Nat.le_of_lt hi) h
  obtain ⟨_, h2⟩ := Reps.rows_at (i := i + 1) (JV.Dp_all m) (by rw [List.length_map]; omega) h
  rw [List.set_eq_take_append_cons_drop, if_pos hi, List.map_append, List.map_cons, List.flatten_append, List.flatten_cons, List.map_take, List.map_drop, List.append_assoc]
  exact h1.append (hp.append h2)
theorem JV.rows_snoc {m : List (Str × JV)} {p : Str × JV} {vs us : List Value} (h : Reps A w (m.map JV.Dp).flatten vs) (hp : Reps A w (JV.Dp p) us) : Reps A w ((m ++ [p]).map JV.Dp).flatten (vs ++ us) := by
  rw [List.map_append, List.flatten_append]
  refine h.append ?_
  simpa using hp
/-- a slice of the call's own, as members -/
theorem Own.mem_ {e : Nat} {v : Value} {m : List (Str × JV)} {n : Nat} {vs : List Value} (O : Own w e 7 v n vs) (h : Reps A w (m.map JV.Dp).flatten vs) (hn : m.length = n) (hA : ∀ x ∈ ob v, x ∉ A) : Rep A w (.sl 7 (m.map JV.Dp)) v :=
  O.rep h (JV.Dp_all m) (by simpa using hn) hA
variable {P : Program} {ops : Array Oper} {Q : Exit → Act → World → Prop} {n : Nat} {ds : List Deferred} {l : List (Nat × Value)}
variable {rest : List Oper} {ty : TypeId} {pos : String} {af : Array Edge} {x y : Operand}
/-- some cells of an element of a slice of the call's own are written -/
theorem s_stownp {e sz N c p k : Nat} {ad : Addr} {vs us : List Value} {T : TypeId} (ht : agB P T k = true) (O : Own w e sz (.slice (some ad) N c) N vs) (hx : evO l x = some (.pointer (some (ad.add p)))) (hy : evO l y = some (.agg us.toArray)) (hl : us.length = k) (h1c : ∀ u ∈ us, u.oneCell' = true) (hi : p + k ≤ N * sz)
    (h : ∀ w', Own w' e sz (.slice (some ad) N c) N (vs.take p ++ us ++ vs.drop (p + k)) → Mod [ad.block] w w' → w'.heap.size = w.heap.size → WL P ops Q rest n ds l w') :
    WL P ops Q (⟨none, .store T x y, ty, pos, af, none⟩ :: rest) n ds l w := by
  rcases O.2 with ⟨h0, _⟩ | ⟨g, o, cap, cs, hv, hB, hc1, hc2, hc3, hc4⟩
  · cases h0
  injection hv with e1 e2 e3
  injection e1 with e1
  subst e1; subst e3
  have hle2 : N * sz ≤ c * sz := Nat.mul_le_mul_right _ hc1
  have hvl := O.1
  rw [Addr.add_lit] at hx
  refine s_sta (vs := us) ht hB hx hy hl h1c (by omega) fun w' hp => ?_
  refine h w' ⟨?_, .inr ⟨g, o, c, _, rfl, hp.blk, hc1, hc2, by simp [splice]; omega, ?_⟩⟩ hp.mod hp.size
  · simp only [List.length_append, List.length_take, List.length_drop, hl, hvl]
    omega
  · subst hc4
    apply List.ext_getElem?
    intro j
    simp only [splice, hl]
    simp only [List.getElem?_take, List.getElem?_drop, List.getElem?_append, List.length_append, List.length_take, List.length_drop, hl]
    repeat' split
    all_goals first
      | omega
      | rfl
      | (congr 1; omega)
      | skip
end
end Go.Proofs.Ythmohmpalbnjoaa.V

set_option linter.unusedVariables false
set_option linter.unusedSimpArgs false
namespace Go.Proofs.Ythmohmpalbnjoaa.V
open Go
abbrev w64 (z : Int) : Int := IntKind.i64.wrap z
namespace JV
mutual
def weigh : JV → Int → Int → Int
  | .mk _ _ _ s l m, left, deep => if deep = 0 then -1 else weighm m (weighl l (w64 (w64 (left - 1) - s.length)) (w64 (deep - 1))) (w64 (deep - 1))
def weighl : List JV → Int → Int → Int
  | [], left, _ => left
  | v :: r, left, d => if left < 0 then left else weighl r (v.weigh left d) d
def weighm : List (List UInt8 × JV) → Int → Int → Int
  | [], left, _ => left
  | p :: r, left, d => if left < 0 then left else weighm r (p.2.weigh (w64 (left - p.1.length)) d) d
end
theorem weigh_eq (v : JV) (left deep : Int) : v.weigh left deep = if deep = 0 then -1 else weighm v.map (weighl v.list (w64 (w64 (left - 1) - v.str.length)) (w64 (deep - 1))) (w64 (deep - 1)) := by
  cases v
  simp only [weigh, map, list, str]
theorem weighl_neg {l : List JV} {z d : Int} (h : z < 0) : weighl l z d = z := by
  cases l <;> simp [weighl, h]
theorem weighm_neg {l : List (List UInt8 × JV)} {z d : Int} (h : z < 0) : weighm l z d = z := by
  cases l <;> simp [weighm, h]
theorem weighl_at {l : List JV} {k : Nat} {x : JV} {z d : Int} (hx : l[k]? = some x) (h : ¬ z < 0) : weighl (l.drop k) z d = weighl (l.drop (k + 1)) (x.weigh z d) d := by
  obtain ⟨hk, rfl⟩ := List.getElem?_eq_some_iff.1 hx
  rw [List.drop_eq_getElem_cons hk, weighl, if_neg h]
theorem weighm_at {l : List (List UInt8 × JV)} {k : Nat} {x : List UInt8 × JV} {z d : Int} (hx : l[k]? = some x) (h : ¬ z < 0) : weighm (l.drop k) z d = weighm (l.drop (k + 1)) (x.2.weigh (w64 (z - x.1.length)) d) d := by
  obtain ⟨hk, rfl⟩ := List.getElem?_eq_some_iff.1 hx
  rw [List.drop_eq_getElem_cons hk, weighm, if_neg h]
theorem weighl_end {l : List JV} {k : Nat} {z d : Int} (h : l.length ≤ k) : weighl (l.drop k) z d = z := by
  rw [List.drop_eq_nil_of_le h, weighl]
theorem weighm_end {l : List (List UInt8 × JV)} {k : Nat} {z d : Int} (h : l.length ≤ k) : weighm (l.drop k) z d = z := by
  rw [List.drop_eq_nil_of_le h, weighm]
open Classical in
noncomputable def ascB (m : List (List UInt8 × JV)) : Bool := decide (ascM m)
mutual
/-- do the keys rise, in all maps? -/
def Rise : JV → Prop
  | .mk _ _ _ _ l m => ascM m ∧ Risel l ∧ Risem m
def Risel : List JV → Prop
  | [] => True
  | v :: r => v.Rise ∧ Risel r
def Risem : List (List UInt8 × JV) → Prop
  | [] => True
  | p :: r => p.2.Rise ∧ Risem r
end
theorem Risel_mem : ∀ {l : List JV}, Risel l ↔ ∀ v ∈ l, v.Rise
  | [] => by simp [Risel]
  | v :: r => by simp [Risel, Risel_mem (l := r)]
theorem Risem_mem : ∀ {l : List (List UInt8 × JV)}, Risem l ↔ ∀ p ∈ l, p.2.Rise
  | [] => by simp [Risem]
  | v :: r => by simp [Risem, Risem_mem (l := r)]
theorem Rise_eq (v : JV) : v.Rise ↔ ascM v.map ∧ (∀ x ∈ v.list, x.Rise) ∧ ∀ p ∈ v.map, p.2.Rise := by
  cases v
  simp only [Rise, map, list, Risel_mem, Risem_mem]
open Classical in
noncomputable def rises (v : JV) : Bool := decide v.Rise
theorem rises_iff {v : JV} : v.rises = true ↔ v.Rise := by simp [rises]
theorem rises_false {v : JV} (h : ¬ v.Rise) : v.rises = false := by simp [rises, h]
theorem rises_true {v : JV} (h : v.Rise) : v.rises = true := by simp [rises, h]
theorem not_Rise_val {v : JV} {k : Nat} {p : List UInt8 × JV} (hp : v.map[k]? = some p) (h : p.2.rises = false) : v.rises = false := rises_false fun hr => by
  have := rises_true (((Rise_eq v).1 hr).2.2 p (List.mem_of_getElem? hp))
  rw [this] at h; cases h
theorem not_Rise_list {v x : JV} {k : Nat} (hp : v.list[k]? = some x) (h : x.rises = false) : v.rises = false := rises_false fun hr => by
  have := rises_true (((Rise_eq v).1 hr).2.1 x (List.mem_of_getElem? hp))
  rw [this] at h; cases h
theorem not_Rise_asc {v : JV} {i k : Nat} {p q : List UInt8 × JV} (hq : v.map[i]? = some q) (hp : v.map[k]? = some p) (hik : i < k) (h : bl q.1 p.1 = false) : v.rises = false := rises_false fun hr => by
  have := ascM_lt ((Rise_eq v).1 hr).1 hq hp hik
  rw [this] at h; cases h
theorem Rise_of {v : JV} (h1 : ∀ (i : Nat) (a b : List UInt8 × JV), v.map[i]? = some a → v.map[i + 1]? = some b → bl a.1 b.1 = true) (h2 : ∀ (i : Nat) (p : List UInt8 × JV), v.map[i]? = some p → p.2.rises = true) (h3 : ∀ (i : Nat) (x : JV), v.list[i]? = some x → x.rises = true) : v.rises = true := by
  refine rises_true ((Rise_eq v).2 ⟨ascM_of h1, fun x hx => ?_, fun p hp => ?_⟩)
  · obtain ⟨i, hi⟩ := List.getElem?_of_mem hx
    exact rises_iff.1 (h3 i x hi)
  · obtain ⟨i, hi⟩ := List.getElem?_of_mem hp
    exact rises_iff.1 (h2 i p hi)
open Classical in
/-- are two values the same? -/
noncomputable def eqJ (a b : JV) : Bool := decide (a = b)
theorem eqJ_iff {a b : JV} : eqJ a b = true ↔ a = b := by simp [eqJ]
theorem eqJ_self (a : JV) : eqJ a a = true := by simp [eqJ]
theorem eqJ_ne {a b : JV} (h : a ≠ b) : eqJ a b = false := by simp [eqJ, h]
theorem ext_ {a b : JV} (h1 : a.kind = b.kind) (h2 : a.is = b.is) (h3 : a.num = b.num) (h4 : a.str = b.str) (h5 : a.list = b.list) (h6 : a.map = b.map) : a = b := by
  rw [eta a, eta b, h1, h2, h3, h4, h5, h6]
theorem list_ext_ {α : Type} {a b : List α} (hl : a.length = b.length) (h : ∀ (i : Nat) (x y : α), i < a.length → a[i]? = some x → b[i]? = some y → x = y) : a = b := by
  apply List.ext_getElem hl
  intro i h1 h2
  exact h i _ _ h1 (List.getElem?_eq_getElem h1) (List.getElem?_eq_getElem h2)
end JV
end Go.Proofs.Ythmohmpalbnjoaa.V

set_option linter.unusedVariables false
set_option linter.unusedSimpArgs false
namespace Go.Proofs.Ythmohmpalbnjoaa.V
open Go
theorem ins_grow7 {n i : Nat} {vs news sc : List Value} (hv : vs.length = n * 7) (hn : news.length = (n + 1 - i) * 7) (hs : sc.length = 7) (hi : i ≤ n) :
    ((vs.take (i * 7) ++ news).take (i * 7) ++ sc ++ (vs.take (i * 7) ++ news).drop ((i + 1) * 7)).take ((i + 1) * 7) ++ (vs.drop (i * 7)).take ((n - i) * 7) ++ ((vs.take (i * 7) ++ news).take (i * 7) ++ sc ++ (vs.take (i * 7) ++ news).drop ((i + 1) * 7)).drop ((i + 1 + (n - i)) * 7) = vs.take (i * 7) ++ sc ++ vs.drop (i * 7) := by
  have h1 : (vs.take (i * 7)).length = i * 7 := by rw [List.length_take]; omega
  have h2 : (vs.take (i * 7) ++ news).take (i * 7) = vs.take (i * 7) := List.take_left' h1
  have h3 : (vs.take (i * 7) ++ sc).length = (i + 1) * 7 := by rw [List.length_append, h1, hs]; omega
  rw [h2]
  have h4 : ((vs.take (i * 7) ++ sc) ++ (vs.take (i * 7) ++ news).drop ((i + 1) * 7)).take ((i + 1) * 7) = vs.take (i * 7) ++ sc := by rw [← h3]; exact List.take_left
  have h5 : ((vs.take (i * 7) ++ sc) ++ (vs.take (i * 7) ++ news).drop ((i + 1) * 7)).drop ((i + 1 + (n - i)) * 7) = [] := List.drop_eq_nil_of_le (by rw [List.length_append, h3, List.length_drop, List.length_append, h1, hn]; omega)
  have h6 : (vs.drop (i * 7)).take ((n - i) * 7) = vs.drop (i * 7) := List.take_of_length_le (by rw [List.length_drop]; omega)
  rw [h4, h5, h6, List.append_nil]
/-- .. in place -/
theorem ins_room7 {n i : Nat} {vs vs' sc : List Value} (hv : vs.length = n * 7) (hv' : vs'.length = (n + 1) * 7) (ht : vs'.take (n * 7) = vs) (hs : sc.length = 7) (hi : i ≤ n) :
    (vs'.take ((i + 1) * 7) ++ (vs'.drop (i * 7)).take ((n - i) * 7) ++ vs'.drop ((i + 1 + (n - i)) * 7)).take (i * 7) ++ sc ++ (vs'.take ((i + 1) * 7) ++ (vs'.drop (i * 7)).take ((n - i) * 7) ++ vs'.drop ((i + 1 + (n - i)) * 7)).drop ((i + 1) * 7) = vs.take (i * 7) ++ sc ++ vs.drop (i * 7) := by
  have h1 : (vs'.take ((i + 1) * 7)).length = (i + 1) * 7 := by rw [List.length_take]; omega
  have h2 : vs'.drop ((i + 1 + (n - i)) * 7) = [] := List.drop_eq_nil_of_le (by omega)
  rw [h2, List.append_nil]
  congr 1
  · congr 1
    rw [List.take_append_of_le_length (by omega), List.take_take, ← ht, List.take_take]
    congr 1
    omega
  · rw [List.drop_left' h1, ← ht, List.drop_take]
    congr 1
    omega

theorem JV.none_m {A : List Nat} {w : World} {m : List (Str × JV)} {n c : Nat} (R : Rep A w (.sl 7 (m.map JV.Dp)) (.slice none n c)) : m = [] := by
  cases m with
  | nil => rfl
  | cons p r =>
    obtain ⟨a, us, h, _⟩ := JV.at_m (i := 0) (p := p) R rfl
    cases h
namespace JV
/-- what Get answers -/
def get (v : JV) (k : Str) : Option JV := if v.kind = 5 then look v.map k else none
/-- a map's members -/
def tbl (v : JV) : List (Str × JV) := if v.kind = 5 then v.map else []
/-- a map -/
def obj (m : List (Str × JV)) : JV := .mk 5 false 0 [] [] m
theorem obj_reps {A : List Nat} {w : World} {m : List (Str × JV)} {am : Option Addr} {cm : Nat} (R : Rep A w (.sl 7 (m.map Dp)) (.slice am m.length cm)) : Reps A w (obj m).D [.int .i64 5, .bool false, .int .i64 0, S [], .slice none 0 0, .slice am m.length cm] :=
  reps_ (v := obj m) (al := none) (cl := 0) Rep.sl_nil R
end JV
theorem posM_put {m : List (Str × JV)} {k : Str} {x : JV} (h : ascM m) : (look m k).isSome = true → putM m k x = m.set (posM m k) (k, x) := fun hs => by
  obtain ⟨y, hy, hk, _⟩ := isM_some h hs
  exact (thereM h hy hk).2 x
theorem posM_ins {m : List (Str × JV)} {k : Str} {x : JV} (h : ascM m) : (look m k).isSome = false → putM m k x = m.take (posM m k) ++ [(k, x)] ++ m.drop (posM m k) := fun hs => (goneM h (isM_none h hs)).2 x
end Go.Proofs.Ythmohmpalbnjoaa.V

set_option linter.unusedVariables false
set_option linter.unusedSimpArgs false
namespace Go.Proofs.Ythmohmpalbnjoaa.V
open Go
/-- the bytes behind a rune's first -/
def runeC : List UInt8 → Nat → Option Nat
  | [], c => some c
  | b :: r, c => if b.toNat < 128 ∨ 192 ≤ b.toNat then none else runeC r (c * 64 + b.toNat % 64)
def runeH (c : Nat) : Nat × Nat × Nat :=
  if 192 ≤ c ∧ c < 224 then (2, 128, c % 32) else if 224 ≤ c ∧ c < 240 then (3, 2048, c % 16) else if 240 ≤ c ∧ c < 248 then (4, 65536, c % 8) else (0, 0, c)
/-- the rune that bytes begin with, and how many it has -/
def runeR (s : Str) : Nat × Nat := match s with
  | [] => (0, 0)
  | b :: r => if b.toNat < 128 then (b.toNat, 1) else
    if (runeH b.toNat).1 = 0 ∨ s.length < (runeH b.toNat).1 then (0, 0) else
      match runeC (r.take ((runeH b.toNat).1 - 1)) (runeH b.toNat).2.2 with
      | none => (0, 0)
      | some c => if c < (runeH b.toNat).2.1 ∨ 1114111 < c ∨ (55296 ≤ c ∧ c ≤ 57343) then (0, 0) else (c, (runeH b.toNat).1)
theorem runeH_le (c : Nat) : (runeH c).1 ≤ 4 := by
  unfold runeH
  repeat' split
  all_goals simp
theorem runeR_le (s : Str) : (runeR s).2 ≤ s.length := by
  unfold runeR
  split
  · simp
  · rename_i b r
    split
    · simp
    · split
      · simp
      · rename_i h
        split
        · simp
        · split
          · simp
          · simp only
            omega
/-- is it a text? -/
def validR (s : Str) : Bool :=
  if h : s = [] then true else if h0 : (runeR s).2 = 0 then false else validR (s.drop (runeR s).2)
termination_by s.length
decreasing_by
  have := runeR_le s
  rw [List.length_drop]
  have : s.length ≠ 0 := fun e => h (List.eq_nil_of_length_eq_zero e)
  omega
theorem validR_nil : validR [] = true := by rw [validR]; simp
theorem validR_no {s : Str} (h : s ≠ []) (h0 : (runeR s).2 = 0) : validR s = false := by rw [validR]; simp [h, h0]
theorem validR_go {s : Str} (h : s ≠ []) (h0 : (runeR s).2 ≠ 0) : validR s = validR (s.drop (runeR s).2) := by
  rw [validR]
  simp [h, h0]
abbrev hexD : Str := [48, 49, 50, 51, 52, 53, 54, 55, 56, 57, 97, 98, 99, 100, 101, 102]
/-- a byte of a text between quotes -/
def escQ (c : UInt8) : Str :=
  if c = 34 ∨ c = 92 then [92, c] else if c = 8 then [92, 98] else if c = 9 then [92, 116] else if c = 10 then [92, 110] else if c = 12 then [92, 102] else if c = 13 then [92, 114]
  else if c.toNat < 32 then [92, 117, 48, 48, hexD.getD (c.toNat / 16) 0, hexD.getD (c.toNat % 16) 0] else [c]
def escs (s : Str) : Str := (s.map escQ).flatten
def putQ (s : Str) : Str := 34 :: escs s ++ [34]
theorem escQ_len (c : UInt8) : (escQ c).length ≤ 6 := by
  unfold escQ
  repeat' split
  all_goals simp
theorem escs_len : ∀ s : Str, (escs s).length ≤ 6 * s.length
  | [] => by simp [escs]
  | c :: s => by
    have h1 := escs_len s
    have h2 := escQ_len c
    simp only [escs, List.map_cons, List.flatten_cons, List.length_append, List.length_cons] at h1 ⊢
    omega
theorem escs_succ {s : Str} {k : Nat} {c : UInt8} (h : s[k]? = some c) : escs (s.take (k + 1)) = escs (s.take k) ++ escQ c := by
  have hlt := (List.getElem?_eq_some_iff.1 h).1
  rw [List.take_succ_eq_append_getElem hlt, (List.getElem?_eq_some_iff.1 h).2]
  simp [escs]
/-- no longer than may be -/
def lng (b : Str) : Except Int Str := if 65536 < b.length then .error 3 else .ok b
def txtW (b s : Str) : Except Int Str := if 65536 < s.length then .error 3 else if validR s then lng (b ++ putQ s) else .error 1
theorem lng_ok {b b' : Str} (h : lng b = .ok b') : b' = b ∧ b.length ≤ 65536 := by
  unfold lng at h
  split at h
  · cases h
  · injection h with h; exact ⟨h.symm, by omega⟩
namespace JV
/-- has a value nothing but what its kind has? -/
def bare (v : JV) : Bool := decide (0 ≤ v.kind ∧ v.kind ≤ 5) && (decide (v.kind = 1) || !v.is) && (decide (v.kind = 2) || decide (v.num = 0)) && (decide (v.kind = 3) || decide (v.str = [])) && (decide (v.kind = 4) || decide (v.list.length = 0)) && (decide (v.kind = 5) || decide (v.map.length = 0)) && (!decide (v.kind = 2) || decide (-9007199254740991 ≤ v.num ∧ v.num ≤ 9007199254740991))
abbrev tNull : Str := [110, 117, 108, 108]
abbrev tTrue : Str := [116, 114, 117, 101]
abbrev tFalse : Str := [102, 97, 108, 115, 101]
mutual
/-- a value's text behind bytes; an error's number -/
def wr : JV → Nat → Str → Except Int Str
  | .mk k is n s l m, deep, b =>
    if bare (.mk k is n s l m) = false then .error 1 else
    if k = 0 then lng (b ++ tNull) else
    if k = 1 then lng (b ++ if is then tTrue else tFalse) else
    if k = 2 then lng (b ++ Lib.itoa n) else
    if k = 3 then txtW b s else
    if deep = 32 then .error 5 else
    if k = 4 then (lng (b ++ [91])).bind fun b => (wrl l deep true b).bind fun b => lng (b ++ [93])
    else (lng (b ++ [123])).bind fun b => (wrm m deep none b).bind fun b => lng (b ++ [125])
def wrl : List JV → Nat → Bool → Str → Except Int Str
  | [], _, _, b => .ok b
  | v :: r, deep, fst, b => (if fst then Except.ok b else lng (b ++ [44])).bind fun b => (wr v (deep + 1) b).bind fun b => wrl r deep false b
def wrm : List (List UInt8 × JV) → Nat → Option Str → Str → Except Int Str
  | [], _, _, b => .ok b
  | p :: r, deep, prev, b => (match prev with
      | none => Except.ok b
      | some q => (lng (b ++ [44])).bind fun b => if bl q p.1 then .ok b else .error 1).bind fun b =>
    (txtW b p.1).bind fun b => (lng (b ++ [58])).bind fun b => (wr p.2 (deep + 1) b).bind fun b => wrm r deep (some p.1) b
end
theorem wr_eq (v : JV) (deep : Nat) (b : Str) : wr v deep b = 
    if bare v = false then .error 1 else
    if v.kind = 0 then lng (b ++ tNull) else
    if v.kind = 1 then lng (b ++ if v.is then tTrue else tFalse) else
    if v.kind = 2 then lng (b ++ Lib.itoa v.num) else
    if v.kind = 3 then txtW b v.str else
    if deep = 32 then .error 5 else
    if v.kind = 4 then (lng (b ++ [91])).bind fun b => (wrl v.list deep true b).bind fun b => lng (b ++ [93])
    else (lng (b ++ [123])).bind fun b => (wrm v.map deep none b).bind fun b => lng (b ++ [125]) := by
  cases v
  rw [wr]
  rfl
end JV
end Go.Proofs.Ythmohmpalbnjoaa.V

set_option linter.unusedVariables false
set_option linter.unusedSimpArgs false
namespace Go.Proofs.Ythmohmpalbnjoaa.V
open Go
section
variable {P : Program} {l : List (Nat × Value)} {w : World} {ty : TypeId} {pos : String} {af : Array Edge} {dd : Option Nat} {gg : Option (Nat × Bool)} {x y lo : Operand} {t : TypeId}
theorem o_ssfrom {u : List UInt8} {n : Nat} (ht : P.underlying t = some .string) (hx : evO l x = some (S u)) (hl : evO l lo = some (.int .i64 (n : Int))) (hb : n ≤ u.length) : Runs P l ⟨dd, .slice t x (some lo) none none, ty, pos, af, gg⟩ w (S (u.drop n)) w :=
  (o_ssl (pl := some (.i64, (n : Int))) (ph := none) ht hx (by simp [evS, hl]) rfl (by simp only [loV, hiV]; omega)).to (by
    simp only [loV, hiV, Int.toNat_natCast]
    rw [List.take_of_length_le (by simp)])
end
theorem runeC_no {l : List UInt8} {j d : Nat} {b : UInt8} (h : l[j]? = some b) (hb : b.toNat < 128 ∨ 192 ≤ b.toNat) : runeC (l.drop j) d = none := by
  obtain ⟨hj, rfl⟩ := List.getElem?_eq_some_iff.1 h
  rw [List.drop_eq_getElem_cons hj, runeC, if_pos hb]
theorem runeC_go {l : List UInt8} {j d : Nat} {b : UInt8} (h : l[j]? = some b) (hb : ¬ (b.toNat < 128 ∨ 192 ≤ b.toNat)) : runeC (l.drop j) d = runeC (l.drop (j + 1)) (d * 64 + b.toNat % 64) := by
  obtain ⟨hj, rfl⟩ := List.getElem?_eq_some_iff.1 h
  rw [List.drop_eq_getElem_cons hj, runeC, if_neg hb]
theorem runeR_small {b0 : UInt8} {r : Str} (h : b0.toNat < 128) : runeR (b0 :: r) = (b0.toNat, 1) := by simp [runeR, h]
theorem runeR_short {b0 : UInt8} {r : Str} {n l c : Nat} (hge : ¬ b0.toNat < 128) (hH : runeH b0.toNat = (n, l, c)) (h : n = 0 ∨ (b0 :: r).length < n) : runeR (b0 :: r) = (0, 0) := by
  unfold runeR
  simp only [if_neg hge, hH]
  rw [if_pos h]
theorem runeR_at {b0 : UInt8} {r : Str} {n l c : Nat} (hge : ¬ b0.toNat < 128) (hH : runeH b0.toNat = (n, l, c)) (h : ¬ (n = 0 ∨ (b0 :: r).length < n)) :
    runeR (b0 :: r) = match runeC (r.take (n - 1)) c with | none => (0, 0) | some c => if c < l ∨ 1114111 < c ∨ (55296 ≤ c ∧ c ≤ 57343) then (0, 0) else (c, n) := by
  show (if b0.toNat < 128 then (b0.toNat, 1) else if (runeH b0.toNat).1 = 0 ∨ (b0 :: r).length < (runeH b0.toNat).1 then (0, 0) else _) = _
  rw [if_neg hge, hH, if_neg h] <;> rfl
theorem runeR_none {b0 : UInt8} {r : Str} {n l c : Nat} (hge : ¬ b0.toNat < 128) (hH : runeH b0.toNat = (n, l, c)) (h : ¬ (n = 0 ∨ (b0 :: r).length < n)) (hc : runeC (r.take (n - 1)) c = none) : runeR (b0 :: r) = (0, 0) := by rw [runeR_at hge hH h, hc]
theorem runeR_bad {b0 : UInt8} {r : Str} {n l c d : Nat} (hge : ¬ b0.toNat < 128) (hH : runeH b0.toNat = (n, l, c)) (h : ¬ (n = 0 ∨ (b0 :: r).length < n)) (hc : runeC (r.take (n - 1)) c = some d) (hb : d < l ∨ 1114111 < d ∨ (55296 ≤ d ∧ d ≤ 57343)) : runeR (b0 :: r) = (0, 0) := by
  rw [runeR_at hge hH h, hc]
  exact if_pos hb
theorem runeR_good {b0 : UInt8} {r : Str} {n l c d : Nat} (hge : ¬ b0.toNat < 128) (hH : runeH b0.toNat = (n, l, c)) (h : ¬ (n = 0 ∨ (b0 :: r).length < n)) (hc : runeC (r.take (n - 1)) c = some d) (hb : ¬ (d < l ∨ 1114111 < d ∨ (55296 ≤ d ∧ d ≤ 57343))) : runeR (b0 :: r) = (d, n) := by
  rw [runeR_at hge hH h, hc]
  exact if_neg hb
end Go.Proofs.Ythmohmpalbnjoaa.V

set_option linter.unusedVariables false
set_option linter.unusedSimpArgs false
namespace Go.Proofs.Ythmohmpalbnjoaa.V
open Go
abbrev b8c (c : UInt8) : List Value := [B8 c]
abbrev btD (b : List UInt8) : D := flat 1 b8c b
theorem cells_b8 (b : List UInt8) : (b.map b8c).flatten = b.map B8 := by
  induction b with
  | nil => rfl
  | cons c b ih => simp [ih]
theorem u8_eq {c d : UInt8} (h : (c.toNat : Int) = d.toNat) : c = d := UInt8.toNat_inj.1 (by omega)
theorem escQ1 {c : UInt8} (h : (c.toNat : Int) = 34 ∨ (c.toNat : Int) = 92) : escQ c = [92, c] := by
  unfold escQ
  rw [if_pos (h.imp (fun h => u8_eq h) (fun h => u8_eq h))]
theorem escQ2 {c : UInt8} (h : (c.toNat : Int) = 8) : escQ c = [92, 98] := by obtain rfl : c = 8 := u8_eq h; rfl
theorem escQ3 {c : UInt8} (h : (c.toNat : Int) = 9) : escQ c = [92, 116] := by obtain rfl : c = 9 := u8_eq h; rfl
theorem escQ4 {c : UInt8} (h : (c.toNat : Int) = 10) : escQ c = [92, 110] := by obtain rfl : c = 10 := u8_eq h; rfl
theorem escQ5 {c : UInt8} (h : (c.toNat : Int) = 12) : escQ c = [92, 102] := by obtain rfl : c = 12 := u8_eq h; rfl
theorem escQ6 {c : UInt8} (h : (c.toNat : Int) = 13) : escQ c = [92, 114] := by obtain rfl : c = 13 := u8_eq h; rfl
theorem u8_ne {c d : UInt8} (h : ¬ (c.toNat : Int) = d.toNat) : c ≠ d := fun e => h (by rw [e])
theorem escQ7 {c : UInt8} (h1 : ¬ (c.toNat : Int) = 34) (h2 : ¬ (c.toNat : Int) = 92) (h3 : ¬ (c.toNat : Int) = 8) (h4 : ¬ (c.toNat : Int) = 9) (h5 : ¬ (c.toNat : Int) = 10) (h6 : ¬ (c.toNat : Int) = 12) (h7 : ¬ (c.toNat : Int) = 13) :
    escQ c = if c.toNat < 32 then [92, 117, 48, 48, hexD.getD (c.toNat / 16) 0, hexD.getD (c.toNat % 16) 0] else [c] := by
  unfold escQ
  rw [if_neg (fun h => h.elim (u8_ne (d := 34) h1) (u8_ne (d := 92) h2)), if_neg (u8_ne (d := 8) h3), if_neg (u8_ne (d := 9) h4), if_neg (u8_ne (d := 10) h5), if_neg (u8_ne (d := 12) h6), if_neg (u8_ne (d := 13) h7)]
theorem hex_at {i : Nat} (h : i < 16) : hexD[i]? = some (hexD.getD i 0) := by
  have : ∀ j : Fin 16, hexD[j.val]? = some (hexD.getD j.val 0) := by decide
  exact this ⟨i, h⟩
/-- the bytes that a result has; an error's number -/
def bts : Except Int Str → Str
  | .ok b => b
  | .error _ => []
def ern : Except Int Str → Int
  | .ok _ => 0
  | .error e => if e = 0 then 1 else e
theorem ern_ok {r : Except Int Str} (h : ern r = 0) : ∃ b, r = .ok b := by
  cases r with
  | ok b => exact ⟨b, rfl⟩
  | error e =>
    exfalso
    by_cases h0 : e = 0 <;> simp [ern, h0] at h
theorem ern_no {r : Except Int Str} (h : ¬ ern r = 0) : ∃ e, r = .error e := by
  cases r with
  | ok b => exact absurd rfl h
  | error e => exact ⟨e, rfl⟩
theorem bind_no {r : Except Int Str} (h : ¬ ern r = 0) (f : Str → Except Int Str) : r.bind f = r := by
  obtain ⟨e, rfl⟩ := ern_no h
  rfl
theorem lng_bts (b : Str) : (lng b = .ok b ∧ b.length ≤ 65536) ∨ (lng b = .error 3 ∧ 65536 < b.length) := by
  unfold lng
  by_cases h : 65536 < b.length
  · exact .inr ⟨if_pos h, h⟩
  · exact .inl ⟨if_neg h, by omega⟩
theorem lng_len (b : Str) : (bts (lng b)).length ≤ 65536 := by
  rcases lng_bts b with ⟨h, h2⟩ | ⟨h, _⟩
  · rw [h]; exact h2
  · rw [h]; simp [bts]
theorem txtW_len (b s : Str) : (bts (txtW b s)).length ≤ 65536 := by
  unfold txtW
  split
  · simp [bts]
  · split
    · exact lng_len _
    · simp [bts]
end Go.Proofs.Ythmohmpalbnjoaa.V

set_option linter.unusedVariables false
set_option linter.unusedSimpArgs false
namespace Go.Proofs.Ythmohmpalbnjoaa.V
open Go
section
variable {w0 w wA w' : World} {u0 u u1 u2 res : Value} {b t : Str} {r : Except Int Str}
abbrev OwB (w : World) (u : Value) (b : Str) : Prop := Own w 5 1 u b.length ((b.map b8c).flatten)
/-- what a writing function answers -/
def WR (w0 w : World) (u0 : Value) (r : Except Int Str) (res : Value) : Prop :=
  ∃ u, res = .tuple #[u, .int .i64 (ern r)] ∧ OwB w u (bts r) ∧ (∀ x ∈ ob u, x ∈ ob u0 ∨ w0.heap.size ≤ x) ∧ Mod (ob u0) w0 w ∧ (bts r).length ≤ 65536
theorem long_own (h : u2 = u1 ∧ bts (lng b) = b ∨ u2 = .slice none 0 0 ∧ bts (lng b) = []) (O : OwB w u1 b) : OwB w u2 (bts (lng b)) ∧ ∀ x ∈ ob u2, x ∈ ob u1 := by
  rcases h with ⟨rfl, h⟩ | ⟨rfl, h⟩
  · rw [h]; exact ⟨O, fun x hx => hx⟩
  · rw [h]; exact ⟨Own.nil w 5 1, by simp [ob]⟩
theorem WR.applong {n : Nat} {vs : List Value} (E : Mod [] w0 w) (AA : App w wA 5 1 u0 u1 n vs) (O1 : OwB wA u1 (b ++ t)) (h : u2 = u1 ∧ bts (lng (b ++ t)) = b ++ t ∨ u2 = .slice none 0 0 ∧ bts (lng (b ++ t)) = []) (E_ : Mod [] wA w') (hr : r = lng (b ++ t)) :
    WR w0 w' u0 r (.tuple #[u2, .int .i64 (ern (lng (b ++ t)))]) := by
  subst hr
  obtain ⟨h1, h2⟩ := long_own h (O1.mod0 E_)
  exact ⟨u2, rfl, h1, fun x hx => (AA.ob_ x (h2 x hx)).imp id (fun h => Nat.le_trans E.size h), ((E.mono (by simp)).trans AA.mod).trans (E_.mono (by simp)), lng_len _⟩
theorem WR.err {e : Int} (E : Mod [] w0 w) (he : e ≠ 0) (hr : r = .error e) : WR w0 w u0 r (.tuple #[.slice none 0 0, .int .i64 e]) := by
  subst hr
  exact ⟨_, by simp [ern, he], Own.nil w 5 1, by simp [ob], E.mono (by simp), by simp [bts]⟩
/-- the writing of a list or a map under way -/
structure WS (w0 w : World) (u0 : Value) (g V : Nat) (cells : List Value) (v : JV) (al am : Option Addr) (cl cm : Nat) (u : Value) (b : Str) : Prop where
  own : OwB w u b
  len : b.length ≤ 65536
  hob : ∀ x ∈ ob u, x ∈ ob u0 ∨ w0.heap.size ≤ x
  mod : Mod (ob u0) w0 w
  blk : Blk w g V cells
  dis : ∀ x ∈ ob u, x ≠ g
  rl : Rep (ob u) w (.sl 6 (v.list.map JV.D)) (.slice al v.list.length cl)
  rm : Rep (ob u) w (.sl 7 (v.map.map JV.Dp)) (.slice am v.map.length cm)
variable {g V : Nat} {cells : List Value} {v : JV} {al am : Option Addr} {cl cm : Nat}
theorem WS.step (H : WS w0 w u0 g V cells v al am cl cm u b) {b' : Str} {u' : Value} (k : Mod (ob u) w w') (O : OwB w' u' b') (ho : ∀ x ∈ ob u', x ∈ ob u ∨ w.heap.size ≤ x) (hl : b'.length ≤ 65536) : WS w0 w' u0 g V cells v al am cl cm u' b' where
  own := O
  len := hl
  hob := fun x hx => (ho x hx).elim (H.hob x) (fun h => .inr (Nat.le_trans H.mod.size h))
  mod := H.mod.trans' k H.hob
  blk := H.blk.mod k (fun hx => H.dis _ hx rfl)
  dis := fun x hx => (ho x hx).elim (H.dis x) (fun h e => by have := H.blk.lt; omega)
  rl := Rep.to k (fun x hx => hx) ho _ _ H.rl
  rm := Rep.to k (fun x hx => hx) ho _ _ H.rm
theorem WS.mod0 (H : WS w0 w u0 g V cells v al am cl cm u b) (k : Mod [] w w') : WS w0 w' u0 g V cells v al am cl cm u b :=
  H.step (k.mono (by simp)) (H.own.mod0 k) (fun x hx => .inl hx) H.len
theorem WS.applong {n : Nat} {vs : List Value} (H : WS w0 w u0 g V cells v al am cl cm u b) (AA : App w wA 5 1 u u1 n vs) (O1 : OwB wA u1 (b ++ t)) (h : u2 = u1 ∧ bts (lng (b ++ t)) = b ++ t ∨ u2 = .slice none 0 0 ∧ bts (lng (b ++ t)) = []) (E_ : Mod [] wA w') :
    WS w0 w' u0 g V cells v al am cl cm u2 (bts (lng (b ++ t))) := by
  obtain ⟨h1, h2⟩ := long_own h (O1.mod0 E_)
  exact H.step (AA.mod.trans (E_.mono (by simp))) h1 (fun x hx => AA.ob_ x (h2 x hx)) (lng_len _)
theorem WS.wr (H : WS w0 w u0 g V cells v al am cl cm u b) (h : WR w w' u r res) : ∃ u', res = .tuple #[u', .int .i64 (ern r)] ∧ WS w0 w' u0 g V cells v al am cl cm u' (bts r) := by
  obtain ⟨u', h1, h2, h3, h4, h5⟩ := h
  exact ⟨u', h1, H.step h4 h2 h3 h5⟩
theorem WS.err (H : WS w0 w u0 g V cells v al am cl cm u b) (hr : ¬ ern r = 0) : WR w0 w u0 r (.tuple #[.slice none 0 0, .int .i64 (ern r)]) := by
  obtain ⟨e, rfl⟩ := ern_no hr
  exact ⟨_, rfl, Own.nil w 5 1, by simp [ob], H.mod, by simp [bts]⟩
theorem WS.fin {n : Nat} {vs : List Value} (H : WS w0 w u0 g V cells v al am cl cm u b) (AA : App w wA 5 1 u u1 n vs) (O1 : OwB wA u1 (b ++ t)) (h : u2 = u1 ∧ bts (lng (b ++ t)) = b ++ t ∨ u2 = .slice none 0 0 ∧ bts (lng (b ++ t)) = []) (E_ : Mod [] wA w') (hr : r = lng (b ++ t)) :
    WR w0 w' u0 r (.tuple #[u2, .int .i64 (ern (lng (b ++ t)))]) := by
  subst hr
  have H' := H.applong AA O1 h E_
  exact ⟨u2, rfl, H'.own, H'.hob, H'.mod, H'.len⟩
theorem WS.ok (H : WS w0 w u0 g V cells v al am cl cm u (bts (.ok b))) : WS w0 w u0 g V cells v al am cl cm u b := H
end
theorem WR.from_ {w0 w w' : World} {u0 res : Value} {r r' : Except Int Str} (E : Mod [] w0 w) (h : WR w w' u0 r res) (hr : r' = r) : WR w0 w' u0 r' res := by
  subst hr
  obtain ⟨u, h1, h2, h3, h4, h5⟩ := h
  exact ⟨u, h1, h2, fun x hx => (h3 x hx).imp id (fun h => Nat.le_trans E.size h), (E.mono (by simp)).trans h4, h5⟩
theorem WS.init {w0 w : World} {u0 : Value} {b : Str} {g V : Nat} {cells : List Value} {v : JV} {al am : Option Addr} {cl cm : Nat} (E : Mod [] w0 w) (O : OwB w0 u0 b) (hb : b.length ≤ 65536) (B : Blk w g V cells) (hg : w0.heap.size ≤ g)
    (Rl : Rep (ob u0) w0 (.sl 6 (v.list.map JV.D)) (.slice al v.list.length cl)) (Rm : Rep (ob u0) w0 (.sl 7 (v.map.map JV.Dp)) (.slice am v.map.length cm)) : WS w0 w u0 g V cells v al am cl cm u0 b where
  own := O.mod0 E
  len := hb
  hob := fun x hx => .inl hx
  mod := E.mono (by simp)
  blk := B
  dis := fun x hx e => by have := O.lt x hx; omega
  rl := Rl.to0 E
  rm := Rm.to0 E
theorem bare_num {v : JV} (h : v.bare = true) (h2 : v.kind = 2) : -9007199254740991 ≤ v.num ∧ v.num ≤ 9007199254740991 := by
  simp only [JV.bare, h2] at h
  simp at h
  omega
theorem okb {f : Str → Except Int Str} {b : Str} {W : Except Int Str} (h : (Except.ok b : Except Int Str).bind f = W) : f b = W := h
theorem bind_self (r : Except Int Str) : (r.bind fun b => Except.ok b) = r := by cases r <;> rfl
theorem le_bl {a b : Str} (h : ¬ (bl a b || a == b) = true) : bl b a = true := by
  rcases bl_total b a with h1 | h1 | h1
  · exact h1
  · subst h1; exact absurd (by simp) h
  · exact absurd (by simp [h1]) h
theorem bl_le {a b : Str} (h : (bl a b || a == b) = true) : bl b a = false := by
  rcases Bool.or_eq_true_iff.1 h with h | h
  · exact bl_asymm h
  · have := eq_of_beq h; subst this; exact bl_irrefl a
def prevK (m : List (Str × JV)) (k : Nat) : Option Str := if k = 0 then none else (m[k - 1]?).map (·.1)
theorem wrl_at {l : List JV} {k : Nat} {x : JV} {deep : Nat} {fst : Bool} {b : Str} (h : l[k]? = some x) : JV.wrl (l.drop k) deep fst b = (if fst then Except.ok b else lng (b ++ [44])).bind fun b => (JV.wr x (deep + 1) b).bind fun b => JV.wrl (l.drop (k + 1)) deep false b := by
  obtain ⟨hk, rfl⟩ := List.getElem?_eq_some_iff.1 h
  rw [List.drop_eq_getElem_cons hk, JV.wrl]
theorem wrl_end {l : List JV} {k deep : Nat} {fst : Bool} {b : Str} (h : l.length ≤ k) : JV.wrl (l.drop k) deep fst b = .ok b := by
  rw [List.drop_eq_nil_of_le h, JV.wrl]
theorem wrm_none (p : List UInt8 × JV) (r : List (List UInt8 × JV)) (deep : Nat) (b : Str) : JV.wrm (p :: r) deep none b = (txtW b p.1).bind fun b => (lng (b ++ [58])).bind fun b => (JV.wr p.2 (deep + 1) b).bind fun b => JV.wrm r deep (some p.1) b := by
  rw [JV.wrm.eq_def]
  rfl
theorem wrm_some (p : List UInt8 × JV) (q : Str) (r : List (List UInt8 × JV)) (deep : Nat) (b : Str) : JV.wrm (p :: r) deep (some q) b = ((lng (b ++ [44])).bind fun b => if bl q p.1 then .ok b else .error 1).bind fun b => (txtW b p.1).bind fun b => (lng (b ++ [58])).bind fun b => (JV.wr p.2 (deep + 1) b).bind fun b => JV.wrm r deep (some p.1) b := by
  rw [JV.wrm.eq_def]
theorem wrm_end {m : List (Str × JV)} {k deep : Nat} {p : Option Str} {b : Str} (h : m.length ≤ k) : JV.wrm (m.drop k) deep p b = .ok b := by
  rw [List.drop_eq_nil_of_le h, JV.wrm]
theorem prevK_succ {m : List (Str × JV)} {k : Nat} {p : Str × JV} (h : m[k]? = some p) : prevK m (k + 1) = some p.1 := by
  simp [prevK, h]
theorem wrm_at0 {m : List (Str × JV)} {p : Str × JV} {deep : Nat} {b : Str} (h : m[0]? = some p) : JV.wrm (m.drop 0) deep (prevK m 0) b = (txtW b p.1).bind fun b => (lng (b ++ [58])).bind fun b => (JV.wr p.2 (deep + 1) b).bind fun b => JV.wrm (m.drop (0 + 1)) deep (prevK m (0 + 1)) b := by
  rw [prevK_succ h]
  obtain ⟨hk, rfl⟩ := List.getElem?_eq_some_iff.1 h
  rw [List.drop_eq_getElem_cons hk]
  exact wrm_none _ _ _ _
theorem wrm_at {m : List (Str × JV)} {k : Nat} {p q : Str × JV} {deep : Nat} {b : Str} (h : m[k]? = some p) (hq : m[k - 1]? = some q) (h0 : 0 < k) : JV.wrm (m.drop k) deep (prevK m k) b = ((lng (b ++ [44])).bind fun b => if bl q.1 p.1 then .ok b else .error 1).bind fun b => (txtW b p.1).bind fun b => (lng (b ++ [58])).bind fun b => (JV.wr p.2 (deep + 1) b).bind fun b => JV.wrm (m.drop (k + 1)) deep (prevK m (k + 1)) b := by
  rw [prevK_succ h]
  have hp : prevK m k = some q.1 := by simp [prevK, hq]; omega
  obtain ⟨hk, rfl⟩ := List.getElem?_eq_some_iff.1 h
  rw [List.drop_eq_getElem_cons hk, hp]
  exact wrm_some _ _ _ _ _
theorem wrl_step {l : List JV} {k deep : Nat} {x : JV} {b1 : Str} {W r1 : Except Int Str} (hx : l[k]? = some x) (hinv : ((Except.ok b1 : Except Int Str).bind fun b => JV.wrl (l.drop k) deep (decide (k = 0)) b) = W) (h1 : (if decide (k = 0) then Except.ok b1 else lng (b1 ++ [44])) = r1) :
    (r1.bind fun b => (JV.wr x (deep + 1) b).bind fun b => JV.wrl (l.drop (k + 1)) deep (decide (k + 1 = 0)) b) = W := by
  have h2 : JV.wrl (l.drop k) deep (decide (k = 0)) b1 = W := hinv
  rw [wrl_at hx, h1] at h2
  rw [show decide (k + 1 = 0) = false by simp]
  exact h2
theorem wrm_step0 {m : List (Str × JV)} {k deep : Nat} {x : Str × JV} {b1 : Str} {W : Except Int Str} (hx : m[k]? = some x) (h0 : k = 0) (hinv : ((Except.ok b1 : Except Int Str).bind fun b => JV.wrm (m.drop k) deep (prevK m k) b) = W) :
    ((txtW b1 x.1).bind fun b => (lng (b ++ [58])).bind fun b => (JV.wr x.2 (deep + 1) b).bind fun b => JV.wrm (m.drop (k + 1)) deep (prevK m (k + 1)) b) = W := by
  subst h0
  have h2 : JV.wrm (m.drop 0) deep (prevK m 0) b1 = W := hinv
  rwa [wrm_at0 hx] at h2
theorem wrm_step {m : List (Str × JV)} {k deep : Nat} {x q : Str × JV} {b1 : Str} {W : Except Int Str} (hx : m[k]? = some x) (hq : m[k - 1]? = some q) (h0 : 0 < k) (hinv : ((Except.ok b1 : Except Int Str).bind fun b => JV.wrm (m.drop k) deep (prevK m k) b) = W) :
    (((lng (b1 ++ [44])).bind fun b => if bl q.1 x.1 then .ok b else .error 1).bind fun b => (txtW b x.1).bind fun b => (lng (b ++ [58])).bind fun b => (JV.wr x.2 (deep + 1) b).bind fun b => JV.wrm (m.drop (k + 1)) deep (prevK m (k + 1)) b) = W := by
  have h2 : JV.wrm (m.drop k) deep (prevK m k) b1 = W := hinv
  rwa [wrm_at hx hq h0] at h2
end Go.Proofs.Ythmohmpalbnjoaa.V

set_option linter.unusedVariables false
set_option linter.unusedSimpArgs false
namespace Go.Proofs.Ythmohmpalbnjoaa.V
open Go
section
variable {P : Program} {ops : Array Oper} {Q : Exit → Act → World → Prop} {n : Nat} {ds : List Deferred} {l : List (Nat × Value)} {w w' : World} {a : Act}
variable {rest : List Oper} {d : Nat} {op : Op} {ty : TypeId} {pos : String} {af : Array Edge} {x y : Operand} {t : TypeId}
/-- a call that may end in a panic -/
theorem scp {f : FuncId} {args : Array Value} {R : Ending → World → Prop} (hr : RunsC P l ⟨some d, op, ty, pos, af, none⟩ w f args) (hc : Calls P f args w R) (hd : Nat.blt d n = true) (ho : ∀ w', ¬ R .outgrown w')
    (hp : ∀ c w', R (.panicked c) w' → WE Q (.panic c) n ds l w') (h : ∀ v w', R (.returned v) w' → WL P ops Q rest n ds ((d, v) :: l) w') :
    WL P ops Q (⟨some d, op, ty, pos, af, none⟩ :: rest) n ds l w := by
  intro a ha
  refine wpList_plain rfl fun K hK => ?_
  have := hr a.eval (fun x u hx => ha.ev hx)
  simp only [Oper.wp, this, Oper.upon]
  refine hc.mono fun e w' he => ?_
  cases e with
  | returned v => exact hK _ _ (h v w' he _ (ha.put hd v))
  | panicked c => exact hp c w' he a ha
  | outgrown => exact absurd he (ho w')
theorem s_panic {T : TypeId} {v : Value} (hx : evO l x = some (.iface T v)) (h : WE Q (.panic [{ v := .iface T v, recovered := false }]) n ds l w) :
    WL P ops Q (⟨none, .panic x, ty, pos, af, none⟩ :: rest) n ds l w := by
  intro a ha
  refine wpList_plain rfl fun K hK => ?_
  simp only [Oper.wp, execOp, ha.ev hx, Sem.run_bind, run_panic_iface, Oper.upon]
  exact h a ha
variable {fn : Func} {R : Ending → World → Prop}
theorem endp {c : List PanicEntry} (h : R (.panicked c) w) : WE (bodyPost P fn R) (.panic c) n [] l w := fun a ha => ⟨ha.defers, h⟩
theorem ret0R (hr : fn.results = #[]) (h : R (.returned (.tuple #[])) w) : WE (bodyPost P fn R) .ret n [] l w := fun a ha => ⟨ha.defers, _, results_none hr _ _ _, h⟩
theorem end0R (hr : fn.results = #[]) (h : R (.returned (.tuple #[])) w) : WE (bodyPost P fn R) .normal n [] l w := fun a ha => ⟨ha.defers, _, results_none hr _ _ _, h⟩
/-! ### a range over a string -/
def It (w : World) (g : Nat) (s : Str) (p : Nat) : Prop := w.heap[g]? = some (.stringIter ⟨⟨s⟩⟩ p)
theorem It.lt {g : Nat} {s : Str} {p : Nat} (h : It w g s p) : g < w.heap.size := (Array.getElem?_eq_some_iff.1 h).1
theorem It.mod {M : List Nat} {g : Nat} {s : Str} {p : Nat} (h : It w g s p) (k : Mod M w w') (hg : g ∉ M) : It w' g s p := (k.block g h.lt hg).trans h
theorem It.mod0 {g : Nat} {s : Str} {p : Nat} (h : It w g s p) (k : Mod [] w w') : It w' g s p := h.mod k (by simp)
theorem s_range {u : Str} (ht : P.underlying t = some .string) (hx : evO l x = some (S u)) (hd : Nat.blt d n = true)
    (h : ∀ g w', It w' g u 0 → g = w.heap.size → Mod [] w w' → WL P ops Q rest n ds ((d, .pointer (some ⟨g, 0, none⟩)) :: l) w') :
    WL P ops Q (⟨some d, .range t x, ty, pos, af, none⟩ :: rest) n ds l w := by
  refine sv (v := .pointer (some ⟨w.heap.size, 0, none⟩)) (w' := w.iter ⟨⟨u⟩⟩ 0) (fun ρ hρ => ?_) hd (h _ _ (World.iter_heap _ _ _) rfl ⟨rfl, rfl, rfl, ?_, fun i hi _ => ?_⟩)
  · simp [execOp, hρ _ _ hx, run_range_string _ _ _ ht]
  · show w.heap.size ≤ (w.heap.push _).size
    simp
  · show (w.heap.push _)[i]? = _
    rw [Array.getElem?_push_lt hi, Array.getElem?_eq_getElem hi]
theorem s_next_end {g p : Nat} {u : Str} (hx : evO l x = some (.pointer (some ⟨g, 0, none⟩))) (I : It w g u p) (hp : ¬ p < u.length) (hd : Nat.blt d n = true)
    (h : WL P ops Q rest n ds ((d, .tuple #[.bool false]) :: l) w) : WL P ops Q (⟨some d, .next x true, ty, pos, af, none⟩ :: rest) n ds l w := by
  refine sv (v := .tuple #[.bool false]) (w' := w) (fun ρ hρ => ?_) hd h
  have hs : (⟨⟨u⟩⟩ : ByteArray).size = u.length := rfl
  unfold It at I
  simp [execOp, hρ _ _ hx, Instr.next, getObj, Sem.run, I, Result.andThen, hs, hp]
theorem s_next {g p c m : Nat} {u : Str} (hx : evO l x = some (.pointer (some ⟨g, 0, none⟩))) (I : It w g u p) (hp : p < u.length) (hdec : Utf8.decode ⟨⟨u⟩⟩ p = (c, m)) (hd : Nat.blt d n = true)
    (h : ∀ w', It w' g u (p + m) → Mod [g] w w' → w'.heap.size = w.heap.size → WL P ops Q rest n ds ((d, .tuple #[.bool true, .int .i64 (p : Int), .int .i32 (c : Int)]) :: l) w') :
    WL P ops Q (⟨some d, .next x true, ty, pos, af, none⟩ :: rest) n ds l w := by
  have hs : (⟨⟨u⟩⟩ : ByteArray).size = u.length := rfl
  have hlt := I.lt
  refine sv (v := .tuple #[.bool true, .int .i64 (p : Int), .int .i32 (c : Int)]) (w' := { w with heap := w.heap.setIfInBounds g (.stringIter ⟨⟨u⟩⟩ (p + m)) }) (fun ρ hρ => ?_) hd (h _ ?_ ⟨rfl, rfl, rfl, by simp, fun i hi hM => ?_⟩ (by simp))
  · unfold It at I
    simp [execOp, hρ _ _ hx, Instr.next, getObj, setObj, Sem.run, I, Result.andThen, hs, hp, hdec, goInt]
  · show (w.heap.setIfInBounds g _)[g]? = _
    simp [hlt]
  · show (w.heap.setIfInBounds g _)[i]? = _
    have : g ≠ i := fun e => hM (by simp [e])
    simp [Array.getElem?_setIfInBounds_ne this]
theorem App.neI {e sz c g p : Nat} {s : Str} {v v' : Value} {vs : List Value} (h : App w w' e sz v v' c vs) (D : ∀ x ∈ ob v, x ≠ g) (B : It w g s p) : ∀ x ∈ ob v', x ≠ g := fun x hx => by
  rcases h.ob_ x hx with h1 | h1
  · exact D x h1
  · have := B.lt; omega
end
end Go.Proofs.Ythmohmpalbnjoaa.V

set_option linter.unusedVariables false
set_option linter.unusedSimpArgs false
namespace Go.Proofs.Ythmohmpalbnjoaa.V
open Go
section
variable {P : Program} {ops : Array Oper} {Q : Exit → Act → World → Prop} {n : Nat} {ds : List Deferred} {l : List (Nat × Value)} {M : List (Nat × (Value → World → Prop))} {w : World} {Fin : Kn → Prop} {rest : List Oper} {d : Nat} {ty : TypeId} {pos : String} {af : Array Edge} {op : Op}
theorem tr2 (V : Value → World → Prop) (hV : ∀ v w1 w2, Mod [] w1 w2 → V v w1 → V v w2) (t s : Nat) {U U' : Value → World → Prop} (ht : lk t l = none) (hM : lkM t M = some U) (hx : ∃ x ∈ op.operands.toList, x = .tmp t) (hs' : lk s l = none) (hM' : lkM s M = some U') (hx' : ∃ x ∈ op.operands.toList, x = .tmp s)
    (hr : ∀ w1 u u', Mod [] w w1 → U u w1 → U' u' w1 → ∃ v w2, Runs P ((t, u) :: (s, u') :: l) ⟨some d, op, ty, pos, af, none⟩ w1 v w2 ∧ Mod [] w1 w2 ∧ V v w2) (hd : Nat.blt d n = true) (hs : notSel op = true) (hl : lk d l = none)
    (h : TWL P ops w n Fin rest l ((d, V) :: M)) : TWL P ops w n Fin (⟨some d, op, ty, pos, af, none⟩ :: rest) l M := by
  refine ⟨V, J_of2 ht hM hx hs' hM' hx' hV hd hs fun ρ w1 u u' hC hU hU' h1 => ?_, ?_⟩
  · obtain ⟨v, w2, e, hm, hv⟩ := hr w1 u u' hC hU hU'
    rw [e ρ h1]
    exact ⟨hm, hv⟩
  · rw [kn_put_r rfl hl]; exact h
theorem J_of3 {V : Value → World → Prop} {t s r : Nat} {U U' U2 : Value → World → Prop} (ht : lk t l = none) (hM : lkM t M = some U) (hx : ∃ x ∈ op.operands.toList, x = .tmp t) (hs' : lk s l = none) (hM' : lkM s M = some U') (hx' : ∃ x ∈ op.operands.toList, x = .tmp s) (hr' : lk r l = none) (hM2 : lkM r M = some U2) (hx2 : ∃ x ∈ op.operands.toList, x = .tmp r) (hV : ∀ v w1 w2, Mod [] w1 w2 → V v w1 → V v w2) (hd : Nat.blt d n = true) (hs : notSel op = true)
    (hr : ∀ (ρ : Operand → Value) w1 u u' u2, Mod [] w w1 → U u w1 → U' u' w1 → U2 u2 w1 → (∀ x v, evO ((t, u) :: (s, u') :: (r, u2) :: l) x = some v → ρ x = v) → TameUpon P (Mod []) w1 V ((execOp ρ ⟨some d, op, ty, pos, af, none⟩).run P w1)) :
    J P ops (Mod []) (Mod [] w) n (kn l M) ⟨some d, op, ty, pos, af, none⟩ V := by
  refine J_of hV hd hs fun ρ w1 hC h1 h2 => hr ρ w1 (ρ (.tmp t)) (ρ (.tmp s)) (ρ (.tmp r)) hC (h2 t U ht hM hx) (h2 s U' hs' hM' hx') (h2 r U2 hr' hM2 hx2) fun x v hv => ?_
  cases x with
  | tmp q =>
    simp only [evO, lk] at hv
    cases hb : Nat.beq t q with
    | true =>
      rw [hb] at hv
      have := Nat.eq_of_beq_eq_true hb
      subst this
      injection hv
    | false =>
      rw [hb] at hv
      cases hb' : Nat.beq s q with
      | true =>
        rw [hb'] at hv
        have := Nat.eq_of_beq_eq_true hb'
        subst this
        injection hv
      | false =>
        rw [hb'] at hv
        cases hb2 : Nat.beq r q with
        | true =>
          rw [hb2] at hv
          have := Nat.eq_of_beq_eq_true hb2
          subst this
          injection hv
        | false => rw [hb2] at hv; exact h1 _ _ hv
  | const c => exact h1 _ _ hv
  | global g => exact h1 _ _ hv
  | func f => exact h1 _ _ hv
theorem tr3 (V : Value → World → Prop) (hV : ∀ v w1 w2, Mod [] w1 w2 → V v w1 → V v w2) (t s r : Nat) {U U' U2 : Value → World → Prop} (ht : lk t l = none) (hM : lkM t M = some U) (hx : ∃ x ∈ op.operands.toList, x = .tmp t) (hs' : lk s l = none) (hM' : lkM s M = some U') (hx' : ∃ x ∈ op.operands.toList, x = .tmp s) (hr' : lk r l = none) (hM2 : lkM r M = some U2) (hx2 : ∃ x ∈ op.operands.toList, x = .tmp r)
    (hr : ∀ w1 u u' u2, Mod [] w w1 → U u w1 → U' u' w1 → U2 u2 w1 → ∃ v w2, Runs P ((t, u) :: (s, u') :: (r, u2) :: l) ⟨some d, op, ty, pos, af, none⟩ w1 v w2 ∧ Mod [] w1 w2 ∧ V v w2) (hd : Nat.blt d n = true) (hs : notSel op = true) (hl : lk d l = none)
    (h : TWL P ops w n Fin rest l ((d, V) :: M)) : TWL P ops w n Fin (⟨some d, op, ty, pos, af, none⟩ :: rest) l M := by
  refine ⟨V, J_of3 ht hM hx hs' hM' hx' hr' hM2 hx2 hV hd hs fun ρ w1 u u' u2 hC hU hU' hU2 h1 => ?_, ?_⟩
  · obtain ⟨v, w2, e, hm, hv⟩ := hr w1 u u' u2 hC hU hU' hU2
    rw [e ρ h1]
    exact ⟨hm, hv⟩
  · rw [kn_put_r rfl hl]; exact h
theorem tw_tail2 {rest' : List Oper} {t r : Nat} {V U : Value → World → Prop} (hf : fitB n l = true) (ht : lk t l = none) (hM : lkM t M = some V) (hr : lk r l = none) (hN : lkM r M = some U) (htn : Nat.blt t n = true) (hrn : Nat.blt r n = true)
    (h : ∀ w' v u, Mod [] w w' → V v w' → U u w' → WL P ops Q rest' n ds ((t, v) :: (r, u) :: l) w') :
    TWL P ops w n (fun N => ∀ a w', a.defers = ds → Mod [] w w' → N.all n a w' → wpList P ops Q rest' a w') [] l M := by
  intro a w' hd hC hN'
  have h1 := kn_has hd hN'
  rw [fitB_filter hf] at h1
  have htn' : t < a.tmps.size := by rw [hN'.1]; simpa [Nat.blt_eq] using htn
  have hrn' : r < a.tmps.size := by rw [hN'.1]; simpa [Nat.blt_eq] using hrn
  have h2 := hN'.2 t V (by simp [kn, ht, hM])
  have h4 := hN'.2 r U (by simp [kn, hr, hN])
  have h3 : a.tmps.getD t undef = a.tmps[t] := by simp [htn']
  have h5 : a.tmps.getD r undef = a.tmps[r] := by simp [hrn']
  rw [h3] at h2
  rw [h5] at h4
  refine h w' _ _ hC h2 h4 a ⟨h1.size, h1.defers, fun s v hv => ?_⟩
  simp only [lk] at hv
  cases hb : Nat.beq t s with
  | true =>
    rw [hb] at hv
    have := Nat.eq_of_beq_eq_true hb
    subst this
    injection hv with hv
    subst hv
    simp [htn']
  | false =>
    rw [hb] at hv
    cases hb2 : Nat.beq r s with
    | true =>
      rw [hb2] at hv
      have := Nat.eq_of_beq_eq_true hb2
      subst this
      injection hv with hv
      subst hv
      simp [hrn']
    | false => rw [hb2] at hv; exact h1.get s v hv
/-- a new block in a drawn region -/
theorem t_alloc {t : TypeId} {zs : List Value} (hz : zvB P t zs) (hd : Nat.blt d n = true) (hl : lk d l = none)
    (h : TWL P ops w n Fin rest l ((d, fun u w2 => ∃ g, u = .pointer (some ⟨g, 0, none⟩) ∧ w.heap.size ≤ g ∧ Blk w2 g t zs) :: M)) : TWL P ops w n Fin (⟨some d, .alloc t, ty, pos, af, none⟩ :: rest) l M :=
  tr _ (fun v w1 w2 k h => by obtain ⟨g, h1, h2, h3⟩ := h; exact ⟨g, h1, h2, h3.mod0 k⟩) (fun w1 k => by
    have h2 := New.mk' w1 t zs
    exact ⟨_, _, r_alloc hz, h2.mod, _, rfl, k.size, h2.blk⟩) hd rfl hl h
end
/-- what is read from rows that begin with a value that a block lacks lies in another block -/
theorem Rep.off_ {A : List Nat} {w : World} {sz g T : Nat} {x : Value} {zs : List Value} {r : List D} {rows : List (List D)} {ad : Option Addr} {n c : Nat} (R : Rep A w (.sl sz ((.v x :: r) :: rows)) (.slice ad n c)) (hg : Blk w g T zs) (hx : x ∉ zs) : ∃ a, ad = some a ∧ a.block ≠ g := by
  obtain ⟨a, us, rfl, h2, h3, h4, _⟩ := R.at_ (i := 0) rfl
  refine ⟨a, rfl, fun e => hx ?_⟩
  obtain ⟨u, us', rfl, h5, _⟩ := h2
  have hu := h5.v_eq
  subst hu
  have hc := h4 0 _ rfl
  rw [Nat.zero_mul] at hc
  unfold World.cell? at hc
  rw [show (a.add 0).add 0 = a by simp [Addr.add], e, hg] at hc
  dsimp only at hc
  split at hc
  · cases hc
  · have : zs[a.off]? = some u := by simpa using hc
    exact List.mem_of_getElem? this
end Go.Proofs.Ythmohmpalbnjoaa.V
