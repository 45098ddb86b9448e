/-
  A part of the proof: JSON values in memory: their cells, the rows of their lists and maps; how much a JSON value weighs, whether its keys rise, whether two are the same, in plain Lean; members put into a map: rows of seven cells; runes, texts between quotes, canonical texts of JSON values, as the document tells them, in plain Lean; runes, step by step; several plain operations taken in one computed step; truths made literal. No condition of its own.
-/
import Derived.Test.YtknndpjacklkeaaGreatDoorM3
import Derived.Lib.ItoaLen
import Derived.Test.YtknndpjacklkeaaGreatDoorM2
import Derived.Test.YtknndpjacklkeaaGreatDoorProg
set_option linter.unusedVariables false
set_option linter.unusedSimpArgs false
namespace Go.Proofs.YtknndpjacklkeaaGreatDoor.V
open Go
section
variable {A : List Nat} {w w' : World}
theorem Addr.add_add' (a : Addr) (i j : Nat) : (a.add i).add j = a.add (i + j) := by
 unfold Addr.add
 by_cases h : i = 0 <;> by_cases h' : j = 0 <;> simp [h, h', Nat.add_assoc]
theorem Cs.tail_ {a : Addr} {v : Value} {vs : List Value} (h : Cs w a (v :: vs)) : Cs w (a.add 1) vs := fun j u hu => by
 have := h (j + 1) u (by simpa using hu)
 rwa [Addr.add_add', Nat.add_comm 1 j]
theorem JV.cells_ {v : JV} {us : List Value} (R : Reps A w v.D us) : ∃ al cl am cm, us = [.int .i64 v.kind, .bool v.is, .int .i64 v.num, S v.str, .slice al v.list.length cl, .slice am v.map.length cm] ∧
  Rep A w (.sl 6 (v.list.map JV.D)) (.slice al v.list.length cl) ∧ Rep A w (.sl 7 (v.map.map JV.Dp)) (.slice am v.map.length cm) := by
 rw [JV.D_eq] at R
 obtain ⟨_, _, rfl, h1, R⟩ := R
 obtain ⟨_, _, rfl, h2, R⟩ := R
 obtain ⟨_, _, rfl, h3, R⟩ := R
 obtain ⟨_, _, rfl, h4, R⟩ := R
 obtain ⟨_, _, rfl, h5, R⟩ := R
 obtain ⟨_, _, rfl, h6, R⟩ := R
 obtain rfl := R
 obtain rfl := h1.v_eq
 obtain rfl := h2.v_eq
 obtain rfl := h3.v_eq
 obtain rfl := h4.v_eq
 obtain ⟨al, cl, rfl, _⟩ := h5.sl_
 obtain ⟨am, cm, rfl, _⟩ := h6.sl_
 rw [List.length_map] at h5 h6 ⊢
 rw [List.length_map]
 exact ⟨al, cl, am, cm, rfl, h5, h6⟩
theorem JV.reps_ {v : JV} {al am : Option Addr} {cl cm : Nat} (Rl : Rep A w (.sl 6 (v.list.map JV.D)) (.slice al v.list.length cl)) (Rm : Rep A w (.sl 7 (v.map.map JV.Dp)) (.slice am v.map.length cm)) :
  Reps A w v.D [.int .i64 v.kind, .bool v.is, .int .i64 v.num, S v.str, .slice al v.list.length cl, .slice am v.map.length cm] := by
 rw [JV.D_eq]
 exact Reps.cons_ (Rep.v_ rfl) (Reps.cons_ (Rep.v_ rfl) (Reps.cons_ (Rep.v_ rfl) (Reps.cons_ (Rep.v_ rfl) (Reps.cons_ Rl (Reps.cons_ Rm Reps.nil_)))))
theorem JV.cap_l {l : List JV} {ad : Option Addr} {n c : Nat} (R : Rep A w (.sl 6 (l.map JV.D)) (.slice ad n c)) : l.length = n ∧ n ≤ c ∧ c ≤ 9223372036854775807 := by
 obtain ⟨ad', c', h1, h2, h3⟩ := R.sl_
 injection h1 with h4 h5 h6
 rw [List.length_map] at h5 h2
 omega
theorem JV.cap_m {m : List (Str × JV)} {ad : Option Addr} {n c : Nat} (R : Rep A w (.sl 7 (m.map JV.Dp)) (.slice ad n c)) : m.length = n ∧ n ≤ c ∧ c ≤ 9223372036854775807 := by
 obtain ⟨ad', c', h1, h2, h3⟩ := R.sl_
 injection h1 with h4 h5 h6
 rw [List.length_map] at h5 h2
 omega
theorem JV.at_l {l : List JV} {x : JV} {ad : Option Addr} {n c i : Nat} (R : Rep A w (.sl 6 (l.map JV.D)) (.slice ad n c)) (h : l[i]? = some x) : ∃ a us, ad = some a ∧ Reps A w x.D us ∧ Cs w (a.add (i * 6)) us := by
 obtain ⟨a, us, h1, h2, _, h3, _⟩ := Rep.at_ (i := i) (r := x.D) R (by simp [h])
 exact ⟨a, us, h1, h2, h3⟩
theorem JV.at_m {m : List (Str × JV)} {p : Str × JV} {ad : Option Addr} {n c i : Nat} (R : Rep A w (.sl 7 (m.map JV.Dp)) (.slice ad n c)) (h : m[i]? = some p) : ∃ a us, ad = some a ∧ Reps A w p.2.D us ∧ Cs w (a.add (i * 7)) (S p.1 :: us) := by
 obtain ⟨a, us, h1, h2, _, h3, _⟩ := Rep.at_ (i := i) (r := JV.Dp p) R (by simp [h])
 obtain ⟨u, us', rfl, h4, h5⟩ := h2
 obtain rfl := h4.v_eq
 exact ⟨a, us', h1, h5, h3⟩
def JV.nul : JV := .mk 0 false 0 [] [] []
theorem JV.nul_reps : Reps A w JV.nul.D [.int .i64 0, .bool false, .int .i64 0, S [], .slice none 0 0, .slice none 0 0] := by
 have := JV.reps_ (A := A) (w := w) (v := JV.nul) (al := none) (am := none) (cl := 0) (cm := 0) Rep.sl_nil Rep.sl_nil
 exact this
theorem JV.Dp_all (m : List (Str × JV)) : ∀ r ∈ m.map JV.Dp, r.length = 7 := by
 intro r hr
 obtain ⟨p, _, rfl⟩ := List.mem_map.1 hr
 exact JV.Dp_len p
theorem JV.Dp_reps {p : Str × JV} {us : List Value} (R : Reps A w p.2.D us) : Reps A w (JV.Dp p) (S p.1 :: us) := Reps.cons_ (Rep.v_ rfl) R
theorem rows_flat_len {sz : Nat} : ∀ {rows : List (List D)}, (∀ r ∈ rows, r.length = sz) → rows.flatten.length = rows.length * sz
 | [], _ => by simp
 | r :: rs, h => by
  rw [List.flatten_cons, List.length_append, h r (by simp), rows_flat_len fun r' hr' => h r' (by simp [hr']), List.length_cons, Nat.add_mul]
  omega
theorem Reps.rows_at {sz i : Nat} {rows : List (List D)} {vs : List Value} (hl : ∀ r ∈ rows, r.length = sz) (hi : i ≤ rows.length) (h : Reps A w rows.flatten vs) :
  Reps A w (rows.take i).flatten (vs.take (i * sz)) ∧ Reps A w (rows.drop i).flatten (vs.drop (i * sz)) := by
 have e : rows.flatten = (rows.take i).flatten ++ (rows.drop i).flatten := by rw [← List.flatten_append, List.take_append_drop]
 rw [e] at h
 have := h.cut
 rwa [rows_flat_len fun r hr => hl r (List.mem_of_mem_take hr), List.length_take, Nat.min_eq_left hi] at this
theorem JV.rows_ins {m : List (Str × JV)} {p : Str × JV} {vs us : List Value} {i : Nat} (h : Reps A w (m.map JV.Dp).flatten vs) (hi : i ≤ m.length) (hp : Reps A w (JV.Dp p) us) :
  Reps A w ((m.take i ++ [p] ++ m.drop i).map JV.Dp).flatten (vs.take (i * 7) ++ us ++ vs.drop (i * 7)) := by
 obtain ⟨h1, h2⟩ := Reps.rows_at (i := i) (JV.Dp_all m) (by simpa using hi) h
 rw [List.map_append, List.map_append, List.flatten_append, List.flatten_append, List.map_take, List.map_drop]
 refine (h1.append ?_).append h2
 simpa using hp
theorem JV.rows_set {m : List (Str × JV)} {p : Str × JV} {vs us : List Value} {i : Nat} (h : Reps A w (m.map JV.Dp).flatten vs) (hi : i < m.length) (hp : Reps A w (JV.Dp p) us) :
  Reps A w ((m.set i p).map JV.Dp).flatten (vs.take (i * 7) ++ us ++ vs.drop ((i + 1) * 7)) := by
 obtain ⟨h1, _⟩ := Reps.rows_at (i := i) (JV.Dp_all m) (by simpa using Nat.le_of_lt hi) h
 obtain ⟨_, h2⟩ := Reps.rows_at (i := i + 1) (JV.Dp_all m) (by rw [List.length_map]; omega) h
 rw [List.set_eq_take_append_cons_drop, if_pos hi, List.map_append, List.map_cons, List.flatten_append, List.flatten_cons, List.map_take, List.map_drop, List.append_assoc]
 exact h1.append (hp.append h2)
theorem JV.rows_snoc {m : List (Str × JV)} {p : Str × JV} {vs us : List Value} (h : Reps A w (m.map JV.Dp).flatten vs) (hp : Reps A w (JV.Dp p) us) : Reps A w ((m ++ [p]).map JV.Dp).flatten (vs ++ us) := by
 rw [List.map_append, List.flatten_append]
 refine h.append ?_
 simpa using hp
theorem Own.mem_ {e : Nat} {v : Value} {m : List (Str × JV)} {n : Nat} {vs : List Value} (O : Own w e 7 v n vs) (h : Reps A w (m.map JV.Dp).flatten vs) (hn : m.length = n) (hA : ∀ x ∈ ob v, x ∉ A) : Rep A w (.sl 7 (m.map JV.Dp)) v :=
 O.rep h (JV.Dp_all m) (by simpa using hn) hA
variable {P : Program} {ops : Array Oper} {Q : Exit → Act → World → Prop} {n : Nat} {ds : List Deferred} {l : List (Nat × Value)}
variable {rest : List Oper} {ty : TypeId} {pos : String} {af : Array Edge} {x y : Operand}
theorem s_stownp {e sz N c p k : Nat} {ad : Addr} {vs us : List Value} {T : TypeId} (ht : agB P T k = true) (O : Own w e sz (.slice (some ad) N c) N vs) (hx : evO l x = some (.pointer (some (ad.add p)))) (hy : evO l y = some (.agg us.toArray)) (hl : us.length = k) (h1c : ∀ u ∈ us, u.oneCell' = true) (hi : p + k ≤ N * sz)
  (h : ∀ w', Own w' e sz (.slice (some ad) N c) N (vs.take p ++ us ++ vs.drop (p + k)) → Mod [ad.block] w w' → w'.heap.size = w.heap.size → WL P ops Q rest n ds l w') :
  WL P ops Q (⟨none, .store T x y, ty, pos, af, none⟩ :: rest) n ds l w := by
 rcases O.2 with ⟨h0, _⟩ | ⟨g, o, cap, cs, hv, hB, hc1, hc2, hc3, hc4⟩
 ·cases h0
 injection hv with e1 e2 e3
 injection e1 with e1
 subst e1; subst e3
 have hle2 : N * sz ≤ c * sz := Nat.mul_le_mul_right _ hc1
 have hvl := O.1
 rw [Addr.add_lit] at hx
 refine s_sta (vs := us) ht hB hx hy hl h1c (by omega) fun w' hp => ?_
 refine h w' ⟨?_, .inr ⟨g, o, c, _, rfl, hp.blk, hc1, hc2, by simp [splice]; omega, ?_⟩⟩ hp.mod hp.size
 ·simp only [List.length_append, List.length_take, List.length_drop, hl, hvl]
  omega
 ·subst hc4
  apply List.ext_getElem?
  intro j
  simp only [splice, hl]
  simp only [List.getElem?_take, List.getElem?_drop, List.getElem?_append, List.length_append, List.length_take, List.length_drop, hl]
  repeat' split
  all_goals first
   | omega
   | rfl
   | (congr 1; omega)
   | skip
end
end Go.Proofs.YtknndpjacklkeaaGreatDoor.V

set_option linter.unusedVariables false
set_option linter.unusedSimpArgs false
namespace Go.Proofs.YtknndpjacklkeaaGreatDoor.V
open Go
abbrev w64 (z : Int) : Int := IntKind.i64.wrap z
namespace JV
mutual
def weigh : JV → Int → Int → Int
 | .mk _ _ _ s l m, left, deep => if deep = 0 then -1 else weighm m (weighl l (w64 (w64 (left - 1) - s.length)) (w64 (deep - 1))) (w64 (deep - 1))
def weighl : List JV → Int → Int → Int
 | [], left, _ => left
 | v :: r, left, d => if left < 0 then left else weighl r (v.weigh left d) d
def weighm : List (List UInt8 × JV) → Int → Int → Int
 | [], left, _ => left
 | p :: r, left, d => if left < 0 then left else weighm r (p.2.weigh (w64 (left - p.1.length)) d) d
end
theorem weigh_eq (v : JV) (left deep : Int) : v.weigh left deep = if deep = 0 then -1 else weighm v.map (weighl v.list (w64 (w64 (left - 1) - v.str.length)) (w64 (deep - 1))) (w64 (deep - 1)) := by
 cases v
 simp only [weigh, map, list, str]
theorem weighl_neg {l : List JV} {z d : Int} (h : z < 0) : weighl l z d = z := by
 cases l <;> simp [weighl, h]
theorem weighm_neg {l : List (List UInt8 × JV)} {z d : Int} (h : z < 0) : weighm l z d = z := by
 cases l <;> simp [weighm, h]
theorem weighl_at {l : List JV} {k : Nat} {x : JV} {z d : Int} (hx : l[k]? = some x) (h : ¬ z < 0) : weighl (l.drop k) z d = weighl (l.drop (k + 1)) (x.weigh z d) d := by
 obtain ⟨hk, rfl⟩ := List.getElem?_eq_some_iff.1 hx
 rw [List.drop_eq_getElem_cons hk, weighl, if_neg h]
theorem weighm_at {l : List (List UInt8 × JV)} {k : Nat} {x : List UInt8 × JV} {z d : Int} (hx : l[k]? = some x) (h : ¬ z < 0) : weighm (l.drop k) z d = weighm (l.drop (k + 1)) (x.2.weigh (w64 (z - x.1.length)) d) d := by
 obtain ⟨hk, rfl⟩ := List.getElem?_eq_some_iff.1 hx
 rw [List.drop_eq_getElem_cons hk, weighm, if_neg h]
theorem weighl_end {l : List JV} {k : Nat} {z d : Int} (h : l.length ≤ k) : weighl (l.drop k) z d = z := by
 rw [List.drop_eq_nil_of_le h, weighl]
theorem weighm_end {l : List (List UInt8 × JV)} {k : Nat} {z d : Int} (h : l.length ≤ k) : weighm (l.drop k) z d = z := by
 rw [List.drop_eq_nil_of_le h, weighm]
open Classical in
noncomputable def ascB (m : List (List UInt8 × JV)) : Bool := decide (ascM m)
mutual
def Rise : JV → Prop
 | .mk _ _ _ _ l m => ascM m ∧ Risel l ∧ Risem m
def Risel : List JV → Prop
 | [] => True
 | v :: r => v.Rise ∧ Risel r
def Risem : List (List UInt8 × JV) → Prop
 | [] => True
 | p :: r => p.2.Rise ∧ Risem r
end
theorem Risel_mem : ∀ {l : List JV}, Risel l ↔ ∀ v ∈ l, v.Rise
 | [] => by simp [Risel]
 | v :: r => by simp [Risel, Risel_mem (l := r)]
theorem Risem_mem : ∀ {l : List (List UInt8 × JV)}, Risem l ↔ ∀ p ∈ l, p.2.Rise
 | [] => by simp [Risem]
 | v :: r => by simp [Risem, Risem_mem (l := r)]
theorem Rise_eq (v : JV) : v.Rise ↔ ascM v.map ∧ (∀ x ∈ v.list, x.Rise) ∧ ∀ p ∈ v.map, p.2.Rise := by
 cases v
 simp only [Rise, map, list, Risel_mem, Risem_mem]
open Classical in
noncomputable def rises (v : JV) : Bool := decide v.Rise
theorem ext_ {a b : JV} (h1 : a.kind = b.kind) (h2 : a.is = b.is) (h3 : a.num = b.num) (h4 : a.str = b.str) (h5 : a.list = b.list) (h6 : a.map = b.map) : a = b := by
 rw [eta a, eta b, h1, h2, h3, h4, h5, h6]
end JV
end Go.Proofs.YtknndpjacklkeaaGreatDoor.V

set_option linter.unusedVariables false
set_option linter.unusedSimpArgs false
namespace Go.Proofs.YtknndpjacklkeaaGreatDoor.V
open Go
theorem ins_grow7 {n i : Nat} {vs news sc : List Value} (hv : vs.length = n * 7) (hn : news.length = (n + 1 - i) * 7) (hs : sc.length = 7) (hi : i ≤ n) :
  ((vs.take (i * 7) ++ news).take (i * 7) ++ sc ++ (vs.take (i * 7) ++ news).drop ((i + 1) * 7)).take ((i + 1) * 7) ++ (vs.drop (i * 7)).take ((n - i) * 7) ++ ((vs.take (i * 7) ++ news).take (i * 7) ++ sc ++ (vs.take (i * 7) ++ news).drop ((i + 1) * 7)).drop ((i + 1 + (n - i)) * 7) = vs.take (i * 7) ++ sc ++ vs.drop (i * 7) := by
 have h1 : (vs.take (i * 7)).length = i * 7 := by rw [List.length_take]; omega
 have h2 : (vs.take (i * 7) ++ news).take (i * 7) = vs.take (i * 7) := List.take_left' h1
 have h3 : (vs.take (i * 7) ++ sc).length = (i + 1) * 7 := by rw [List.length_append, h1, hs]; omega
 rw [h2]
 have h4 : ((vs.take (i * 7) ++ sc) ++ (vs.take (i * 7) ++ news).drop ((i + 1) * 7)).take ((i + 1) * 7) = vs.take (i * 7) ++ sc := by rw [← h3]; exact List.take_left
 have h5 : ((vs.take (i * 7) ++ sc) ++ (vs.take (i * 7) ++ news).drop ((i + 1) * 7)).drop ((i + 1 + (n - i)) * 7) = [] := List.drop_eq_nil_of_le (by rw [List.length_append, h3, List.length_drop, List.length_append, h1, hn]; omega)
 have h6 : (vs.drop (i * 7)).take ((n - i) * 7) = vs.drop (i * 7) := List.take_of_length_le (by rw [List.length_drop]; omega)
 rw [h4, h5, h6, List.append_nil]
theorem ins_room7 {n i : Nat} {vs vs' sc : List Value} (hv : vs.length = n * 7) (hv' : vs'.length = (n + 1) * 7) (ht : vs'.take (n * 7) = vs) (hs : sc.length = 7) (hi : i ≤ n) :
  (vs'.take ((i + 1) * 7) ++ (vs'.drop (i * 7)).take ((n - i) * 7) ++ vs'.drop ((i + 1 + (n - i)) * 7)).take (i * 7) ++ sc ++ (vs'.take ((i + 1) * 7) ++ (vs'.drop (i * 7)).take ((n - i) * 7) ++ vs'.drop ((i + 1 + (n - i)) * 7)).drop ((i + 1) * 7) = vs.take (i * 7) ++ sc ++ vs.drop (i * 7) := by
 have h1 : (vs'.take ((i + 1) * 7)).length = (i + 1) * 7 := by rw [List.length_take]; omega
 have h2 : vs'.drop ((i + 1 + (n - i)) * 7) = [] := List.drop_eq_nil_of_le (by omega)
 rw [h2, List.append_nil]
 congr 1
 ·congr 1
  rw [List.take_append_of_le_length (by omega), List.take_take, ← ht, List.take_take]
  congr 1
  omega
 ·rw [List.drop_left' h1, ← ht, List.drop_take]
  congr 1
  omega

theorem JV.none_m {A : List Nat} {w : World} {m : List (Str × JV)} {n c : Nat} (R : Rep A w (.sl 7 (m.map JV.Dp)) (.slice none n c)) : m = [] := by
 cases m with
 | nil => rfl
 | cons p r =>
  obtain ⟨a, us, h, _⟩ := JV.at_m (i := 0) (p := p) R rfl
  cases h
namespace JV
def get (v : JV) (k : Str) : Option JV := if v.kind = 5 then look v.map k else none
def tbl (v : JV) : List (Str × JV) := if v.kind = 5 then v.map else []
def obj (m : List (Str × JV)) : JV := .mk 5 false 0 [] [] m
theorem obj_reps {A : List Nat} {w : World} {m : List (Str × JV)} {am : Option Addr} {cm : Nat} (R : Rep A w (.sl 7 (m.map Dp)) (.slice am m.length cm)) : Reps A w (obj m).D [.int .i64 5, .bool false, .int .i64 0, S [], .slice none 0 0, .slice am m.length cm] :=
 reps_ (v := obj m) (al := none) (cl := 0) Rep.sl_nil R
end JV
theorem posM_put {m : List (Str × JV)} {k : Str} {x : JV} (h : ascM m) : (look m k).isSome = true → putM m k x = m.set (posM m k) (k, x) := fun hs => by
 obtain ⟨y, hy, hk, _⟩ := isM_some h hs
 exact (thereM h hy hk).2 x
theorem posM_ins {m : List (Str × JV)} {k : Str} {x : JV} (h : ascM m) : (look m k).isSome = false → putM m k x = m.take (posM m k) ++ [(k, x)] ++ m.drop (posM m k) := fun hs => (goneM h (isM_none h hs)).2 x
end Go.Proofs.YtknndpjacklkeaaGreatDoor.V

set_option linter.unusedVariables false
set_option linter.unusedSimpArgs false
namespace Go.Proofs.YtknndpjacklkeaaGreatDoor.V
open Go
def runeC : List UInt8 → Nat → Option Nat
 | [], c => some c
 | b :: r, c => if b.toNat < 128 ∨ 192 ≤ b.toNat then none else runeC r (c * 64 + b.toNat % 64)
def runeH (c : Nat) : Nat × Nat × Nat :=
 if 192 ≤ c ∧ c < 224 then (2, 128, c % 32) else if 224 ≤ c ∧ c < 240 then (3, 2048, c % 16) else if 240 ≤ c ∧ c < 248 then (4, 65536, c % 8) else (0, 0, c)
def runeR (s : Str) : Nat × Nat := match s with
 | [] => (0, 0)
 | b :: r => if b.toNat < 128 then (b.toNat, 1) else
  if (runeH b.toNat).1 = 0 ∨ s.length < (runeH b.toNat).1 then (0, 0) else
   match runeC (r.take ((runeH b.toNat).1 - 1)) (runeH b.toNat).2.2 with
   | none => (0, 0)
   | some c => if c < (runeH b.toNat).2.1 ∨ 1114111 < c ∨ (55296 ≤ c ∧ c ≤ 57343) then (0, 0) else (c, (runeH b.toNat).1)
theorem runeR_le (s : Str) : (runeR s).2 ≤ s.length := by
 unfold runeR
 split
 ·simp
 ·rename_i b r
  split
  ·simp
  ·split
   ·simp
   ·rename_i h
    split
    ·simp
    ·split
     ·simp
     ·simp only
      omega
def validR (s : Str) : Bool :=
 if h : s = [] then true else if h0 : (runeR s).2 = 0 then false else validR (s.drop (runeR s).2)
termination_by s.length
decreasing_by
 have := runeR_le s
 rw [List.length_drop]
 have : s.length ≠ 0 := fun e => h (List.eq_nil_of_length_eq_zero e)
 omega
theorem validR_nil : validR [] = true := by rw [validR]; simp
theorem validR_no {s : Str} (h : s ≠ []) (h0 : (runeR s).2 = 0) : validR s = false := by rw [validR]; simp [h, h0]
theorem validR_go {s : Str} (h : s ≠ []) (h0 : (runeR s).2 ≠ 0) : validR s = validR (s.drop (runeR s).2) := by
 rw [validR]
 simp [h, h0]
abbrev hexD : Str := [48, 49, 50, 51, 52, 53, 54, 55, 56, 57, 97, 98, 99, 100, 101, 102]
def escQ (c : UInt8) : Str :=
 if c = 34 ∨ c = 92 then [92, c] else if c = 8 then [92, 98] else if c = 9 then [92, 116] else if c = 10 then [92, 110] else if c = 12 then [92, 102] else if c = 13 then [92, 114]
 else if c.toNat < 32 then [92, 117, 48, 48, hexD.getD (c.toNat / 16) 0, hexD.getD (c.toNat % 16) 0] else [c]
def escs (s : Str) : Str := (s.map escQ).flatten
def putQ (s : Str) : Str := 34 :: escs s ++ [34]
theorem escQ_len (c : UInt8) : (escQ c).length ≤ 6 := by
 unfold escQ
 repeat' split
 all_goals simp
theorem escs_len : ∀ s : Str, (escs s).length ≤ 6 * s.length
 | [] => by simp [escs]
 | c :: s => by
  have h1 := escs_len s
  have h2 := escQ_len c
  simp only [escs, List.map_cons, List.flatten_cons, List.length_append, List.length_cons] at h1 ⊢
  omega
theorem escs_succ {s : Str} {k : Nat} {c : UInt8} (h : s[k]? = some c) : escs (s.take (k + 1)) = escs (s.take k) ++ escQ c := by
 have hlt := (List.getElem?_eq_some_iff.1 h).1
 rw [List.take_succ_eq_append_getElem hlt, (List.getElem?_eq_some_iff.1 h).2]
 simp [escs]
def lng (b : Str) : Except Int Str := if 65536 < b.length then .error 3 else .ok b
def txtW (b s : Str) : Except Int Str := if 65536 < s.length then .error 3 else if validR s then lng (b ++ putQ s) else .error 1
theorem lng_ok {b b' : Str} (h : lng b = .ok b') : b' = b ∧ b.length ≤ 65536 := by
 unfold lng at h
 split at h
 ·cases h
 ·injection h with h; exact ⟨h.symm, by omega⟩
namespace JV
def bare (v : JV) : Bool := decide (0 ≤ v.kind ∧ v.kind ≤ 5) && (decide (v.kind = 1) || !v.is) && (decide (v.kind = 2) || decide (v.num = 0)) && (decide (v.kind = 3) || decide (v.str = [])) && (decide (v.kind = 4) || decide (v.list.length = 0)) && (decide (v.kind = 5) || decide (v.map.length = 0)) && (!decide (v.kind = 2) || decide (-9007199254740991 ≤ v.num ∧ v.num ≤ 9007199254740991))
abbrev tNull : Str := [110, 117, 108, 108]
abbrev tTrue : Str := [116, 114, 117, 101]
abbrev tFalse : Str := [102, 97, 108, 115, 101]
mutual
def wr : JV → Nat → Str → Except Int Str
 | .mk k is n s l m, deep, b =>
  if bare (.mk k is n s l m) = false then .error 1 else
  if k = 0 then lng (b ++ tNull) else
  if k = 1 then lng (b ++ if is then tTrue else tFalse) else
  if k = 2 then lng (b ++ Lib.itoa n) else
  if k = 3 then txtW b s else
  if deep = 32 then .error 5 else
  if k = 4 then (lng (b ++ [91])).bind fun b => (wrl l deep true b).bind fun b => lng (b ++ [93])
  else (lng (b ++ [123])).bind fun b => (wrm m deep none b).bind fun b => lng (b ++ [125])
def wrl : List JV → Nat → Bool → Str → Except Int Str
 | [], _, _, b => .ok b
 | v :: r, deep, fst, b => (if fst then Except.ok b else lng (b ++ [44])).bind fun b => (wr v (deep + 1) b).bind fun b => wrl r deep false b
def wrm : List (List UInt8 × JV) → Nat → Option Str → Str → Except Int Str
 | [], _, _, b => .ok b
 | p :: r, deep, prev, b => (match prev with
   | none => Except.ok b
   | some q => (lng (b ++ [44])).bind fun b => if bl q p.1 then .ok b else .error 1).bind fun b =>
  (txtW b p.1).bind fun b => (lng (b ++ [58])).bind fun b => (wr p.2 (deep + 1) b).bind fun b => wrm r deep (some p.1) b
end
theorem wr_eq (v : JV) (deep : Nat) (b : Str) : wr v deep b = 
  if bare v = false then .error 1 else
  if v.kind = 0 then lng (b ++ tNull) else
  if v.kind = 1 then lng (b ++ if v.is then tTrue else tFalse) else
  if v.kind = 2 then lng (b ++ Lib.itoa v.num) else
  if v.kind = 3 then txtW b v.str else
  if deep = 32 then .error 5 else
  if v.kind = 4 then (lng (b ++ [91])).bind fun b => (wrl v.list deep true b).bind fun b => lng (b ++ [93])
  else (lng (b ++ [123])).bind fun b => (wrm v.map deep none b).bind fun b => lng (b ++ [125]) := by
 cases v
 rw [wr]
 rfl
end JV
end Go.Proofs.YtknndpjacklkeaaGreatDoor.V

set_option linter.unusedVariables false
set_option linter.unusedSimpArgs false
namespace Go.Proofs.YtknndpjacklkeaaGreatDoor.V
open Go
section
variable {P : Program} {l : List (Nat × Value)} {w : World} {ty : TypeId} {pos : String} {af : Array Edge} {dd : Option Nat} {gg : Option (Nat × Bool)} {x y lo : Operand} {t : TypeId}
theorem o_ssfrom {u : List UInt8} {n : Nat} (ht : P.underlying t = some .string) (hx : evO l x = some (S u)) (hl : evO l lo = some (.int .i64 (n : Int))) (hb : n ≤ u.length) : Runs P l ⟨dd, .slice t x (some lo) none none, ty, pos, af, gg⟩ w (S (u.drop n)) w :=
 (o_ssl (pl := some (.i64, (n : Int))) (ph := none) ht hx (by simp [evS, hl]) rfl (by simp only [loV, hiV]; omega)).to (by
  simp only [loV, hiV, Int.toNat_natCast]
  rw [List.take_of_length_le (by simp)])
end
theorem runeC_no {l : List UInt8} {j d : Nat} {b : UInt8} (h : l[j]? = some b) (hb : b.toNat < 128 ∨ 192 ≤ b.toNat) : runeC (l.drop j) d = none := by
 obtain ⟨hj, rfl⟩ := List.getElem?_eq_some_iff.1 h
 rw [List.drop_eq_getElem_cons hj, runeC, if_pos hb]
theorem runeC_go {l : List UInt8} {j d : Nat} {b : UInt8} (h : l[j]? = some b) (hb : ¬ (b.toNat < 128 ∨ 192 ≤ b.toNat)) : runeC (l.drop j) d = runeC (l.drop (j + 1)) (d * 64 + b.toNat % 64) := by
 obtain ⟨hj, rfl⟩ := List.getElem?_eq_some_iff.1 h
 rw [List.drop_eq_getElem_cons hj, runeC, if_neg hb]
theorem runeR_small {b0 : UInt8} {r : Str} (h : b0.toNat < 128) : runeR (b0 :: r) = (b0.toNat, 1) := by simp [runeR, h]
theorem runeR_short {b0 : UInt8} {r : Str} {n l c : Nat} (hge : ¬ b0.toNat < 128) (hH : runeH b0.toNat = (n, l, c)) (h : n = 0 ∨ (b0 :: r).length < n) : runeR (b0 :: r) = (0, 0) := by
 unfold runeR
 simp only [if_neg hge, hH]
 rw [if_pos h]
theorem runeR_at {b0 : UInt8} {r : Str} {n l c : Nat} (hge : ¬ b0.toNat < 128) (hH : runeH b0.toNat = (n, l, c)) (h : ¬ (n = 0 ∨ (b0 :: r).length < n)) :
  runeR (b0 :: r) = match runeC (r.take (n - 1)) c with | none => (0, 0) | some c => if c < l ∨ 1114111 < c ∨ (55296 ≤ c ∧ c ≤ 57343) then (0, 0) else (c, n) := by
 show (if b0.toNat < 128 then (b0.toNat, 1) else if (runeH b0.toNat).1 = 0 ∨ (b0 :: r).length < (runeH b0.toNat).1 then (0, 0) else _) = _
 rw [if_neg hge, hH, if_neg h] <;> rfl
theorem runeR_none {b0 : UInt8} {r : Str} {n l c : Nat} (hge : ¬ b0.toNat < 128) (hH : runeH b0.toNat = (n, l, c)) (h : ¬ (n = 0 ∨ (b0 :: r).length < n)) (hc : runeC (r.take (n - 1)) c = none) : runeR (b0 :: r) = (0, 0) := by rw [runeR_at hge hH h, hc]
theorem runeR_bad {b0 : UInt8} {r : Str} {n l c d : Nat} (hge : ¬ b0.toNat < 128) (hH : runeH b0.toNat = (n, l, c)) (h : ¬ (n = 0 ∨ (b0 :: r).length < n)) (hc : runeC (r.take (n - 1)) c = some d) (hb : d < l ∨ 1114111 < d ∨ (55296 ≤ d ∧ d ≤ 57343)) : runeR (b0 :: r) = (0, 0) := by
 rw [runeR_at hge hH h, hc]
 exact if_pos hb
theorem runeR_good {b0 : UInt8} {r : Str} {n l c d : Nat} (hge : ¬ b0.toNat < 128) (hH : runeH b0.toNat = (n, l, c)) (h : ¬ (n = 0 ∨ (b0 :: r).length < n)) (hc : runeC (r.take (n - 1)) c = some d) (hb : ¬ (d < l ∨ 1114111 < d ∨ (55296 ≤ d ∧ d ≤ 57343))) : runeR (b0 :: r) = (d, n) := by
 rw [runeR_at hge hH h, hc]
 exact if_neg hb
end Go.Proofs.YtknndpjacklkeaaGreatDoor.V

set_option linter.unusedVariables false
set_option linter.unusedSimpArgs false
namespace Go.Proofs.YtknndpjacklkeaaGreatDoor.V
open Go
def ev1 (l : List (Nat × Value)) : Op → Option Value
 | .move x => evO l x
 | .assign x => evO l x
 | .pick x y z => match evO l x with
  | some (.bool true) => evO l y
  | some (.bool false) => evO l z
  | _ => none
 | .unOp .not _ x => match evO l x with
  | some (.bool b) => some (.bool (!b))
  | _ => none
 | .extract x i => match evO l x with
  | some (.tuple vs) => vs[i]?
  | _ => none
 | .nilCheck x => match evO l x with
  | some (.pointer (some ad)) => some (.pointer (some ad))
  | _ => none
 | .binOp .lss _ x y _ => match evO l x, evO l y with
  | some (.int k m), some (.int k' m') => if k = k' then some (.bool (decide (m < m'))) else none
  | _, _ => none
 | .binOp .leq _ x y _ => match evO l x, evO l y with
  | some (.int k m), some (.int k' m') => if k = k' then some (.bool (decide (m ≤ m'))) else none
  | _, _ => none
 | .binOp .gtr _ x y _ => match evO l x, evO l y with
  | some (.int k m), some (.int k' m') => if k = k' then some (.bool (decide (m' < m))) else none
  | _, _ => none
 | .binOp .eql _ x y _ => match evO l x, evO l y with
  | some (.int k m), some (.int k' m') => if k = k' then some (.bool (decide (m = m'))) else none
  | _, _ => none
 | .binOp .neq _ x y _ => match evO l x, evO l y with
  | some (.int k m), some (.int k' m') => if k = k' then some (.bool (decide (m ≠ m'))) else none
  | _, _ => none
 | _ => none
def tstep (ops : Array Oper) (n : Nat) (l : List (Nat × Value)) : Oper → Option (List (Nat × Value))
 | ⟨some d, op, _, _, _, g⟩ => match Nat.blt d n with
  | true => match g with
   | none => match ev1 l op with
    | some v => some ((d, v) :: l)
    | none => none
   | some (j, want) => match gv ops l j with
    | some b => match b, want with
     | true, true => match ev1 l op with
      | some v => some ((d, v) :: l)
      | none => none
     | false, false => match ev1 l op with
      | some v => some ((d, v) :: l)
      | none => none
     | true, false => some ((d, undef) :: l)
     | false, true => some ((d, undef) :: l)
    | none => match (ops[j]?).bind (·.dst) with
     | some t => match lk t l with
      | some (.tuple vs) => match vs.size with
       | 0 => some ((d, undef) :: l)
       | _ => none
      | _ => none
     | none => none
  | false => none
 | _ => none
def trun (ops : Array Oper) (n : Nat) : Nat → List Oper → List (Nat × Value) → Option (List Oper × List (Nat × Value))
 | 0, lo, l => some (lo, l)
 | k + 1, o :: lo, l => match tstep ops n l o with
  | some l' => trun ops n k lo l'
  | none => none
 | _ + 1, [], _ => none
section
variable {P : Program} {ops : Array Oper} {Q : Exit → Act → World → Prop} {n : Nat} {ds : List Deferred} {l l' : List (Nat × Value)} {M : List (Nat × (Value → World → Prop))} {w w' : World} {Fin : Kn → Prop}
variable {lo lo' : List Oper} {d : Nat} {op : Op} {ty : TypeId} {pos : String} {af : Array Edge} {gg : Option (Nat × Bool)}
theorem ev1_runs {v : Value} (h : ev1 l op = some v) : Runs P l ⟨some d, op, ty, pos, af, gg⟩ w v w := by
 unfold ev1 at h
 split at h
 ·exact oM h
 ·exact o_as h
 ·split at h
  ·rename_i hx; exact fun ρ hρ => by simp [execOp, hρ _ _ hx, hρ _ _ h, asBool, evO]
  ·rename_i hx; exact fun ρ hρ => by simp [execOp, hρ _ _ hx, hρ _ _ h, asBool]
  ·cases h
 ·split at h
  ·rename_i hx; injection h with h; subst h; exact o_not hx
  ·cases h
 ·split at h
  ·rename_i hx; exact o_ext hx h
  ·cases h
 ·split at h
  ·rename_i hx; injection h with h; subst h; exact o_nilc hx
  ·cases h
 ·split at h
  ·rename_i hx hy
   split at h
   ·rename_i hk; subst hk; injection h with h; subst h; exact o_lss hx hy
   ·cases h
  ·cases h
 ·split at h
  ·rename_i hx hy
   split at h
   ·rename_i hk; subst hk; injection h with h; subst h; exact o_leq hx hy
   ·cases h
  ·cases h
 ·split at h
  ·rename_i hx hy
   split at h
   ·rename_i hk; subst hk; injection h with h; subst h; exact o_gtr hx hy
   ·cases h
  ·cases h
 ·split at h
  ·rename_i hx hy
   split at h
   ·rename_i hk; subst hk; injection h with h; subst h; exact oE hx hy
   ·cases h
  ·cases h
 ·split at h
  ·rename_i hx hy
   split at h
   ·rename_i hk; subst hk; injection h with h; subst h; exact o_neq hx hy
   ·cases h
  ·cases h
 ·cases h
theorem tstep_wl {o : Oper} (h : tstep ops n l o = some l') (hW : WL P ops Q lo n ds l' w) : WL P ops Q (o :: lo) n ds l w := by
 obtain ⟨dst, op, ty, pos, af, g⟩ := o
 cases dst with
 | none => simp [tstep] at h
 | some d =>
  cases hd : Nat.blt d n with
  | false => simp [tstep, hd] at h
  | true =>
   cases g with
   | none =>
    cases he : ev1 l op with
    | none => simp [tstep, hd, he] at h
    | some v =>
     simp [tstep, hd, he] at h
     subst h
     exact sv (ev1_runs he) hd hW
   | some jw =>
    obtain ⟨j, want⟩ := jw
    cases hg : gv ops l j with
    | some b =>
     cases b <;> cases want <;> simp only [tstep, hd, hg] at h
     ·cases he : ev1 l op with
      | none => simp [he] at h
      | some v =>
       simp [he] at h
       subst h
       exact sg hg rfl (ev1_runs he) hd hW
     ·injection h with h
      subst h
      exact sn hg (by decide) hd hW
     ·injection h with h
      subst h
      exact sn hg (by decide) hd hW
     ·cases he : ev1 l op with
      | none => simp [he] at h
      | some v =>
       simp [he] at h
       subst h
       exact sg hg rfl (ev1_runs he) hd hW
    | none =>
     simp only [tstep, hd, hg] at h
     split at h
     ·rename_i t ht
      split at h
      ·rename_i vs hv
       split at h
       ·rename_i hs
        injection h with h
        subst h
        have : vs = #[] := Array.eq_empty_of_size_eq_zero hs
        subst this
        exact snu ht hv hd hW
       ·cases h
      ·cases h
     ·cases h
theorem tstep_twl {o : Oper} (h : tstep ops n l o = some l') (hs : notSel o.op = true) (hW : TWL P ops w n Fin lo l' M) : TWL P ops w n Fin (o :: lo) l M := by
 obtain ⟨dst, op, ty, pos, af, g⟩ := o
 cases dst with
 | none => simp [tstep] at h
 | some d =>
  cases hd : Nat.blt d n with
  | false => simp [tstep, hd] at h
  | true =>
   cases g with
   | none =>
    cases he : ev1 l op with
    | none => simp [tstep, hd, he] at h
    | some v =>
     simp [tstep, hd, he] at h
     subst h
     exact tv (fun _ _ => ev1_runs he) hd hs hW
   | some jw =>
    obtain ⟨j, want⟩ := jw
    cases hg : gv ops l j with
    | some b =>
     cases b <;> cases want <;> simp only [tstep, hd, hg] at h
     ·cases he : ev1 l op with
      | none => simp [he] at h
      | some v =>
       simp [he] at h
       subst h
       exact tvg hg rfl (fun _ _ => ev1_runs he) hd hs hW
     ·injection h with h
      subst h
      exact tn hg (by decide) hd hW
     ·injection h with h
      subst h
      exact tn hg (by decide) hd hW
     ·cases he : ev1 l op with
      | none => simp [he] at h
      | some v =>
       simp [he] at h
       subst h
       exact tvg hg rfl (fun _ _ => ev1_runs he) hd hs hW
    | none =>
     simp only [tstep, hd, hg] at h
     split at h
     ·rename_i t ht
      split at h
      ·rename_i vs hv
       split at h
       ·rename_i hz
        injection h with h
        subst h
        have : vs = #[] := Array.eq_empty_of_size_eq_zero hz
        subst this
        exact tnu ht hv hd hW
       ·cases h
      ·cases h
     ·cases h
theorem tW (k : Nat) (h : trun ops n k lo l = some (lo', l')) (hW : WL P ops Q lo' n ds l' w) : WL P ops Q lo n ds l w := by
 induction k generalizing lo l with
 | zero => injection h with h; injection h with h1 h2; subst h1; subst h2; exact hW
 | succ k ih =>
  cases lo with
  | nil => simp [trun] at h
  | cons o lo =>
   simp only [trun] at h
   split at h
   ·rename_i l1 h1
    exact tstep_wl h1 (ih h)
   ·cases h
def selN : Nat → List Oper → Bool
 | 0, _ => true
 | k + 1, o :: lo => notSel o.op && selN k lo
 | _ + 1, [] => false
theorem tU (k : Nat) (h : trun ops n k lo l = some (lo', l')) (hs : selN k lo = true) (hW : TWL P ops w n Fin lo' l' M) : TWL P ops w n Fin lo l M := by
 induction k generalizing lo l with
 | zero => injection h with h; injection h with h1 h2; subst h1; subst h2; exact hW
 | succ k ih =>
  cases lo with
  | nil => simp [trun] at h
  | cons o lo =>
   simp only [selN, Bool.and_eq_true] at hs
   simp only [trun] at h
   split at h
   ·rename_i l1 h1
    exact tstep_twl h1 hs.1 (ih h hs.2)
   ·cases h
/-! a truth made literal -/
variable {t : Nat} {p : Prop} {b b' : Bool}
theorem bD [Decidable p] (h1 : p → WL P ops Q lo n ds ((t, .bool true) :: l) w) (h2 : ¬ p → WL P ops Q lo n ds ((t, .bool false) :: l) w) : WL P ops Q lo n ds ((t, .bool (decide p)) :: l) w := by
 by_cases h : p
 ·rw [decide_eq_true h]; exact h1 h
 ·rw [decide_eq_false h]; exact h2 h
theorem bB (h1 : b = true → WL P ops Q lo n ds ((t, .bool true) :: l) w) (h2 : ¬ b = true → WL P ops Q lo n ds ((t, .bool false) :: l) w) : WL P ops Q lo n ds ((t, .bool b) :: l) w := by
 cases b
 ·exact h2 (by decide)
 ·exact h1 rfl
theorem bC (h1 : b = true → WL P ops Q lo n ds ((t, .bool true) :: l) w) (h2 : b = false → WL P ops Q lo n ds ((t, .bool false) :: l) w) : WL P ops Q lo n ds ((t, .bool b) :: l) w := by
 cases b
 ·exact h2 rfl
 ·exact h1 rfl
theorem bE (h : b = b') (hW : WL P ops Q lo n ds ((t, .bool b') :: l) w) : WL P ops Q lo n ds ((t, .bool b) :: l) w := h ▸ hW
end
end Go.Proofs.YtknndpjacklkeaaGreatDoor.V

set_option linter.unusedVariables false
set_option linter.unusedSimpArgs false
set_option maxRecDepth 10000
namespace Go.Proofs.YtknndpjacklkeaaGreatDoor.V
open Go Go.Proofs
theorem fd25_3 : fdB Tryz.prog 25 3 3 1 = true := by kernel_rfl
theorem sc9 : scB Tryz.prog 9 = true := by kernel_rfl
theorem fd25_4 : fdB Tryz.prog 25 4 4 1 = true := by kernel_rfl
theorem sc22 : scB Tryz.prog 22 = true := by kernel_rfl
theorem sl22 : slB Tryz.prog 22 25 6 88 = true := by kernel_rfl
theorem ag25 : agB Tryz.prog 25 6 = true := by kernel_rfl
theorem ent34 : Ent Tryz.prog 34 := Ent.of Tryz.func34 (by kernel_rfl) (by kernel_rfl)
theorem fd25_5 : fdB Tryz.prog 25 5 5 1 = true := by kernel_rfl
theorem sc23 : scB Tryz.prog 23 = true := by kernel_rfl
theorem wide : Tryz.prog.follows .mixedOrders = true := by kernel_rfl
theorem sl23 : slB Tryz.prog 23 44 7 104 = true := by kernel_rfl
theorem fd44_1 : fdB Tryz.prog 44 1 1 6 = true := by kernel_rfl
theorem fd44_0 : fdB Tryz.prog 44 0 0 1 = true := by kernel_rfl
theorem c_weigh_step (N : Nat) (ih : ∀ (w : World) (v : JV) (us : List Value) (left deep : Int), v.sz ≤ N → Reps [] w v.D us → Calls Tryz.prog 34 [.agg us.toArray, .int .i64 left, .int .i64 deep].toArray w (Ret fun u w' => u = .int .i64 (v.weigh left deep) ∧ Mod [] w w')) (w : World) (v : JV) (us : List Value) (left deep : Int) (hN : v.sz ≤ N + 1) (R : Reps [] w v.D us) : Calls Tryz.prog 34 [.agg us.toArray, .int .i64 left, .int .i64 deep].toArray w (Ret fun u w' => u = .int .i64 (v.weigh left deep) ∧ Mod [] w w') := by
 refine enter Tryz.func34 rfl rfl rfl (l := [(0, _), (1, _), (2, _)]) ⟨rfl, rfl, rfl, trivial⟩ ?_
 have E := Mod.refl [] w
 obtain ⟨al, cl, am, cm, rfl, Rl, Rm⟩ := JV.cells_ R
 refine Cq fun K1 hK1 => Cr (s_box rfl rfl rfl fun g1 w1 N1 => ?_)
 have Lg1_E := N1.le E
 replace E := E.then N1.mod
 have Bg1 := N1.blk
 refine Za rfl (Ln (e_K (hK1 _ _ _ _ (Cq fun K2 hK2 => Cr (Zm rfl (Sv (o_sub rfl rfl) (Sv (oA0 fd25_3 rfl) (Sv (oL sc9 rfl (Bg1.cell rfl)) (Sv (o_slen Tryz.underlying9 rfl) (Sv (o_sub rfl rfl) (Za rfl (Ln (e_K (hK2 _ _ _ _ ?_))))))))))))))
 refine Cq fun K3 hK3 => Cq fun K4 hK4 => Cr (tW 2 rfl (Ln (e_K (hK4 _ _ _ _ ?_))))
 refine c_if rfl (fun h16 => ?_) (fun h16 => ?_)
 ·exact Cq fun K5 hK5 => Cr (Za rfl (Ln (e_K (hK5 _ _ _ _ (cR (eT (by simp) (ret1 rfl rfl ⟨by rw [JV.weigh_eq, if_pos h16], E⟩)))))))
 ·have hd0 : ¬ deep = 0 := h16
  have hW := JV.weigh_eq v left deep
  rw [if_neg hd0] at hW
  refine cK (e_K (hK3 _ _ _ _ (Cq fun K6 hK6 => Cq fun K7 hK7 => Cr (Za rfl (Ln (e_K (hK7 _ _ _ _ (cB (c_loop (σ := Nat × Int) (fun ⟨k, z⟩ => [(1, .int .i64 z), (2, .int .i64 deep), (3, .pointer (some ⟨g1, 0, none⟩)), (7, .int .i64 (k : Int))]) (fun ⟨k, z⟩ w1 => k ≤ v.list.length ∧ JV.weighl (v.list.drop k) z (w64 (deep - 1)) = JV.weighl v.list (w64 (w64 (left - 1) - v.str.length)) (w64 (deep - 1)) ∧ Blk w1 g1 25 [.int .i64 v.kind, .bool v.is, .int .i64 v.num, S v.str, .slice al v.list.length cl, .slice am v.map.length cm] ∧ Mod [] w w1) (fun ⟨k, z⟩ => v.list.length - k) (⟨0, (w64 (w64 (left - 1) - v.str.length))⟩) ⟨rfl, rfl, rfl, rfl, trivial⟩ (⟨by omega, rfl, Bg1, E⟩) ?_)))))))))
  rintro ⟨k, z⟩ w2 ⟨hk, hz1, Bg1, E⟩
  refine Cq fun K8 hK8 => Cq fun K9 hK9 => Cr (Zm rfl (Sv (oA0 fd25_4 rfl) (Sv (oL sc22 rfl (Bg1.cell rfl)) (Sv (o_len Tryz.underlying22 rfl) (Sv (o_lss rfl rfl) ?_)))))
  refine bD (fun hs5_0 : (k : Int) < (v.list.length : Int) => ?_) (fun hs5_0 => ?_)
  ·refine tW 2 rfl (Sg rfl rfl (o_geq rfl rfl) (Sv (oT rfl rfl rfl) (Ln (e_K (hK9 _ _ _ _ ?_)))))
   refine c_if rfl (fun h25 => ?_) (fun h25 => ?_)
   ·obtain ⟨x, hx_x⟩ : ∃ x, v.list[k]? = some x := ⟨_, List.getElem?_eq_getElem (by omega)⟩
    obtain ⟨a_x, us_x, ha_x, R_x, hcs0_x⟩ := JV.at_l Rl hx_x
    obtain ⟨al_x, cl_x, am_x, cm_x, rfl, Rl_x, Rm_x⟩ := JV.cells_ R_x
    have hcs_x := hcs0_x.mod0 E
    have hcap_x := JV.cap_l Rl
    obtain rfl := ha_x
    have hz : ¬ z < 0 := by omega
    have hS := JV.weighl_at (d := (w64 (deep - 1))) hx_x hz
    refine cK (e_K (hK8 _ _ _ _ (Cq fun K10 hK10 => cB (Cr (Sv (oA0 fd25_4 rfl) (Sv (oL sc22 rfl (Bg1.cell rfl)) (Zm rfl (Sv (o_ix sl22 rfl rfl (by omega)) (Sv (o_lda ag25 rfl rfl hcs_x) (tW 2 rfl (Sv (o_sub rfl rfl) (sc (oC ent34 rfl) (ih _ x _ z _ (by have := JV.sz_in_list (List.mem_of_getElem? hx_x); omega) (R_x.to0 E)) rfl fun v_ w3 h_ => ?_))))))))))))
    obtain ⟨rfl, E_⟩ := h_
    replace Bg1 := Bg1.mod0 E_
    replace E := E.then E_
    refine Za rfl (Ln (eI (by simp) (e_K (hK10 _ _ _ _ (Cr (Zm rfl (Sv (o_addN rfl rfl (by omega)) (Za rfl (Ln ?_)))))))))
    have hcap := JV.cap_l Rl
    exact eR (σ := Nat × Int) (s := ⟨k, z⟩) (⟨k + 1, x.weigh z (w64 (deep - 1))⟩) ⟨rfl, rfl, rfl, rfl, trivial⟩ ⟨by omega, by rw [← hS]; exact hz1, Bg1, E⟩ (by dsimp only; omega)
   ·have hz2 : JV.weighl v.list (w64 (w64 (left - 1) - v.str.length)) (w64 (deep - 1)) = z := by rw [← hz1]; exact JV.weighl_neg (by omega)
    refine c_exit (eT (by simp) (eT (by simp) (e_hit (e_K (hK6 _ _ _ _ (Cq fun K11 hK11 => Cq fun K12 hK12 => Cr (Za rfl (Ln (e_K (hK12 _ _ _ _ (cB (c_loop (σ := Nat × Int) (fun ⟨k, y⟩ => [(1, .int .i64 y), (2, .int .i64 deep), (3, .pointer (some ⟨g1, 0, none⟩)), (8, .int .i64 (k : Int))]) (fun ⟨k, y⟩ w1 => k ≤ v.map.length ∧ JV.weighm (v.map.drop k) y (w64 (deep - 1)) = JV.weighm v.map z (w64 (deep - 1)) ∧ Blk w1 g1 25 [.int .i64 v.kind, .bool v.is, .int .i64 v.num, S v.str, .slice al v.list.length cl, .slice am v.map.length cm] ∧ Mod [] w w1) (fun ⟨k, y⟩ => v.map.length - k) (⟨0, z⟩) ⟨rfl, rfl, rfl, rfl, trivial⟩ (⟨by omega, rfl, Bg1, E⟩) ?_))))))))))))
    rintro ⟨k, y⟩ w4 ⟨hk, hy1, Bg1, E⟩
    refine Cq fun K13 hK13 => Cq fun K14 hK14 => Cr (Zm rfl (Sv (oA0 fd25_5 rfl) (Sv (oL sc23 rfl (Bg1.cell rfl)) (Sv (o_len Tryz.underlying23 rfl) (Sv (o_lss rfl rfl) ?_)))))
    refine bD (fun hs9_0 : (k : Int) < (v.map.length : Int) => ?_) (fun hs9_0 => ?_)
    ·refine tW 2 rfl (Sg rfl rfl (o_geq rfl rfl) (Sv (oT rfl rfl rfl) (Ln (e_K (hK14 _ _ _ _ ?_)))))
     refine c_if rfl (fun h45 => ?_) (fun h45 => ?_)
     ·obtain ⟨x, hx_x⟩ : ∃ x, v.map[k]? = some x := ⟨_, List.getElem?_eq_getElem (by omega)⟩
      obtain ⟨a_x, us_x, ha_x, R_x, hcs0_x⟩ := JV.at_m Rm hx_x
      obtain ⟨al_x, cl_x, am_x, cm_x, rfl, Rl_x, Rm_x⟩ := JV.cells_ R_x
      have hcs_x := hcs0_x.mod0 E
      have hcap_x := JV.cap_m Rm
      obtain rfl := ha_x
      have hz : ¬ y < 0 := by omega
      have hS := JV.weighm_at (d := (w64 (deep - 1))) hx_x hz
      refine cK (e_K (hK13 _ _ _ _ (Cq fun K15 hK15 => cB (c_draw wide (by kernel_rfl) (tv (fun w_ E_ => (oA0 fd25_5 rfl)) rfl rfl (tv (fun w_ E_ => (oL sc23 rfl ((Bg1.mod0 E_).cell rfl))) rfl rfl (tv (fun w_ E_ => (oM rfl)) rfl rfl (tv (fun w_ E_ => (o_ix sl23 rfl rfl (by omega))) rfl rfl (tv (fun w_ E_ => (o_fad fd44_1 rfl)) rfl rfl (tv (fun w_ E_ => (o_lda ag25 rfl rfl (hcs_x.mod0 E_).tail_)) rfl rfl (tv (fun w_ E_ => (oM rfl)) rfl rfl (tv (fun w_ E_ => (oA0 fd25_5 rfl)) rfl rfl (tv (fun w_ E_ => (oL sc23 rfl ((Bg1.mod0 E_).cell rfl))) rfl rfl ?_)))))))))))))
      refine tv (fun w_ E_ => (oM rfl)) rfl rfl (tv (fun w_ E_ => (o_ix sl23 rfl rfl (by omega))) rfl rfl (tv (fun w_ E_ => (o_fad fd44_0 rfl)) rfl rfl (tv (fun w_ E_ => (oL sc9 rfl ((hcs_x.mod0 E_) 0 _ rfl))) rfl rfl (tv (fun w_ E_ => (o_slen Tryz.underlying9 rfl)) rfl rfl (tv (fun w_ E_ => (o_sub rfl rfl)) rfl rfl (tv (fun w_ E_ => (oM rfl)) rfl rfl (tv (fun w_ E_ => (o_sub rfl rfl)) rfl rfl (tc (fun w_ E_ => oC ent34 rfl) (fun w_ E_ => ih _ x.2 _ _ _ (by have := JV.sz_in_map (List.mem_of_getElem? hx_x); omega) (R_x.to0 (E.then E_))) rfl rfl (tv (fun w_ E_ => (o_as rfl)) rfl rfl (tw_nil rfl fun w5 E_ => ?_))))))))))
      replace Bg1 := Bg1.mod0 E_
      replace E := E.then E_
      refine eI (by simp) (e_K (hK15 _ _ _ _ (Cr (Zm rfl (Sv (o_addN rfl rfl (by omega)) (Za rfl (Ln ?_)))))))
      have hcap := JV.cap_m Rm
      exact eR (σ := Nat × Int) (s := ⟨k, y⟩) (⟨k + 1, x.2.weigh (w64 (y - x.1.length)) (w64 (deep - 1))⟩) ⟨rfl, rfl, rfl, rfl, trivial⟩ ⟨by omega, by rw [← hS]; exact hy1, Bg1, E⟩ (by dsimp only; omega)
     ·have hz3 : v.weigh left deep = y := by rw [hW, hz2, ← hy1]; exact JV.weighm_neg (by omega)
      exact c_exit (eT (by simp) (eT (by simp) (e_hit (e_K (hK11 _ _ _ _ (Cq fun K16 hK16 => Cr (tW 2 rfl (Ln (e_K (hK16 _ _ _ _ (cR (ret1 rfl rfl ⟨by rw [hz3], E⟩))))))))))))
    ·refine tW 4 rfl (Ln (e_K (hK14 _ _ _ _ (c_false rfl ?_))))
     have hz3 : v.weigh left deep = y := by rw [hW, hz2, ← hy1]; exact JV.weighm_end (by omega)
     exact c_exit (eT (by simp) (eT (by simp) (e_hit (e_K (hK11 _ _ _ _ (Cq fun K17 hK17 => Cr (tW 2 rfl (Ln (e_K (hK17 _ _ _ _ (cR (ret1 rfl rfl ⟨by rw [hz3], E⟩))))))))))))
  ·refine tW 4 rfl (Ln (e_K (hK9 _ _ _ _ (c_false rfl ?_))))
   have hz2 : JV.weighl v.list (w64 (w64 (left - 1) - v.str.length)) (w64 (deep - 1)) = z := by rw [← hz1]; exact JV.weighl_end (by omega)
   refine c_exit (eT (by simp) (eT (by simp) (e_hit (e_K (hK6 _ _ _ _ (Cq fun K18 hK18 => Cq fun K19 hK19 => Cr (Za rfl (Ln (e_K (hK19 _ _ _ _ (cB (c_loop (σ := Nat × Int) (fun ⟨k, y⟩ => [(1, .int .i64 y), (2, .int .i64 deep), (3, .pointer (some ⟨g1, 0, none⟩)), (8, .int .i64 (k : Int))]) (fun ⟨k, y⟩ w1 => k ≤ v.map.length ∧ JV.weighm (v.map.drop k) y (w64 (deep - 1)) = JV.weighm v.map z (w64 (deep - 1)) ∧ Blk w1 g1 25 [.int .i64 v.kind, .bool v.is, .int .i64 v.num, S v.str, .slice al v.list.length cl, .slice am v.map.length cm] ∧ Mod [] w w1) (fun ⟨k, y⟩ => v.map.length - k) (⟨0, z⟩) ⟨rfl, rfl, rfl, rfl, trivial⟩ (⟨by omega, rfl, Bg1, E⟩) ?_))))))))))))
   rintro ⟨k, y⟩ w6 ⟨hk, hy1, Bg1, E⟩
   refine Cq fun K20 hK20 => Cq fun K21 hK21 => Cr (Zm rfl (Sv (oA0 fd25_5 rfl) (Sv (oL sc23 rfl (Bg1.cell rfl)) (Sv (o_len Tryz.underlying23 rfl) (Sv (o_lss rfl rfl) ?_)))))
   refine bD (fun hs9_0 : (k : Int) < (v.map.length : Int) => ?_) (fun hs9_0 => ?_)
   ·refine tW 2 rfl (Sg rfl rfl (o_geq rfl rfl) (Sv (oT rfl rfl rfl) (Ln (e_K (hK21 _ _ _ _ ?_)))))
    refine c_if rfl (fun h45 => ?_) (fun h45 => ?_)
    ·obtain ⟨x, hx_x⟩ : ∃ x, v.map[k]? = some x := ⟨_, List.getElem?_eq_getElem (by omega)⟩
     obtain ⟨a_x, us_x, ha_x, R_x, hcs0_x⟩ := JV.at_m Rm hx_x
     obtain ⟨al_x, cl_x, am_x, cm_x, rfl, Rl_x, Rm_x⟩ := JV.cells_ R_x
     have hcs_x := hcs0_x.mod0 E
     have hcap_x := JV.cap_m Rm
     obtain rfl := ha_x
     have hz : ¬ y < 0 := by omega
     have hS := JV.weighm_at (d := (w64 (deep - 1))) hx_x hz
     refine cK (e_K (hK20 _ _ _ _ (Cq fun K22 hK22 => cB (c_draw wide (by kernel_rfl) (tv (fun w_ E_ => (oA0 fd25_5 rfl)) rfl rfl (tv (fun w_ E_ => (oL sc23 rfl ((Bg1.mod0 E_).cell rfl))) rfl rfl (tv (fun w_ E_ => (oM rfl)) rfl rfl (tv (fun w_ E_ => (o_ix sl23 rfl rfl (by omega))) rfl rfl (tv (fun w_ E_ => (o_fad fd44_1 rfl)) rfl rfl (tv (fun w_ E_ => (o_lda ag25 rfl rfl (hcs_x.mod0 E_).tail_)) rfl rfl (tv (fun w_ E_ => (oM rfl)) rfl rfl (tv (fun w_ E_ => (oA0 fd25_5 rfl)) rfl rfl (tv (fun w_ E_ => (oL sc23 rfl ((Bg1.mod0 E_).cell rfl))) rfl rfl ?_)))))))))))))
     refine tv (fun w_ E_ => (oM rfl)) rfl rfl (tv (fun w_ E_ => (o_ix sl23 rfl rfl (by omega))) rfl rfl (tv (fun w_ E_ => (o_fad fd44_0 rfl)) rfl rfl (tv (fun w_ E_ => (oL sc9 rfl ((hcs_x.mod0 E_) 0 _ rfl))) rfl rfl (tv (fun w_ E_ => (o_slen Tryz.underlying9 rfl)) rfl rfl (tv (fun w_ E_ => (o_sub rfl rfl)) rfl rfl (tv (fun w_ E_ => (oM rfl)) rfl rfl (tv (fun w_ E_ => (o_sub rfl rfl)) rfl rfl (tc (fun w_ E_ => oC ent34 rfl) (fun w_ E_ => ih _ x.2 _ _ _ (by have := JV.sz_in_map (List.mem_of_getElem? hx_x); omega) (R_x.to0 (E.then E_))) rfl rfl (tv (fun w_ E_ => (o_as rfl)) rfl rfl (tw_nil rfl fun w7 E_ => ?_))))))))))
     replace Bg1 := Bg1.mod0 E_
     replace E := E.then E_
     refine eI (by simp) (e_K (hK22 _ _ _ _ (Cr (Zm rfl (Sv (o_addN rfl rfl (by omega)) (Za rfl (Ln ?_)))))))
     have hcap := JV.cap_m Rm
     exact eR (σ := Nat × Int) (s := ⟨k, y⟩) (⟨k + 1, x.2.weigh (w64 (y - x.1.length)) (w64 (deep - 1))⟩) ⟨rfl, rfl, rfl, rfl, trivial⟩ ⟨by omega, by rw [← hS]; exact hy1, Bg1, E⟩ (by dsimp only; omega)
    ·have hz3 : v.weigh left deep = y := by rw [hW, hz2, ← hy1]; exact JV.weighm_neg (by omega)
     exact c_exit (eT (by simp) (eT (by simp) (e_hit (e_K (hK18 _ _ _ _ (Cq fun K23 hK23 => Cr (tW 2 rfl (Ln (e_K (hK23 _ _ _ _ (cR (ret1 rfl rfl ⟨by rw [hz3], E⟩))))))))))))
   ·refine tW 4 rfl (Ln (e_K (hK21 _ _ _ _ (c_false rfl ?_))))
    have hz3 : v.weigh left deep = y := by rw [hW, hz2, ← hy1]; exact JV.weighm_end (by omega)
    exact c_exit (eT (by simp) (eT (by simp) (e_hit (e_K (hK18 _ _ _ _ (Cq fun K24 hK24 => Cr (tW 2 rfl (Ln (e_K (hK24 _ _ _ _ (cR (ret1 rfl rfl ⟨by rw [hz3], E⟩))))))))))))

theorem c_weigh_all : ∀ N : Nat, ∀ (w : World) (v : JV) (us : List Value) (left deep : Int), v.sz ≤ N → Reps [] w v.D us → Calls Tryz.prog 34 [.agg us.toArray, .int .i64 left, .int .i64 deep].toArray w (Ret fun u w' => u = .int .i64 (v.weigh left deep) ∧ Mod [] w w')
 | 0, w, v, us, left, deep, h, R => absurd (JV.sz_eq v) (by omega)
 | N + 1, w, v, us, left, deep, h, R => c_weigh_step N (c_weigh_all N) w v us left deep h R
theorem c_weigh (w : World) (v : JV) (us : List Value) (left deep : Int) (R : Reps [] w v.D us) : Calls Tryz.prog 34 [.agg us.toArray, .int .i64 left, .int .i64 deep].toArray w (Ret fun u w' => u = .int .i64 (v.weigh left deep) ∧ Mod [] w w') := c_weigh_all v.sz w v us left deep (Nat.le_refl _) R
end Go.Proofs.YtknndpjacklkeaaGreatDoor.V

set_option linter.unusedVariables false
set_option linter.unusedSimpArgs false
set_option maxRecDepth 10000
namespace Go.Proofs.YtknndpjacklkeaaGreatDoor.V
open Go Go.Proofs
theorem fd25_0 : fdB Tryz.prog 25 0 0 1 = true := by kernel_rfl
theorem sc3 : scB Tryz.prog 3 = true := by kernel_rfl
theorem fd25_1 : fdB Tryz.prog 25 1 1 1 = true := by kernel_rfl
theorem sc4 : scB Tryz.prog 4 = true := by kernel_rfl
theorem fd25_2 : fdB Tryz.prog 25 2 2 1 = true := by kernel_rfl
end Go.Proofs.YtknndpjacklkeaaGreatDoor.V

set_option linter.unusedVariables false
set_option linter.unusedSimpArgs false
set_option maxRecDepth 10000
namespace Go.Proofs.YtknndpjacklkeaaGreatDoor.V
open Go Go.Proofs
theorem cmp80 : CmpX Tryz.prog 226 := fun args w => run_callFunc_extern Tryz.func226 (by kernel_rfl) (by kernel_rfl) (by kernel_rfl) (by kernel_rfl) args w
theorem ent190 : Ent Tryz.prog 190 := Ent.of Tryz.func190 (by kernel_rfl) (by kernel_rfl)
theorem ent155 : Ent Tryz.prog 155 := Ent.of Tryz.func155 (by kernel_rfl) (by kernel_rfl)
theorem ag44 : agB Tryz.prog 44 7 = true := by kernel_rfl
theorem ent113 : Ent Tryz.prog 113 := Ent.of Tryz.func113 (by kernel_rfl) (by kernel_rfl)
theorem pl44 : plB Tryz.prog 44 [(0, 1), (1, 6)] = true := by kernel_rfl
theorem zv44 : zvB Tryz.prog 44 ([S [], .int .i64 0, .bool false, .int .i64 0, S [], .slice none 0 0, .slice none 0 0]) := by unfold zvB; kernel_rfl
theorem ent112 : Ent Tryz.prog 112 := Ent.of Tryz.func112 (by kernel_rfl) (by kernel_rfl)
theorem c_cmpS (w : World) (a b : Str) : Calls Tryz.prog 190 [S a, S b].toArray w (Ret fun u w' => u = .int .i64 (scmp a b) ∧ Mod [] w w') := by
 refine enter Tryz.func190 rfl rfl rfl (l := [(0, _), (1, _)]) ⟨rfl, rfl, trivial⟩ ?_
 have E := Mod.refl [] w
 refine Cq fun K1 hK1 => Cr (Za rfl (Ln (e_K (hK1 _ _ _ _ (Cq fun K2 hK2 => Cr (tW 2 rfl (Sv ((o_cmpstr cmp80 rfl rfl).to (by rw [cmp_scmp])) ?_)))))))
 exact Za rfl (Ln (e_K (hK2 _ _ _ _ (cR (ret1 rfl rfl ⟨rfl, E⟩)))))

theorem c_sCmp (w : World) (a b : Str) : Calls Tryz.prog 155 [S a, S b].toArray w (Ret fun u w' => u = .int .i64 (scmp a b) ∧ Mod [] w w') := by
 refine enter Tryz.func155 rfl rfl rfl (l := [(0, _), (1, _)]) ⟨rfl, rfl, trivial⟩ ?_
 have E := Mod.refl [] w
 refine Cq fun K1 hK1 => Cr (Za rfl (Ln (e_K (hK1 _ _ _ _ (Cq fun K2 hK2 => Cr (tW 2 rfl (sc (oC ent190 rfl) (c_cmpS _ _ _) rfl fun v_ w1 h_ => ?_)))))))
 obtain ⟨rfl, E_⟩ := h_
 replace E := E.then E_
 exact Za rfl (Ln (e_K (hK2 _ _ _ _ (cR (ret1 rfl rfl ⟨rfl, E⟩)))))

theorem c_byKey (w : World) (a b : Str) (us vs : List Value) : Calls Tryz.prog 113 [.agg (S a :: us).toArray, .agg (S b :: vs).toArray].toArray w (Ret fun u w' => u = .int .i64 (scmp a b) ∧ Mod [] w w') := by
 refine enter Tryz.func113 rfl rfl rfl (l := [(0, _), (1, _)]) ⟨rfl, rfl, trivial⟩ ?_
 have E := Mod.refl [] w
 refine Cq fun K1 hK1 => Cr (s_box rfl rfl rfl fun g1 w1 N1 => ?_)
 have Lg1_E := N1.le E
 replace E := E.then N1.mod
 have Bg1 := N1.blk
 refine s_box rfl rfl rfl fun g2 w2 N2 => ?_
 have Lg2_E := N2.le E
 have Dg1_g2 := N2.ne Bg1
 replace Bg1 := Bg1.mod0 N2.mod
 replace E := E.then N2.mod
 have Bg2 := N2.blk
 refine Za rfl (Ln (e_K (hK1 _ _ _ _ (Cq fun K2 hK2 => Cr (Sv (oA0 fd44_0 rfl) (Sv (oL sc9 rfl (Bg1.cell rfl)) (Sv (oA0 fd44_0 rfl) (Sv (oL sc9 rfl (Bg2.cell rfl)) (sc (oC ent155 rfl) (c_sCmp _ _ _) rfl fun v_ w3 h_ => ?_)))))))))
 obtain ⟨rfl, E_⟩ := h_
 replace Bg1 := Bg1.mod0 E_
 replace Bg2 := Bg2.mod0 E_
 replace E := E.then E_
 exact Za rfl (Ln (e_K (hK2 _ _ _ _ (cR (ret1 rfl rfl ⟨rfl, E⟩)))))

theorem c_bsM (w : World) (m : List (Str × JV)) (v : Value) (R : Rep [] w (.sl 7 (m.map JV.Dp)) v) (k : Str) (z1 z2 z3 z4 z5 z6 : Value) (ha : ascM m) (hn : m.length ≤ 1353245080310) : Calls Tryz.prog 112 [v, .agg [S k, z1, z2, z3, z4, z5, z6].toArray, .func (.func 113) #[] #[]].toArray w (Ret fun u w' => u = .tuple #[.int .i64 (posM m k), .bool (look m k).isSome] ∧ Mod [] w w') := by
 refine enter Tryz.func112 rfl rfl rfl (l := [(0, _), (1, _), (2, _)]) ⟨rfl, rfl, rfl, trivial⟩ ?_
 have E := Mod.refl [] w
 obtain ⟨ad, c, rfl, hc1, hc2⟩ : ∃ ad c, v = .slice ad m.length c ∧ m.length ≤ c ∧ c ≤ 9223372036854775807 := by
  obtain ⟨ad, c, h1, h2, h3⟩ := R.sl_
  rw [List.length_map] at h1 h2
  exact ⟨ad, c, h1, h2, h3⟩
 refine Cq fun K1 hK1 => Cr (s_box rfl rfl rfl fun g1 w1 N1 => ?_)
 have Lg1_E := N1.le E
 replace E := E.then N1.mod
 have Bg1 := N1.blk
 refine tW 2 rfl (Ln (e_K (hK1 _ _ _ _ (Cq fun K2 hK2 => Cr (Zm rfl (Sv (o_len Tryz.underlying23 rfl) (Za rfl (Ln (e_K (hK2 _ _ _ _ (Cq fun K3 hK3 => Cr (tW 3 rfl (Ln ?_)))))))))))))
 refine e_K (hK3 _ _ _ _ (Cq fun K4 hK4 => cB ?_))
 refine c_loop (σ := Nat × Nat) (fun ⟨i, j⟩ => [(0, .slice ad m.length c), (2, .func (.func 113) #[] #[]), (4, .pointer (some ⟨g1, 0, none⟩)), (8, .int .i64 m.length), (9, .int .i64 (i : Int)), (10, .int .i64 (j : Int))]) (fun ⟨i, j⟩ w1 => i ≤ j ∧ j ≤ m.length ∧ (∀ (a : Nat) (y : Str × JV), a < i → m[a]? = some y → bl y.1 k = true) ∧ (∀ (a : Nat) (y : Str × JV), j ≤ a → m[a]? = some y → bl y.1 k = false) ∧ Blk w1 g1 44 [S k, z1, z2, z3, z4, z5, z6] ∧ Mod [] w w1) (fun ⟨i, j⟩ => j - i) (⟨0, m.length⟩) ⟨rfl, rfl, rfl, rfl, rfl, rfl, trivial⟩ (⟨by omega, by omega, fun a y h => by omega, fun a y h hy => (by rw [List.getElem?_eq_none h] at hy; cases hy), Bg1, E⟩) ?_
 rintro ⟨i, j⟩ w2 ⟨hij, hj, h1, h2, Bg1, E⟩
 refine Cq fun K5 hK5 => Cq fun K6 hK6 => Cr (tW 3 rfl (Ln (e_K (hK6 _ _ _ _ ?_))))
 refine c_if rfl (fun h17 => ?_) (fun h17 => ?_)
 ·have hlt : (i + j) / 2 < m.length := by omega
  obtain ⟨x, hx_x⟩ : ∃ x, m[((i + j) / 2)]? = some x := ⟨_, List.getElem?_eq_getElem (by omega)⟩
  obtain ⟨a_x, us_x, ha_x, R_x, hcs0_x⟩ := JV.at_m R hx_x
  obtain ⟨al_x, cl_x, am_x, cm_x, rfl, Rl_x, Rm_x⟩ := JV.cells_ R_x
  have hcs_x := hcs0_x.mod0 E
  have hcap_x := JV.cap_m R
  obtain rfl := ha_x
  refine cK (e_K (hK5 _ _ _ _ (cB (Cq fun K7 hK7 => Cr (tW 2 rfl (Sv (o_addN rfl rfl (by omega)) (Sv (o_convE (r := ((i : Int) + j)) Tryz.underlying3 Tryz.underlying144 rfl (wrapu64_in _ (by omega))) (Sv (o_shrE (r := (((i + j) / 2 : Nat) : Int)) rfl rfl (by omega) (by rw [← half_cast]; exact fdiv_two _)) (Sv (o_convE (r := (((i + j) / 2 : Nat) : Int)) Tryz.underlying144 Tryz.underlying3 rfl (wrap64_in _ (by omega))) (Za rfl (Ln (e_K (hK7 _ _ _ _ (Cq fun K8 hK8 => ?_))))))))))))))
  refine c_draw wide (by kernel_rfl) (tU 3 rfl rfl (tv (fun w_ E_ => (o_ix sl23 rfl rfl (by omega))) rfl rfl (tv (fun w_ E_ => (o_lda ag44 rfl rfl (hcs_x.mod0 E_))) rfl rfl (tv (fun w_ E_ => (o_lda (vs := [_, _, _, _, _, _, _]) ag44 rfl rfl ((Bg1.mod0 E_).cs rfl))) rfl rfl (tc (fun w_ E_ => o_callv ent113 rfl rfl) (fun w_ E_ => c_byKey _ x.1 k _ _) rfl rfl (tv (fun w_ E_ => (o_lss rfl rfl)) rfl rfl (tw_nil rfl fun w3 E_ => ?_)))))))
  replace Bg1 := Bg1.mod0 E_
  replace E := E.then E_
  refine e_K (hK8 _ _ _ _ ?_)
  refine c_if rfl (fun h31 => ?_) (fun h31 => ?_)
  ·have hlow : ∀ (a : Nat) (y : Str × JV), a < (i + j) / 2 + 1 → m[a]? = some y → bl y.1 k = true := fun a y hal hy => by
    rcases Nat.lt_succ_iff_lt_or_eq.1 hal with h | h
    ·exact bl_trans (ascM_lt ha hy hx_x h) (scmp_lt.1 h31)
    ·subst h; rw [hx_x] at hy; injection hy with hy; subst hy; exact scmp_lt.1 h31
   exact Cr (Zm rfl (Sv (o_addE (r := (((i + j) / 2 + 1 : Nat) : Int)) rfl rfl (by rw [wrap64_in _ (by omega)]; omega)) (Za rfl (Ln (eI (by simp) (eR (σ := Nat × Nat) (s := ⟨i, j⟩) (⟨(i + j) / 2 + 1, j⟩) ⟨rfl, rfl, rfl, rfl, rfl, rfl, trivial⟩ ⟨by omega, by omega, hlow, h2, Bg1, E⟩ (by dsimp only; omega)))))))
  ·have hhi : ∀ (a : Nat) (y : Str × JV), (i + j) / 2 ≤ a → m[a]? = some y → bl y.1 k = false := fun a y hal hy => by
    cases hpy : bl y.1 k with
    | false => rfl
    | true =>
     rcases Nat.lt_or_ge ((i + j) / 2) a with h | h
     ·exact absurd (scmp_lt.2 (bl_trans (ascM_lt ha hx_x hy h) hpy)) h31
     ·have : a = (i + j) / 2 := by omega
      subst this
      rw [hx_x] at hy; injection hy with hy; subst hy; exact absurd (scmp_lt.2 hpy) h31
   exact Cr (tW 2 rfl (Ln (eI (by simp) (eR (σ := Nat × Nat) (s := ⟨i, j⟩) (⟨i, (i + j) / 2⟩) ⟨rfl, rfl, rfl, rfl, rfl, rfl, trivial⟩ ⟨by omega, by omega, h1, hhi, Bg1, E⟩ (by dsimp only; omega)))))
 ·refine c_exit (eT (by simp) (eT (by simp) (e_hit (e_K (hK4 _ _ _ _ (Cq fun K9 hK9 => ?_))))))
  by_cases hs8_0 : (i : Int) < (m.length : Int)
  ·have hij2 : i = j := by omega
   subst hij2
   have hpos := posM_eq (by omega) h1 h2
   obtain ⟨x, hx_x⟩ : ∃ x, m[i]? = some x := ⟨_, List.getElem?_eq_getElem (by omega)⟩
   obtain ⟨a_x, us_x, ha_x, R_x, hcs0_x⟩ := JV.at_m R hx_x
   obtain ⟨al_x, cl_x, am_x, cm_x, rfl, Rl_x, Rm_x⟩ := JV.cells_ R_x
   have hcs_x := hcs0_x.mod0 E
   have hcap_x := JV.cap_m R
   obtain rfl := ha_x
   have hE2 : decide (scmp x.1 k = 0) = (look m k).isSome := (isM ha hpos hx_x).symm
   refine c_draw wide (by kernel_rfl) (tU 5 rfl rfl (tvg rfl (dT hs8_0) (fun w_ E_ => (oM rfl)) rfl rfl (tvg rfl (dT hs8_0) (fun w_ E_ => (oM rfl)) rfl rfl (tvg rfl (dT hs8_0) (fun w_ E_ => (oM rfl)) rfl rfl (tvg rfl (dT hs8_0) (fun w_ E_ => (o_ix sl23 rfl rfl (by omega))) rfl rfl (tvg rfl (dT hs8_0) (fun w_ E_ => (o_lda ag44 rfl rfl (hcs_x.mod0 E_))) rfl rfl (tvg rfl (dT hs8_0) (fun w_ E_ => (o_lda (vs := [_, _, _, _, _, _, _]) ag44 rfl rfl ((Bg1.mod0 E_).cs rfl))) rfl rfl (tcg rfl (dT hs8_0) (fun w_ E_ => o_callv ent113 rfl rfl) (fun w_ E_ => c_byKey _ x.1 k _ _) rfl rfl (tvg rfl (dT hs8_0) (fun w_ E_ => (oE rfl rfl)) rfl rfl (tv (fun w_ E_ => (oT (dT hs8_0) rfl rfl)) rfl rfl (tU 2 rfl rfl (tw_nil rfl fun w4 E_ => ?_))))))))))))
   replace Bg1 := Bg1.mod0 E_
   replace E := E.then E_
   exact e_K (hK9 _ _ _ _ (cR (ret2 rfl rfl rfl ⟨by rw [hpos, ← hE2], E⟩)))
  ·have hij2 : i = j := by omega
   subst hij2
   have hpos := posM_eq (by omega) h1 h2
   have hE2 : false = (look m k).isSome := (isM_end ha (by omega)).symm
   refine c_draw wide (by kernel_rfl) (tU 5 rfl rfl (Tx rfl (dF hs8_0) (Tx rfl (dF hs8_0) (Tx rfl (dF hs8_0) (Tx rfl (dF hs8_0) (Tx rfl (dF hs8_0) (Tx rfl (dF hs8_0) (Tx rfl (dF hs8_0) (Tx rfl (dF hs8_0) (tv (fun w_ E_ => (oF (dF hs8_0) rfl rfl)) rfl rfl (tU 2 rfl rfl (tw_nil rfl fun w5 E_ => ?_))))))))))))
   replace Bg1 := Bg1.mod0 E_
   replace E := E.then E_
   exact e_K (hK9 _ _ _ _ (cR (ret2 rfl rfl rfl ⟨by rw [hpos, ← hE2], E⟩)))

theorem c_jfind (w : World) (m : List (Str × JV)) (v : Value) (R : Rep [] w (.sl 7 (m.map JV.Dp)) v) (k : Str) (ha : ascM m) (hn : m.length ≤ 1353245080310) : Calls Tryz.prog 60 [v, S k].toArray w (Ret fun u w' => u = .tuple #[.int .i64 (posM m k), .bool (look m k).isSome] ∧ Mod [] w w') := by
 refine enter Tryz.func60 rfl rfl rfl (l := [(0, _), (1, _)]) ⟨rfl, rfl, trivial⟩ ?_
 have E := Mod.refl [] w
 refine Cq fun K1 hK1 => Cr (tW 2 rfl (Ln (e_K (hK1 _ _ _ _ (Cq fun K2 hK2 => Cr (tW 2 rfl (Sv (o_build (cs := [_, _, _, _, _, _, _]) pl44 zv44 rfl rfl) (sc (oC ent112 rfl) (c_bsM _ m _ (R.to0 E) k _ _ _ _ _ _ ha hn) rfl fun v_ w1 h_ => ?_))))))))
 obtain ⟨rfl, E_⟩ := h_
 replace E := E.then E_
 exact tW 4 rfl (Ln (e_K (hK2 _ _ _ _ (cR (ret2 rfl rfl rfl ⟨rfl, E⟩)))))
end Go.Proofs.YtknndpjacklkeaaGreatDoor.V
