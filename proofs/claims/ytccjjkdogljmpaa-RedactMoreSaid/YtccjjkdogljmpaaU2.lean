/-
  A part of the proof: JSON values in memory: their cells, the rows of their lists and maps. No condition of its own.
-/
import Derived.Test.YtccjjkdogljmpaaU1
set_option linter.unusedVariables false
set_option linter.unusedSimpArgs false
namespace Go.Proofs.Ytccjjkdogljmpaa.V
open Go
section
variable {A : List Nat} {w w' : World}
theorem Addr.add_add' (a : Addr) (i j : Nat) : (a.add i).add j = a.add (i + j) := by
  unfold Addr.add
  by_cases h : i = 0 <;> by_cases h' : j = 0 <;> simp [h, h', Nat.add_assoc]
theorem Cs.tail_ {a : Addr} {v : Value} {vs : List Value} (h : Cs w a (v :: vs)) : Cs w (a.add 1) vs := fun j u hu => by
  have := h (j + 1) u (by simpa using hu)
  rwa [Addr.add_add', Nat.add_comm 1 j]
theorem JV.cells_ {v : JV} {us : List Value} (R : Reps A w v.D us) : ∃ al cl am cm, us = [.int .i64 v.kind, .bool v.is, .int .i64 v.num, S v.str, .slice al v.list.length cl, .slice am v.map.length cm] ∧
    Rep A w (.sl 6 (v.list.map JV.D)) (.slice al v.list.length cl) ∧ Rep A w (.sl 7 (v.map.map JV.Dp)) (.slice am v.map.length cm) := by
  rw [JV.D_eq] at R
  obtain ⟨_, _, rfl, h1, R⟩ := R
  obtain ⟨_, _, rfl, h2, R⟩ := R
  obtain ⟨_, _, rfl, h3, R⟩ := R
  obtain ⟨_, _, rfl, h4, R⟩ := R
  obtain ⟨_, _, rfl, h5, R⟩ := R
  obtain ⟨_, _, rfl, h6, R⟩ := R
  obtain rfl := R
  obtain rfl := h1.v_eq
  obtain rfl := h2.v_eq
  obtain rfl := h3.v_eq
  obtain rfl := h4.v_eq
  obtain ⟨al, cl, rfl, _⟩ := h5.sl_
  obtain ⟨am, cm, rfl, _⟩ := h6.sl_
  rw [List.length_map] at h5 h6 ⊢
  rw [List.length_map]
  exact ⟨al, cl, am, cm, rfl, h5, h6⟩
theorem JV.reps_ {v : JV} {al am : Option Addr} {cl cm : Nat} (Rl : Rep A w (.sl 6 (v.list.map JV.D)) (.slice al v.list.length cl)) (Rm : Rep A w (.sl 7 (v.map.map JV.Dp)) (.slice am v.map.length cm)) :
    Reps A w v.D [.int .i64 v.kind, .bool v.is, .int .i64 v.num, S v.str, .slice al v.list.length cl, .slice am v.map.length cm] := by
  rw [JV.D_eq]
  exact Reps.cons_ (Rep.v_ rfl) (Reps.cons_ (Rep.v_ rfl) (Reps.cons_ (Rep.v_ rfl) (Reps.cons_ (Rep.v_ rfl) (Reps.cons_ Rl (Reps.cons_ Rm Reps.nil_)))))
theorem JV.cap_l {l : List JV} {ad : Option Addr} {n c : Nat} (R : Rep A w (.sl 6 (l.map JV.D)) (.slice ad n c)) : l.length = n ∧ n ≤ c ∧ c ≤ 9223372036854775807 := by
  obtain ⟨ad', c', h1, h2, h3⟩ := R.sl_
  injection h1 with h4 h5 h6
  rw [List.length_map] at h5 h2
  omega
theorem JV.cap_m {m : List (Str × JV)} {ad : Option Addr} {n c : Nat} (R : Rep A w (.sl 7 (m.map JV.Dp)) (.slice ad n c)) : m.length = n ∧ n ≤ c ∧ c ≤ 9223372036854775807 := by
  obtain ⟨ad', c', h1, h2, h3⟩ := R.sl_
  injection h1 with h4 h5 h6
  rw [List.length_map] at h5 h2
  omega
theorem JV.at_l {l : List JV} {x : JV} {ad : Option Addr} {n c i : Nat} (R : Rep A w (.sl 6 (l.map JV.D)) (.slice ad n c)) (h : l[i]? = some x) : ∃ a us, ad = some a ∧ Reps A w x.D us ∧ Cs w (a.add (i * 6)) us := by
  obtain ⟨a, us, h1, h2, _, h3, _⟩ := Rep.at_ (i := i) (r := x.D) R (by simp [h])
  exact ⟨a, us, h1, h2, h3⟩
theorem JV.at_m {m : List (Str × JV)} {p : Str × JV} {ad : Option Addr} {n c i : Nat} (R : Rep A w (.sl 7 (m.map JV.Dp)) (.slice ad n c)) (h : m[i]? = some p) : ∃ a us, ad = some a ∧ Reps A w p.2.D us ∧ Cs w (a.add (i * 7)) (S p.1 :: us) := by
  obtain ⟨a, us, h1, h2, _, h3, _⟩ := Rep.at_ (i := i) (r := JV.Dp p) R (by simp [h])
  obtain ⟨u, us', rfl, h4, h5⟩ := h2
  obtain rfl := h4.v_eq
  exact ⟨a, us', h1, h5, h3⟩
/-- what is empty -/
def JV.nul : JV := .mk 0 false 0 [] [] []
theorem JV.nul_reps : Reps A w JV.nul.D [.int .i64 0, .bool false, .int .i64 0, S [], .slice none 0 0, .slice none 0 0] := by
  have := JV.reps_ (A := A) (w := w) (v := JV.nul) (al := none) (am := none) (cl := 0) (cm := 0) Rep.sl_nil Rep.sl_nil
  exact this
theorem JV.cells_one {v : JV} {us : List Value} (R : Reps A w v.D us) : us.length = 6 ∧ ∀ u ∈ us, u.oneCell' = true := ⟨by rw [R.length, JV.D_len], R.one⟩
theorem JV.Dp_all (m : List (Str × JV)) : ∀ r ∈ m.map JV.Dp, r.length = 7 := by
  intro r hr
  obtain ⟨p, _, rfl⟩ := List.mem_map.1 hr
  exact JV.Dp_len p
theorem JV.Dp_reps {p : Str × JV} {us : List Value} (R : Reps A w p.2.D us) : Reps A w (JV.Dp p) (S p.1 :: us) := Reps.cons_ (Rep.v_ rfl) R
theorem rows_flat_len {sz : Nat} : ∀ {rows : List (List D)}, (∀ r ∈ rows, r.length = sz) → rows.flatten.length = rows.length * sz
  | [], _ => by simp
  | r :: rs, h => by
    rw [List.flatten_cons, List.length_append, h r (by simp), rows_flat_len fun r' hr' => h r' (by simp [hr']), List.length_cons, Nat.add_mul]
    omega
theorem Reps.rows_at {sz i : Nat} {rows : List (List D)} {vs : List Value} (hl : ∀ r ∈ rows, r.length = sz) (hi : i ≤ rows.length) (h : Reps A w rows.flatten vs) :
    Reps A w (rows.take i).flatten (vs.take (i * sz)) ∧ Reps A w (rows.drop i).flatten (vs.drop (i * sz)) := by
  have e : rows.flatten = (rows.take i).flatten ++ (rows.drop i).flatten := by rw [← List.flatten_append, List.take_append_drop]
  rw [e] at h
  have := h.cut
  rwa [rows_flat_len fun r hr => hl r (List.mem_of_mem_take hr), List.length_take, Nat.min_eq_left hi] at this
theorem JV.rows_ins {m : List (Str × JV)} {p : Str × JV} {vs us : List Value} {i : Nat} (h : Reps A w (m.map JV.Dp).flatten vs) (hi : i ≤ m.length) (hp : Reps A w (JV.Dp p) us) :
    Reps A w ((m.take i ++ [p] ++ m.drop i).map JV.Dp).flatten (vs.take (i * 7) ++ us ++ vs.drop (i * 7)) := by
  obtain ⟨h1, h2⟩ := Reps.rows_at (i := i) (JV.Dp_all m) (by simpa using hi) h
  rw [List.map_append, List.map_append, List.flatten_append, List.flatten_append, List.map_take, List.map_drop]
  refine (h1.append ?_).append h2
  simpa using hp
theorem JV.rows_set {m : List (Str × JV)} {p : Str × JV} {vs us : List Value} {i : Nat} (h : Reps A w (m.map JV.Dp).flatten vs) (hi : i < m.length) (hp : Reps A w (JV.Dp p) us) :
    Reps A w ((m.set i p).map JV.Dp).flatten (vs.take (i * 7) ++ us ++ vs.drop ((i + 1) * 7)) := by
  obtain ⟨h1, _⟩ := Reps.rows_at (i := i) (JV.Dp_all m) (by simpa using Nat.le_of_lt hi) h
  obtain ⟨_, h2⟩ := Reps.rows_at (i := i + 1) (JV.Dp_all m) (by rw [List.length_map]; omega) h
  rw [List.set_eq_take_append_cons_drop, if_pos hi, List.map_append, List.map_cons, List.flatten_append, List.flatten_cons, List.map_take, List.map_drop, List.append_assoc]
  exact h1.append (hp.append h2)
theorem JV.rows_snoc {m : List (Str × JV)} {p : Str × JV} {vs us : List Value} (h : Reps A w (m.map JV.Dp).flatten vs) (hp : Reps A w (JV.Dp p) us) : Reps A w ((m ++ [p]).map JV.Dp).flatten (vs ++ us) := by
  rw [List.map_append, List.flatten_append]
  refine h.append ?_
  simpa using hp
/-- a slice of the call's own, as members -/
theorem Own.mem_ {e : Nat} {v : Value} {m : List (Str × JV)} {n : Nat} {vs : List Value} (O : Own w e 7 v n vs) (h : Reps A w (m.map JV.Dp).flatten vs) (hn : m.length = n) (hA : ∀ x ∈ ob v, x ∉ A) : Rep A w (.sl 7 (m.map JV.Dp)) v :=
  O.rep h (JV.Dp_all m) (by simpa using hn) hA
variable {P : Program} {ops : Array Oper} {Q : Exit → Act → World → Prop} {n : Nat} {ds : List Deferred} {l : List (Nat × Value)}
variable {rest : List Oper} {ty : TypeId} {pos : String} {af : Array Edge} {x y : Operand}
/-- some cells of an element of a slice of the call's own are written -/
theorem s_stownp {e sz N c p k : Nat} {ad : Addr} {vs us : List Value} {T : TypeId} (ht : agB P T k = true) (O : Own w e sz (.slice (some ad) N c) N vs) (hx : evO l x = some (.pointer (some (ad.add p)))) (hy : evO l y = some (.agg us.toArray)) (hl : us.length = k) (h1c : ∀ u ∈ us, u.oneCell' = true) (hi : p + k ≤ N * sz)
    (h : ∀ w', Own w' e sz (.slice (some ad) N c) N (vs.take p ++ us ++ vs.drop (p + k)) → Mod [ad.block] w w' → w'.heap.size = w.heap.size → WL P ops Q rest n ds l w') :
    WL P ops Q (⟨none, .store T x y, ty, pos, af, none⟩ :: rest) n ds l w := by
  rcases O.2 with ⟨h0, _⟩ | ⟨g, o, cap, cs, hv, hB, hc1, hc2, hc3, hc4⟩
  · cases h0
  injection hv with e1 e2 e3
  injection e1 with e1
  subst e1; subst e3
  have hle2 : N * sz ≤ c * sz := Nat.mul_le_mul_right _ hc1
  have hvl := O.1
  rw [Addr.add_lit] at hx
  refine s_sta (vs := us) ht hB hx hy hl h1c (by omega) fun w' hp => ?_
  refine h w' ⟨?_, .inr ⟨g, o, c, _, rfl, hp.blk, hc1, hc2, by simp [splice]; omega, ?_⟩⟩ hp.mod hp.size
  · simp only [List.length_append, List.length_take, List.length_drop, hl, hvl]
    omega
  · subst hc4
    apply List.ext_getElem?
    intro j
    simp only [splice, hl]
    simp only [List.getElem?_take, List.getElem?_drop, List.getElem?_append, List.length_append, List.length_take, List.length_drop, hl]
    repeat' split
    all_goals first
      | omega
      | rfl
      | (congr 1; omega)
      | skip
end
end Go.Proofs.Ytccjjkdogljmpaa.V
