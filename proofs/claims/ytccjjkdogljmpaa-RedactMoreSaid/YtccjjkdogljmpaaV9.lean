/-
  A part of the proof: walks of functions, and the plain laws of what they compute. No condition of its own.
-/
import Derived.Test.YtccjjkdogljmpaaV8
import Derived.Laws.StructEq
set_option linter.unusedVariables false
set_option linter.unusedSimpArgs false
namespace Go.Proofs.Ytccjjkdogljmpaa.V
open Go
section
variable {A A' M : List Nat} {w w' : World}
theorem Rep.to0 {d : D} {u : Value} (h : Rep A w d u) (k : Mod [] w w') : Rep A w' d u := Rep.to k (by simp) (fun x hx => .inl hx) d u h
theorem Rep.toM {d : D} {u : Value} (h : Rep A w d u) (k : Mod M w w') (hM : ∀ x ∈ M, x ∈ A) : Rep A w' d u := Rep.to k hM (fun x hx => .inl hx) d u h
theorem Rep.anti {d : D} {u : Value} (h : Rep A w d u) (hA : ∀ x ∈ A', x ∈ A) : Rep A' w d u := Rep.to (Mod.refl [] w) (by simp) (fun x hx => .inl (hA x hx)) d u h
/-- nothing that is there lies in blocks that are not yet -/
theorem Rep.more {d : D} {u : Value} (h : Rep A w d u) (hA : ∀ x ∈ A', x ∈ A ∨ w.heap.size ≤ x) : Rep A' w d u := Rep.to (Mod.refl [] w) (by simp) hA d u h
theorem Reps.to0 {ds : List D} {us : List Value} (h : Reps A w ds us) (k : Mod [] w w') : Reps A w' ds us := Reps.to k (by simp) (fun x hx => .inl hx) ds us h
theorem Reps.toM {ds : List D} {us : List Value} (h : Reps A w ds us) (k : Mod M w w') (hM : ∀ x ∈ M, x ∈ A) : Reps A w' ds us := Reps.to k hM (fun x hx => .inl hx) ds us h
theorem Reps.anti {ds : List D} {us : List Value} (h : Reps A w ds us) (hA : ∀ x ∈ A', x ∈ A) : Reps A' w ds us := Reps.to (Mod.refl [] w) (by simp) (fun x hx => .inl (hA x hx)) ds us h
theorem Reps.more {ds : List D} {us : List Value} (h : Reps A w ds us) (hA : ∀ x ∈ A', x ∈ A ∨ w.heap.size ≤ x) : Reps A' w ds us := Reps.to (Mod.refl [] w) (by simp) hA ds us h

/-! ### rows of values that are their own reading -/
variable {α : Type}
def flat (sz : Nat) (cells : α → List Value) (xs : List α) : D := .sl sz (xs.map fun x => (cells x).map D.v)
theorem reps_v : ∀ {cs us : List Value}, Reps A w (cs.map D.v) us → us = cs
  | [], us, h => by simpa [Reps] using h
  | c :: cs, us, h => by
    simp only [List.map_cons, Reps] at h
    obtain ⟨u, us', rfl, h1, h2⟩ := h
    rw [h1.v_eq, reps_v h2]
theorem reps_v_mk : ∀ {cs : List Value}, (∀ c ∈ cs, c.oneCell' = true) → Reps A w (cs.map D.v) cs
  | [], _ => rfl
  | c :: cs, h => Reps.cons_ (Rep.v_ (h c (by simp))) (reps_v_mk fun x hx => h x (by simp [hx]))
theorem flat_len {sz : Nat} {cells : α → List Value} {xs : List α} {u : Value} (h : Rep A w (flat sz cells xs) u) : ∃ ad c, u = .slice ad xs.length c ∧ xs.length ≤ c ∧ c ≤ 9223372036854775807 := by
  obtain ⟨ad, c, h1, h2, h3⟩ := h.sl_
  simp only [List.length_map] at h1 h2
  exact ⟨ad, c, h1, h2, h3⟩
theorem flat_at {sz n c i : Nat} {cells : α → List Value} {xs : List α} {ad : Option Addr} {x : α} (h : Rep A w (flat sz cells xs) (.slice ad n c)) (hi : xs[i]? = some x) : ∃ a, ad = some a ∧ Cs w (a.add (i * sz)) (cells x) ∧ (cells x).length = sz := by
  obtain ⟨a, us, h1, h2, h3, h4, _⟩ := Rep.at_ (i := i) (r := (cells x).map D.v) h (by simp [hi])
  have := reps_v h2
  subst this
  exact ⟨a, h1, h4, h3⟩
theorem flat_flatten (cells : α → List Value) (xs : List α) : (xs.map fun x => (cells x).map D.v).flatten = ((xs.map cells).flatten).map D.v := by
  induction xs with
  | nil => rfl
  | cons x xs ih => simp [ih]
/-- a slice of the call's own reads so -/
theorem Own.flat {e sz n : Nat} {v : Value} {cells : α → List Value} {xs : List α} (h : Own w e sz v n ((xs.map cells).flatten)) (hl : ∀ x ∈ xs, (cells x).length = sz) (h1 : ∀ x ∈ xs, ∀ c ∈ cells x, c.oneCell' = true) (hn : xs.length = n) (hA : ∀ x ∈ ob v, x ∉ A) : Rep A w (flat sz cells xs) v := by
  refine h.rep ?_ ?_ (by simpa using hn) hA
  · rw [flat_flatten]
    exact reps_v_mk fun c hc => by
      obtain ⟨cs, h2, h3⟩ := List.mem_flatten.1 hc
      obtain ⟨x, h4, rfl⟩ := List.mem_map.1 h2
      exact h1 x h4 c h3
  · intro r hr
    obtain ⟨x, h4, rfl⟩ := List.mem_map.1 hr
    simp [hl x h4]
theorem Src.flat {P : Program} {tx e' sz : Nat} {cells : α → List Value} {xs : List α} {v : Value} (hk : P.underlying tx = some (.slice e')) (h : Rep A w (flat sz cells xs) v) : Src P sz tx v xs.length ((xs.map cells).flatten) w := by
  obtain ⟨vs, h1, h2, h3⟩ := Src.rep (P := P) hk h
  rw [flat_flatten] at h1
  have := reps_v h1
  subst this
  simpa using h3
end

/-! ## Structs held against each other -/
section
variable {P : Program} {n : Nat} {l : List (Nat × Value)} {w w' : World}
variable {d : Nat} {ty : TypeId} {pos : String} {af : Array Edge}
variable {dd : Option Nat} {gg : Option (Nat × Bool)} {x y z : Operand} {t t' : TypeId}
/-- one field's comparison -/
def eqc : Value → Value → Option Bool
  | .int _ a, .int _ b => some (decide (a = b))
  | .bool a, .bool b => some (decide (a = b))
  | .string a, .string b => some (decide (a.data.toList = b.data.toList))
  | _, _ => none
def eqcs : List Value → List Value → Option Bool
  | [], [] => some true
  | u :: us, v :: vs => match eqc u v, eqcs us vs with
    | some a, some b => some (a && b)
    | _, _ => none
  | _, _ => none
/-- fields of one cell each: whole numbers, truths and strings -/
def okF (P : Program) : List Field → Nat → List Value → List Value → Bool
  | [], _, [], [] => true
  | f :: fs, i, u :: us, v :: vs => f.name != "_" && f.offset == i && scB P f.type && (match P.underlying f.type, u, v with
    | some (.int _), .int k _, .int k' _ => k == k'
    | some .bool, .bool _, .bool _ => true
    | some .string, .string _, .string _ => true
    | _, _, _ => false) && okF P fs (i + 1) us vs
  | _, _, _, _ => false
def seB (P : Program) (t : Nat) (us vs : List Value) : Bool := match P.underlying t with
  | some (.struct fs) => !P.stoodInHeld t && !P.eqGuardType P.depth t && okF P fs.toList 0 us vs
  | _ => false
theorem eqFields_run {dp : Nat} : ∀ (fs : List Field) (i : Nat) (us vs : List Value) (xs ys : Array Value) (b : Bool), okF P fs i us vs = true → (∀ j u, us[j]? = some u → xs[i + j]? = some u) → (∀ j u, vs[j]? = some u → ys[i + j]? = some u) → eqcs us vs = some b →
    (Op.eqFields (dp + 1) xs ys fs).run P w = .ok b w
  | [], i, us, vs, xs, ys, b, h, hx, hy, hb => by
    cases us <;> cases vs <;> simp [okF] at h
    simp [eqcs] at hb
    subst hb
    simp [Op.eqFields]
  | f :: fs, i, us, vs, xs, ys, b, h, hx, hy, hb => by
    cases us with
    | nil => simp [okF] at h
    | cons u us =>
      cases vs with
      | nil => simp [okF] at h
      | cons v vs =>
        simp only [okF, Bool.and_eq_true, bne_iff_ne, ne_eq, beq_iff_eq] at h
        obtain ⟨⟨⟨⟨h1, h2⟩, h3⟩, h4⟩, h5⟩ := h
        obtain ⟨dsc, inf, h6, h7, h8, h9⟩ := scB_spec h3
        simp only [eqcs] at hb
        split at hb
        · rename_i b1 b2 e1 e2
          injection hb with hb
          have ih := eqFields_run (dp := dp) fs (i + 1) us vs xs ys b2 h5 (fun j u' hj => by have := hx (j + 1) u' (by simpa using hj); rwa [show i + (j + 1) = i + 1 + j by omega] at this) (fun j u' hj => by have := hy (j + 1) u' (by simpa using hj); rwa [show i + (j + 1) = i + 1 + j by omega] at this) e2
          have hxu := hx 0 u rfl
          have hyv := hy 0 v rfl
          rw [Nat.add_zero] at hxu hyv
          have p1 : (part f.type xs f.offset).run P w = .ok u w := by simp [part, run_isAgg_of h6, h8, h2, hxu]
          have p2 : (part f.type ys f.offset).run P w = .ok v w := by simp [part, run_isAgg_of h6, h8, h2, hyv]
          have e : (Op.equalIn (dp + 1) f.type u v).run P w = .ok b1 w := by
            rw [h6] at h4
            cases dsc <;> cases u <;> (try (simp at h4; done)) <;> cases v <;> (try (simp at h4; done)) <;> simp only [eqc] at e1 <;> injection e1 with e1 <;> subst e1
            · rw [run_equalIn_bool' w dp f.type _ _ h6, beq_dec]
            · simp only [beq_iff_eq] at h4
              subst h4
              rw [run_equalIn_int w dp f.type _ _ _ _ h6, beq_dec]
            · rw [run_equalIn_string w dp f.type _ _ h6, ByteArray.toList_eq, ByteArray.toList_eq, beq_dec]
          simp only [Op.eqFields, h1, ne_eq, not_false_eq_true, if_true, Sem.run_bind, p1, p2, e, Result.andThen_ok]
          cases b1
          · simp at hb ⊢
            exact hb
          · simp at hb ⊢
            rw [ih, hb]
        · cases hb
theorem run_seq {us vs : List Value} {b : Bool} (hs : seB P t us vs = true) (hb : eqcs us vs = some b) (x y : Operand) : ((do eqGuard .eql t x y (.agg us.toArray) (.agg vs.toArray); binOp .eql t (.agg us.toArray) (.agg vs.toArray)) : Sem Value).run P w = .ok (.bool b) w := by
  unfold seB at hs
  split at hs
  · rename_i fs h1
    simp only [Bool.and_eq_true, Bool.not_eq_true'] at hs
    obtain ⟨⟨h2, h3⟩, h4⟩ := hs
    have h5 : P.fieldsOf t = fs := by simp [Program.fieldsOf, h1]
    have h6 := run_equalIn_agg (P := P) w 9999 t us.toArray vs.toArray (by rw [h5]; exact h1) h2
    rw [h5] at h6
    have h7 := eqFields_run (P := P) (w := w) (dp := 9998) fs.toList 0 us vs us.toArray vs.toArray b h4 (fun j u hj => by simpa using hj) (fun j u hj => by simpa using hj) hb
    rw [Sem.run_bind, run_eqGuard_agg w .eql t x y _ _ h3]
    simp only [Result.andThen_ok]
    rw [run_eql_struct]
    rw [show (10000 : Nat) = 9999 + 1 from rfl, h6, show (9999 : Nat) = 9998 + 1 from rfl, h7]
    rfl
  · cases hs
theorem o_steq {us vs : List Value} {b : Bool} (hs : seB P t us vs = true) (hx : evO l x = some (.agg us.toArray)) (hy : evO l y = some (.agg vs.toArray)) (hb : eqcs us vs = some b) : Runs P l ⟨dd, .binOp .eql t x y t', ty, pos, af, gg⟩ w (.bool b) w := fun ρ h => by
  have := run_seq (w := w) hs hb x y
  simp only [execOp, h _ _ hx, h _ _ hy, Sem.run_bind]
  rw [Sem.run_bind] at this
  rw [this]
  rfl
theorem run_sneq {us vs : List Value} {b : Bool} (hs : seB P t us vs = true) (hb : eqcs us vs = some b) (x y : Operand) : ((do eqGuard .neq t x y (.agg us.toArray) (.agg vs.toArray); binOp .neq t (.agg us.toArray) (.agg vs.toArray)) : Sem Value).run P w = .ok (.bool (!b)) w := by
  unfold seB at hs
  split at hs
  · rename_i fs h1
    simp only [Bool.and_eq_true, Bool.not_eq_true'] at hs
    obtain ⟨⟨h2, h3⟩, h4⟩ := hs
    have h5 : P.fieldsOf t = fs := by simp [Program.fieldsOf, h1]
    have h6 := run_equalIn_agg (P := P) w 9999 t us.toArray vs.toArray (by rw [h5]; exact h1) h2
    rw [h5] at h6
    have h7 := eqFields_run (P := P) (w := w) (dp := 9998) fs.toList 0 us vs us.toArray vs.toArray b h4 (fun j u hj => by simpa using hj) (fun j u hj => by simpa using hj) hb
    rw [Sem.run_bind, run_eqGuard_agg w .neq t x y _ _ h3]
    simp only [Result.andThen_ok]
    rw [run_neq_struct]
    rw [show (10000 : Nat) = 9999 + 1 from rfl, h6, show (9999 : Nat) = 9998 + 1 from rfl, h7]
    rfl
  · cases hs
theorem o_stne {us vs : List Value} {b : Bool} (hs : seB P t us vs = true) (hx : evO l x = some (.agg us.toArray)) (hy : evO l y = some (.agg vs.toArray)) (hb : eqcs us vs = some b) : Runs P l ⟨dd, .binOp .neq t x y t', ty, pos, af, gg⟩ w (.bool (!b)) w := fun ρ h => by
  have := run_sneq (w := w) hs hb x y
  simp only [execOp, h _ _ hx, h _ _ hy, Sem.run_bind]
  rw [Sem.run_bind] at this
  rw [this]
  rfl
end
end Go.Proofs.Ytccjjkdogljmpaa.V
