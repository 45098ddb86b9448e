/-
  A part of the proof: walks of functions, and the plain laws of what they compute. No condition of its own.
-/
import Derived.Test.YtccjjkdogljmpaaV2
set_option linter.unusedVariables false
set_option linter.unusedSimpArgs false
namespace Go.Proofs.Ytccjjkdogljmpaa.V
open Go
/-! ## What values read as -/
/-- A cell's reading: a value that is its own reading, or a slice of rows of so many cells. -/
inductive D where
  | v (x : Value)
  | sl (sz : Nat) (rows : List (List D))

mutual
/-- The value 'u' reads as the datum; what it is read from lies in no block of 'A'. -/
def Rep (A : List Nat) (w : World) : D → Value → Prop
  | .v x, u => u = x ∧ x.oneCell' = true
  | .sl sz rows, u => ∃ ad c, u = .slice ad rows.length c ∧ rows.length ≤ c ∧ c ≤ maxLen ∧
      (rows ≠ [] → ∃ a, ad = some a ∧ a.block ∉ A ∧ a.block < w.heap.size ∧ RepRows A w sz a 0 rows)
def RepRows (A : List Nat) (w : World) (sz : Nat) (a : Addr) : Nat → List (List D) → Prop
  | _, [] => True
  | i, r :: rs => r.length = sz ∧ RepRow A w (a.add (i * sz)) 0 r ∧ RepRows A w sz a (i + 1) rs
def RepRow (A : List Nat) (w : World) (a : Addr) : Nat → List D → Prop
  | _, [] => True
  | j, d :: ds => (∃ u, w.cell? (a.add j) = some u ∧ Rep A w d u) ∧ RepRow A w a (j + 1) ds
end
/-- Cells that read as a row. -/
def Reps (A : List Nat) (w : World) : List D → List Value → Prop
  | [], vs => vs = []
  | d :: ds, vs => ∃ u us, vs = u :: us ∧ Rep A w d u ∧ Reps A w ds us

section
variable {A A' M : List Nat} {w w' : World}
theorem add_block (a : Addr) (n : Nat) : (a.add n).block = a.block := by unfold Addr.add; split <;> rfl

mutual
theorem Rep.to (k : Mod M w w') (hM : ∀ x ∈ M, x ∈ A) (hA : ∀ x ∈ A', x ∈ A ∨ w.heap.size ≤ x) : ∀ (d : D) (u : Value), Rep A w d u → Rep A' w' d u
  | .v x, u, h => by simp only [Rep] at h ⊢; exact h
  | .sl sz rows, u, h => by
    simp only [Rep] at h ⊢
    obtain ⟨ad, c, h1, h2, h3, h4⟩ := h
    refine ⟨ad, c, h1, h2, h3, fun hn => ?_⟩
    obtain ⟨a, h5, h6, h7, h8⟩ := h4 hn
    exact ⟨a, h5, fun hx => by rcases hA _ hx with h9 | h9 <;> first | exact h6 h9 | omega, Nat.lt_of_lt_of_le h7 k.size, RepRows.to k hM hA sz a h6 h7 0 rows h8⟩
theorem RepRows.to (k : Mod M w w') (hM : ∀ x ∈ M, x ∈ A) (hA : ∀ x ∈ A', x ∈ A ∨ w.heap.size ≤ x) (sz : Nat) (a : Addr) (ha : a.block ∉ A) (hb : a.block < w.heap.size) : ∀ (i : Nat) (rows : List (List D)), RepRows A w sz a i rows → RepRows A' w' sz a i rows
  | _, [], _ => by simp only [RepRows]
  | i, r :: rs, h => by
    simp only [RepRows] at h ⊢
    exact ⟨h.1, RepRow.to k hM hA _ (by rw [add_block]; exact ha) (by rw [add_block]; exact hb) 0 r h.2.1, RepRows.to k hM hA sz a ha hb (i + 1) rs h.2.2⟩
theorem RepRow.to (k : Mod M w w') (hM : ∀ x ∈ M, x ∈ A) (hA : ∀ x ∈ A', x ∈ A ∨ w.heap.size ≤ x) (a : Addr) (ha : a.block ∉ A) (hb : a.block < w.heap.size) : ∀ (j : Nat) (r : List D), RepRow A w a j r → RepRow A' w' a j r
  | _, [], _ => by simp only [RepRow]
  | j, d :: ds, h => by
    simp only [RepRow] at h ⊢
    obtain ⟨⟨u, hc, hr⟩, ht⟩ := h
    refine ⟨⟨u, ?_, Rep.to k hM hA d u hr⟩, RepRow.to k hM hA a ha hb (j + 1) ds ht⟩
    rw [← hc]
    exact World.cell?_of_block (by rw [add_block]; exact k.block _ hb (fun hx => ha (hM _ hx)))
end
theorem Reps.to (k : Mod M w w') (hM : ∀ x ∈ M, x ∈ A) (hA : ∀ x ∈ A', x ∈ A ∨ w.heap.size ≤ x) : ∀ (ds : List D) (us : List Value), Reps A w ds us → Reps A' w' ds us
  | [], us, h => h
  | d :: ds, us, h => by
    simp only [Reps] at h ⊢
    obtain ⟨u, us', rfl, h1, h2⟩ := h
    exact ⟨u, us', rfl, Rep.to k hM hA d u h1, Reps.to k hM hA ds us' h2⟩

theorem Reps.length : ∀ {ds : List D} {us : List Value}, Reps A w ds us → us.length = ds.length
  | [], us, h => by simp only [Reps] at h; subst h; rfl
  | d :: ds, us, h => by
    simp only [Reps] at h
    obtain ⟨u, us', rfl, _, h2⟩ := h
    simp [h2.length]
theorem Rep.one : ∀ {d : D} {u : Value}, Rep A w d u → u.oneCell' = true
  | .v x, u, h => by simp only [Rep] at h; rw [h.1]; exact h.2
  | .sl sz rows, u, h => by
    simp only [Rep] at h
    obtain ⟨ad, c, h1, _⟩ := h
    subst h1
    rfl
theorem Reps.one : ∀ {ds : List D} {us : List Value}, Reps A w ds us → ∀ u ∈ us, u.oneCell' = true
  | [], us, h => by simp only [Reps] at h; subst h; intro u hu; cases hu
  | d :: ds, us, h => by
    simp only [Reps] at h
    obtain ⟨u, us', rfl, h1, h2⟩ := h
    intro x hx
    rcases List.mem_cons.1 hx with rfl | hx
    · exact h1.one
    · exact h2.one x hx
theorem Reps.append {ds ds' : List D} {us us' : List Value} (h : Reps A w ds us) (h' : Reps A w ds' us') : Reps A w (ds ++ ds') (us ++ us') := by
  induction ds generalizing us with
  | nil => simp only [Reps] at h; subst h; simpa using h'
  | cons d ds ih =>
    simp only [Reps] at h
    obtain ⟨u, us1, rfl, h1, h2⟩ := h
    simp only [List.cons_append, Reps]
    exact ⟨u, us1 ++ us', rfl, h1, ih h2⟩
theorem Reps.cut {ds ds' : List D} {us : List Value} (h : Reps A w (ds ++ ds') us) : Reps A w ds (us.take ds.length) ∧ Reps A w ds' (us.drop ds.length) := by
  induction ds generalizing us with
  | nil => exact ⟨by simp [Reps], by simpa using h⟩
  | cons d ds ih =>
    simp only [List.cons_append, Reps] at h
    obtain ⟨u, us1, rfl, h1, h2⟩ := h
    obtain ⟨i1, i2⟩ := ih h2
    exact ⟨by simp only [List.length_cons, List.take_succ_cons, Reps]; exact ⟨u, _, rfl, h1, i1⟩, by simpa using i2⟩
theorem Reps.nil_ : Reps A w [] [] := rfl
theorem Reps.cons_ {d : D} {ds : List D} {u : Value} {us : List Value} (h : Rep A w d u) (h' : Reps A w ds us) : Reps A w (d :: ds) (u :: us) := ⟨u, us, rfl, h, h'⟩
theorem Rep.v_ {x : Value} (h : x.oneCell' = true) : Rep A w (.v x) x := by simp only [Rep]; exact ⟨trivial, h⟩
theorem Rep.v_eq {x u : Value} (h : Rep A w (.v x) u) : u = x := by simp only [Rep] at h; exact h.1

/-- a row in memory, as cells -/
theorem RepRow.cells {a : Addr} : ∀ {j : Nat} {r : List D}, RepRow A w a j r → ∃ us, Reps A w r us ∧ ∀ i u, us[i]? = some u → w.cell? (a.add (j + i)) = some u
  | j, [], _ => ⟨[], rfl, fun i u h => by simp at h⟩
  | j, d :: ds, h => by
    simp only [RepRow] at h
    obtain ⟨⟨u, hc, hr⟩, ht⟩ := h
    obtain ⟨us, h1, h2⟩ := ht.cells
    refine ⟨u :: us, ⟨u, us, rfl, hr, h1⟩, fun i x hx => ?_⟩
    cases i with
    | zero => simp at hx; subst hx; simpa using hc
    | succ i => have := h2 i x (by simpa using hx); rwa [show j + (i + 1) = j + 1 + i by omega]
theorem RepRow.of_cells {a : Addr} : ∀ {j : Nat} {r : List D} {us : List Value}, Reps A w r us → (∀ i u, us[i]? = some u → w.cell? (a.add (j + i)) = some u) → RepRow A w a j r
  | j, [], us, _, _ => by simp only [RepRow]
  | j, d :: ds, us, h, hc => by
    simp only [Reps] at h
    obtain ⟨u, us', rfl, h1, h2⟩ := h
    simp only [RepRow]
    exact ⟨⟨u, by simpa using hc 0 u (by simp), h1⟩, RepRow.of_cells h2 (fun i x hx => by have := hc (i + 1) x (by simpa using hx); rwa [show j + 1 + i = j + (i + 1) by omega])⟩
theorem RepRows.row {sz : Nat} {a : Addr} : ∀ {i : Nat} {rows : List (List D)}, RepRows A w sz a i rows → ∀ j r, rows[j]? = some r → r.length = sz ∧ RepRow A w (a.add ((i + j) * sz)) 0 r
  | i, [], _, j, r, hr => by simp at hr
  | i, r0 :: rs, h, j, r, hr => by
    simp only [RepRows] at h
    cases j with
    | zero => simp at hr; subst hr; exact ⟨h.1, by simpa using h.2.1⟩
    | succ j =>
      have := RepRows.row h.2.2 j r (by simpa using hr)
      rwa [show i + 1 + j = i + (j + 1) by omega] at this
theorem RepRows.of_rows {sz : Nat} {a : Addr} : ∀ {i : Nat} {rows : List (List D)}, (∀ j r, rows[j]? = some r → r.length = sz ∧ RepRow A w (a.add ((i + j) * sz)) 0 r) → RepRows A w sz a i rows
  | i, [], _ => by simp only [RepRows]
  | i, r0 :: rs, h => by
    simp only [RepRows]
    have h0 := h 0 r0 rfl
    exact ⟨h0.1, by simpa using h0.2, RepRows.of_rows fun j r hr => by have := h (j + 1) r (by simpa using hr); rwa [show i + (j + 1) = i + 1 + j by omega] at this⟩

/-- a slice that is read -/
theorem Rep.sl_ {sz : Nat} {rows : List (List D)} {u : Value} (h : Rep A w (.sl sz rows) u) : ∃ ad c, u = .slice ad rows.length c ∧ rows.length ≤ c ∧ c ≤ 9223372036854775807 := by
  simp only [Rep] at h
  obtain ⟨ad, c, h1, h2, h3, _⟩ := h
  exact ⟨ad, c, h1, h2, by simp only [maxLen] at h3; omega⟩
/-- .. at a place -/
theorem Rep.at_ {sz : Nat} {rows : List (List D)} {ad : Option Addr} {n c i : Nat} {r : List D} (h : Rep A w (.sl sz rows) (.slice ad n c)) (hi : rows[i]? = some r) :
    ∃ a us, ad = some a ∧ Reps A w r us ∧ us.length = sz ∧ Cs w (a.add (i * sz)) us ∧ a.block ∉ A := by
  simp only [Rep] at h
  obtain ⟨ad', c', h1, h2, h3, h4⟩ := h
  injection h1 with h1 h5 h6
  subst h1
  obtain ⟨a, ha, hA, hb, hr⟩ := h4 (by intro he; subst he; simp at hi)
  obtain ⟨hl, hrow⟩ := hr.row i r hi
  rw [Nat.zero_add] at hrow
  obtain ⟨us, h7, h8⟩ := hrow.cells
  exact ⟨a, us, ha, h7, by rw [h7.length, hl], fun j v hj => by have := h8 j v hj; rwa [Nat.zero_add] at this, hA⟩
theorem Rep.sl_nil {sz : Nat} : Rep A w (.sl sz []) (.slice none 0 0) := by
  simp only [Rep]
  exact ⟨none, 0, rfl, Nat.le_refl _, by simp [maxLen], fun h => absurd rfl h⟩
theorem Rep.sl_mk {sz : Nat} {rows : List (List D)} {a : Addr} {n c : Nat} (hn : rows.length = n) (hc : n ≤ c) (hm : c ≤ maxLen) (hA : a.block ∉ A) (hb : a.block < w.heap.size)
    (h : ∀ i r, rows[i]? = some r → r.length = sz ∧ ∃ us, Reps A w r us ∧ Cs w (a.add (i * sz)) us) : Rep A w (.sl sz rows) (.slice (some a) n c) := by
  simp only [Rep]
  subst hn
  refine ⟨some a, c, rfl, hc, hm, fun _ => ⟨a, rfl, hA, hb, RepRows.of_rows fun j r hr => ?_⟩⟩
  obtain ⟨h1, us, h2, h3⟩ := h j r hr
  exact ⟨h1, RepRow.of_cells h2 (fun i u hu => by rw [Nat.zero_add, Nat.zero_add]; exact h3 i u hu)⟩
theorem Reps.row_of_flat : ∀ {sz : Nat} {rows : List (List D)} {us : List Value}, (∀ r ∈ rows, r.length = sz) → Reps A w rows.flatten us → ∀ i r, rows[i]? = some r → Reps A w r ((us.drop (i * sz)).take sz)
  | sz, [], us, _, _, i, r, hr => by simp at hr
  | sz, r0 :: rs, us, hl, h, i, r, hr => by
    simp only [List.flatten_cons] at h
    obtain ⟨h1, h2⟩ := h.cut
    have h0 := hl r0 (by simp)
    rw [h0] at h1 h2
    cases i with
    | zero => simp at hr; subst hr; simpa using h1
    | succ i =>
      have := Reps.row_of_flat (fun r hr => hl r (by simp [hr])) h2 i r (by simpa using hr)
      rwa [List.drop_drop, show sz + i * sz = (i + 1) * sz by rw [Nat.add_mul]; omega] at this
end
end Go.Proofs.Ytccjjkdogljmpaa.V
