/-
  A part of the proof: walks of functions, and the plain laws of what they compute. No condition of its own.
-/
import Derived.Test.YtccjjkdogljmpaaV1
import Derived.Deep.AppendSrc
import Derived.Laws.CopyOwn
import Derived.Laws.Slices
set_option linter.unusedVariables false
set_option linter.unusedSimpArgs false
namespace Go.Proofs.Ytccjjkdogljmpaa.V
open Go
/-! ## Memory -/
/-- But for the blocks of 'M' each block that was there is as it was. -/
structure Mod (M : List Nat) (w w' : World) : Prop where
  os : w'.os = w.os
  tape : w'.tape = w.tape
  output : w'.output = w.output
  size : w.heap.size ≤ w'.heap.size
  block : ∀ i, i < w.heap.size → i ∉ M → w'.heap[i]? = w.heap[i]?

theorem Mod.refl (M : List Nat) (w : World) : Mod M w w := ⟨rfl, rfl, rfl, Nat.le_refl _, fun _ _ _ => rfl⟩
theorem Mod.trans' {M N : List Nat} {a b c : World} (h : Mod M a b) (k : Mod N b c) (hN : ∀ x ∈ N, x ∈ M ∨ a.heap.size ≤ x) : Mod M a c :=
  ⟨k.os.trans h.os, k.tape.trans h.tape, k.output.trans h.output, Nat.le_trans h.size k.size, fun i hi hM =>
    (k.block i (Nat.lt_of_lt_of_le hi h.size) (fun hx => by rcases hN i hx with h1 | h1 <;> first | exact hM h1 | omega)).trans (h.block i hi hM)⟩
theorem Mod.trans {M : List Nat} {a b c : World} (h : Mod M a b) (k : Mod M b c) : Mod M a c := h.trans' k fun x hx => .inl hx
theorem Mod.then {M : List Nat} {a b c : World} (h : Mod M a b) (k : Mod [] b c) : Mod M a c := h.trans' k fun x hx => by cases hx
/-- a block of the call's own was written -/
theorem Mod.own {M : List Nat} {a b c : World} {g : Nat} (h : Mod M a b) (k : Mod [g] b c) (hg : a.heap.size ≤ g) : Mod M a c := h.trans' k fun x hx => by simp at hx; subst hx; exact .inr hg
theorem Mod.mono {M N : List Nat} {a b : World} (h : Mod M a b) (hMN : ∀ x ∈ M, x ∈ N) : Mod N a b := ⟨h.os, h.tape, h.output, h.size, fun i hi hN => h.block i hi (fun hM => hN (hMN i hM))⟩
theorem Mod.below {w w' : World} (h : Mod [] w w') : RowKit.Below w.heap.size w w' := ⟨h.os, h.tape, h.output, h.size, fun k hk => h.block k hk (by simp)⟩
theorem Mod.drew (M : List Nat) (w : World) : Mod M w w.drew := ⟨rfl, rfl, rfl, Nat.le_refl _, fun _ _ _ => rfl⟩
theorem Mod.alloc (w : World) (o : Obj) : Mod [] w (w.alloc o) := ⟨rfl, rfl, rfl, by simp, fun i hi _ => RowKit.Below.heap_alloc w o i hi⟩

/-- Block 'g' is these cells. -/
def Blk (w : World) (g : Nat) (T : TypeId) (cs : List Value) : Prop := w.heap[g]? = some (.cells cs.toArray T (0, 0))

section
variable {w w' : World} {g : Nat} {T : TypeId} {cs : List Value} {M : List Nat}
theorem Blk.lt (h : Blk w g T cs) : g < w.heap.size := (Array.getElem?_eq_some_iff.1 h).1
theorem Blk.mod (h : Blk w g T cs) (k : Mod M w w') (hg : g ∉ M) : Blk w' g T cs := (k.block g h.lt hg).trans h
theorem Blk.mod0 (h : Blk w g T cs) (k : Mod [] w w') : Blk w' g T cs := h.mod k (by simp)
theorem Blk.ne {g' : Nat} (h : Blk w g T cs) (k : Mod [g'] w w') (hg : g ≠ g') : Blk w' g T cs := h.mod k (by simp [hg])
theorem Blk.cell (h : Blk w g T cs) {i : Nat} {v : Value} (hv : cs[i]? = some v) : w.cell? ⟨g, i, none⟩ = some v := by
  rw [cell_of_row w g i cs.toArray T (0, 0) h]
  simpa using hv
theorem Blk.frozen (h : Blk w g T cs) (i : Nat) : w.frozen? ⟨g, i, none⟩ = false := frozen_of_row w g i cs.toArray T h
end

/-- The cells from an address on. -/
def Cs (w : World) (a : Addr) (vs : List Value) : Prop := ∀ j v, vs[j]? = some v → w.cell? (a.add j) = some v
theorem Cs.nil (w : World) (a : Addr) : Cs w a [] := fun j v h => by simp at h
theorem Blk.cs {w : World} {g : Nat} {T : TypeId} {cs vs : List Value} (h : Blk w g T cs) {o : Nat} (hv : (cs.drop o).take vs.length = vs) : Cs w ⟨g, o, none⟩ vs := by
  intro j v hj
  rw [Addr.add_lit]
  apply h.cell
  have hlt : j < vs.length := (List.getElem?_eq_some_iff.1 hj).1
  rw [← hv, List.getElem?_take, List.getElem?_drop] at hj
  simpa [hlt] using hj
theorem Cs.mod {w w' : World} {a : Addr} {vs : List Value} {M : List Nat} (h : Cs w a vs) (k : Mod M w w') (hM : a.block ∉ M) : Cs w' a vs := by
  intro j v hj
  have hc := h j v hj
  have hb : (a.add j).block = a.block := by unfold Addr.add; split <;> rfl
  have hlt := World.block_lt_of_cell? w _ hc
  rw [hb] at hlt
  rw [← hc]
  exact World.cell?_of_block (by rw [hb]; exact k.block _ hlt hM)

/-! ### what is asked of the program's table of types -/
def aggD : TypeDesc → Bool
  | .struct _ | .array _ _ => true
  | _ => false
/-- a type of one cell -/
def scB (P : Program) (t : TypeId) : Bool := match P.underlying t, P.info? t with
  | some d, some i => !aggD d && i.size == 1
  | _, _ => false
/-- a struct or an array of so many cells -/
def agB (P : Program) (t : TypeId) (n : Nat) : Bool := match P.underlying t, P.info? t with
  | some d, some i => aggD d && i.size == n
  | _, _ => false
/-- a type of so many cells -/
def szB (P : Program) (t : TypeId) (n : Nat) : Bool := match P.info? t with
  | some i => i.size == n
  | _ => false
/-- a slice of elements of so many cells, so many bytes -/
def slB (P : Program) (t : TypeId) (e n by_ : Nat) : Bool := match P.underlying t, P.info? e with
  | some (.slice e'), some i => e' == e && i.size == n && i.bytes == by_ && (match i.zero with | some z => z.cells.size == n | none => false)
  | _, _ => false
/-- an array -/
def arB (P : Program) (t : TypeId) (k e n : Nat) : Bool := match P.underlying t, P.info? e with
  | some (.array k' e'), some i => k' == k && e' == e && i.size == n
  | _, _ => false
/-- a struct's field: where its cells begin, how many they are -/
def fdB (P : Program) (t f off n : Nat) : Bool := match P.underlying t with
  | some (.struct fs) => match fs[f]? with
    | some fd => fd.offset == off && (match P.info? fd.type with | some i => i.size == n && n != 0 | none => false)
    | none => false
  | _ => false

section
variable {P : Program} {t e n by_ k f off : Nat} {w : World}
theorem scB_spec (h : scB P t = true) : ∃ d i, P.underlying t = some d ∧ P.info? t = some i ∧ aggD d = false ∧ i.size = 1 := by
  unfold scB at h
  split at h
  · rename_i d i h1 h2
    simp only [Bool.and_eq_true, Bool.not_eq_true', beq_iff_eq] at h
    exact ⟨d, i, h1, h2, h.1, h.2⟩
  · cases h
theorem agB_spec (h : agB P t n = true) : ∃ d i, P.underlying t = some d ∧ P.info? t = some i ∧ aggD d = true ∧ i.size = n := by
  unfold agB at h
  split at h
  · rename_i d i h1 h2
    simp only [Bool.and_eq_true, beq_iff_eq] at h
    exact ⟨d, i, h1, h2, h.1, h.2⟩
  · cases h
theorem szB_spec (h : szB P t n = true) : ∃ i, P.info? t = some i ∧ i.size = n := by
  unfold szB at h
  split at h
  · rename_i i h1
    exact ⟨i, h1, by simpa using h⟩
  · cases h
theorem slB_spec (h : slB P t e n by_ = true) : ∃ i z, P.underlying t = some (.slice e) ∧ P.info? e = some i ∧ i.size = n ∧ i.bytes = by_ ∧ i.zero = some z ∧ z.cells.size = n := by
  unfold slB at h
  split at h
  · rename_i e' i h1 h2
    simp only [Bool.and_eq_true, beq_iff_eq] at h
    obtain ⟨⟨⟨ha, hb⟩, hc⟩, hd⟩ := h
    subst ha
    split at hd
    · rename_i z hz
      exact ⟨i, z, h1, h2, hb, hc, hz, by simpa using hd⟩
    · cases hd
  · cases h
theorem arB_spec (h : arB P t k e n = true) : ∃ i, P.underlying t = some (.array k e) ∧ P.info? e = some i ∧ i.size = n := by
  unfold arB at h
  split at h
  · rename_i k' e' i h1 h2
    simp only [Bool.and_eq_true, beq_iff_eq] at h
    obtain ⟨⟨ha, hb⟩, hc⟩ := h
    subst ha; subst hb
    exact ⟨i, h1, h2, hc⟩
  · cases h
theorem fdB_spec (h : fdB P t f off n = true) : ∃ fs fd i, P.underlying t = some (.struct fs) ∧ fs[f]? = some fd ∧ fd.offset = off ∧ P.info? fd.type = some i ∧ i.size = n ∧ n ≠ 0 := by
  unfold fdB at h
  split at h
  · rename_i fs h1
    split at h
    · rename_i fd h2
      simp only [Bool.and_eq_true, beq_iff_eq] at h
      obtain ⟨ha, hb⟩ := h
      split at hb
      · rename_i i h3
        simp only [Bool.and_eq_true, beq_iff_eq, bne_iff_ne, ne_eq] at hb
        exact ⟨fs, fd, i, h1, h2, ha, h3, hb.1, hb.2⟩
      · cases hb
    · cases h
  · cases h

theorem run_isAgg_of {d : TypeDesc} (h : P.underlying t = some d) : (isAgg t).run P w = .ok (aggD d) w := by
  unfold isAgg
  simp only [Sem.run_bind, run_underlying h, Result.andThen_ok]
  cases d <;> rfl
theorem run_sizeOf_of {i : TypeInfo} (h : P.info? t = some i) : (sizeOf t).run P w = .ok i.size w := by
  simp [sizeOf, typeInfo, h]
theorem run_loadVar_sc (h : scB P t = true) {a : Addr} {v : Value} (hc : w.cell? a = some v) : (loadVar t a).run P w = .ok v w := by
  obtain ⟨d, i, h1, h2, h3, h4⟩ := scB_spec h
  unfold loadVar
  simp [run_isAgg_of h1, h3, hc]
theorem run_loadVar_ag (h : agB P t n = true) {a : Addr} {vs : List Value} (hn : vs.length = n) (hc : Cs w a vs) : (loadVar t a).run P w = .ok (.agg vs.toArray) w := by
  obtain ⟨d, i, h1, h2, h3, h4⟩ := agB_spec h
  subst hn
  unfold loadVar
  have := run_loadCells_list (P := P) w a vs hc
  simp [run_isAgg_of h1, h3, run_sizeOf_of h2, h4, this]
end

section
variable {P : Program} {ops : Array Oper} {Q : Exit → Act → World → Prop} {n : Nat} {ds : List Deferred} {l : List (Nat × Value)} {w w' : World} {a : Act}
variable {rest : List Oper} {d : Nat} {op : Op} {ty : TypeId} {pos : String} {af : Array Edge}
variable {dd : Option Nat} {gg : Option (Nat × Bool)} {x y z : Operand} {t t' : TypeId} {k k' : IntKind} {m m' : Int} {b b' : Bool}

/-- reading -/
theorem o_ld {v : Value} {ad : Addr} (ht : scB P t = true) (hx : evO l x = some (.pointer (some ad))) (hc : w.cell? ad = some v) : Runs P l ⟨dd, .load t x, ty, pos, af, gg⟩ w v w := fun ρ h => by
  simp [execOp, Instr.loadAt, Instr.sureAddr, h _ _ hx, run_loadVar_sc ht hc]
theorem o_lda {vs : List Value} {ad : Addr} {c : Nat} (ht : agB P t c = true) (hx : evO l x = some (.pointer (some ad))) (hn : vs.length = c) (hc : Cs w ad vs) : Runs P l ⟨dd, .load t x, ty, pos, af, gg⟩ w (.agg vs.toArray) w := fun ρ h => by
  simp [execOp, Instr.loadAt, Instr.sureAddr, h _ _ hx, run_loadVar_ag ht hn hc]

/-- addresses -/
theorem o_fad {ad : Addr} {f o c : Nat} (ht : fdB P t f o c = true) (hx : evO l x = some (.pointer (some ad))) : Runs P l ⟨dd, .fieldAddr t x f, ty, pos, af, gg⟩ w (.pointer (some (ad.add o))) w := fun ρ h => by
  obtain ⟨fs, fd, i, h1, h2, h3, h4, h5, h6⟩ := fdB_spec ht
  have h7 : ¬ i.size = 0 := by omega
  simp [execOp, Instr.fieldAt, Instr.sureAddr, h _ _ hx, run_underlying h1, h2, fieldPlace, run_sizeOf_of h4, h7, h3]
/-- of a block -/
theorem o_fa {g off f o c : Nat} (ht : fdB P t f o c = true) (hx : evO l x = some (.pointer (some ⟨g, off, none⟩))) : Runs P l ⟨dd, .fieldAddr t x f, ty, pos, af, gg⟩ w (.pointer (some ⟨g, off + o, none⟩)) w := by
  have := o_fad (w := w) (dd := dd) (gg := gg) (ty := ty) (pos := pos) (af := af) ht hx
  rwa [Addr.add_lit] at this
theorem o_fa0 {g f o c : Nat} (ht : fdB P t f o c = true) (hx : evO l x = some (.pointer (some ⟨g, 0, none⟩))) : Runs P l ⟨dd, .fieldAddr t x f, ty, pos, af, gg⟩ w (.pointer (some ⟨g, o, none⟩)) w := by
  have := o_fa (w := w) (dd := dd) (gg := gg) (ty := ty) (pos := pos) (af := af) ht hx
  rwa [Nat.zero_add] at this
/-- an element's address: of a slice -/
theorem o_ix {ad : Addr} {c c' e sz bz : Nat} (ht : slB P t e sz bz = true) (hx : evO l x = some (.slice (some ad) c c')) (hy : evO l y = some (.int k m)) (hb : 0 ≤ m ∧ m < c) : Runs P l ⟨dd, .indexAddr t x y, ty, pos, af, gg⟩ w (.pointer (some (ad.add (m.toNat * sz)))) w := fun ρ h => by
  obtain ⟨i, z, h1, h2, h3, h4, h5, h6⟩ := slB_spec ht
  simp [execOp, Instr.indexAt, h _ _ hx, h _ _ hy, asIntOf, run_underlying h1, hb.1, hb.2, run_sizeOf_of h2, h3]
/-- .. of an array -/
theorem o_ixa {g off c e sz : Nat} (ht : arB P t c e sz = true) (hx : evO l x = some (.pointer (some ⟨g, off, none⟩))) (hy : evO l y = some (.int k m)) (hb : 0 ≤ m ∧ m < c) : Runs P l ⟨dd, .indexAddr t x y, ty, pos, af, gg⟩ w (.pointer (some ⟨g, off + m.toNat * sz, none⟩)) w := fun ρ h => by
  obtain ⟨i, h1, h2, h3⟩ := arB_spec ht
  simp [execOp, Instr.indexAt, Instr.sureAddr, h _ _ hx, h _ _ hy, asIntOf, run_underlying h1, hb.1, hb.2, run_sizeOf_of h2, h3, Addr.add_lit]

/-! ### new blocks -/
theorem cells_agg (cs : List Value) : (Value.agg cs.toArray).cells = cs.toArray := rfl
/-- a new variable: 'W' is what is known of it -/
structure New (w w' : World) (g : Nat) (T : TypeId) (cs : List Value) : Prop where
  blk : Blk w' g T cs
  at_ : g = w.heap.size
  mod : Mod [] w w'
  size : w'.heap.size = g + 1
theorem New.mk' (w : World) (T : TypeId) (cs : List Value) : New w (w.alloc (.cells cs.toArray T)) w.heap.size T cs :=
  ⟨heap_alloc_new w _, rfl, Mod.alloc w _, by simp⟩
theorem New.ne {w w' : World} {g g' T T' : Nat} {cs cs' : List Value} (h : New w w' g T cs) (k : Blk w g' T' cs') : g' ≠ g := by
  have := k.lt
  have := h.at_
  omega
theorem New.le {w0 w w' : World} {M : List Nat} {g T : Nat} {cs : List Value} (h : New w w' g T cs) (k : Mod M w0 w) : w0.heap.size ≤ g := by
  have := k.size
  have := h.at_
  omega

theorem r_box {v : Value} {cs : List Value} {T : Nat} (hx : evO l x = some v) (hv : v.cells = cs.toArray) : Runs P l ⟨dd, .box T x, ty, pos, af, gg⟩ w (.pointer (some ⟨w.heap.size, 0, none⟩)) (w.alloc (.cells cs.toArray T)) := fun ρ hρ => by
  simp [execOp, Instr.box, newVar, newRow, hρ _ _ hx, hv]
theorem s_box {v : Value} {cs : List Value} {T : Nat} (hx : evO l x = some v) (hv : v.cells = cs.toArray) (hd : Nat.blt d n = true)
    (h : ∀ g w', New w w' g T cs → WL P ops Q rest n ds ((d, .pointer (some ⟨g, 0, none⟩)) :: l) w') :
    WL P ops Q (⟨some d, .box T x, ty, pos, af, none⟩ :: rest) n ds l w := sv (r_box hx hv) hd (h _ _ (New.mk' w T cs))
def zvB (P : Program) (t : TypeId) (cs : List Value) : Prop := ((P.info? t).bind (·.zero)).map (·.cells) = some cs.toArray
theorem zvB_spec {t : Nat} {cs : List Value} (h : zvB P t cs) : ∃ i z, P.info? t = some i ∧ i.zero = some z ∧ z.cells = cs.toArray := by
  unfold zvB at h
  obtain ⟨z, hz, h2⟩ := Option.map_eq_some_iff.1 h
  obtain ⟨i, hi, h3⟩ := Option.bind_eq_some_iff.1 hz
  exact ⟨i, z, hi, h3, h2⟩
theorem r_alloc {cs : List Value} {T : Nat} (hz : zvB P T cs) : Runs P l ⟨dd, .alloc T, ty, pos, af, gg⟩ w (.pointer (some ⟨w.heap.size, 0, none⟩)) (w.alloc (.cells cs.toArray T)) := fun ρ hρ => by
  obtain ⟨i, z, h1, h2, h3⟩ := zvB_spec hz
  simp [execOp, Instr.alloc, zeroValue, typeInfo, h1, h2, newVar, newRow, h3]
theorem s_alloc {cs : List Value} {T : Nat} (hz : zvB P T cs) (hd : Nat.blt d n = true)
    (h : ∀ g w', New w w' g T cs → WL P ops Q rest n ds ((d, .pointer (some ⟨g, 0, none⟩)) :: l) w') :
    WL P ops Q (⟨some d, .alloc T, ty, pos, af, none⟩ :: rest) n ds l w := sv (r_alloc hz) hd (h _ _ (New.mk' w T cs))

/-! ### writing -/
theorem setCell_blk {g T i : Nat} {cs : List Value} {v : Value} (h : Blk w g T cs) : Blk (w.setCell ⟨g, i, none⟩ v) g T (cs.set i v) := by
  unfold Blk at h ⊢
  rw [heap_setCell_same w g i cs.toArray T v h]
  simp
theorem setCell_mod (w : World) (g i : Nat) (v : Value) : Mod [g] w (w.setCell ⟨g, i, none⟩ v) :=
  ⟨rfl, rfl, rfl, by simp [World.setCell], fun j hj hn => heap_setCell_other w ⟨g, i, none⟩ j v (by simpa using hn)⟩
/-- behind a store into block 'g' -/
structure Put (w w' : World) (g : Nat) (T : TypeId) (cs : List Value) : Prop where
  blk : Blk w' g T cs
  mod : Mod [g] w w'
  size : w'.heap.size = w.heap.size
theorem setRow_mod (w : World) (g : Nat) (cs : Array Value) : Mod [g] w (w.setRow g cs) :=
  ⟨rfl, rfl, rfl, by simp, fun j hj hn => by
    simp only [List.mem_singleton] at hn
    simp [World.setRow, Array.getElem?_modify, Ne.symm hn]⟩
/-- in the place of what stands from 'o' on -/
def splice (cs : List Value) (o : Nat) (vs : List Value) : List Value := cs.take o ++ vs ++ cs.drop (o + vs.length)
theorem storeCells_put {g o T : Nat} {cs vs : List Value} (h : Blk w g T cs) (ho : o + vs.length ≤ cs.length) (h1 : ∀ v ∈ vs, v.oneCell' = true) :
    ∃ w', (storeCells ⟨g, o, none⟩ vs).run P w = .ok () w' ∧ Put w w' g T (splice cs o vs) := by
  have hr := run_storeCells_at P g o T vs 0 cs.toArray w h (by simpa using ho) h1
  refine ⟨_, hr, ⟨?_, setRow_mod w g _, by simp⟩⟩
  have := setRow_heap w g cs.toArray (splice cs o vs).toArray T (0, 0) h
  unfold Blk
  simpa [splice] using this

theorem s_st {v : Value} {g i T : Nat} {cs : List Value} (ht : scB P t = true) (B : Blk w g T cs) (hx : evO l x = some (.pointer (some ⟨g, i, none⟩))) (hy : evO l y = some v) (hv : v.oneCell' = true) (hi : i < cs.length)
    (h : ∀ w', Put w w' g T (cs.set i v) → WL P ops Q rest n ds l w') :
    WL P ops Q (⟨none, .store t x y, ty, pos, af, none⟩ :: rest) n ds l w := by
  obtain ⟨dsc, inf, h1, h2, h3, h4⟩ := scB_spec ht
  have hc : v.cells = #[v] := by cases v <;> first | rfl | (simp [Value.oneCell'] at hv)
  have hr : RunsU P l ⟨none, .store t x y, ty, pos, af, none⟩ w (w.setCell ⟨g, i, none⟩ v) := fun ρ hρ => by
    have hcell := B.cell (i := i) (v := cs[i]) (by simp [hi])
    have hf := B.frozen i
    have := run_store P w ⟨g, i, none⟩ v .plain hv
    rw [hcell] at this
    simp [hf] at this
    simp [execOp, Instr.storeAt, Instr.sureAddr, hρ _ _ hx, hρ _ _ hy, storeVar, hc, run_sizeOf_of h2, h4, storeCells, Addr.add_zero', this]
  exact su hr (h _ ⟨setCell_blk B, setCell_mod w g i v, by simp [World.setCell]⟩)
theorem s_sta {vs : List Value} {g i T c : Nat} {cs : List Value} (ht : agB P t c = true) (B : Blk w g T cs) (hx : evO l x = some (.pointer (some ⟨g, i, none⟩))) (hy : evO l y = some (.agg vs.toArray)) (hc : vs.length = c)
    (hv : ∀ v ∈ vs, v.oneCell' = true) (hi : i + vs.length ≤ cs.length)
    (h : ∀ w', Put w w' g T (splice cs i vs) → WL P ops Q rest n ds l w') :
    WL P ops Q (⟨none, .store t x y, ty, pos, af, none⟩ :: rest) n ds l w := by
  obtain ⟨dsc, inf, h1, h2, h3, h4⟩ := agB_spec ht
  obtain ⟨w1, hr, hp⟩ := storeCells_put (P := P) B hi hv
  have hr : RunsU P l ⟨none, .store t x y, ty, pos, af, none⟩ w w1 := fun ρ hρ => by
    simp [execOp, Instr.storeAt, Instr.sureAddr, hρ _ _ hx, hρ _ _ hy, storeVar, Value.cells, run_sizeOf_of h2, h4, hc, hr]
  exact su hr (h _ hp)
end
end Go.Proofs.Ytccjjkdogljmpaa.V
