/-
  A part of the proof: walks of functions. No condition of its own.
-/
import Derived.WalkKit
import Derived.Below
import Derived.Still
import Derived.KernelRfl
import Derived.Deep.AppendSrc
import Derived.Laws.CopyOwn
import Derived.Laws.Slices
set_option linter.unusedVariables false
set_option linter.unusedSimpArgs false
namespace Go.Proofs.YtknndpjacklkeaaGreatDoor.V
open Go

/-! ## Frames -/
def lk (t : Nat) : List (Nat × Value) → Option Value
 | [] => none
 | (s, v) :: r => match Nat.beq s t with
  | true => some v
  | false => lk t r

def evO (l : List (Nat × Value)) : Operand → Option Value
 | .tmp t => lk t l
 | .const v => some v
 | .global g => some (.pointer (some ⟨g, 0, none⟩))
 | .func f => some (.func (.func f) #[] #[])
def evL (l : List (Nat × Value)) : List Operand → Option (List Value)
 | [] => some []
 | x :: r => match evO l x, evL l r with
  | some v, some vs => some (v :: vs)
  | _, _ => none

structure Has (n : Nat) (ds : List Deferred) (l : List (Nat × Value)) (a : Act) : Prop where
 size : a.tmps.size = n
 defers : a.defers = ds
 get : ∀ t v, lk t l = some v → a.tmps[t]? = some v

section
variable {P : Program} {ops : Array Oper} {Q : Exit → Act → World → Prop} {n : Nat} {ds : List Deferred} {l : List (Nat × Value)} {w w' : World} {a : Act}

theorem Has.ev (h : Has n ds l a) {x : Operand} {v : Value} (hx : evO l x = some v) : a.eval x = v := by
 cases x with
 | tmp t => simp only [evO] at hx; simp [Act.eval, h.get t v hx]
 | const u => simpa [evO, Act.eval] using hx
 | global g => simpa [evO, Act.eval] using hx
 | func f => simpa [evO, Act.eval] using hx

theorem Has.put (h : Has n ds l a) {d : Nat} (hd : Nat.blt d n = true) (v : Value) : Has n ds ((d, v) :: l) (a.put (some d) v) := by
 refine ⟨by simp [Act.put, h.size], by simp [Act.put, h.defers], fun t u hu => ?_⟩
 have hdn : d < n := by simpa [Nat.blt_eq] using hd
 simp only [lk] at hu
 by_cases hdt : d = t
 ·subst hdt
  simp at hu
  subst hu
  simp [Act.put, h.size, hdn]
 ·have : Nat.beq d t = false := by
   cases hb : Nat.beq d t
   ·rfl
   ·exact absurd (Nat.eq_of_beq_eq_true hb) hdt
  rw [this] at hu
  simp only at hu
  rw [← h.get t u hu]
  simp [Act.put, Array.getElem?_setIfInBounds_ne hdt]

def Sub (l : List (Nat × Value)) : List (Nat × Value) → Prop
 | [] => True
 | (t, v) :: r => lk t l = some v ∧ Sub l r
theorem Sub.lk_ {l l' : List (Nat × Value)} (h : Sub l l') : ∀ t v, lk t l' = some v → lk t l = some v := by
 induction l' with
 | nil => intro t v hv; simp [lk] at hv
 | cons p r ih =>
  obtain ⟨s, u⟩ := p
  intro t v hv
  simp only [lk] at hv
  cases hb : Nat.beq s t with
  | true =>
   rw [hb] at hv
   have hst := Nat.eq_of_beq_eq_true hb
   subst hst
   simp at hv
   subst hv
   exact h.1
  | false =>
   rw [hb] at hv
   exact ih h.2 t v hv
theorem Has.sub (h : Has n ds l a) {l' : List (Nat × Value)} (hs : Sub l l') : Has n ds l' a := ⟨h.size, h.defers, fun t v hv => h.get t v (hs.lk_ t v hv)⟩

/-! ## Goals over whatever frame has what is known -/
def WL (P : Program) (ops : Array Oper) (Q : Exit → Act → World → Prop) (rest : List Oper) (n : Nat) (ds : List Deferred) (l : List (Nat × Value)) (w : World) : Prop :=
 ∀ a, Has n ds l a → wpList P ops Q rest a w
def WC (P : Program) (c : Code) (Q : Exit → Act → World → Prop) (n : Nat) (ds : List Deferred) (l : List (Nat × Value)) (w : World) : Prop :=
 ∀ a, Has n ds l a → c.wp P Q a w
def WE (Q : Exit → Act → World → Prop) (e : Exit) (n : Nat) (ds : List Deferred) (l : List (Nat × Value)) (w : World) : Prop :=
 ∀ a, Has n ds l a → Q e a w

theorem WL.sub {rest : List Oper} {l' : List (Nat × Value)} (hs : Sub l l') (h : WL P ops Q rest n ds l' w) : WL P ops Q rest n ds l w := fun a ha => h a (ha.sub hs)
theorem WC.sub {c : Code} {l' : List (Nat × Value)} (hs : Sub l l') (h : WC P c Q n ds l' w) : WC P c Q n ds l w := fun a ha => h a (ha.sub hs)
theorem WE.sub {e : Exit} {l' : List (Nat × Value)} (hs : Sub l l') (h : WE Q e n ds l' w) : WE Q e n ds l w := fun a ha => h a (ha.sub hs)

/-! ### Control -/
theorem Cq {x y : Code} (h : ∀ K : Act → World → Prop, (∀ n ds l w, WC P y Q n ds l w → ∀ a, Has n ds l a → K a w) → WC P x (Exit.then K Q) n ds l w) : WC P (.seq x y) Q n ds l w :=
 fun a ha => wp_seq (h (fun a w => y.wp P Q a w) (fun _ _ _ _ h a ha => h a ha) a ha)
theorem cK (h : WE Q .normal n ds l w) : WC P .skip Q n ds l w := fun a ha => wp_skip (h a ha)
theorem cR (h : WE Q .ret n ds l w) : WC P .ret Q n ds l w := fun a ha => wp_ret (h a ha)
theorem c_exit {i : Nat} (h : WE Q (.exit i) n ds l w) : WC P (.exit i) Q n ds l w := fun a ha => wp_exit (h a ha)
theorem cB {i : Nat} {c : Code} (h : WC P c (Exit.inBlock i Q) n ds l w) : WC P (.block i c) Q n ds l w := fun a ha => wp_block (h a ha)
theorem c_cond {c : Operand} {x y : Code} {b : Bool} (hc : evO l c = some (.bool b)) (ht : b = true → WC P x Q n ds l w) (hf : b = false → WC P y Q n ds l w) : WC P (.cond c x y) Q n ds l w :=
 fun a ha => wp_cond_split (ha.ev hc) (fun h => ht h a ha) (fun h => hf h a ha)
theorem c_if {c : Operand} {x y : Code} {p : Prop} [Decidable p] (hc : evO l c = some (.bool (decide p))) (ht : p → WC P x Q n ds l w) (hf : ¬ p → WC P y Q n ds l w) : WC P (.cond c x y) Q n ds l w :=
 c_cond hc (fun h => ht (of_decide_eq_true h)) (fun h => hf (of_decide_eq_false h))
theorem c_true {c : Operand} {x y : Code} (hc : evO l c = some (.bool true)) (ht : WC P x Q n ds l w) : WC P (.cond c x y) Q n ds l w :=
 c_cond hc (fun _ => ht) (fun h => by cases h)
theorem c_false {c : Operand} {x y : Code} (hc : evO l c = some (.bool false)) (hf : WC P y Q n ds l w) : WC P (.cond c x y) Q n ds l w :=
 c_cond hc (fun h => by cases h) (fun _ => hf)

theorem e_K {K : Act → World → Prop} (h : ∀ a, Has n ds l a → K a w) : WE (Exit.then K Q) .normal n ds l w := fun a ha => h a ha
theorem eT {K : Act → World → Prop} {e : Exit} (he : e ≠ .normal) (h : WE Q e n ds l w) : WE (Exit.then K Q) e n ds l w := fun a ha => by
 have := h a ha
 cases e <;> first | exact this | exact absurd rfl he
theorem e_hit {i : Nat} (h : WE Q .normal n ds l w) : WE (Exit.inBlock i Q) (.exit i) n ds l w := fun a ha => by simpa [Exit.inBlock] using h a ha
theorem eI {i : Nat} {e : Exit} (he : ∀ j, e ≠ .exit j) (h : WE Q e n ds l w) : WE (Exit.inBlock i Q) e n ds l w := fun a ha => by
 have := h a ha
 cases e <;> first | exact this | exact absurd rfl (he _)

theorem c_loop {c : Code} {σ : Type} (L : σ → List (Nat × Value)) (I : σ → World → Prop) (μ : σ → Nat) (s0 : σ) (hs : Sub l (L s0)) (h0 : I s0 w)
  (round : ∀ s w, I s w → WC P c (Exit.then (fun a' w' => ∃ s', Has n ds (L s') a' ∧ I s' w' ∧ μ s' < μ s) Q) n ds (L s) w) : WC P (.loop c) Q n ds l w := by
 intro a ha
 have key : ∀ m, ∀ s a w, μ s = m → Has n ds (L s) a → I s w → ∀ (b : Frame) (k : List Item) (cs : List Frame),
   ∃ e a' w', Q e a' w' ∧ Arrives P (lone (b.at a (.code c :: .inLoop c :: k)) cs w) b k cs e a' w' := by
  intro m
  induction m using Nat.strongRecOn with
  | _ m ih =>
   intro s a w hm ha hI b k cs
   obtain ⟨e, a₁, w₁, hq, harr⟩ := round s w hI a ha b (.inLoop c :: k) cs
   cases e with
   | normal =>
    obtain ⟨s', ha', hI', hlt⟩ := hq
    obtain ⟨e₂, a₂, w₂, hq₂, harr₂⟩ := ih (μ s') (hm ▸ hlt) s' a₁ w₁ rfl ha' hI' b k cs
    exact ⟨e₂, a₂, w₂, hq₂, .of_steps (Steps.trans harr (.one step_inLoop)) harr₂⟩
   | exit id => exact ⟨_, a₁, w₁, hq, .pass (x := .inLoop c) rfl (fun _ _ => .inl (by simp)) harr⟩
   | goto l => exact ⟨_, a₁, w₁, hq, .pass (x := .inLoop c) rfl (fun _ _ => .inl (by simp)) harr⟩
   | ret => exact ⟨_, a₁, w₁, hq, .pass (x := .inLoop c) rfl (fun _ _ => .inl (by simp)) harr⟩
   | panic ch => exact ⟨_, a₁, w₁, hq, .pass (x := .inLoop c) rfl (fun _ _ => .inl (by simp)) harr⟩
   | outgrown => exact ⟨_, a₁, w₁, hq, .pass (x := .inLoop c) rfl (fun _ _ => .inl (by simp)) harr⟩
 intro b k cs
 obtain ⟨e, a', w', hq, harr⟩ := key _ s0 a w rfl (ha.sub hs) h0 b k cs
 exact ⟨e, a', w', hq, .of_steps (.one step_loop) harr⟩
theorem eR {σ : Type} {L : σ → List (Nat × Value)} {I : σ → World → Prop} {μ : σ → Nat} {s : σ} (s' : σ) (hs : Sub l (L s')) (hI : I s' w) (hm : μ s' < μ s) :
  WE (Exit.then (fun a' w' => ∃ s', Has n ds (L s') a' ∧ I s' w' ∧ μ s' < μ s) Q) .normal n ds l w := fun a ha => ⟨s', ha.sub hs, hI, hm⟩

/-! ### Regions, and their operations -/
theorem Cr {id : Nat} {lo : List Oper} (h : WL P lo.toArray Q lo n ds l w) : WC P (.region id lo.toArray false) Q n ds l w := fun a ha => wp_region_lit (h a ha)
theorem Ln (h : WE Q .normal n ds l w) : WL P ops Q [] n ds l w := fun a ha => h a ha

def Runs (P : Program) (l : List (Nat × Value)) (o : Oper) (w : World) (v : Value) (w' : World) : Prop :=
 ∀ ρ : Operand → Value, (∀ x u, evO l x = some u → ρ x = u) → (execOp ρ o).run P w = .ok (.value v) w'
def RunsU (P : Program) (l : List (Nat × Value)) (o : Oper) (w : World) (w' : World) : Prop :=
 ∀ ρ : Operand → Value, (∀ x u, evO l x = some u → ρ x = u) → (execOp ρ o).run P w = .ok .skip w'
def RunsC (P : Program) (l : List (Nat × Value)) (o : Oper) (w : World) (f : FuncId) (args : Array Value) : Prop :=
 ∀ ρ : Operand → Value, (∀ x u, evO l x = some u → ρ x = u) → (execOp ρ o).run P w = .ok (.enter f args) w

variable {rest : List Oper} {d : Nat} {op : Op} {ty : TypeId} {pos : String} {af : Array Edge}

theorem sv {v : Value} (hr : Runs P l ⟨some d, op, ty, pos, af, none⟩ w v w') (hd : Nat.blt d n = true) (h : WL P ops Q rest n ds ((d, v) :: l) w') :
  WL P ops Q (⟨some d, op, ty, pos, af, none⟩ :: rest) n ds l w := by
 intro a ha
 refine wpList_plain rfl fun K hK => ?_
 have := hr a.eval (fun x u hx => ha.ev hx)
 simp only [Oper.wp, this, Oper.upon]
 exact hK _ _ (h _ (ha.put hd v))
theorem su (hr : RunsU P l ⟨none, op, ty, pos, af, none⟩ w w') (h : WL P ops Q rest n ds l w') :
  WL P ops Q (⟨none, op, ty, pos, af, none⟩ :: rest) n ds l w := by
 intro a ha
 refine wpList_plain rfl fun K hK => ?_
 have := hr a.eval (fun x u hx => ha.ev hx)
 simp only [Oper.wp, this, Oper.upon]
 exact hK _ _ (h _ ha)

def Ret (φ : Value → World → Prop) : Ending → World → Prop
 | .returned v, w => φ v w
 | _, _ => False

theorem sc {f : FuncId} {args : Array Value} {φ : Value → World → Prop} (hr : RunsC P l ⟨some d, op, ty, pos, af, none⟩ w f args) (hc : Calls P f args w (Ret φ)) (hd : Nat.blt d n = true)
  (h : ∀ v w', φ v w' → WL P ops Q rest n ds ((d, v) :: l) w') :
  WL P ops Q (⟨some d, op, ty, pos, af, none⟩ :: rest) n ds l w := by
 intro a ha
 refine wpList_plain rfl fun K hK => ?_
 have := hr a.eval (fun x u hx => ha.ev hx)
 simp only [Oper.wp, this, Oper.upon]
 refine hc.mono fun e w' he => ?_
 cases e with
 | returned v => exact hK _ _ (h v w' he _ (ha.put hd v))
 | panicked c => exact he.elim
 | outgrown => exact he.elim
end
end Go.Proofs.YtknndpjacklkeaaGreatDoor.V

set_option linter.unusedVariables false
set_option linter.unusedSimpArgs false
namespace Go.Proofs.YtknndpjacklkeaaGreatDoor.V
open Go
section
variable {P : Program} {ops : Array Oper} {Q : Exit → Act → World → Prop} {n : Nat} {ds : List Deferred} {l : List (Nat × Value)} {w w' : World} {a : Act}
variable {rest : List Oper} {d : Nat} {op : Op} {ty : TypeId} {pos : String} {af : Array Edge}
variable {dd : Option Nat} {gg : Option (Nat × Bool)} {x y z : Operand} {t t' : TypeId} {k k' : IntKind} {m m' : Int} {b b' : Bool}

theorem oM {v : Value} (hx : evO l x = some v) : Runs P l ⟨dd, .move x, ty, pos, af, gg⟩ w v w := fun ρ h => by
 simp [execOp, h x v hx]
theorem o_as {v : Value} (hx : evO l x = some v) : Runs P l ⟨dd, .assign x, ty, pos, af, gg⟩ w v w := fun ρ h => by
 simp [execOp, h x v hx]
theorem beq_dec {α : Type} [BEq α] [LawfulBEq α] [DecidableEq α] (u v : α) : (u == v) = decide (u = v) := by
 by_cases h : u = v <;> simp [h]
/-! ### whole numbers -/
theorem o_add (hx : evO l x = some (.int k m)) (hy : evO l y = some (.int k m')) : Runs P l ⟨dd, .binOp .add t x y t', ty, pos, af, gg⟩ w (.int k (k.wrap (m + m'))) w := fun ρ h => by
 simp [execOp, eqGuard, h _ _ hx, h _ _ hy, binOp, Op.intArith]
theorem o_sub (hx : evO l x = some (.int k m)) (hy : evO l y = some (.int k m')) : Runs P l ⟨dd, .binOp .sub t x y t', ty, pos, af, gg⟩ w (.int k (k.wrap (m - m'))) w := fun ρ h => by
 simp [execOp, eqGuard, h _ _ hx, h _ _ hy, binOp, Op.intArith]
theorem o_mul (hx : evO l x = some (.int k m)) (hy : evO l y = some (.int k m')) : Runs P l ⟨dd, .binOp .mul t x y t', ty, pos, af, gg⟩ w (.int k (k.wrap (m * m'))) w := fun ρ h => by
 simp [execOp, eqGuard, h _ _ hx, h _ _ hy, binOp, Op.intArith]
theorem wrap64_in (z : Int) (h : -9223372036854775808 ≤ z ∧ z ≤ 9223372036854775807) : IntKind.i64.wrap z = z := by
 rw [IntKind.wrap_i64 z]
 omega
theorem o_addN (hx : evO l x = some (.int .i64 m)) (hy : evO l y = some (.int .i64 m')) (hb : -9223372036854775808 ≤ m + m' ∧ m + m' ≤ 9223372036854775807) : Runs P l ⟨dd, .binOp .add t x y t', ty, pos, af, gg⟩ w (.int .i64 (m + m')) w := by
 have := o_add (P := P) (w := w) (dd := dd) (gg := gg) (t := t) (t' := t') (ty := ty) (pos := pos) (af := af) hx hy
 rwa [wrap64_in _ hb] at this
theorem o_subN (hx : evO l x = some (.int .i64 m)) (hy : evO l y = some (.int .i64 m')) (hb : -9223372036854775808 ≤ m - m' ∧ m - m' ≤ 9223372036854775807) : Runs P l ⟨dd, .binOp .sub t x y t', ty, pos, af, gg⟩ w (.int .i64 (m - m')) w := by
 have := o_sub (P := P) (w := w) (dd := dd) (gg := gg) (t := t) (t' := t') (ty := ty) (pos := pos) (af := af) hx hy
 rwa [wrap64_in _ hb] at this
theorem o_mulN (hx : evO l x = some (.int .i64 m)) (hy : evO l y = some (.int .i64 m')) (hb : -9223372036854775808 ≤ m * m' ∧ m * m' ≤ 9223372036854775807) : Runs P l ⟨dd, .binOp .mul t x y t', ty, pos, af, gg⟩ w (.int .i64 (m * m')) w := by
 have := o_mul (P := P) (w := w) (dd := dd) (gg := gg) (t := t) (t' := t') (ty := ty) (pos := pos) (af := af) hx hy
 rwa [wrap64_in _ hb] at this
theorem o_quo (hx : evO l x = some (.int k m)) (hy : evO l y = some (.int k m')) (h0 : m' ≠ 0) : Runs P l ⟨dd, .binOp .quo t x y t', ty, pos, af, gg⟩ w (.int k (k.wrap (m.tdiv m'))) w := fun ρ h => by
 simp [execOp, eqGuard, h _ _ hx, h _ _ hy, binOp, Op.intDiv, h0]
theorem o_rem (hx : evO l x = some (.int k m)) (hy : evO l y = some (.int k m')) (h0 : m' ≠ 0) : Runs P l ⟨dd, .binOp .rem t x y t', ty, pos, af, gg⟩ w (.int k (m.tmod m')) w := fun ρ h => by
 simp [execOp, eqGuard, h _ _ hx, h _ _ hy, binOp, Op.intDiv, h0]
theorem o_quoN (hx : evO l x = some (.int .i64 m)) (hy : evO l y = some (.int .i64 m')) (hb : 0 ≤ m ∧ m ≤ 9223372036854775807 ∧ 0 < m') : Runs P l ⟨dd, .binOp .quo t x y t', ty, pos, af, gg⟩ w (.int .i64 (m / m')) w := by
 have := o_quo (P := P) (w := w) (dd := dd) (gg := gg) (t := t) (t' := t') (ty := ty) (pos := pos) (af := af) hx hy (by omega)
 rw [Int.tdiv_eq_ediv_of_nonneg hb.1] at this
 have h1 : 0 ≤ m / m' := Int.ediv_nonneg hb.1 (by omega)
 have h2 : m / m' ≤ m := Int.ediv_le_self _ hb.1
 rwa [wrap64_in _ (by omega)] at this
theorem o_remN (hx : evO l x = some (.int k m)) (hy : evO l y = some (.int k m')) (hb : 0 ≤ m ∧ 0 < m') : Runs P l ⟨dd, .binOp .rem t x y t', ty, pos, af, gg⟩ w (.int k (m % m')) w := by
 have := o_rem (P := P) (w := w) (dd := dd) (gg := gg) (t := t) (t' := t') (ty := ty) (pos := pos) (af := af) hx hy (by omega)
 rwa [Int.tmod_eq_emod_of_nonneg hb.1] at this
theorem o_shl (hx : evO l x = some (.int k m)) (hy : evO l y = some (.int k' m')) (h0 : 0 ≤ m') : Runs P l ⟨dd, .binOp .shl t x y t', ty, pos, af, gg⟩ w (.int k (k.wrap (m * 2 ^ (min m'.toNat k.bits)))) w := fun ρ h => by
 have : ¬ m' < 0 := by omega
 simp [execOp, eqGuard, h _ _ hx, h _ _ hy, binOp, Op.shift, this]
theorem o_shr (hx : evO l x = some (.int k m)) (hy : evO l y = some (.int k' m')) (h0 : 0 ≤ m') : Runs P l ⟨dd, .binOp .shr t x y t', ty, pos, af, gg⟩ w (.int k (m.fdiv (2 ^ (min m'.toNat k.bits)))) w := fun ρ h => by
 have : ¬ m' < 0 := by omega
 simp [execOp, eqGuard, h _ _ hx, h _ _ hy, binOp, Op.shift, this]
theorem o_and (hx : evO l x = some (.int k m)) (hy : evO l y = some (.int k m')) : Runs P l ⟨dd, .binOp .and t x y t', ty, pos, af, gg⟩ w (.int k (k.wrap (BitVec.ofInt k.bits m &&& BitVec.ofInt k.bits m').toNat)) w := fun ρ h => by
 simp [execOp, eqGuard, h _ _ hx, h _ _ hy, binOp, Op.intBits]
theorem o_or (hx : evO l x = some (.int k m)) (hy : evO l y = some (.int k m')) : Runs P l ⟨dd, .binOp .or t x y t', ty, pos, af, gg⟩ w (.int k (k.wrap (BitVec.ofInt k.bits m ||| BitVec.ofInt k.bits m').toNat)) w := fun ρ h => by
 simp [execOp, eqGuard, h _ _ hx, h _ _ hy, binOp, Op.intBits]
theorem o_lss (hx : evO l x = some (.int k m)) (hy : evO l y = some (.int k m')) : Runs P l ⟨dd, .binOp .lss t x y t', ty, pos, af, gg⟩ w (.bool (decide (m < m'))) w := fun ρ h => by
 simp [execOp, eqGuard, h _ _ hx, h _ _ hy, binOp, Op.intCmp]
theorem o_leq (hx : evO l x = some (.int k m)) (hy : evO l y = some (.int k m')) : Runs P l ⟨dd, .binOp .leq t x y t', ty, pos, af, gg⟩ w (.bool (decide (m ≤ m'))) w := fun ρ h => by
 simp [execOp, eqGuard, h _ _ hx, h _ _ hy, binOp, Op.intCmp]
theorem o_gtr (hx : evO l x = some (.int k m)) (hy : evO l y = some (.int k m')) : Runs P l ⟨dd, .binOp .gtr t x y t', ty, pos, af, gg⟩ w (.bool (decide (m' < m))) w := fun ρ h => by
 simp [execOp, eqGuard, h _ _ hx, h _ _ hy, binOp, Op.intCmp]
theorem o_geq (hx : evO l x = some (.int k m)) (hy : evO l y = some (.int k m')) : Runs P l ⟨dd, .binOp .geq t x y t', ty, pos, af, gg⟩ w (.bool (decide (m' ≤ m))) w := fun ρ h => by
 simp [execOp, eqGuard, h _ _ hx, h _ _ hy, binOp, Op.intCmp]
theorem oE (hx : evO l x = some (.int k m)) (hy : evO l y = some (.int k m')) : Runs P l ⟨dd, .binOp .eql t x y t', ty, pos, af, gg⟩ w (.bool (decide (m = m'))) w := fun ρ h => by
 simp [execOp, eqGuard, h _ _ hx, h _ _ hy, binOp, Op.intCmp, beq_dec]
theorem o_neq (hx : evO l x = some (.int k m)) (hy : evO l y = some (.int k m')) : Runs P l ⟨dd, .binOp .neq t x y t', ty, pos, af, gg⟩ w (.bool (decide (m ≠ m'))) w := fun ρ h => by
 have : (m != m') = decide (m ≠ m') := by
  by_cases h : m = m' <;> simp [h]
 simp [execOp, eqGuard, h _ _ hx, h _ _ hy, binOp, Op.intCmp, this]
theorem o_not (hx : evO l x = some (.bool b)) : Runs P l ⟨dd, .unOp .not t x, ty, pos, af, gg⟩ w (.bool (!b)) w := fun ρ h => by
 simp [execOp, h _ _ hx, Op.unary]
theorem o_conv {d0 : TypeDesc} (hs : P.underlying t = some d0) (ht : P.underlying t' = some (.int k')) (hx : evO l x = some (.int k m)) : Runs P l ⟨dd, .convert t t' x, ty, pos, af, gg⟩ w (.int k' (k'.wrap m)) w := fun ρ h => by
 simp [execOp, h _ _ hx, convert, run_underlying hs, run_underlying ht, Conv.intToInt]
theorem o_convN {d0 : TypeDesc} (hs : P.underlying t = some d0) (ht : P.underlying t' = some (.int k')) (hx : evO l x = some (.int k m)) (hb : k'.wrap m = m) : Runs P l ⟨dd, .convert t t' x, ty, pos, af, gg⟩ w (.int k' m) w := by
 have := o_conv (P := P) (w := w) (dd := dd) (gg := gg) (ty := ty) (pos := pos) (af := af) hs ht hx
 rwa [hb] at this

/-! ### strings -/
abbrev S (s : List UInt8) : Value := .string ⟨⟨s⟩⟩
theorem toList_S (s : List UInt8) : (⟨⟨s⟩⟩ : ByteArray).toList = s := by
 exact ByteArray.toList_mk s
theorem o_seq {u v : List UInt8} (hx : evO l x = some (S u)) (hy : evO l y = some (S v)) : Runs P l ⟨dd, .binOp .eql t x y t', ty, pos, af, gg⟩ w (.bool (decide (u = v))) w := fun ρ h => by
 simp [execOp, eqGuard, h _ _ hx, h _ _ hy, binOp, Op.stringOp, beq_dec, toList_S]
theorem o_sne {u v : List UInt8} (hx : evO l x = some (S u)) (hy : evO l y = some (S v)) : Runs P l ⟨dd, .binOp .neq t x y t', ty, pos, af, gg⟩ w (.bool (decide (u ≠ v))) w := fun ρ h => by
 have : (!(u == v)) = decide (u ≠ v) := by by_cases h : u = v <;> simp [h]
 simp [execOp, eqGuard, h _ _ hx, h _ _ hy, binOp, Op.stringOp, this, toList_S]
abbrev bl (u v : List UInt8) : Bool := Op.bytesLess u v
theorem o_slt {u v : List UInt8} (hx : evO l x = some (S u)) (hy : evO l y = some (S v)) : Runs P l ⟨dd, .binOp .lss t x y t', ty, pos, af, gg⟩ w (.bool (bl u v)) w := fun ρ h => by
 simp [execOp, eqGuard, h _ _ hx, h _ _ hy, binOp, Op.stringOp, toList_S, bl]
theorem o_sgt {u v : List UInt8} (hx : evO l x = some (S u)) (hy : evO l y = some (S v)) : Runs P l ⟨dd, .binOp .gtr t x y t', ty, pos, af, gg⟩ w (.bool (!(bl u v || u == v))) w := fun ρ h => by
 simp [execOp, eqGuard, h _ _ hx, h _ _ hy, binOp, Op.stringOp, toList_S, bl]
theorem o_slen {u : List UInt8} (hs : P.underlying t = some .string) (hx : evO l x = some (S u)) : Runs P l ⟨dd, .call { callee := .builtin .len, args := #[x], argTypes := #[t] }, ty, pos, af, gg⟩ w (.int .i64 u.length) w := fun ρ h => by
 have h3 : (⟨⟨u⟩⟩ : ByteArray).size = u.length := rfl
 simp [execOp, resolve, invoke, builtin, Builtin.len_, h _ _ hx, run_underlying hs, goInt, h3]
theorem o_sidx {u : List UInt8} {c : UInt8} (hs : P.underlying t = some .string) (hx : evO l x = some (S u)) (hy : evO l y = some (.int k m)) (h0 : 0 ≤ m) (hc : u[m.toNat]? = some c) : Runs P l ⟨dd, .index t x y, ty, pos, af, gg⟩ w (.int .u8 c.toNat) w := fun ρ h => by
 have hlt : m.toNat < u.length := (List.getElem?_eq_some_iff.1 hc).1
 have h3 : (⟨⟨u⟩⟩ : ByteArray)[m.toNat]? = some c := by
  have h4 : m.toNat < (⟨⟨u⟩⟩ : ByteArray).size := hlt
  have h5 := (List.getElem?_eq_some_iff.1 hc).2
  rw [getElem?_pos (⟨⟨u⟩⟩ : ByteArray) m.toNat h4, ← h5]
  rfl
 simp [execOp, Instr.index, h _ _ hx, h _ _ hy, asIntOf, run_underlying hs, h0, h3]

/-! ### the rest that touches no memory -/
theorem o_ext {vs : Array Value} {i : Nat} {v : Value} (hx : evO l x = some (.tuple vs)) (hi : vs[i]? = some v) : Runs P l ⟨dd, .extract x i, ty, pos, af, gg⟩ w v w := fun ρ h => by
 simp [execOp, Instr.extract, h _ _ hx, hi]
theorem o_nilc {ad : Addr} (hx : evO l x = some (.pointer (some ad))) : Runs P l ⟨dd, .nilCheck x, ty, pos, af, gg⟩ w (.pointer (some ad)) w := fun ρ h => by
 simp [execOp, h _ _ hx]
theorem o_len {ad : Option Addr} {c c' e : Nat} (he : P.underlying t = some (.slice e)) (hx : evO l x = some (.slice ad c c')) : Runs P l ⟨dd, .call { callee := .builtin .len, args := #[x], argTypes := #[t] }, ty, pos, af, gg⟩ w (.int .i64 c) w := fun ρ h => by
 simp [execOp, resolve, invoke, builtin, Builtin.len_, h _ _ hx, run_underlying he, goInt]
theorem evL_map {ρ : Operand → Value} (h : ∀ x u, evO l x = some u → ρ x = u) : ∀ (zs : List Operand) (us : List Value), evL l zs = some us → zs.map ρ = us := by
 intro zs
 induction zs with
 | nil => intro us hu; simp [evL] at hu; simp [← hu]
 | cons z zs ih =>
  intro us hu
  simp only [evL] at hu
  split at hu
  ·rename_i v vs h1 h2
   simp only [Option.some.injEq] at hu
   subst hu
   simp [h _ _ h1, ih _ h2]
  ·cases hu
theorem o_mkf {fn : Fn} {xs ys : Array Operand} {us vs : List Value} (hx : evL l xs.toList = some us) (hy : evL l ys.toList = some vs) : Runs P l ⟨dd, .makeFunc fn xs ys, ty, pos, af, gg⟩ w (.func fn us.toArray vs.toArray) w := fun ρ h => by
 have e1 : xs.map ρ = us.toArray := by apply Array.toList_inj.1; simpa using evL_map h _ _ hx
 have e2 : ys.map ρ = vs.toArray := by apply Array.toList_inj.1; simpa using evL_map h _ _ hy
 simp [execOp, Instr.makeFunc, e1, e2]
theorem o_mki {v : Value} {d0 : TypeDesc} (he : P.underlying t = some d0) (hn : (match d0 with | .interface _ => false | _ => true) = true) (hx : evO l x = some v) : Runs P l ⟨dd, .makeInterface t x, ty, pos, af, gg⟩ w (.iface t v) w := fun ρ h => by
 cases d0 <;> first | (simp at hn; done) | simp [execOp, Instr.makeInterface, h _ _ hx, run_underlying he]

/-! ### calls -/
def Ent (P : Program) (f : FuncId) : Prop := ∀ args w, (callFunc f args).run P w = .ok (.enter f args) w
theorem Ent.of {f : FuncId} {fn : Func} (hf : P.funcs[f]? = some fn) (hn : (fn.name == "runtime.NumGoroutine") = false) (hb : fn.body.isNone = false) : Ent P f := fun args w => by
 have h1 : fn.name ≠ "runtime.NumGoroutine" := by simpa using hn
 cases hc : fn.body with
 | none => rw [hc] at hb; cases hb
 | some c => simp [callFunc, hf, h1, hc]
theorem oC {f : FuncId} {xs : List Operand} {us : List Value} {ts : Array TypeId} (he : Ent P f) (hx : evL l xs = some us) : RunsC P l ⟨dd, .call { callee := .value (.func f), args := xs.toArray, argTypes := ts }, ty, pos, af, gg⟩ w f us.toArray := fun ρ h => by
 have e1 : xs.map ρ = us := evL_map h _ _ hx
 have e2 : ρ (.func f) = .func (.func f) #[] #[] := h _ _ rfl
 have := he us.toArray w
 simp [execOp, resolve, e2, Deferred.ofValue, invoke, ← e1] at this ⊢
 simpa using this
end
end Go.Proofs.YtknndpjacklkeaaGreatDoor.V

set_option linter.unusedVariables false
set_option linter.unusedSimpArgs false
namespace Go.Proofs.YtknndpjacklkeaaGreatDoor.V
open Go
/-! ## Memory -/
structure Mod (M : List Nat) (w w' : World) : Prop where
 os : w'.os = w.os
 tape : w'.tape = w.tape
 output : w'.output = w.output
 size : w.heap.size ≤ w'.heap.size
 block : ∀ i, i < w.heap.size → i ∉ M → w'.heap[i]? = w.heap[i]?

theorem Mod.refl (M : List Nat) (w : World) : Mod M w w := ⟨rfl, rfl, rfl, Nat.le_refl _, fun _ _ _ => rfl⟩
theorem Mod.trans' {M N : List Nat} {a b c : World} (h : Mod M a b) (k : Mod N b c) (hN : ∀ x ∈ N, x ∈ M ∨ a.heap.size ≤ x) : Mod M a c :=
 ⟨k.os.trans h.os, k.tape.trans h.tape, k.output.trans h.output, Nat.le_trans h.size k.size, fun i hi hM =>
  (k.block i (Nat.lt_of_lt_of_le hi h.size) (fun hx => by rcases hN i hx with h1 | h1 <;> first | exact hM h1 | omega)).trans (h.block i hi hM)⟩
theorem Mod.trans {M : List Nat} {a b c : World} (h : Mod M a b) (k : Mod M b c) : Mod M a c := h.trans' k fun x hx => .inl hx
theorem Mod.then {M : List Nat} {a b c : World} (h : Mod M a b) (k : Mod [] b c) : Mod M a c := h.trans' k fun x hx => by cases hx
theorem Mod.own {M : List Nat} {a b c : World} {g : Nat} (h : Mod M a b) (k : Mod [g] b c) (hg : a.heap.size ≤ g) : Mod M a c := h.trans' k fun x hx => by simp at hx; subst hx; exact .inr hg
theorem Mod.mono {M N : List Nat} {a b : World} (h : Mod M a b) (hMN : ∀ x ∈ M, x ∈ N) : Mod N a b := ⟨h.os, h.tape, h.output, h.size, fun i hi hN => h.block i hi (fun hM => hN (hMN i hM))⟩
theorem Mod.below {w w' : World} (h : Mod [] w w') : RowKit.Below w.heap.size w w' := ⟨h.os, h.tape, h.output, h.size, fun k hk => h.block k hk (by simp)⟩
theorem Mod.drew (M : List Nat) (w : World) : Mod M w w.drew := ⟨rfl, rfl, rfl, Nat.le_refl _, fun _ _ _ => rfl⟩
theorem Mod.alloc (w : World) (o : Obj) : Mod [] w (w.alloc o) := ⟨rfl, rfl, rfl, by simp, fun i hi _ => RowKit.Below.heap_alloc w o i hi⟩

def Blk (w : World) (g : Nat) (T : TypeId) (cs : List Value) : Prop := w.heap[g]? = some (.cells cs.toArray T (0, 0))

section
variable {w w' : World} {g : Nat} {T : TypeId} {cs : List Value} {M : List Nat}
theorem Blk.lt (h : Blk w g T cs) : g < w.heap.size := (Array.getElem?_eq_some_iff.1 h).1
theorem Blk.mod (h : Blk w g T cs) (k : Mod M w w') (hg : g ∉ M) : Blk w' g T cs := (k.block g h.lt hg).trans h
theorem Blk.mod0 (h : Blk w g T cs) (k : Mod [] w w') : Blk w' g T cs := h.mod k (by simp)
theorem Blk.ne {g' : Nat} (h : Blk w g T cs) (k : Mod [g'] w w') (hg : g ≠ g') : Blk w' g T cs := h.mod k (by simp [hg])
theorem Blk.cell (h : Blk w g T cs) {i : Nat} {v : Value} (hv : cs[i]? = some v) : w.cell? ⟨g, i, none⟩ = some v := by
 rw [cell_of_row w g i cs.toArray T (0, 0) h]
 simpa using hv
theorem Blk.frozen (h : Blk w g T cs) (i : Nat) : w.frozen? ⟨g, i, none⟩ = false := frozen_of_row w g i cs.toArray T h
end

def Cs (w : World) (a : Addr) (vs : List Value) : Prop := ∀ j v, vs[j]? = some v → w.cell? (a.add j) = some v
theorem Cs.nil (w : World) (a : Addr) : Cs w a [] := fun j v h => by simp at h
theorem Blk.cs {w : World} {g : Nat} {T : TypeId} {cs vs : List Value} (h : Blk w g T cs) {o : Nat} (hv : (cs.drop o).take vs.length = vs) : Cs w ⟨g, o, none⟩ vs := by
 intro j v hj
 rw [Addr.add_lit]
 apply h.cell
 have hlt : j < vs.length := (List.getElem?_eq_some_iff.1 hj).1
 rw [← hv, List.getElem?_take, List.getElem?_drop] at hj
 simpa [hlt] using hj
theorem Cs.mod {w w' : World} {a : Addr} {vs : List Value} {M : List Nat} (h : Cs w a vs) (k : Mod M w w') (hM : a.block ∉ M) : Cs w' a vs := by
 intro j v hj
 have hc := h j v hj
 have hb : (a.add j).block = a.block := by unfold Addr.add; split <;> rfl
 have hlt := World.block_lt_of_cell? w _ hc
 rw [hb] at hlt
 rw [← hc]
 exact World.cell?_of_block (by rw [hb]; exact k.block _ hlt hM)

/-! ### what is asked of the program's table of types -/
def aggD : TypeDesc → Bool
 | .struct _ | .array _ _ => true
 | _ => false
def scB (P : Program) (t : TypeId) : Bool := match P.underlying t, P.info? t with
 | some d, some i => !aggD d && i.size == 1
 | _, _ => false
def agB (P : Program) (t : TypeId) (n : Nat) : Bool := match P.underlying t, P.info? t with
 | some d, some i => aggD d && i.size == n
 | _, _ => false
def slB (P : Program) (t : TypeId) (e n by_ : Nat) : Bool := match P.underlying t, P.info? e with
 | some (.slice e'), some i => e' == e && i.size == n && i.bytes == by_ && (match i.zero with | some z => z.cells.size == n | none => false)
 | _, _ => false
def fdB (P : Program) (t f off n : Nat) : Bool := match P.underlying t with
 | some (.struct fs) => match fs[f]? with
  | some fd => fd.offset == off && (match P.info? fd.type with | some i => i.size == n && n != 0 | none => false)
  | none => false
 | _ => false

section
variable {P : Program} {t e n by_ k f off : Nat} {w : World}
theorem scB_spec (h : scB P t = true) : ∃ d i, P.underlying t = some d ∧ P.info? t = some i ∧ aggD d = false ∧ i.size = 1 := by
 unfold scB at h
 split at h
 ·rename_i d i h1 h2
  simp only [Bool.and_eq_true, Bool.not_eq_true', beq_iff_eq] at h
  exact ⟨d, i, h1, h2, h.1, h.2⟩
 ·cases h
theorem agB_spec (h : agB P t n = true) : ∃ d i, P.underlying t = some d ∧ P.info? t = some i ∧ aggD d = true ∧ i.size = n := by
 unfold agB at h
 split at h
 ·rename_i d i h1 h2
  simp only [Bool.and_eq_true, beq_iff_eq] at h
  exact ⟨d, i, h1, h2, h.1, h.2⟩
 ·cases h
theorem slB_spec (h : slB P t e n by_ = true) : ∃ i z, P.underlying t = some (.slice e) ∧ P.info? e = some i ∧ i.size = n ∧ i.bytes = by_ ∧ i.zero = some z ∧ z.cells.size = n := by
 unfold slB at h
 split at h
 ·rename_i e' i h1 h2
  simp only [Bool.and_eq_true, beq_iff_eq] at h
  obtain ⟨⟨⟨ha, hb⟩, hc⟩, hd⟩ := h
  subst ha
  split at hd
  ·rename_i z hz
   exact ⟨i, z, h1, h2, hb, hc, hz, by simpa using hd⟩
  ·cases hd
 ·cases h
theorem fdB_spec (h : fdB P t f off n = true) : ∃ fs fd i, P.underlying t = some (.struct fs) ∧ fs[f]? = some fd ∧ fd.offset = off ∧ P.info? fd.type = some i ∧ i.size = n ∧ n ≠ 0 := by
 unfold fdB at h
 split at h
 ·rename_i fs h1
  split at h
  ·rename_i fd h2
   simp only [Bool.and_eq_true, beq_iff_eq] at h
   obtain ⟨ha, hb⟩ := h
   split at hb
   ·rename_i i h3
    simp only [Bool.and_eq_true, beq_iff_eq, bne_iff_ne, ne_eq] at hb
    exact ⟨fs, fd, i, h1, h2, ha, h3, hb.1, hb.2⟩
   ·cases hb
  ·cases h
 ·cases h

theorem run_isAgg_of {d : TypeDesc} (h : P.underlying t = some d) : (isAgg t).run P w = .ok (aggD d) w := by
 unfold isAgg
 simp only [Sem.run_bind, run_underlying h, Result.andThen_ok]
 cases d <;> rfl
theorem run_sizeOf_of {i : TypeInfo} (h : P.info? t = some i) : (sizeOf t).run P w = .ok i.size w := by
 simp [sizeOf, typeInfo, h]
theorem run_loadVar_sc (h : scB P t = true) {a : Addr} {v : Value} (hc : w.cell? a = some v) : (loadVar t a).run P w = .ok v w := by
 obtain ⟨d, i, h1, h2, h3, h4⟩ := scB_spec h
 unfold loadVar
 simp [run_isAgg_of h1, h3, hc]
theorem run_loadVar_ag (h : agB P t n = true) {a : Addr} {vs : List Value} (hn : vs.length = n) (hc : Cs w a vs) : (loadVar t a).run P w = .ok (.agg vs.toArray) w := by
 obtain ⟨d, i, h1, h2, h3, h4⟩ := agB_spec h
 subst hn
 unfold loadVar
 have := run_loadCells_list (P := P) w a vs hc
 simp [run_isAgg_of h1, h3, run_sizeOf_of h2, h4, this]
end

section
variable {P : Program} {ops : Array Oper} {Q : Exit → Act → World → Prop} {n : Nat} {ds : List Deferred} {l : List (Nat × Value)} {w w' : World} {a : Act}
variable {rest : List Oper} {d : Nat} {op : Op} {ty : TypeId} {pos : String} {af : Array Edge}
variable {dd : Option Nat} {gg : Option (Nat × Bool)} {x y z : Operand} {t t' : TypeId} {k k' : IntKind} {m m' : Int} {b b' : Bool}

theorem oL {v : Value} {ad : Addr} (ht : scB P t = true) (hx : evO l x = some (.pointer (some ad))) (hc : w.cell? ad = some v) : Runs P l ⟨dd, .load t x, ty, pos, af, gg⟩ w v w := fun ρ h => by
 simp [execOp, Instr.loadAt, Instr.sureAddr, h _ _ hx, run_loadVar_sc ht hc]
theorem o_lda {vs : List Value} {ad : Addr} {c : Nat} (ht : agB P t c = true) (hx : evO l x = some (.pointer (some ad))) (hn : vs.length = c) (hc : Cs w ad vs) : Runs P l ⟨dd, .load t x, ty, pos, af, gg⟩ w (.agg vs.toArray) w := fun ρ h => by
 simp [execOp, Instr.loadAt, Instr.sureAddr, h _ _ hx, run_loadVar_ag ht hn hc]

theorem o_fad {ad : Addr} {f o c : Nat} (ht : fdB P t f o c = true) (hx : evO l x = some (.pointer (some ad))) : Runs P l ⟨dd, .fieldAddr t x f, ty, pos, af, gg⟩ w (.pointer (some (ad.add o))) w := fun ρ h => by
 obtain ⟨fs, fd, i, h1, h2, h3, h4, h5, h6⟩ := fdB_spec ht
 have h7 : ¬ i.size = 0 := by omega
 simp [execOp, Instr.fieldAt, Instr.sureAddr, h _ _ hx, run_underlying h1, h2, fieldPlace, run_sizeOf_of h4, h7, h3]
theorem o_fa {g off f o c : Nat} (ht : fdB P t f o c = true) (hx : evO l x = some (.pointer (some ⟨g, off, none⟩))) : Runs P l ⟨dd, .fieldAddr t x f, ty, pos, af, gg⟩ w (.pointer (some ⟨g, off + o, none⟩)) w := by
 have := o_fad (w := w) (dd := dd) (gg := gg) (ty := ty) (pos := pos) (af := af) ht hx
 rwa [Addr.add_lit] at this
theorem oA0 {g f o c : Nat} (ht : fdB P t f o c = true) (hx : evO l x = some (.pointer (some ⟨g, 0, none⟩))) : Runs P l ⟨dd, .fieldAddr t x f, ty, pos, af, gg⟩ w (.pointer (some ⟨g, o, none⟩)) w := by
 have := o_fa (w := w) (dd := dd) (gg := gg) (ty := ty) (pos := pos) (af := af) ht hx
 rwa [Nat.zero_add] at this
theorem o_ix {ad : Addr} {c c' e sz bz : Nat} (ht : slB P t e sz bz = true) (hx : evO l x = some (.slice (some ad) c c')) (hy : evO l y = some (.int k m)) (hb : 0 ≤ m ∧ m < c) : Runs P l ⟨dd, .indexAddr t x y, ty, pos, af, gg⟩ w (.pointer (some (ad.add (m.toNat * sz)))) w := fun ρ h => by
 obtain ⟨i, z, h1, h2, h3, h4, h5, h6⟩ := slB_spec ht
 simp [execOp, Instr.indexAt, h _ _ hx, h _ _ hy, asIntOf, run_underlying h1, hb.1, hb.2, run_sizeOf_of h2, h3]
/-! ### new blocks -/
structure New (w w' : World) (g : Nat) (T : TypeId) (cs : List Value) : Prop where
 blk : Blk w' g T cs
 at_ : g = w.heap.size
 mod : Mod [] w w'
 size : w'.heap.size = g + 1
theorem New.mk' (w : World) (T : TypeId) (cs : List Value) : New w (w.alloc (.cells cs.toArray T)) w.heap.size T cs :=
 ⟨heap_alloc_new w _, rfl, Mod.alloc w _, by simp⟩
theorem New.ne {w w' : World} {g g' T T' : Nat} {cs cs' : List Value} (h : New w w' g T cs) (k : Blk w g' T' cs') : g' ≠ g := by
 have := k.lt
 have := h.at_
 omega
theorem New.le {w0 w w' : World} {M : List Nat} {g T : Nat} {cs : List Value} (h : New w w' g T cs) (k : Mod M w0 w) : w0.heap.size ≤ g := by
 have := k.size
 have := h.at_
 omega

theorem r_box {v : Value} {cs : List Value} {T : Nat} (hx : evO l x = some v) (hv : v.cells = cs.toArray) : Runs P l ⟨dd, .box T x, ty, pos, af, gg⟩ w (.pointer (some ⟨w.heap.size, 0, none⟩)) (w.alloc (.cells cs.toArray T)) := fun ρ hρ => by
 simp [execOp, Instr.box, newVar, newRow, hρ _ _ hx, hv]
theorem s_box {v : Value} {cs : List Value} {T : Nat} (hx : evO l x = some v) (hv : v.cells = cs.toArray) (hd : Nat.blt d n = true)
  (h : ∀ g w', New w w' g T cs → WL P ops Q rest n ds ((d, .pointer (some ⟨g, 0, none⟩)) :: l) w') :
  WL P ops Q (⟨some d, .box T x, ty, pos, af, none⟩ :: rest) n ds l w := sv (r_box hx hv) hd (h _ _ (New.mk' w T cs))
def zvB (P : Program) (t : TypeId) (cs : List Value) : Prop := ((P.info? t).bind (·.zero)).map (·.cells) = some cs.toArray
theorem zvB_spec {t : Nat} {cs : List Value} (h : zvB P t cs) : ∃ i z, P.info? t = some i ∧ i.zero = some z ∧ z.cells = cs.toArray := by
 unfold zvB at h
 obtain ⟨z, hz, h2⟩ := Option.map_eq_some_iff.1 h
 obtain ⟨i, hi, h3⟩ := Option.bind_eq_some_iff.1 hz
 exact ⟨i, z, hi, h3, h2⟩
theorem r_alloc {cs : List Value} {T : Nat} (hz : zvB P T cs) : Runs P l ⟨dd, .alloc T, ty, pos, af, gg⟩ w (.pointer (some ⟨w.heap.size, 0, none⟩)) (w.alloc (.cells cs.toArray T)) := fun ρ hρ => by
 obtain ⟨i, z, h1, h2, h3⟩ := zvB_spec hz
 simp [execOp, Instr.alloc, zeroValue, typeInfo, h1, h2, newVar, newRow, h3]
theorem s_alloc {cs : List Value} {T : Nat} (hz : zvB P T cs) (hd : Nat.blt d n = true)
  (h : ∀ g w', New w w' g T cs → WL P ops Q rest n ds ((d, .pointer (some ⟨g, 0, none⟩)) :: l) w') :
  WL P ops Q (⟨some d, .alloc T, ty, pos, af, none⟩ :: rest) n ds l w := sv (r_alloc hz) hd (h _ _ (New.mk' w T cs))

/-! ### writing -/
theorem setCell_blk {g T i : Nat} {cs : List Value} {v : Value} (h : Blk w g T cs) : Blk (w.setCell ⟨g, i, none⟩ v) g T (cs.set i v) := by
 unfold Blk at h ⊢
 rw [heap_setCell_same w g i cs.toArray T v h]
 simp
theorem setCell_mod (w : World) (g i : Nat) (v : Value) : Mod [g] w (w.setCell ⟨g, i, none⟩ v) :=
 ⟨rfl, rfl, rfl, by simp [World.setCell], fun j hj hn => heap_setCell_other w ⟨g, i, none⟩ j v (by simpa using hn)⟩
structure Put (w w' : World) (g : Nat) (T : TypeId) (cs : List Value) : Prop where
 blk : Blk w' g T cs
 mod : Mod [g] w w'
 size : w'.heap.size = w.heap.size
theorem setRow_mod (w : World) (g : Nat) (cs : Array Value) : Mod [g] w (w.setRow g cs) :=
 ⟨rfl, rfl, rfl, by simp, fun j hj hn => by
  simp only [List.mem_singleton] at hn
  simp [World.setRow, Array.getElem?_modify, Ne.symm hn]⟩
def splice (cs : List Value) (o : Nat) (vs : List Value) : List Value := cs.take o ++ vs ++ cs.drop (o + vs.length)
theorem storeCells_put {g o T : Nat} {cs vs : List Value} (h : Blk w g T cs) (ho : o + vs.length ≤ cs.length) (h1 : ∀ v ∈ vs, v.oneCell' = true) :
  ∃ w', (storeCells ⟨g, o, none⟩ vs).run P w = .ok () w' ∧ Put w w' g T (splice cs o vs) := by
 have hr := run_storeCells_at P g o T vs 0 cs.toArray w h (by simpa using ho) h1
 refine ⟨_, hr, ⟨?_, setRow_mod w g _, by simp⟩⟩
 have := setRow_heap w g cs.toArray (splice cs o vs).toArray T (0, 0) h
 unfold Blk
 simpa [splice] using this

theorem s_st {v : Value} {g i T : Nat} {cs : List Value} (ht : scB P t = true) (B : Blk w g T cs) (hx : evO l x = some (.pointer (some ⟨g, i, none⟩))) (hy : evO l y = some v) (hv : v.oneCell' = true) (hi : i < cs.length)
  (h : ∀ w', Put w w' g T (cs.set i v) → WL P ops Q rest n ds l w') :
  WL P ops Q (⟨none, .store t x y, ty, pos, af, none⟩ :: rest) n ds l w := by
 obtain ⟨dsc, inf, h1, h2, h3, h4⟩ := scB_spec ht
 have hc : v.cells = #[v] := by cases v <;> first | rfl | (simp [Value.oneCell'] at hv)
 have hr : RunsU P l ⟨none, .store t x y, ty, pos, af, none⟩ w (w.setCell ⟨g, i, none⟩ v) := fun ρ hρ => by
  have hcell := B.cell (i := i) (v := cs[i]) (by simp [hi])
  have hf := B.frozen i
  have := run_store P w ⟨g, i, none⟩ v .plain hv
  rw [hcell] at this
  simp [hf] at this
  simp [execOp, Instr.storeAt, Instr.sureAddr, hρ _ _ hx, hρ _ _ hy, storeVar, hc, run_sizeOf_of h2, h4, storeCells, Addr.add_zero', this]
 exact su hr (h _ ⟨setCell_blk B, setCell_mod w g i v, by simp [World.setCell]⟩)
theorem s_sta {vs : List Value} {g i T c : Nat} {cs : List Value} (ht : agB P t c = true) (B : Blk w g T cs) (hx : evO l x = some (.pointer (some ⟨g, i, none⟩))) (hy : evO l y = some (.agg vs.toArray)) (hc : vs.length = c)
  (hv : ∀ v ∈ vs, v.oneCell' = true) (hi : i + vs.length ≤ cs.length)
  (h : ∀ w', Put w w' g T (splice cs i vs) → WL P ops Q rest n ds l w') :
  WL P ops Q (⟨none, .store t x y, ty, pos, af, none⟩ :: rest) n ds l w := by
 obtain ⟨dsc, inf, h1, h2, h3, h4⟩ := agB_spec ht
 obtain ⟨w1, hr, hp⟩ := storeCells_put (P := P) B hi hv
 have hr : RunsU P l ⟨none, .store t x y, ty, pos, af, none⟩ w w1 := fun ρ hρ => by
  simp [execOp, Instr.storeAt, Instr.sureAddr, hρ _ _ hx, hρ _ _ hy, storeVar, Value.cells, run_sizeOf_of h2, h4, hc, hr]
 exact su hr (h _ hp)
end
end Go.Proofs.YtknndpjacklkeaaGreatDoor.V

set_option linter.unusedVariables false
set_option linter.unusedSimpArgs false
namespace Go.Proofs.YtknndpjacklkeaaGreatDoor.V
open Go
/-! ## What values read as -/
inductive D where
 | v (x : Value)
 | sl (sz : Nat) (rows : List (List D))

mutual
def Rep (A : List Nat) (w : World) : D → Value → Prop
 | .v x, u => u = x ∧ x.oneCell' = true
 | .sl sz rows, u => ∃ ad c, u = .slice ad rows.length c ∧ rows.length ≤ c ∧ c ≤ maxLen ∧
   (rows ≠ [] → ∃ a, ad = some a ∧ a.block ∉ A ∧ a.block < w.heap.size ∧ RepRows A w sz a 0 rows)
def RepRows (A : List Nat) (w : World) (sz : Nat) (a : Addr) : Nat → List (List D) → Prop
 | _, [] => True
 | i, r :: rs => r.length = sz ∧ RepRow A w (a.add (i * sz)) 0 r ∧ RepRows A w sz a (i + 1) rs
def RepRow (A : List Nat) (w : World) (a : Addr) : Nat → List D → Prop
 | _, [] => True
 | j, d :: ds => (∃ u, w.cell? (a.add j) = some u ∧ Rep A w d u) ∧ RepRow A w a (j + 1) ds
end
def Reps (A : List Nat) (w : World) : List D → List Value → Prop
 | [], vs => vs = []
 | d :: ds, vs => ∃ u us, vs = u :: us ∧ Rep A w d u ∧ Reps A w ds us

section
variable {A A' M : List Nat} {w w' : World}
theorem add_block (a : Addr) (n : Nat) : (a.add n).block = a.block := by unfold Addr.add; split <;> rfl

mutual
theorem Rep.to (k : Mod M w w') (hM : ∀ x ∈ M, x ∈ A) (hA : ∀ x ∈ A', x ∈ A ∨ w.heap.size ≤ x) : ∀ (d : D) (u : Value), Rep A w d u → Rep A' w' d u
 | .v x, u, h => by simp only [Rep] at h ⊢; exact h
 | .sl sz rows, u, h => by
  simp only [Rep] at h ⊢
  obtain ⟨ad, c, h1, h2, h3, h4⟩ := h
  refine ⟨ad, c, h1, h2, h3, fun hn => ?_⟩
  obtain ⟨a, h5, h6, h7, h8⟩ := h4 hn
  exact ⟨a, h5, fun hx => by rcases hA _ hx with h9 | h9 <;> first | exact h6 h9 | omega, Nat.lt_of_lt_of_le h7 k.size, RepRows.to k hM hA sz a h6 h7 0 rows h8⟩
theorem RepRows.to (k : Mod M w w') (hM : ∀ x ∈ M, x ∈ A) (hA : ∀ x ∈ A', x ∈ A ∨ w.heap.size ≤ x) (sz : Nat) (a : Addr) (ha : a.block ∉ A) (hb : a.block < w.heap.size) : ∀ (i : Nat) (rows : List (List D)), RepRows A w sz a i rows → RepRows A' w' sz a i rows
 | _, [], _ => by simp only [RepRows]
 | i, r :: rs, h => by
  simp only [RepRows] at h ⊢
  exact ⟨h.1, RepRow.to k hM hA _ (by rw [add_block]; exact ha) (by rw [add_block]; exact hb) 0 r h.2.1, RepRows.to k hM hA sz a ha hb (i + 1) rs h.2.2⟩
theorem RepRow.to (k : Mod M w w') (hM : ∀ x ∈ M, x ∈ A) (hA : ∀ x ∈ A', x ∈ A ∨ w.heap.size ≤ x) (a : Addr) (ha : a.block ∉ A) (hb : a.block < w.heap.size) : ∀ (j : Nat) (r : List D), RepRow A w a j r → RepRow A' w' a j r
 | _, [], _ => by simp only [RepRow]
 | j, d :: ds, h => by
  simp only [RepRow] at h ⊢
  obtain ⟨⟨u, hc, hr⟩, ht⟩ := h
  refine ⟨⟨u, ?_, Rep.to k hM hA d u hr⟩, RepRow.to k hM hA a ha hb (j + 1) ds ht⟩
  rw [← hc]
  exact World.cell?_of_block (by rw [add_block]; exact k.block _ hb (fun hx => ha (hM _ hx)))
end
theorem Reps.to (k : Mod M w w') (hM : ∀ x ∈ M, x ∈ A) (hA : ∀ x ∈ A', x ∈ A ∨ w.heap.size ≤ x) : ∀ (ds : List D) (us : List Value), Reps A w ds us → Reps A' w' ds us
 | [], us, h => h
 | d :: ds, us, h => by
  simp only [Reps] at h ⊢
  obtain ⟨u, us', rfl, h1, h2⟩ := h
  exact ⟨u, us', rfl, Rep.to k hM hA d u h1, Reps.to k hM hA ds us' h2⟩

theorem Reps.length : ∀ {ds : List D} {us : List Value}, Reps A w ds us → us.length = ds.length
 | [], us, h => by simp only [Reps] at h; subst h; rfl
 | d :: ds, us, h => by
  simp only [Reps] at h
  obtain ⟨u, us', rfl, _, h2⟩ := h
  simp [h2.length]
theorem Rep.one : ∀ {d : D} {u : Value}, Rep A w d u → u.oneCell' = true
 | .v x, u, h => by simp only [Rep] at h; rw [h.1]; exact h.2
 | .sl sz rows, u, h => by
  simp only [Rep] at h
  obtain ⟨ad, c, h1, _⟩ := h
  subst h1
  rfl
theorem Reps.one : ∀ {ds : List D} {us : List Value}, Reps A w ds us → ∀ u ∈ us, u.oneCell' = true
 | [], us, h => by simp only [Reps] at h; subst h; intro u hu; cases hu
 | d :: ds, us, h => by
  simp only [Reps] at h
  obtain ⟨u, us', rfl, h1, h2⟩ := h
  intro x hx
  rcases List.mem_cons.1 hx with rfl | hx
  ·exact h1.one
  ·exact h2.one x hx
theorem Reps.append {ds ds' : List D} {us us' : List Value} (h : Reps A w ds us) (h' : Reps A w ds' us') : Reps A w (ds ++ ds') (us ++ us') := by
 induction ds generalizing us with
 | nil => simp only [Reps] at h; subst h; simpa using h'
 | cons d ds ih =>
  simp only [Reps] at h
  obtain ⟨u, us1, rfl, h1, h2⟩ := h
  simp only [List.cons_append, Reps]
  exact ⟨u, us1 ++ us', rfl, h1, ih h2⟩
theorem Reps.cut {ds ds' : List D} {us : List Value} (h : Reps A w (ds ++ ds') us) : Reps A w ds (us.take ds.length) ∧ Reps A w ds' (us.drop ds.length) := by
 induction ds generalizing us with
 | nil => exact ⟨by simp [Reps], by simpa using h⟩
 | cons d ds ih =>
  simp only [List.cons_append, Reps] at h
  obtain ⟨u, us1, rfl, h1, h2⟩ := h
  obtain ⟨i1, i2⟩ := ih h2
  exact ⟨by simp only [List.length_cons, List.take_succ_cons, Reps]; exact ⟨u, _, rfl, h1, i1⟩, by simpa using i2⟩
theorem Reps.nil_ : Reps A w [] [] := rfl
theorem Reps.cons_ {d : D} {ds : List D} {u : Value} {us : List Value} (h : Rep A w d u) (h' : Reps A w ds us) : Reps A w (d :: ds) (u :: us) := ⟨u, us, rfl, h, h'⟩
theorem Rep.v_ {x : Value} (h : x.oneCell' = true) : Rep A w (.v x) x := by simp only [Rep]; exact ⟨trivial, h⟩
theorem Rep.v_eq {x u : Value} (h : Rep A w (.v x) u) : u = x := by simp only [Rep] at h; exact h.1

theorem RepRow.cells {a : Addr} : ∀ {j : Nat} {r : List D}, RepRow A w a j r → ∃ us, Reps A w r us ∧ ∀ i u, us[i]? = some u → w.cell? (a.add (j + i)) = some u
 | j, [], _ => ⟨[], rfl, fun i u h => by simp at h⟩
 | j, d :: ds, h => by
  simp only [RepRow] at h
  obtain ⟨⟨u, hc, hr⟩, ht⟩ := h
  obtain ⟨us, h1, h2⟩ := ht.cells
  refine ⟨u :: us, ⟨u, us, rfl, hr, h1⟩, fun i x hx => ?_⟩
  cases i with
  | zero => simp at hx; subst hx; simpa using hc
  | succ i => have := h2 i x (by simpa using hx); rwa [show j + (i + 1) = j + 1 + i by omega]
theorem RepRow.of_cells {a : Addr} : ∀ {j : Nat} {r : List D} {us : List Value}, Reps A w r us → (∀ i u, us[i]? = some u → w.cell? (a.add (j + i)) = some u) → RepRow A w a j r
 | j, [], us, _, _ => by simp only [RepRow]
 | j, d :: ds, us, h, hc => by
  simp only [Reps] at h
  obtain ⟨u, us', rfl, h1, h2⟩ := h
  simp only [RepRow]
  exact ⟨⟨u, by simpa using hc 0 u (by simp), h1⟩, RepRow.of_cells h2 (fun i x hx => by have := hc (i + 1) x (by simpa using hx); rwa [show j + 1 + i = j + (i + 1) by omega])⟩
theorem RepRows.row {sz : Nat} {a : Addr} : ∀ {i : Nat} {rows : List (List D)}, RepRows A w sz a i rows → ∀ j r, rows[j]? = some r → r.length = sz ∧ RepRow A w (a.add ((i + j) * sz)) 0 r
 | i, [], _, j, r, hr => by simp at hr
 | i, r0 :: rs, h, j, r, hr => by
  simp only [RepRows] at h
  cases j with
  | zero => simp at hr; subst hr; exact ⟨h.1, by simpa using h.2.1⟩
  | succ j =>
   have := RepRows.row h.2.2 j r (by simpa using hr)
   rwa [show i + 1 + j = i + (j + 1) by omega] at this
theorem RepRows.of_rows {sz : Nat} {a : Addr} : ∀ {i : Nat} {rows : List (List D)}, (∀ j r, rows[j]? = some r → r.length = sz ∧ RepRow A w (a.add ((i + j) * sz)) 0 r) → RepRows A w sz a i rows
 | i, [], _ => by simp only [RepRows]
 | i, r0 :: rs, h => by
  simp only [RepRows]
  have h0 := h 0 r0 rfl
  exact ⟨h0.1, by simpa using h0.2, RepRows.of_rows fun j r hr => by have := h (j + 1) r (by simpa using hr); rwa [show i + (j + 1) = i + 1 + j by omega] at this⟩

theorem Rep.sl_ {sz : Nat} {rows : List (List D)} {u : Value} (h : Rep A w (.sl sz rows) u) : ∃ ad c, u = .slice ad rows.length c ∧ rows.length ≤ c ∧ c ≤ 9223372036854775807 := by
 simp only [Rep] at h
 obtain ⟨ad, c, h1, h2, h3, _⟩ := h
 exact ⟨ad, c, h1, h2, by simp only [maxLen] at h3; omega⟩
theorem Rep.at_ {sz : Nat} {rows : List (List D)} {ad : Option Addr} {n c i : Nat} {r : List D} (h : Rep A w (.sl sz rows) (.slice ad n c)) (hi : rows[i]? = some r) :
  ∃ a us, ad = some a ∧ Reps A w r us ∧ us.length = sz ∧ Cs w (a.add (i * sz)) us ∧ a.block ∉ A := by
 simp only [Rep] at h
 obtain ⟨ad', c', h1, h2, h3, h4⟩ := h
 injection h1 with h1 h5 h6
 subst h1
 obtain ⟨a, ha, hA, hb, hr⟩ := h4 (by intro he; subst he; simp at hi)
 obtain ⟨hl, hrow⟩ := hr.row i r hi
 rw [Nat.zero_add] at hrow
 obtain ⟨us, h7, h8⟩ := hrow.cells
 exact ⟨a, us, ha, h7, by rw [h7.length, hl], fun j v hj => by have := h8 j v hj; rwa [Nat.zero_add] at this, hA⟩
theorem Rep.sl_nil {sz : Nat} : Rep A w (.sl sz []) (.slice none 0 0) := by
 simp only [Rep]
 exact ⟨none, 0, rfl, Nat.le_refl _, by simp [maxLen], fun h => absurd rfl h⟩
theorem Rep.sl_mk {sz : Nat} {rows : List (List D)} {a : Addr} {n c : Nat} (hn : rows.length = n) (hc : n ≤ c) (hm : c ≤ maxLen) (hA : a.block ∉ A) (hb : a.block < w.heap.size)
  (h : ∀ i r, rows[i]? = some r → r.length = sz ∧ ∃ us, Reps A w r us ∧ Cs w (a.add (i * sz)) us) : Rep A w (.sl sz rows) (.slice (some a) n c) := by
 simp only [Rep]
 subst hn
 refine ⟨some a, c, rfl, hc, hm, fun _ => ⟨a, rfl, hA, hb, RepRows.of_rows fun j r hr => ?_⟩⟩
 obtain ⟨h1, us, h2, h3⟩ := h j r hr
 exact ⟨h1, RepRow.of_cells h2 (fun i u hu => by rw [Nat.zero_add, Nat.zero_add]; exact h3 i u hu)⟩
theorem Reps.row_of_flat : ∀ {sz : Nat} {rows : List (List D)} {us : List Value}, (∀ r ∈ rows, r.length = sz) → Reps A w rows.flatten us → ∀ i r, rows[i]? = some r → Reps A w r ((us.drop (i * sz)).take sz)
 | sz, [], us, _, _, i, r, hr => by simp at hr
 | sz, r0 :: rs, us, hl, h, i, r, hr => by
  simp only [List.flatten_cons] at h
  obtain ⟨h1, h2⟩ := h.cut
  have h0 := hl r0 (by simp)
  rw [h0] at h1 h2
  cases i with
  | zero => simp at hr; subst hr; simpa using h1
  | succ i =>
   have := Reps.row_of_flat (fun r hr => hl r (by simp [hr])) h2 i r (by simpa using hr)
   rwa [List.drop_drop, show sz + i * sz = (i + 1) * sz by rw [Nat.add_mul]; omega] at this
end
end Go.Proofs.YtknndpjacklkeaaGreatDoor.V
