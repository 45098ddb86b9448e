/-
  A part of the proof: walks of functions, and the plain laws of what they compute. No condition of its own.
-/
import Derived.WalkKit
import Derived.Below
import Derived.Still
import Derived.KernelRfl
set_option linter.unusedVariables false
set_option linter.unusedSimpArgs false
namespace Go.Proofs.Ytccjjkdogljmpaa.V
open Go

/-! ## Frames -/
def lk (t : Nat) : List (Nat × Value) → Option Value
  | [] => none
  | (s, v) :: r => match Nat.beq s t with
    | true => some v
    | false => lk t r

def evO (l : List (Nat × Value)) : Operand → Option Value
  | .tmp t => lk t l
  | .const v => some v
  | .global g => some (.pointer (some ⟨g, 0, none⟩))
  | .func f => some (.func (.func f) #[] #[])
def evL (l : List (Nat × Value)) : List Operand → Option (List Value)
  | [] => some []
  | x :: r => match evO l x, evL l r with
    | some v, some vs => some (v :: vs)
    | _, _ => none

structure Has (n : Nat) (ds : List Deferred) (l : List (Nat × Value)) (a : Act) : Prop where
  size : a.tmps.size = n
  defers : a.defers = ds
  get : ∀ t v, lk t l = some v → a.tmps[t]? = some v

section
variable {P : Program} {ops : Array Oper} {Q : Exit → Act → World → Prop} {n : Nat} {ds : List Deferred} {l : List (Nat × Value)} {w w' : World} {a : Act}

theorem Has.ev (h : Has n ds l a) {x : Operand} {v : Value} (hx : evO l x = some v) : a.eval x = v := by
  cases x with
  | tmp t => simp only [evO] at hx; simp [Act.eval, h.get t v hx]
  | const u => simpa [evO, Act.eval] using hx
  | global g => simpa [evO, Act.eval] using hx
  | func f => simpa [evO, Act.eval] using hx

theorem Has.put (h : Has n ds l a) {d : Nat} (hd : Nat.blt d n = true) (v : Value) : Has n ds ((d, v) :: l) (a.put (some d) v) := by
  refine ⟨by simp [Act.put, h.size], by simp [Act.put, h.defers], fun t u hu => ?_⟩
  have hdn : d < n := by simpa [Nat.blt_eq] using hd
  simp only [lk] at hu
  by_cases hdt : d = t
  · subst hdt
    simp at hu
    subst hu
    simp [Act.put, h.size, hdn]
  · have : Nat.beq d t = false := by
      cases hb : Nat.beq d t
      · rfl
      · exact absurd (Nat.eq_of_beq_eq_true hb) hdt
    rw [this] at hu
    simp only at hu
    rw [← h.get t u hu]
    simp [Act.put, Array.getElem?_setIfInBounds_ne hdt]

def Sub (l : List (Nat × Value)) : List (Nat × Value) → Prop
  | [] => True
  | (t, v) :: r => lk t l = some v ∧ Sub l r
theorem Sub.lk_ {l l' : List (Nat × Value)} (h : Sub l l') : ∀ t v, lk t l' = some v → lk t l = some v := by
  induction l' with
  | nil => intro t v hv; simp [lk] at hv
  | cons p r ih =>
    obtain ⟨s, u⟩ := p
    intro t v hv
    simp only [lk] at hv
    cases hb : Nat.beq s t with
    | true =>
      rw [hb] at hv
      have hst := Nat.eq_of_beq_eq_true hb
      subst hst
      simp at hv
      subst hv
      exact h.1
    | false =>
      rw [hb] at hv
      exact ih h.2 t v hv
theorem Has.sub (h : Has n ds l a) {l' : List (Nat × Value)} (hs : Sub l l') : Has n ds l' a := ⟨h.size, h.defers, fun t v hv => h.get t v (hs.lk_ t v hv)⟩

/-! ## Goals over whatever frame has what is known -/
def WL (P : Program) (ops : Array Oper) (Q : Exit → Act → World → Prop) (rest : List Oper) (n : Nat) (ds : List Deferred) (l : List (Nat × Value)) (w : World) : Prop :=
  ∀ a, Has n ds l a → wpList P ops Q rest a w
def WC (P : Program) (c : Code) (Q : Exit → Act → World → Prop) (n : Nat) (ds : List Deferred) (l : List (Nat × Value)) (w : World) : Prop :=
  ∀ a, Has n ds l a → c.wp P Q a w
def WE (Q : Exit → Act → World → Prop) (e : Exit) (n : Nat) (ds : List Deferred) (l : List (Nat × Value)) (w : World) : Prop :=
  ∀ a, Has n ds l a → Q e a w

theorem WL.sub {rest : List Oper} {l' : List (Nat × Value)} (hs : Sub l l') (h : WL P ops Q rest n ds l' w) : WL P ops Q rest n ds l w := fun a ha => h a (ha.sub hs)
theorem WC.sub {c : Code} {l' : List (Nat × Value)} (hs : Sub l l') (h : WC P c Q n ds l' w) : WC P c Q n ds l w := fun a ha => h a (ha.sub hs)
theorem WE.sub {e : Exit} {l' : List (Nat × Value)} (hs : Sub l l') (h : WE Q e n ds l' w) : WE Q e n ds l w := fun a ha => h a (ha.sub hs)

/-! ### Control -/
theorem c_seq {x y : Code} (h : ∀ K : Act → World → Prop, (∀ n ds l w, WC P y Q n ds l w → ∀ a, Has n ds l a → K a w) → WC P x (Exit.then K Q) n ds l w) : WC P (.seq x y) Q n ds l w :=
  fun a ha => wp_seq (h (fun a w => y.wp P Q a w) (fun _ _ _ _ h a ha => h a ha) a ha)
theorem c_skip (h : WE Q .normal n ds l w) : WC P .skip Q n ds l w := fun a ha => wp_skip (h a ha)
theorem c_ret (h : WE Q .ret n ds l w) : WC P .ret Q n ds l w := fun a ha => wp_ret (h a ha)
theorem c_exit {i : Nat} (h : WE Q (.exit i) n ds l w) : WC P (.exit i) Q n ds l w := fun a ha => wp_exit (h a ha)
theorem c_block {i : Nat} {c : Code} (h : WC P c (Exit.inBlock i Q) n ds l w) : WC P (.block i c) Q n ds l w := fun a ha => wp_block (h a ha)
theorem c_cond {c : Operand} {x y : Code} {b : Bool} (hc : evO l c = some (.bool b)) (ht : b = true → WC P x Q n ds l w) (hf : b = false → WC P y Q n ds l w) : WC P (.cond c x y) Q n ds l w :=
  fun a ha => wp_cond_split (ha.ev hc) (fun h => ht h a ha) (fun h => hf h a ha)
theorem c_if {c : Operand} {x y : Code} {p : Prop} [Decidable p] (hc : evO l c = some (.bool (decide p))) (ht : p → WC P x Q n ds l w) (hf : ¬ p → WC P y Q n ds l w) : WC P (.cond c x y) Q n ds l w :=
  c_cond hc (fun h => ht (of_decide_eq_true h)) (fun h => hf (of_decide_eq_false h))
theorem c_true {c : Operand} {x y : Code} (hc : evO l c = some (.bool true)) (ht : WC P x Q n ds l w) : WC P (.cond c x y) Q n ds l w :=
  c_cond hc (fun _ => ht) (fun h => by cases h)
theorem c_false {c : Operand} {x y : Code} (hc : evO l c = some (.bool false)) (hf : WC P y Q n ds l w) : WC P (.cond c x y) Q n ds l w :=
  c_cond hc (fun h => by cases h) (fun _ => hf)

/-- the exits of what stands around -/
theorem e_K {K : Act → World → Prop} (h : ∀ a, Has n ds l a → K a w) : WE (Exit.then K Q) .normal n ds l w := fun a ha => h a ha
theorem e_then {K : Act → World → Prop} {e : Exit} (he : e ≠ .normal) (h : WE Q e n ds l w) : WE (Exit.then K Q) e n ds l w := fun a ha => by
  have := h a ha
  cases e <;> first | exact this | exact absurd rfl he
theorem e_hit {i : Nat} (h : WE Q .normal n ds l w) : WE (Exit.inBlock i Q) (.exit i) n ds l w := fun a ha => by simpa [Exit.inBlock] using h a ha
theorem e_miss {i j : Nat} (hj : Nat.beq j i = false) (h : WE Q (.exit j) n ds l w) : WE (Exit.inBlock i Q) (.exit j) n ds l w := fun a ha => by
  have hne : j ≠ i := fun e => by subst e; simp at hj
  simpa [Exit.inBlock, hne] using h a ha
theorem e_in {i : Nat} {e : Exit} (he : ∀ j, e ≠ .exit j) (h : WE Q e n ds l w) : WE (Exit.inBlock i Q) e n ds l w := fun a ha => by
  have := h a ha
  cases e <;> first | exact this | exact absurd rfl (he _)

/-- A loop: 'σ' is what varies from round to round. -/
theorem c_loop {c : Code} {σ : Type} (L : σ → List (Nat × Value)) (I : σ → World → Prop) (μ : σ → Nat) (s0 : σ) (hs : Sub l (L s0)) (h0 : I s0 w)
    (round : ∀ s w, I s w → WC P c (Exit.then (fun a' w' => ∃ s', Has n ds (L s') a' ∧ I s' w' ∧ μ s' < μ s) Q) n ds (L s) w) : WC P (.loop c) Q n ds l w := by
  intro a ha
  have key : ∀ m, ∀ s a w, μ s = m → Has n ds (L s) a → I s w → ∀ (b : Frame) (k : List Item) (cs : List Frame),
      ∃ e a' w', Q e a' w' ∧ Arrives P (lone (b.at a (.code c :: .inLoop c :: k)) cs w) b k cs e a' w' := by
    intro m
    induction m using Nat.strongRecOn with
    | _ m ih =>
      intro s a w hm ha hI b k cs
      obtain ⟨e, a₁, w₁, hq, harr⟩ := round s w hI a ha b (.inLoop c :: k) cs
      cases e with
      | normal =>
        obtain ⟨s', ha', hI', hlt⟩ := hq
        obtain ⟨e₂, a₂, w₂, hq₂, harr₂⟩ := ih (μ s') (hm ▸ hlt) s' a₁ w₁ rfl ha' hI' b k cs
        exact ⟨e₂, a₂, w₂, hq₂, .of_steps (Steps.trans harr (.one step_inLoop)) harr₂⟩
      | exit id => exact ⟨_, a₁, w₁, hq, .pass (x := .inLoop c) rfl (fun _ _ => .inl (by simp)) harr⟩
      | goto l => exact ⟨_, a₁, w₁, hq, .pass (x := .inLoop c) rfl (fun _ _ => .inl (by simp)) harr⟩
      | ret => exact ⟨_, a₁, w₁, hq, .pass (x := .inLoop c) rfl (fun _ _ => .inl (by simp)) harr⟩
      | panic ch => exact ⟨_, a₁, w₁, hq, .pass (x := .inLoop c) rfl (fun _ _ => .inl (by simp)) harr⟩
      | outgrown => exact ⟨_, a₁, w₁, hq, .pass (x := .inLoop c) rfl (fun _ _ => .inl (by simp)) harr⟩
  intro b k cs
  obtain ⟨e, a', w', hq, harr⟩ := key _ s0 a w rfl (ha.sub hs) h0 b k cs
  exact ⟨e, a', w', hq, .of_steps (.one step_loop) harr⟩
/-- the end of a round -/
theorem e_round {σ : Type} {L : σ → List (Nat × Value)} {I : σ → World → Prop} {μ : σ → Nat} {s : σ} (s' : σ) (hs : Sub l (L s')) (hI : I s' w) (hm : μ s' < μ s) :
    WE (Exit.then (fun a' w' => ∃ s', Has n ds (L s') a' ∧ I s' w' ∧ μ s' < μ s) Q) .normal n ds l w := fun a ha => ⟨s', ha.sub hs, hI, hm⟩

/-! ### Regions, and their operations -/
theorem c_region {id : Nat} {lo : List Oper} (h : WL P lo.toArray Q lo n ds l w) : WC P (.region id lo.toArray false) Q n ds l w := fun a ha => wp_region_lit (h a ha)
theorem l_nil (h : WE Q .normal n ds l w) : WL P ops Q [] n ds l w := fun a ha => h a ha

/-- An operation's run, whatever frame it is that has what is known. -/
def Runs (P : Program) (l : List (Nat × Value)) (o : Oper) (w : World) (v : Value) (w' : World) : Prop :=
  ∀ ρ : Operand → Value, (∀ x u, evO l x = some u → ρ x = u) → (execOp ρ o).run P w = .ok (.value v) w'
def RunsU (P : Program) (l : List (Nat × Value)) (o : Oper) (w : World) (w' : World) : Prop :=
  ∀ ρ : Operand → Value, (∀ x u, evO l x = some u → ρ x = u) → (execOp ρ o).run P w = .ok .skip w'
def RunsC (P : Program) (l : List (Nat × Value)) (o : Oper) (w : World) (f : FuncId) (args : Array Value) : Prop :=
  ∀ ρ : Operand → Value, (∀ x u, evO l x = some u → ρ x = u) → (execOp ρ o).run P w = .ok (.enter f args) w

variable {rest : List Oper} {d : Nat} {op : Op} {ty : TypeId} {pos : String} {af : Array Edge}

theorem sv {v : Value} (hr : Runs P l ⟨some d, op, ty, pos, af, none⟩ w v w') (hd : Nat.blt d n = true) (h : WL P ops Q rest n ds ((d, v) :: l) w') :
    WL P ops Q (⟨some d, op, ty, pos, af, none⟩ :: rest) n ds l w := by
  intro a ha
  refine wpList_plain rfl fun K hK => ?_
  have := hr a.eval (fun x u hx => ha.ev hx)
  simp only [Oper.wp, this, Oper.upon]
  exact hK _ _ (h _ (ha.put hd v))
theorem su (hr : RunsU P l ⟨none, op, ty, pos, af, none⟩ w w') (h : WL P ops Q rest n ds l w') :
    WL P ops Q (⟨none, op, ty, pos, af, none⟩ :: rest) n ds l w := by
  intro a ha
  refine wpList_plain rfl fun K hK => ?_
  have := hr a.eval (fun x u hx => ha.ev hx)
  simp only [Oper.wp, this, Oper.upon]
  exact hK _ _ (h _ ha)

/-- What a call hands back, and the world behind it. -/
def Ret (φ : Value → World → Prop) : Ending → World → Prop
  | .returned v, w => φ v w
  | _, _ => False

theorem sc {f : FuncId} {args : Array Value} {φ : Value → World → Prop} (hr : RunsC P l ⟨some d, op, ty, pos, af, none⟩ w f args) (hc : Calls P f args w (Ret φ)) (hd : Nat.blt d n = true)
    (h : ∀ v w', φ v w' → WL P ops Q rest n ds ((d, v) :: l) w') :
    WL P ops Q (⟨some d, op, ty, pos, af, none⟩ :: rest) n ds l w := by
  intro a ha
  refine wpList_plain rfl fun K hK => ?_
  have := hr a.eval (fun x u hx => ha.ev hx)
  simp only [Oper.wp, this, Oper.upon]
  refine hc.mono fun e w' he => ?_
  cases e with
  | returned v => exact hK _ _ (h v w' he _ (ha.put hd v))
  | panicked c => exact he.elim
  | outgrown => exact he.elim
theorem scu {f : FuncId} {args : Array Value} {φ : Value → World → Prop} (hr : RunsC P l ⟨none, op, ty, pos, af, none⟩ w f args) (hc : Calls P f args w (Ret φ))
    (h : ∀ v w', φ v w' → WL P ops Q rest n ds l w') :
    WL P ops Q (⟨none, op, ty, pos, af, none⟩ :: rest) n ds l w := by
  intro a ha
  refine wpList_plain rfl fun K hK => ?_
  have := hr a.eval (fun x u hx => ha.ev hx)
  simp only [Oper.wp, this, Oper.upon]
  refine hc.mono fun e w' he => ?_
  cases e with
  | returned v => exact hK _ _ (h v w' he _ ha)
  | panicked c => exact he.elim
  | outgrown => exact he.elim

end
end Go.Proofs.Ytccjjkdogljmpaa.V
