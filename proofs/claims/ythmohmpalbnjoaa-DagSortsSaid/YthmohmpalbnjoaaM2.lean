/-
  A part of the proof: walks of functions. No condition of its own.
-/
import Derived.Test.YthmohmpalbnjoaaM1
import Derived.StillTail
import Derived.Laws.StructEq
set_option linter.unusedVariables false
set_option linter.unusedSimpArgs false
namespace Go.Proofs.Ythmohmpalbnjoaa.V
open Go
/-! ## Regions that draw their order

Of each operation's value something is known that lasts in all later worlds; an operation uses what is known of those slots alone that it looks at. So one walk of the order of the text serves every order. -/

/-- what is known of slots' values -/
abbrev Kn := Nat → Option (Value → World → Prop)
def Kn.put (N : Kn) (o : Oper) (V : Value → World → Prop) : Kn := match o.dst with
  | some d => fun t => if t = d then some V else N t
  | none => N
/-- .. holds of the slots that 'o' looks at -/
def Kn.on (ops : Array Oper) (N : Kn) (o : Oper) (a : Act) (w : World) : Prop := ∀ t V, t ∈ o.looksAt ops → N t = some V → V (a.tmps.getD t undef) w
def Kn.all (N : Kn) (n : Nat) (a : Act) (w : World) : Prop := a.tmps.size = n ∧ ∀ t V, N t = some V → V (a.tmps.getD t undef) w

def TameUpon (P : Program) (R : World → World → Prop) (w : World) (V : Value → World → Prop) : Result Next → Prop
  | .ok (.value u) w' => R w w' ∧ V u w'
  | .ok .skip w' => R w w' ∧ V undef w'
  | .ok (.enter f args) w' => w' = w ∧ Calls P f args w (Ret fun v w'' => R w w'' ∧ V v w'')
  | _ => False

section
variable {P : Program} {ops : Array Oper} {md : Region.Mode} {R : World → World → Prop} {C : World → Prop} {n : Nat} {ds : List Deferred}

/-- WHAT IS ASKED OF ONE OPERATION. -/
structure J (P : Program) (ops : Array Oper) (R : World → World → Prop) (C : World → Prop) (n : Nat) (N : Kn) (o : Oper) (V : Value → World → Prop) : Prop where
  lasts : ∀ v w w', R w w' → V v w → V v w'
  fits : ∀ d, o.dst = some d → d < n
  run : ∀ a w, C w → Kn.on ops N o a w →
    if Region.wanted o (yielded ops a.tmps) then TameUpon P R w V ((execOp a.eval o).run P w) else V undef w

/-- whatever order is picked from here on -/
def AnyT (P : Program) (md : Region.Mode) (ops : Array Oper) (R : World → World → Prop) (C : World → Prop) (n : Nat) (Fin : Kn → Prop) : Nat → Array Bool → Kn → Prop
  | 0, listed, N => Region.ready md ops listed = [] ∧ Fin N
  | fuel + 1, listed, N => (Region.ready md ops listed = [] → Fin N) ∧
    ∀ i ∈ Region.ready md ops listed, ∀ o, ops[i]? = some o → ∃ V, J P ops R C n N o V ∧ AnyT P md ops R C n Fin fuel (listed.setIfInBounds i true) (N.put o V)

/-- 'R' is a preorder under which 'C' lasts. -/
structure Later (R : World → World → Prop) (C : World → Prop) : Prop where
  refl : ∀ w, R w w
  trans : ∀ a b c, R a b → R b c → R a c
  keeps : ∀ w w', R w w' → C w → C w'

theorem put_all {N : Kn} {o : Oper} {V : Value → World → Prop} {a : Act} {w w' : World} {v : Value} (hl : ∀ t U, N t = some U → ∀ v w w', R w w' → U v w → U v w') (hR : R w w') (hN : N.all n a w) (hV : V v w') (hd : ∀ d, o.dst = some d → d < n) : (N.put o V).all n (a.put o.dst v) w' := by
  unfold Kn.put
  cases ho : o.dst with
  | none => exact ⟨hN.1, fun t U hU => hl t U hU _ _ _ hR (hN.2 t U hU)⟩
  | some d =>
    refine ⟨by simp [Act.put, hN.1], fun t U hU => ?_⟩
    dsimp only at hU
    by_cases htd : t = d
    · subst htd
      rw [if_pos rfl] at hU
      injection hU with hU
      subst hU
      have := hd t ho
      simp [Act.put, hN.1, this]
      exact hV
    · rw [if_neg htd] at hU
      have := hl t U hU _ _ _ hR (hN.2 t U hU)
      simpa [Act.put, Array.getElem?_setIfInBounds_ne (Ne.symm htd)] using this

def Kn.lasts (R : World → World → Prop) (N : Kn) : Prop := ∀ t U, N t = some U → ∀ v w w', R w w' → U v w → U v w'
theorem Kn.lasts.put {N : Kn} (h : N.lasts R) {o : Oper} {V : Value → World → Prop} (hV : ∀ v w w', R w w' → V v w → V v w') : (N.put o V).lasts R := by
  intro t U hU
  unfold Kn.put at hU
  cases ho : o.dst with
  | none => rw [ho] at hU; exact h t U hU
  | some d =>
    rw [ho] at hU
    dsimp only at hU
    split at hU
    · injection hU with hU; subst hU; exact hV
    · exact h t U hU

theorem wpOp_of_J {o : Oper} {i : Nat} {N : Kn} {V : Value → World → Prop} {a : Act} {w : World} {Q : Exit → Act → World → Prop} {K : Act → World → Prop} (hL : Later R C) (hNl : N.lasts R) (hi : ops[i]? = some o) (hJ : J P ops R C n N o V) (hC : C w) (hN : N.all n a w)
    (hK : ∀ a' w', (a'.defers = a.defers) → C w' → R w w' → (N.put o V).all n a' w' → K a' w') : wpOp P ops Q i K a w := by
  unfold wpOp
  simp only [hi]
  have hr := hJ.run a w hC (fun t U _ hU => hN.2 t U hU)
  have hdef : ∀ v, (a.put o.dst v).defers = a.defers := fun v => by cases o.dst <;> rfl
  split
  · rename_i hw
    rw [if_pos hw] at hr
    refine .inl ?_
    unfold Oper.wp
    generalize (execOp a.eval o).run P w = r at *
    cases r with
    | halt h w' => exact hr.elim
    | ok x w' =>
      cases x <;> simp only [TameUpon] at hr <;> simp only [Oper.upon]
      case value u => exact hK _ _ (hdef _) (hL.keeps _ _ hr.1 hC) hr.1 (put_all hNl hr.1 hN hr.2 hJ.fits)
      case skip => exact hK _ _ (hdef _) (hL.keeps _ _ hr.1 hC) hr.1 (put_all hNl hr.1 hN hr.2 hJ.fits)
      case enter f args =>
        obtain ⟨rfl, hc⟩ := hr
        refine hc.mono fun e w'' he => ?_
        cases e with
        | returned v => exact hK _ _ (hdef _) (hL.keeps _ _ he.1 hC) he.1 (put_all hNl he.1 hN he.2 hJ.fits)
        | panicked c => exact he.elim
        | outgrown => exact he.elim
  · rename_i hw
    rw [if_neg hw] at hr
    exact hK _ _ (hdef _) hC (hL.refl w) (put_all hNl (hL.refl w) hN hr hJ.fits)

theorem wpAny_of_T {Q : Exit → Act → World → Prop} {Fin : Kn → Prop} {w0 : World} {ds : List Deferred} (hL : Later R C)
    (hFin : ∀ N a w, N.lasts R → a.defers = ds → C w → R w0 w → N.all n a w → Fin N → Q .normal a w) : ∀ (fuel : Nat) (listed : Array Bool) (N : Kn) (a : Act) (w : World), N.lasts R → a.defers = ds → C w → R w0 w → N.all n a w →
    AnyT P md ops R C n Fin fuel listed N → wpAny P md ops Q fuel listed a w
  | 0, listed, N, a, w, h0, h1, h2, h3, h4, h => ⟨h.1, hFin N a w h0 h1 h2 h3 h4 h.2⟩
  | fuel + 1, listed, N, a, w, h0, h1, h2, h3, h4, h => by
    refine ⟨fun hr => hFin N a w h0 h1 h2 h3 h4 (h.1 hr), fun i hi => ?_⟩
    obtain ⟨_, o, ho, _⟩ := mem_ready.1 hi
    obtain ⟨V, hJ, hrest⟩ := h.2 i hi o ho
    exact wpOp_of_J hL h0 ho hJ h2 h4 fun a' w' hd hC hR hN => wpAny_of_T hL hFin fuel _ _ a' w' (h0.put hJ.lasts) (hd.trans h1) hC (hL.trans _ _ _ h3 hR) hN hrest

/-- an operation that looks at no slot that the other writes is asked the same, whether or not that one came up -/
theorem J.past {N : Kn} {o o' : Oper} {V V' : Value → World → Prop} (h : J P ops R C n (N.put o' V') o V) (hn : ∀ d, o'.dst = some d → d ∉ o.looksAt ops) : J P ops R C n N o V := by
  refine ⟨h.lasts, h.fits, fun a w hC hN => h.run a w hC fun t U ht hU => ?_⟩
  unfold Kn.put at hU
  cases hd : o'.dst with
  | none => rw [hd] at hU; exact hN t U ht hU
  | some d =>
    rw [hd] at hU
    dsimp only at hU
    split at hU
    · rename_i he; subst he; exact absurd ht (hn _ hd)
    · exact hN t U ht hU
theorem J.ahead {N : Kn} {o o' : Oper} {V V' : Value → World → Prop} (h : J P ops R C n N o V) (hn : ∀ d, o'.dst = some d → d ∉ o.looksAt ops) : J P ops R C n (N.put o' V') o V := by
  refine ⟨h.lasts, h.fits, fun a w hC hN => h.run a w hC fun t U ht hU => ?_⟩
  refine hN t U ht ?_
  unfold Kn.put
  cases hd : o'.dst with
  | none => exact hU
  | some d =>
    dsimp only
    rw [if_neg (fun he => by subst he; exact hn _ hd ht)]
    exact hU
theorem Kn.put_comm (N : Kn) {o o' : Oper} (V V' : Value → World → Prop) (h : ∀ d, o.dst = some d → o'.dst ≠ some d) : (N.put o V).put o' V' = (N.put o' V').put o V := by
  unfold Kn.put
  cases ho : o.dst with
  | none => cases o'.dst <;> rfl
  | some d =>
    cases ho' : o'.dst with
    | none => rfl
    | some d' =>
      have hne : d' ≠ d := fun e => h d ho (by rw [ho', e])
      funext t
      dsimp only
      by_cases h1 : t = d
      · subst h1
        by_cases h2 : t = d'
        · exact absurd h2.symm hne
        · simp [h2]
      · simp [h1]

theorem AnyT_first {Fin : Kn → Prop} {i : Nat} {oi : Oper} {V : Value → World → Prop} (hi : ops[i]? = some oi) :
    ∀ (fuel : Nat) (listed : Array Bool) (N : Kn),
      (∀ j oj, ops[j]? = some oj → j ≠ i → listed.getD j true = false → (∀ e ∈ oj.after, Region.binds md e = true → e.on ≠ i) → oi.apart ops oj = true) →
      i ∈ Region.ready md ops listed → J P ops R C n N oi V →
      AnyT P md ops R C n Fin fuel (listed.setIfInBounds i true) (N.put oi V) → AnyT P md ops R C n Fin (fuel + 1) listed N := by
  intro fuel
  induction fuel with
  | zero =>
    intro listed N _ hr hJ H
    refine ⟨fun h => (by rw [h] at hr; cases hr), fun j hj o ho => ?_⟩
    by_cases hji : j = i
    · subst hji
      have : o = oi := Option.some.inj (ho.symm.trans hi)
      subst this
      exact ⟨V, hJ, H⟩
    · have := ready_mono hj hji
      rw [H.1] at this
      cases this
  | succ fuel ih =>
    intro listed N hfree hr hJ H
    refine ⟨fun h => (by rw [h] at hr; cases hr), fun j hj o ho => ?_⟩
    by_cases hji : j = i
    · subst hji
      have : o = oi := Option.some.inj (ho.symm.trans hi)
      subst this
      exact ⟨V, hJ, H⟩
    · obtain ⟨Vj, hJj, hrest⟩ := H.2 j (ready_mono hj hji) o ho
      obtain ⟨hjun, oj, hoj, hall⟩ := mem_ready.1 hj
      have : o = oj := Option.some.inj (ho.symm.trans hoj)
      subst this
      have hnot : ∀ e ∈ o.after, Region.binds md e = true → e.on ≠ i := fun e he hb heq => by
        have h1 := hall e he hb
        have h0 := (mem_ready.1 hr).1
        rw [heq] at h1
        rcases Nat.lt_or_ge i listed.size with h' | h'
        · simp [h'] at h0 h1; rw [h0] at h1; cases h1
        · simp [Array.getElem?_eq_none h'] at h1
      obtain ⟨a1, a2, a3⟩ := Oper.apart_spec (hfree j o hoj hji hjun hnot)
      refine ⟨Vj, hJj.past a1, ih (listed.setIfInBounds j true) (N.put o Vj) (fun k ok hk hki hun hno => ?_) (ready_mono hr (Ne.symm hji)) (hJ.ahead a3) ?_⟩
      · refine hfree k ok hk hki ?_ hno
        by_cases hjk : j = k
        · subst hjk; exact hjun
        · rw [getD_set_ne true hjk] at hun; exact hun
      · rw [Array.setIfInBounds_comm _ _ hji, ← Kn.put_comm N V Vj a2]
        exact hrest

/-- THE WALK, in the order of the text -/
def TW (P : Program) (ops : Array Oper) (R : World → World → Prop) (C : World → Prop) (n : Nat) (Fin : Kn → Prop) : List Oper → Kn → Prop
  | [], N => Fin N
  | o :: rest, N => ∃ V, J P ops R C n N o V ∧ TW P ops R C n Fin rest (N.put o V)

theorem AnyT_lex {Fin : Kn → Prop} : ∀ (l : List Oper) (k : Nat) (listed : Array Bool) (N : Kn), (∀ j, l[j]? = ops[k + j]?) →
    Region.lexFrom md ops l.length k listed = true → TW P ops R C n Fin l N → AnyT P md ops R C n Fin l.length listed N
  | [], _, _, _, _, hB, h => ⟨by simpa [Region.lexFrom] using hB, h⟩
  | o :: l, k, listed, N, hl, hB, h => by
    have h0 : ops[k]? = some o := by simpa using (hl 0).symm
    simp only [List.length_cons, Region.lexFrom, Bool.and_eq_true] at hB
    obtain ⟨⟨hr, hf⟩, hB'⟩ := hB
    obtain ⟨V, hJ, hrest⟩ := h
    exact AnyT_first h0 l.length listed N (Region.free_spec h0 hf) (by simpa using hr) hJ
      (AnyT_lex l (k + 1) _ _ (fun j => by have := hl (j + 1); simpa [Nat.add_assoc, Nat.add_comm 1 j] using this) hB' hrest)

/-! ### .. with operations behind it that come one behind the other -/
def AnyTL (P : Program) (md : Region.Mode) (ops : Array Oper) (R : World → World → Prop) (C : World → Prop) (n m : Nat) (L : Array Bool → Kn → Prop) : Nat → Array Bool → Kn → Prop
  | 0, listed, N => L listed N
  | f + 1, listed, N => Region.ready md ops listed ≠ [] ∧
    ∀ i ∈ Region.ready md ops listed, i < m ∧ ∀ o, ops[i]? = some o → ∃ V, J P ops R C n N o V ∧ AnyTL P md ops R C n m L f (listed.setIfInBounds i true) (N.put o V)

theorem wpAny_of_TL {Q : Exit → Act → World → Prop} {L : Array Bool → Kn → Prop} {w0 : World} {ds : List Deferred} {m g : Nat} (hL : Later R C)
    (hFin : ∀ listed N a w, N.lasts R → a.defers = ds → C w → R w0 w → N.all n a w → L listed N → wpAny P md ops Q g listed a w) : ∀ (f : Nat) (listed : Array Bool) (N : Kn) (a : Act) (w : World), N.lasts R → a.defers = ds → C w → R w0 w → N.all n a w →
    AnyTL P md ops R C n m L f listed N → wpAny P md ops Q (f + g) listed a w
  | 0, listed, N, a, w, h0, h1, h2, h3, h4, h => by rw [Nat.zero_add]; exact hFin listed N a w h0 h1 h2 h3 h4 h
  | f + 1, listed, N, a, w, h0, h1, h2, h3, h4, h => by
    rw [show f + 1 + g = (f + g) + 1 by omega]
    refine ⟨fun hr => absurd hr h.1, fun i hi => ?_⟩
    obtain ⟨_, o, ho, _⟩ := mem_ready.1 hi
    obtain ⟨V, hJ, hrest⟩ := (h.2 i hi).2 o ho
    exact wpOp_of_J hL h0 ho hJ h2 h4 fun a' w' hd hC hR hN => wpAny_of_TL hL hFin f _ _ a' w' (h0.put hJ.lasts) (hd.trans h1) hC (hL.trans _ _ _ h3 hR) hN hrest

theorem AnyTL_first {m i : Nat} {oi : Oper} {V : Value → World → Prop} {L : Array Bool → Kn → Prop} (hi : ops[i]? = some oi)
    (hs : Region.sinkB md ops m = true) (hc : Region.chainB md ops m = true) (hn : m < ops.size) (hin : i < m)
    (hdone : ∀ listed N, L listed N → ∀ j ∈ Region.ready md ops listed, m ≤ j) :
    ∀ (f : Nat) (listed : Array Bool) (N : Kn), HeadInv md ops m listed →
      (∀ j oj, ops[j]? = some oj → j ≠ i → listed.getD j true = false → (∀ e ∈ oj.after, Region.binds md e = true → e.on ≠ i) → oi.apart ops oj = true) →
      i ∈ Region.ready md ops listed → J P ops R C n N oi V →
      AnyTL P md ops R C n m L f (listed.setIfInBounds i true) (N.put oi V) → AnyTL P md ops R C n m L (f + 1) listed N := by
  intro f
  induction f with
  | zero =>
    intro listed N inv _ hr hJ H
    have hun := (mem_ready.1 hr).1
    refine ⟨fun h => (by rw [h] at hr; cases hr), fun j hj => ?_⟩
    have hjn : j < m := by
      rcases Nat.lt_or_ge j m with h | h
      · exact h
      · exact absurd hj (tail_waits hs hc hn inv _ i rfl hin hun j h)
    refine ⟨hjn, fun o ho => ?_⟩
    by_cases hji : j = i
    · subst hji
      have : o = oi := Option.some.inj (ho.symm.trans hi)
      subst this
      exact ⟨V, hJ, H⟩
    · have := hdone _ _ H j (ready_mono hj hji)
      omega
  | succ f ih =>
    intro listed N inv hfree hr hJ H
    have hun := (mem_ready.1 hr).1
    refine ⟨fun h => (by rw [h] at hr; cases hr), fun j hj => ?_⟩
    have hjn : j < m := by
      rcases Nat.lt_or_ge j m with h | h
      · exact h
      · exact absurd hj (tail_waits hs hc hn inv _ i rfl hin hun j h)
    refine ⟨hjn, fun o ho => ?_⟩
    by_cases hji : j = i
    · subst hji
      have : o = oi := Option.some.inj (ho.symm.trans hi)
      subst this
      exact ⟨V, hJ, H⟩
    · obtain ⟨Vj, hJj, hrest⟩ := (H.2 j (ready_mono hj hji)).2 o ho
      obtain ⟨hjun, oj, hoj, hall⟩ := mem_ready.1 hj
      have : o = oj := Option.some.inj (ho.symm.trans hoj)
      subst this
      have hnot : ∀ e ∈ o.after, Region.binds md e = true → e.on ≠ i := fun e he hb heq => by
        have h1 := hall e he hb
        rw [heq, getD_both hun] at h1
        cases h1
      obtain ⟨a1, a2, a3⟩ := Oper.apart_spec (hfree j o hoj hji hjun hnot)
      refine ⟨Vj, hJj.past a1, ih (listed.setIfInBounds j true) (N.put o Vj) (inv.set hj hjn) (fun k ok hk hki hun hno => ?_) (ready_mono hr (Ne.symm hji)) (hJ.ahead a3) ?_⟩
      · refine hfree k ok hk hki ?_ hno
        by_cases hjk : j = k
        · subst hjk; exact hjun
        · rw [getD_set_ne true hjk] at hun; exact hun
      · rw [Array.setIfInBounds_comm _ _ hji, ← Kn.put_comm N V Vj a2]
        exact hrest

theorem AnyTL_lex {m g : Nat} {Fin : Kn → Prop} (hs : Region.sinkB md ops m = true) (hc : Region.chainB md ops m = true) (hn : m < ops.size) :
    ∀ (l : List Oper) (k : Nat) (listed : Array Bool) (N : Kn), (∀ j, j < l.length → l[j]? = ops[k + j]?) → k + l.length = m → HeadInv md ops m listed →
    Region.lexHead md ops g l.length k listed = true → TW P ops R C n Fin l N →
    AnyTL P md ops R C n m (fun listed' N' => Region.seqB md ops g m listed' = true ∧ Fin N') l.length listed N
  | [], k, listed, N, _, hk, _, hB, h => by
    have : k = m := by simpa using hk
    subst this
    exact ⟨by simpa [Region.lexHead] using hB, h⟩
  | o :: l, k, listed, N, hl, hk, inv, hB, h => by
    have h0 : ops[k]? = some o := by simpa using (hl 0 (by simp)).symm
    simp only [List.length_cons, Region.lexHead, Bool.and_eq_true] at hB
    obtain ⟨⟨hr, hf⟩, hB'⟩ := hB
    have hkn : k < m := by simp only [List.length_cons] at hk; omega
    have hr' : k ∈ Region.ready md ops listed := by simpa using hr
    obtain ⟨V, hJ, hrest⟩ := h
    exact AnyTL_first h0 hs hc hn hkn (fun listed' N' hL => seqB_ready hL.1) l.length listed N inv (Region.free_spec h0 hf) hr' hJ
      (AnyTL_lex hs hc hn l (k + 1) _ _ (fun j hj => by have := hl (j + 1) (by simp; omega); simpa [Nat.add_assoc, Nat.add_comm 1 j] using this) (by simp only [List.length_cons] at hk; omega) (inv.set hr' hkn) hB' hrest)
end
end Go.Proofs.Ythmohmpalbnjoaa.V

set_option linter.unusedVariables false
set_option linter.unusedSimpArgs false
namespace Go.Proofs.Ythmohmpalbnjoaa.V
open Go
def lkM (t : Nat) : List (Nat × (Value → World → Prop)) → Option (Value → World → Prop)
  | [] => none
  | (s, v) :: r => match Nat.beq s t with
    | true => some v
    | false => lkM t r
/-- what is known: of the slots of 'l' the value, of those of 'M' something -/
def kn (l : List (Nat × Value)) (M : List (Nat × (Value → World → Prop))) : Kn := fun t => match lk t l with
  | some v => some fun u _ => u = v
  | none => lkM t M

section
variable {P : Program} {ops : Array Oper} {Q : Exit → Act → World → Prop} {n : Nat} {ds : List Deferred} {l : List (Nat × Value)} {M : List (Nat × (Value → World → Prop))} {w w' : World} {a : Act}
variable {rest : List Oper} {d : Nat} {op : Op} {ty : TypeId} {pos : String} {af : Array Edge} {Fin : Kn → Prop}

theorem later (w : World) : Later (Mod []) (Mod [] w) := ⟨Mod.refl [], fun _ _ _ h k => h.trans k, fun _ _ h k => k.trans h⟩

abbrev TWL (P : Program) (ops : Array Oper) (w : World) (n : Nat) (Fin : Kn → Prop) (rest : List Oper) (l : List (Nat × Value)) (M : List (Nat × (Value → World → Prop))) : Prop := TW P ops (Mod []) (Mod [] w) n Fin rest (kn l M)

/-- what is asked behind the region -/
def FinW (Q : Exit → Act → World → Prop) (n : Nat) (ds : List Deferred) (w : World) (N : Kn) : Prop := ∀ a w', a.defers = ds → Mod [] w w' → N.all n a w' → Q .normal a w'

theorem kn_lasts (l : List (Nat × Value)) : (kn l []).lasts (Mod []) := by
  intro t U hU
  unfold kn at hU
  split at hU
  · injection hU with hU; subst hU; exact fun _ _ _ _ h => h
  · simp [lkM] at hU
theorem kn_all {l : List (Nat × Value)} (ha : Has n ds l a) : (kn l []).all n a w := by
  refine ⟨ha.size, fun t U hU => ?_⟩
  unfold kn at hU
  split at hU
  · rename_i v hv
    injection hU with hU
    subst hU
    simp [ha.get t v hv]
  · simp [lkM] at hU

theorem c_draw {id : Nat} {lo : List Oper} (hm : P.follows .mixedOrders = true) (hB : Region.lexB .any lo.toArray = true) (h : TWL P lo.toArray w n (FinW Q n ds w) lo l []) : WC P (.region id lo.toArray true) Q n ds l w := by
  intro a ha
  simp only [Region.lexB, Bool.and_eq_true] at hB
  refine wp_region_any hm (wpAny_of_T (n := n) (ds := ds) (w0 := w) (Fin := FinW Q n ds w) (later w) (fun N a w' _ hd hC _ hN hF => hF a w' hd hC hN) _ _ (kn l []) a _ (kn_lasts l) ha.defers (Mod.drew [] w) (Mod.drew [] w) (kn_all ha) ?_)
  have := AnyT_lex (md := .any) lo 0 (Array.replicate lo.toArray.size false) (kn l []) (by simp) (by simpa using hB.2) h
  simpa using this

/-- the operations from 'm' on come one behind the other, and may do whatever they do -/
theorem c_drawt {id : Nat} {lo : List Oper} (m : Nat) (hm : P.follows .mixedOrders = true) (hB : Region.lexTailB .any lo.toArray m = true)
    (h : TWL P lo.toArray w n (fun N => ∀ a w', a.defers = ds → Mod [] w w' → N.all n a w' → wpList P lo.toArray Q (lo.drop m) a w') (lo.take m) l []) : WC P (.region id lo.toArray true) Q n ds l w := by
  intro a ha
  simp only [Region.lexTailB, Bool.and_eq_true, decide_eq_true_eq] at hB
  obtain ⟨⟨⟨⟨hsel, hn⟩, hs⟩, hc⟩, hlex⟩ := hB
  have hn' : m < lo.length := by simpa using hn
  have htl : (lo.take m).length = m := by simp; omega
  have hdl : (lo.drop m).length = lo.toArray.size - m := by simp
  have inv0 : HeadInv .any lo.toArray m (Array.replicate lo.toArray.size false) :=
    ⟨by simp, fun j oj _ hl => (by rw [getD_replicate_false] at hl; cases hl), fun t _ ht => getD_in (by simpa using ht) (getD_replicate_false _ _)⟩
  have H := AnyTL_lex (md := .any) (g := lo.toArray.size - m) hs hc hn (lo.take m) 0 _ (kn l []) (fun j hj => by
    have hj' : j < m := by rw [htl] at hj; exact hj
    simp [hj']) (by simpa using htl) inv0 (by rw [htl]; exact hlex) h
  refine wp_region_any hm ?_
  have := wpAny_of_TL (n := n) (ds := ds) (w0 := w) (Q := Q) (g := lo.toArray.size - m) (later w) (fun listed N a w' _ hd hC _ hN hL => by
    have := wpAny_of_seq (md := .any) (Q' := Q) (lo.drop m) m listed a w' (fun j => by simp [List.getElem?_drop]) (by rw [hdl]; exact hL.1) (hL.2 a w' hd hC hN)
    rwa [hdl] at this) _ _ (kn l []) a _ (kn_lasts l) ha.defers (Mod.drew [] w) (Mod.drew [] w) (kn_all ha) H
  rw [htl, show m + (lo.toArray.size - m) = lo.toArray.size by omega] at this
  exact this

/-- behind the head: values of which something is known are named -/
theorem kn_has {l : List (Nat × Value)} {M : List (Nat × (Value → World → Prop))} (hd : a.defers = ds) (h : (kn l M).all n a w) : Has n ds (l.filter fun p => decide (p.1 < n)) a := by
  refine ⟨h.1, hd, fun t v hv => ?_⟩
  have hlt : t < n := by
    clear h
    induction l with
    | nil => simp [lk] at hv
    | cons p r ih =>
      obtain ⟨s, u⟩ := p
      by_cases hs : s < n
      · simp only [List.filter_cons, hs, decide_true, if_true, lk] at hv
        cases hb : Nat.beq s t with
        | true => have := Nat.eq_of_beq_eq_true hb; omega
        | false => rw [hb] at hv; exact ih hv
      · simp only [List.filter_cons, hs, decide_false] at hv
        exact ih hv
  have hv' : lk t l = some v := by
    clear h
    induction l with
    | nil => simp [lk] at hv
    | cons p r ih =>
      obtain ⟨s, u⟩ := p
      by_cases hs : s < n
      · simp only [List.filter_cons, hs, decide_true, if_true, lk] at hv ⊢
        cases hb : Nat.beq s t with
        | true => rw [hb] at hv; exact hv
        | false => rw [hb] at hv; exact ih hv
      · simp only [List.filter_cons, hs, decide_false] at hv
        simp only [lk]
        cases hb : Nat.beq s t with
        | true => have := Nat.eq_of_beq_eq_true hb; omega
        | false => exact ih hv
  have := h.2 t (fun u _ => u = v) (by simp [kn, hv'])
  rw [← h.1] at hlt
  simp [hlt] at this
  simp [hlt, this]

/-- what is known of the frame alone: the list's slots lie in it -/
def fitB (n : Nat) : List (Nat × Value) → Bool
  | [] => true
  | (t, _) :: r => Nat.blt t n && fitB n r
theorem fitB_filter {n : Nat} : ∀ {l : List (Nat × Value)}, fitB n l = true → (l.filter fun p => decide (p.1 < n)) = l
  | [], _ => rfl
  | (t, v) :: r, h => by
    simp only [fitB, Bool.and_eq_true, Nat.blt_eq] at h
    simp [List.filter_cons, h.1, fitB_filter h.2]
theorem tw_nil (hf : fitB n l = true) (h : ∀ w', Mod [] w w' → WE Q .normal n ds l w') : TWL P ops w n (FinW Q n ds w) [] l M := by
  intro a w' hd hC hN
  have := kn_has hd hN
  rw [fitB_filter hf] at this
  exact h w' hC a this
theorem tw_nil1 {t : Nat} {V : Value → World → Prop} (hf : fitB n l = true) (ht : lk t l = none) (hM : lkM t M = some V) (htn : Nat.blt t n = true) (h : ∀ w' v, Mod [] w w' → V v w' → WE Q .normal n ds ((t, v) :: l) w') : TWL P ops w n (FinW Q n ds w) [] l M := by
  intro a w' hd hC hN
  have h1 := kn_has hd hN
  rw [fitB_filter hf] at h1
  have htn' : t < a.tmps.size := by rw [hN.1]; simpa [Nat.blt_eq] using htn
  have h2 := hN.2 t V (by simp [kn, ht, hM])
  have h3 : a.tmps.getD t undef = a.tmps[t] := by simp [htn']
  rw [h3] at h2
  refine h w' _ hC h2 a ⟨h1.size, h1.defers, fun s v hv => ?_⟩
  simp only [lk] at hv
  cases hb : Nat.beq t s with
  | true =>
    rw [hb] at hv
    have := Nat.eq_of_beq_eq_true hb
    subst this
    injection hv with hv
    subst hv
    simp [htn']
  | false => rw [hb] at hv; exact h1.get s v hv
/-- behind the head of a region with a tail -/
theorem tw_tail {rest' : List Oper} (hf : fitB n l = true) (h : ∀ w', Mod [] w w' → WL P ops Q rest' n ds l w') : TWL P ops w n (fun N => ∀ a w', a.defers = ds → Mod [] w w' → N.all n a w' → wpList P ops Q rest' a w') [] l M := by
  intro a w' hd hC hN
  have := kn_has hd hN
  rw [fitB_filter hf] at this
  exact h w' hC a this
theorem tw_tail1 {rest' : List Oper} {t : Nat} {V : Value → World → Prop} (hf : fitB n l = true) (ht : lk t l = none) (hM : lkM t M = some V) (htn : Nat.blt t n = true) (h : ∀ w' v, Mod [] w w' → V v w' → WL P ops Q rest' n ds ((t, v) :: l) w') :
    TWL P ops w n (fun N => ∀ a w', a.defers = ds → Mod [] w w' → N.all n a w' → wpList P ops Q rest' a w') [] l M := by
  intro a w' hd hC hN
  have h1 := kn_has hd hN
  rw [fitB_filter hf] at h1
  have htn' : t < a.tmps.size := by rw [hN.1]; simpa [Nat.blt_eq] using htn
  have h2 := hN.2 t V (by simp [kn, ht, hM])
  have h3 : a.tmps.getD t undef = a.tmps[t] := by simp [htn']
  rw [h3] at h2
  refine h w' _ hC h2 a ⟨h1.size, h1.defers, fun s v hv => ?_⟩
  simp only [lk] at hv
  cases hb : Nat.beq t s with
  | true =>
    rw [hb] at hv
    have := Nat.eq_of_beq_eq_true hb
    subst this
    injection hv with hv
    subst hv
    simp [htn']
  | false => rw [hb] at hv; exact h1.get s v hv

def notSel : Op → Bool
  | .select .. => false
  | _ => true
/-- one operation's judgement out of its run -/
theorem J_of {V : Value → World → Prop} (hV : ∀ v w1 w2, Mod [] w1 w2 → V v w1 → V v w2) (hd : Nat.blt d n = true) (hs : notSel op = true)
    (hr : ∀ (ρ : Operand → Value) w1, Mod [] w w1 → (∀ x u, evO l x = some u → ρ x = u) → (∀ t U, lk t l = none → lkM t M = some U → (∃ x ∈ op.operands.toList, x = .tmp t) → U (ρ (.tmp t)) w1) →
      TameUpon P (Mod []) w1 V ((execOp ρ ⟨some d, op, ty, pos, af, none⟩).run P w1)) :
    J P ops (Mod []) (Mod [] w) n (kn l M) ⟨some d, op, ty, pos, af, none⟩ V := by
  refine ⟨hV, fun d' hd' => by injection hd' with hd'; subst hd'; simpa [Nat.blt_eq] using hd, fun a w1 hC hN => ?_⟩
  rw [if_pos (by simp [Region.wanted])]
  let ρ : Operand → Value := fun x => match evO l x with
    | some u => u
    | none => a.eval x
  have hlook : ∀ t, (∃ x ∈ op.operands.toList, x = .tmp t) → t ∈ Oper.looksAt ops ⟨some d, op, ty, pos, af, none⟩ := by
    rintro t ⟨x, hx, rfl⟩
    unfold Oper.looksAt
    exact List.mem_append_left _ (List.mem_filterMap.2 ⟨.tmp t, hx, rfl⟩)
  have hρ : ∀ x ∈ op.operands, a.eval x = ρ x := by
    intro x hx
    show a.eval x = match evO l x with | some u => u | none => a.eval x
    cases hv : evO l x with
    | none => rfl
    | some u =>
      cases x with
      | tmp t =>
        have := hN t (fun u' _ => u' = u) (hlook t ⟨_, by simpa using hx, rfl⟩) (by simp only [evO] at hv; simp [kn, hv])
        simpa [Act.eval] using this
      | const c => simp only [evO] at hv; injection hv
      | global g => simp only [evO] at hv; injection hv
      | func f => simp only [evO] at hv; injection hv
  have he := execOp_congr ⟨some d, op, ty, pos, af, none⟩ (fun cs b h => by dsimp only at h; rw [h] at hs; simp [notSel] at hs) hρ
  rw [he]
  refine hr ρ w1 hC (fun x u hx => ?_) (fun t U ht hU hx => ?_)
  · show (match evO l x with | some u => u | none => a.eval x) = u
    rw [hx]
  · have h1 := hN t U (hlook t hx) (by simp [kn, ht, hU])
    show U (match evO l (.tmp t) with | some u => u | none => a.eval (.tmp t)) w1
    simp only [evO, ht]
    simpa [Act.eval] using h1

theorem kn_put_v {o : Oper} (hd : o.dst = some d) (v : Value) : (kn l M).put o (fun u _ => u = v) = kn ((d, v) :: l) M := by
  funext t
  unfold Kn.put kn
  simp only [hd, lk]
  by_cases h : t = d
  · subst h; simp
  · have : Nat.beq d t = false := by
      cases hb : Nat.beq d t
      · rfl
      · exact absurd (Nat.eq_of_beq_eq_true hb).symm h
    simp [h, this]
theorem kn_put_r {o : Oper} (hd : o.dst = some d) (hl : lk d l = none) (V : Value → World → Prop) : (kn l M).put o V = kn l ((d, V) :: M) := by
  funext t
  unfold Kn.put kn
  simp only [hd, lkM]
  by_cases h : t = d
  · subst h; simp [hl]
  · have : Nat.beq d t = false := by
      cases hb : Nat.beq d t
      · rfl
      · exact absurd (Nat.eq_of_beq_eq_true hb).symm h
    simp [h, this]

/-- an operation with one value in all later worlds -/
theorem tv {v : Value} (hr : ∀ w1, Mod [] w w1 → Runs P l ⟨some d, op, ty, pos, af, none⟩ w1 v w1) (hd : Nat.blt d n = true) (hs : notSel op = true) (h : TWL P ops w n Fin rest ((d, v) :: l) M) :
    TWL P ops w n Fin (⟨some d, op, ty, pos, af, none⟩ :: rest) l M := by
  refine ⟨fun u _ => u = v, J_of (fun _ _ _ _ h => h) hd hs fun ρ w1 hC h1 h2 => ?_, ?_⟩
  · rw [hr w1 hC ρ h1]; exact ⟨Mod.refl [] w1, rfl⟩
  · rw [kn_put_v rfl]; exact h
/-- .. with one that has 'V' -/
theorem tr (V : Value → World → Prop) (hV : ∀ v w1 w2, Mod [] w1 w2 → V v w1 → V v w2) (hr : ∀ w1, Mod [] w w1 → ∃ v w2, Runs P l ⟨some d, op, ty, pos, af, none⟩ w1 v w2 ∧ Mod [] w1 w2 ∧ V v w2) (hd : Nat.blt d n = true) (hs : notSel op = true) (hl : lk d l = none)
    (h : TWL P ops w n Fin rest l ((d, V) :: M)) : TWL P ops w n Fin (⟨some d, op, ty, pos, af, none⟩ :: rest) l M := by
  refine ⟨V, J_of hV hd hs fun ρ w1 hC h1 h2 => ?_, ?_⟩
  · obtain ⟨v, w2, e, hm, hv⟩ := hr w1 hC
    rw [e ρ h1]
    exact ⟨hm, hv⟩
  · rw [kn_put_r rfl hl]; exact h
/-- a call with one value in all later worlds -/
theorem tc {f : FuncId} {args : Array Value} {v : Value} (hr : ∀ w1, Mod [] w w1 → RunsC P l ⟨some d, op, ty, pos, af, none⟩ w1 f args) (hc : ∀ w1, Mod [] w w1 → Calls P f args w1 (Ret fun u w2 => u = v ∧ Mod [] w1 w2)) (hd : Nat.blt d n = true) (hs : notSel op = true) (h : TWL P ops w n Fin rest ((d, v) :: l) M) :
    TWL P ops w n Fin (⟨some d, op, ty, pos, af, none⟩ :: rest) l M := by
  refine ⟨fun u _ => u = v, J_of (fun _ _ _ _ h => h) hd hs fun ρ w1 hC h1 h2 => ?_, ?_⟩
  · rw [hr w1 hC ρ h1]
    exact ⟨rfl, (hc w1 hC).mono fun e w2 he => by cases e <;> first | exact ⟨he.2, he.1⟩ | exact he⟩
  · rw [kn_put_v rfl]; exact h
/-- .. with one that has 'V' -/
theorem tcr {f : FuncId} {args : Array Value} (V : Value → World → Prop) (hV : ∀ v w1 w2, Mod [] w1 w2 → V v w1 → V v w2) (hr : ∀ w1, Mod [] w w1 → RunsC P l ⟨some d, op, ty, pos, af, none⟩ w1 f args) (hc : ∀ w1, Mod [] w w1 → Calls P f args w1 (Ret fun u w2 => V u w2 ∧ Mod [] w1 w2)) (hd : Nat.blt d n = true) (hs : notSel op = true) (hl : lk d l = none)
    (h : TWL P ops w n Fin rest l ((d, V) :: M)) : TWL P ops w n Fin (⟨some d, op, ty, pos, af, none⟩ :: rest) l M := by
  refine ⟨V, J_of hV hd hs fun ρ w1 hC h1 h2 => ?_, ?_⟩
  · rw [hr w1 hC ρ h1]
    exact ⟨rfl, (hc w1 hC).mono fun e w2 he => by cases e <;> first | exact ⟨he.2, he.1⟩ | exact he⟩
  · rw [kn_put_r rfl hl]; exact h
/-- an operation that looks at a slot of which something is known: slot 't', 'U' -/
theorem J_of1 {V : Value → World → Prop} {t : Nat} {U : Value → World → Prop} (ht : lk t l = none) (hM : lkM t M = some U) (hx : ∃ x ∈ op.operands.toList, x = .tmp t) (hV : ∀ v w1 w2, Mod [] w1 w2 → V v w1 → V v w2) (hd : Nat.blt d n = true) (hs : notSel op = true)
    (hr : ∀ (ρ : Operand → Value) w1 u, Mod [] w w1 → U u w1 → (∀ x v, evO ((t, u) :: l) x = some v → ρ x = v) → TameUpon P (Mod []) w1 V ((execOp ρ ⟨some d, op, ty, pos, af, none⟩).run P w1)) :
    J P ops (Mod []) (Mod [] w) n (kn l M) ⟨some d, op, ty, pos, af, none⟩ V := by
  refine J_of hV hd hs fun ρ w1 hC h1 h2 => hr ρ w1 (ρ (.tmp t)) hC (h2 t U ht hM hx) fun x v hv => ?_
  cases x with
  | tmp s =>
    simp only [evO, lk] at hv
    cases hb : Nat.beq t s with
    | true =>
      rw [hb] at hv
      have := Nat.eq_of_beq_eq_true hb
      subst this
      injection hv
    | false => rw [hb] at hv; exact h1 _ _ hv
  | const c => exact h1 _ _ hv
  | global g => exact h1 _ _ hv
  | func f => exact h1 _ _ hv
theorem tv1 {v : Value} (t : Nat) {U : Value → World → Prop} (ht : lk t l = none) (hM : lkM t M = some U) (hx : ∃ x ∈ op.operands.toList, x = .tmp t) (hr : ∀ w1 u, Mod [] w w1 → U u w1 → Runs P ((t, u) :: l) ⟨some d, op, ty, pos, af, none⟩ w1 v w1) (hd : Nat.blt d n = true) (hs : notSel op = true) (h : TWL P ops w n Fin rest ((d, v) :: l) M) :
    TWL P ops w n Fin (⟨some d, op, ty, pos, af, none⟩ :: rest) l M := by
  refine ⟨fun u _ => u = v, J_of1 ht hM hx (fun _ _ _ _ h => h) hd hs fun ρ w1 u hC hU h1 => ?_, ?_⟩
  · rw [hr w1 u hC hU ρ h1]; exact ⟨Mod.refl [] w1, rfl⟩
  · rw [kn_put_v rfl]; exact h
theorem tr1 (V : Value → World → Prop) (hV : ∀ v w1 w2, Mod [] w1 w2 → V v w1 → V v w2) (t : Nat) {U : Value → World → Prop} (ht : lk t l = none) (hM : lkM t M = some U) (hx : ∃ x ∈ op.operands.toList, x = .tmp t) (hr : ∀ w1 u, Mod [] w w1 → U u w1 → ∃ v w2, Runs P ((t, u) :: l) ⟨some d, op, ty, pos, af, none⟩ w1 v w2 ∧ Mod [] w1 w2 ∧ V v w2)
    (hd : Nat.blt d n = true) (hs : notSel op = true) (hl : lk d l = none) (h : TWL P ops w n Fin rest l ((d, V) :: M)) :
    TWL P ops w n Fin (⟨some d, op, ty, pos, af, none⟩ :: rest) l M := by
  refine ⟨V, J_of1 ht hM hx hV hd hs fun ρ w1 u hC hU h1 => ?_, ?_⟩
  · obtain ⟨v, w2, e, hm, hv⟩ := hr w1 u hC hU
    rw [e ρ h1]
    exact ⟨hm, hv⟩
  · rw [kn_put_r rfl hl]; exact h
theorem tc1 {f : FuncId} {args : Value → Array Value} {v : Value} (t : Nat) {U : Value → World → Prop} (ht : lk t l = none) (hM : lkM t M = some U) (hx : ∃ x ∈ op.operands.toList, x = .tmp t) (hr : ∀ w1 u, Mod [] w w1 → U u w1 → RunsC P ((t, u) :: l) ⟨some d, op, ty, pos, af, none⟩ w1 f (args u)) (hc : ∀ w1 u, Mod [] w w1 → U u w1 → Calls P f (args u) w1 (Ret fun u w2 => u = v ∧ Mod [] w1 w2)) (hd : Nat.blt d n = true) (hs : notSel op = true) (h : TWL P ops w n Fin rest ((d, v) :: l) M) :
    TWL P ops w n Fin (⟨some d, op, ty, pos, af, none⟩ :: rest) l M := by
  refine ⟨fun u _ => u = v, J_of1 ht hM hx (fun _ _ _ _ h => h) hd hs fun ρ w1 u hC hU h1 => ?_, ?_⟩
  · rw [hr w1 u hC hU ρ h1]
    exact ⟨rfl, (hc w1 u hC hU).mono fun e w2 he => by cases e <;> first | exact ⟨he.2, he.1⟩ | exact he⟩
  · rw [kn_put_v rfl]; exact h
theorem tcr1 {f : FuncId} {args : Value → Array Value} (V : Value → World → Prop) (hV : ∀ v w1 w2, Mod [] w1 w2 → V v w1 → V v w2) (t : Nat) {U : Value → World → Prop} (ht : lk t l = none) (hM : lkM t M = some U) (hx : ∃ x ∈ op.operands.toList, x = .tmp t) (hr : ∀ w1 u, Mod [] w w1 → U u w1 → RunsC P ((t, u) :: l) ⟨some d, op, ty, pos, af, none⟩ w1 f (args u)) (hc : ∀ w1 u, Mod [] w w1 → U u w1 → Calls P f (args u) w1 (Ret fun u w2 => V u w2 ∧ Mod [] w1 w2)) (hd : Nat.blt d n = true) (hs : notSel op = true) (hl : lk d l = none)
    (h : TWL P ops w n Fin rest l ((d, V) :: M)) : TWL P ops w n Fin (⟨some d, op, ty, pos, af, none⟩ :: rest) l M := by
  refine ⟨V, J_of1 ht hM hx hV hd hs fun ρ w1 u hC hU h1 => ?_, ?_⟩
  · rw [hr w1 u hC hU ρ h1]
    exact ⟨rfl, (hc w1 u hC hU).mono fun e w2 he => by cases e <;> first | exact ⟨he.2, he.1⟩ | exact he⟩
  · rw [kn_put_r rfl hl]; exact h
end
end Go.Proofs.Ythmohmpalbnjoaa.V

set_option linter.unusedVariables false
set_option linter.unusedSimpArgs false
namespace Go.Proofs.Ythmohmpalbnjoaa.V
open Go
section
variable {P : Program} {ops : Array Oper} {Q : Exit → Act → World → Prop} {n : Nat} {ds : List Deferred} {l : List (Nat × Value)} {M : List (Nat × (Value → World → Prop))} {w w' : World} {a : Act}
variable {rest : List Oper} {d : Nat} {op : Op} {ty : TypeId} {pos : String} {af : Array Edge} {Fin : Kn → Prop} {j : Nat} {want b : Bool}

/-! ## Guarded operations -/
def gv (ops : Array Oper) (l : List (Nat × Value)) (j : Nat) : Option Bool := match (ops[j]?).bind (·.dst) with
  | some t => match lk t l with
    | some (.bool b) => some b
    | _ => none
  | none => none
theorem gv_spec (h : gv ops l j = some b) : ∃ t, (ops[j]?).bind (·.dst) = some t ∧ lk t l = some (.bool b) := by
  unfold gv at h
  split at h
  · rename_i t ht
    split at h
    · rename_i b' hb
      injection h with h
      subst h
      exact ⟨t, ht, hb⟩
    · cases h
  · cases h
theorem yielded_of (ha : Has n ds l a) (h : gv ops l j = some b) : yielded ops a.tmps j = some b := by
  obtain ⟨t, h1, h2⟩ := gv_spec h
  unfold yielded
  rw [h1]
  simp [ha.get t _ h2]
theorem sg {v : Value} (hg : gv ops l j = some b) (hb : b = want) (hr : Runs P l ⟨some d, op, ty, pos, af, some (j, want)⟩ w v w') (hd : Nat.blt d n = true) (h : WL P ops Q rest n ds ((d, v) :: l) w') :
    WL P ops Q (⟨some d, op, ty, pos, af, some (j, want)⟩ :: rest) n ds l w := by
  intro a ha
  refine wpList_step fun K hK => ?_
  have hw : Region.wanted ⟨some d, op, ty, pos, af, some (j, want)⟩ (yielded ops a.tmps) = true := by
    simp [Region.wanted, yielded_of ha hg, hb]
  rw [if_pos hw]
  have := hr a.eval (fun x u hx => ha.ev hx)
  simp only [Oper.wp, this, Oper.upon]
  exact hK _ _ (h _ (ha.put hd v))
theorem sgc {f : FuncId} {args : Array Value} {φ : Value → World → Prop} (hg : gv ops l j = some b) (hb : b = want) (hr : RunsC P l ⟨some d, op, ty, pos, af, some (j, want)⟩ w f args) (hc : Calls P f args w (Ret φ)) (hd : Nat.blt d n = true) (h : ∀ v w', φ v w' → WL P ops Q rest n ds ((d, v) :: l) w') :
    WL P ops Q (⟨some d, op, ty, pos, af, some (j, want)⟩ :: rest) n ds l w := by
  intro a ha
  refine wpList_step fun K hK => ?_
  have hw : Region.wanted ⟨some d, op, ty, pos, af, some (j, want)⟩ (yielded ops a.tmps) = true := by
    simp [Region.wanted, yielded_of ha hg, hb]
  rw [if_pos hw]
  have := hr a.eval (fun x u hx => ha.ev hx)
  simp only [Oper.wp, this, Oper.upon]
  refine hc.mono fun e w' he => ?_
  cases e with
  | returned v => exact hK _ _ (h v w' he _ (ha.put hd v))
  | panicked c => exact he.elim
  | outgrown => exact he.elim
theorem sn (hg : gv ops l j = some b) (hb : b ≠ want) (hd : Nat.blt d n = true) (h : WL P ops Q rest n ds ((d, undef) :: l) w) :
    WL P ops Q (⟨some d, op, ty, pos, af, some (j, want)⟩ :: rest) n ds l w := by
  intro a ha
  refine wpList_step fun K hK => ?_
  have hw : ¬ (Region.wanted ⟨some d, op, ty, pos, af, some (j, want)⟩ (yielded ops a.tmps) = true) := by
    simp [Region.wanted, yielded_of ha hg, hb]
  rw [if_neg hw]
  exact hK _ _ (h _ (ha.put hd undef))

/-! .. in regions that draw -/
theorem wanted_at {a : Act} {w1 : World} {o : Oper} (ho : o.guard = some (j, want)) (hg : gv ops l j = some b) (hN : Kn.on ops (kn l M) o a w1) : Region.wanted o (yielded ops a.tmps) = (b == want) := by
  obtain ⟨t, h1, h2⟩ := gv_spec hg
  have hlook : t ∈ Oper.looksAt ops o := by
    unfold Oper.looksAt
    rw [ho]
    exact List.mem_append_right _ (by simp [h1])
  have := hN t (fun u _ => u = .bool b) hlook (by simp [kn, h2])
  have hlt : t < a.tmps.size := by
    rcases Nat.lt_or_ge t a.tmps.size with h | h
    · exact h
    · simp [Array.getElem?_eq_none h] at this
      cases this
  simp [hlt] at this
  have hy : yielded ops a.tmps j = some b := by
    unfold yielded
    rw [h1]
    simp [hlt, this]
  simp [Region.wanted, ho, hy]
theorem J_g {V : Value → World → Prop} (hg : gv ops l j = some b) (hb : b = want) (h : J P ops (Mod []) (Mod [] w) n (kn l M) ⟨some d, op, ty, pos, af, none⟩ V) : J P ops (Mod []) (Mod [] w) n (kn l M) ⟨some d, op, ty, pos, af, some (j, want)⟩ V := by
  refine ⟨h.lasts, h.fits, fun a w1 hC hN => ?_⟩
  have hw := wanted_at (o := ⟨some d, op, ty, pos, af, some (j, want)⟩) rfl hg hN
  rw [hw, hb]
  simp only [beq_self_eq_true, if_true]
  have := h.run a w1 hC (fun t U ht hU => hN t U (by
    unfold Oper.looksAt at ht ⊢
    simp only [List.append_nil] at ht
    exact List.mem_append_left _ ht) hU)
  rw [if_pos (by simp [Region.wanted])] at this
  exact this
theorem J_n (hg : gv ops l j = some b) (hb : b ≠ want) (hd : Nat.blt d n = true) : J P ops (Mod []) (Mod [] w) n (kn l M) ⟨some d, op, ty, pos, af, some (j, want)⟩ (fun u _ => u = undef) := by
  refine ⟨fun _ _ _ _ h => h, fun d' hd' => by injection hd' with hd'; subst hd'; simpa [Nat.blt_eq] using hd, fun a w1 hC hN => ?_⟩
  have hw := wanted_at (o := ⟨some d, op, ty, pos, af, some (j, want)⟩) rfl hg hN
  have : (b == want) = false := by simp [hb]
  rw [hw, this]
  simp
theorem tvg {v : Value} (hg : gv ops l j = some b) (hb : b = want) (hr : ∀ w1, Mod [] w w1 → Runs P l ⟨some d, op, ty, pos, af, none⟩ w1 v w1) (hd : Nat.blt d n = true) (hs : notSel op = true) (h : TWL P ops w n Fin rest ((d, v) :: l) M) :
    TWL P ops w n Fin (⟨some d, op, ty, pos, af, some (j, want)⟩ :: rest) l M := by
  refine ⟨fun u _ => u = v, J_g hg hb (J_of (fun _ _ _ _ h => h) hd hs fun ρ w1 hC h1 h2 => ?_), ?_⟩
  · rw [hr w1 hC ρ h1]; exact ⟨Mod.refl [] w1, rfl⟩
  · rw [kn_put_v rfl]; exact h
theorem tcg {f : FuncId} {args : Array Value} {v : Value} (hg : gv ops l j = some b) (hb : b = want) (hr : ∀ w1, Mod [] w w1 → RunsC P l ⟨some d, op, ty, pos, af, none⟩ w1 f args) (hc : ∀ w1, Mod [] w w1 → Calls P f args w1 (Ret fun u w2 => u = v ∧ Mod [] w1 w2)) (hd : Nat.blt d n = true) (hs : notSel op = true) (h : TWL P ops w n Fin rest ((d, v) :: l) M) :
    TWL P ops w n Fin (⟨some d, op, ty, pos, af, some (j, want)⟩ :: rest) l M := by
  refine ⟨fun u _ => u = v, J_g hg hb (J_of (fun _ _ _ _ h => h) hd hs fun ρ w1 hC h1 h2 => ?_), ?_⟩
  · rw [hr w1 hC ρ h1]
    exact ⟨rfl, (hc w1 hC).mono fun e w2 he => by cases e <;> first | exact ⟨he.2, he.1⟩ | exact he⟩
  · rw [kn_put_v rfl]; exact h
theorem tcrg {f : FuncId} {args : Array Value} (V : Value → World → Prop) (hV : ∀ v w1 w2, Mod [] w1 w2 → V v w1 → V v w2) (hg : gv ops l j = some b) (hb : b = want) (hr : ∀ w1, Mod [] w w1 → RunsC P l ⟨some d, op, ty, pos, af, none⟩ w1 f args) (hc : ∀ w1, Mod [] w w1 → Calls P f args w1 (Ret fun u w2 => V u w2 ∧ Mod [] w1 w2)) (hd : Nat.blt d n = true) (hs : notSel op = true) (hl : lk d l = none)
    (h : TWL P ops w n Fin rest l ((d, V) :: M)) : TWL P ops w n Fin (⟨some d, op, ty, pos, af, some (j, want)⟩ :: rest) l M := by
  refine ⟨V, J_g hg hb (J_of hV hd hs fun ρ w1 hC h1 h2 => ?_), ?_⟩
  · rw [hr w1 hC ρ h1]
    exact ⟨rfl, (hc w1 hC).mono fun e w2 he => by cases e <;> first | exact ⟨he.2, he.1⟩ | exact he⟩
  · rw [kn_put_r rfl hl]; exact h
theorem tn (hg : gv ops l j = some b) (hb : b ≠ want) (hd : Nat.blt d n = true) (h : TWL P ops w n Fin rest ((d, undef) :: l) M) :
    TWL P ops w n Fin (⟨some d, op, ty, pos, af, some (j, want)⟩ :: rest) l M :=
  ⟨fun u _ => u = undef, J_n hg hb hd, by rw [kn_put_v rfl]; exact h⟩

/-! ## A call's begin and end -/
def argL (i : Nat) : List Value → List (Nat × Value)
  | [] => []
  | v :: r => (i, v) :: argL (i + 1) r
theorem argL_get : ∀ (vs : List Value) (i t : Nat) (v : Value), lk t (argL i vs) = some v → i ≤ t ∧ vs[t - i]? = some v
  | [], _, _, _, h => by simp [argL, lk] at h
  | u :: r, i, t, v, h => by
    simp only [argL, lk] at h
    cases hb : Nat.beq i t with
    | true =>
      rw [hb] at h
      have := Nat.eq_of_beq_eq_true hb
      subst this
      exact ⟨Nat.le_refl _, by simpa using h⟩
    | false =>
      rw [hb] at h
      obtain ⟨h1, h2⟩ := argL_get r (i + 1) t v h
      refine ⟨by omega, ?_⟩
      rw [show t - i = (t - (i + 1)) + 1 by omega]
      simpa using h2
theorem enter {f : FuncId} {fn : Func} {c : Code} {vs : List Value} {R : Ending → World → Prop} (hf : P.funcs[f]? = some fn) (hb : fn.body = some c) (hn : fn.ntmps = n) (hle : Nat.ble vs.length n = true) (hs : Sub (argL 0 vs) l)
    (h : WC P c (bodyPost P fn R) n [] l w) : Calls P f vs.toArray w R := by
  have hle' : vs.length ≤ n := by simpa using hle
  have ha : Has n [] (argL 0 vs) { tmps := vs.toArray ++ Array.replicate (fn.ntmps - vs.toArray.size) undef, defers := [] } := by
    refine ⟨by rw [Array.size_append, Array.size_replicate, List.size_toArray, hn]; omega, rfl, fun t v hv => ?_⟩
    obtain ⟨_, h2⟩ := argL_get vs 0 t v hv
    rw [Nat.sub_zero] at h2
    have hlt := (List.getElem?_eq_some_iff.1 h2).1
    dsimp only
    rw [Array.getElem?_append_left (by simpa using hlt)]
    simpa using h2
  exact calls_of_wp hf hb (h _ (ha.sub hs))
variable {fn : Func} {φ : Value → World → Prop} {t t' t'' : Nat} {v v' v'' : Value}
theorem getD_lk (ha : Has n ds l a) (h : lk t l = some v) : a.tmps.getD t undef = v := by simp [ha.get t v h]
theorem ret0 (hr : fn.results = #[]) (h : φ (.tuple #[]) w) : WE (bodyPost P fn (Ret φ)) .ret n [] l w := fun a ha => ⟨ha.defers, _, results_none hr _ _ _, h⟩
theorem end0 (hr : fn.results = #[]) (h : φ (.tuple #[]) w) : WE (bodyPost P fn (Ret φ)) .normal n [] l w := fun a ha => ⟨ha.defers, _, results_none hr _ _ _, h⟩
theorem ret1 (hr : fn.results = #[.tmp t]) (hv : lk t l = some v) (h : φ v w) : WE (bodyPost P fn (Ret φ)) .ret n [] l w := fun a ha => ⟨ha.defers, _, results_tmp hr _ _ _, by rw [getD_lk ha hv]; exact h⟩
theorem ret2 (hr : fn.results = #[.tmp t, .tmp t']) (hv : lk t l = some v) (hv' : lk t' l = some v') (h : φ (.tuple #[v, v']) w) : WE (bodyPost P fn (Ret φ)) .ret n [] l w := fun a ha => ⟨ha.defers, _, results_tmp2 hr _ _ _, by rw [getD_lk ha hv, getD_lk ha hv']; exact h⟩
theorem ret3 (hr : fn.results = #[.tmp t, .tmp t', .tmp t'']) (hv : lk t l = some v) (hv' : lk t' l = some v') (hv'' : lk t'' l = some v'') (h : φ (.tuple #[v, v', v'']) w) : WE (bodyPost P fn (Ret φ)) .ret n [] l w := fun a ha =>
  ⟨ha.defers, .tuple #[v, v', v''], by simp [results, hr, ha.get _ _ hv, ha.get _ _ hv', ha.get _ _ hv''], h⟩
/-- a struct or an array is the result -/
theorem retc {ad : Addr} {vs : List Value} {T c : Nat} (hr : fn.results = #[.cell t T]) (ht : agB P T c = true) (hv : lk t l = some (.pointer (some ad))) (hc : vs.length = c) (hcs : Cs w ad vs) (h : φ (.agg vs.toArray) w) : WE (bodyPost P fn (Ret φ)) .ret n [] l w := fun a ha =>
  ⟨ha.defers, .agg vs.toArray, by simp [results, hr, ha.get _ _ hv, asAddr, run_loadVar_ag ht hc hcs], h⟩
theorem retct {ad : Addr} {vs : List Value} {T c : Nat} (hr : fn.results = #[.cell t T, .tmp t']) (ht : agB P T c = true) (hv : lk t l = some (.pointer (some ad))) (hc : vs.length = c) (hcs : Cs w ad vs) (hv' : lk t' l = some v') (h : φ (.tuple #[.agg vs.toArray, v']) w) : WE (bodyPost P fn (Ret φ)) .ret n [] l w := fun a ha =>
  ⟨ha.defers, .tuple #[.agg vs.toArray, v'], by simp [results, hr, ha.get _ _ hv, ha.get _ _ hv', asAddr, run_loadVar_ag ht hc hcs], h⟩
theorem retctt {ad : Addr} {vs : List Value} {T c : Nat} (hr : fn.results = #[.cell t T, .tmp t', .tmp t'']) (ht : agB P T c = true) (hv : lk t l = some (.pointer (some ad))) (hc : vs.length = c) (hcs : Cs w ad vs) (hv' : lk t' l = some v') (hv'' : lk t'' l = some v'') (h : φ (.tuple #[.agg vs.toArray, v', v'']) w) : WE (bodyPost P fn (Ret φ)) .ret n [] l w := fun a ha =>
  ⟨ha.defers, .tuple #[.agg vs.toArray, v', v''], by simp [results, hr, ha.get _ _ hv, ha.get _ _ hv', ha.get _ _ hv'', asAddr, run_loadVar_ag ht hc hcs], h⟩
/-- a result that lives in a variable -/
theorem retv {ad : Addr} {T : Nat} (hr : fn.results = #[.cell t T]) (ht : scB P T = true) (hv : lk t l = some (.pointer (some ad))) (hc : w.cell? ad = some v) (h : φ v w) : WE (bodyPost P fn (Ret φ)) .ret n [] l w := fun a ha =>
  ⟨ha.defers, v, by simp [results, hr, ha.get _ _ hv, asAddr, run_loadVar_sc ht hc], h⟩
end
end Go.Proofs.Ythmohmpalbnjoaa.V

set_option linter.unusedVariables false
set_option linter.unusedSimpArgs false
namespace Go.Proofs.Ythmohmpalbnjoaa.V
open Go
section
variable {A A' M : List Nat} {w w' : World}
theorem Rep.to0 {d : D} {u : Value} (h : Rep A w d u) (k : Mod [] w w') : Rep A w' d u := Rep.to k (by simp) (fun x hx => .inl hx) d u h
theorem Rep.toM {d : D} {u : Value} (h : Rep A w d u) (k : Mod M w w') (hM : ∀ x ∈ M, x ∈ A) : Rep A w' d u := Rep.to k hM (fun x hx => .inl hx) d u h
theorem Rep.anti {d : D} {u : Value} (h : Rep A w d u) (hA : ∀ x ∈ A', x ∈ A) : Rep A' w d u := Rep.to (Mod.refl [] w) (by simp) (fun x hx => .inl (hA x hx)) d u h
/-- nothing that is there lies in blocks that are not yet -/
theorem Rep.more {d : D} {u : Value} (h : Rep A w d u) (hA : ∀ x ∈ A', x ∈ A ∨ w.heap.size ≤ x) : Rep A' w d u := Rep.to (Mod.refl [] w) (by simp) hA d u h
theorem Reps.to0 {ds : List D} {us : List Value} (h : Reps A w ds us) (k : Mod [] w w') : Reps A w' ds us := Reps.to k (by simp) (fun x hx => .inl hx) ds us h
theorem Reps.toM {ds : List D} {us : List Value} (h : Reps A w ds us) (k : Mod M w w') (hM : ∀ x ∈ M, x ∈ A) : Reps A w' ds us := Reps.to k hM (fun x hx => .inl hx) ds us h
theorem Reps.anti {ds : List D} {us : List Value} (h : Reps A w ds us) (hA : ∀ x ∈ A', x ∈ A) : Reps A' w ds us := Reps.to (Mod.refl [] w) (by simp) (fun x hx => .inl (hA x hx)) ds us h
theorem Reps.more {ds : List D} {us : List Value} (h : Reps A w ds us) (hA : ∀ x ∈ A', x ∈ A ∨ w.heap.size ≤ x) : Reps A' w ds us := Reps.to (Mod.refl [] w) (by simp) hA ds us h

/-! ### rows of values that are their own reading -/
variable {α : Type}
def flat (sz : Nat) (cells : α → List Value) (xs : List α) : D := .sl sz (xs.map fun x => (cells x).map D.v)
theorem reps_v : ∀ {cs us : List Value}, Reps A w (cs.map D.v) us → us = cs
  | [], us, h => by simpa [Reps] using h
  | c :: cs, us, h => by
    simp only [List.map_cons, Reps] at h
    obtain ⟨u, us', rfl, h1, h2⟩ := h
    rw [h1.v_eq, reps_v h2]
theorem reps_v_mk : ∀ {cs : List Value}, (∀ c ∈ cs, c.oneCell' = true) → Reps A w (cs.map D.v) cs
  | [], _ => rfl
  | c :: cs, h => Reps.cons_ (Rep.v_ (h c (by simp))) (reps_v_mk fun x hx => h x (by simp [hx]))
theorem flat_len {sz : Nat} {cells : α → List Value} {xs : List α} {u : Value} (h : Rep A w (flat sz cells xs) u) : ∃ ad c, u = .slice ad xs.length c ∧ xs.length ≤ c ∧ c ≤ 9223372036854775807 := by
  obtain ⟨ad, c, h1, h2, h3⟩ := h.sl_
  simp only [List.length_map] at h1 h2
  exact ⟨ad, c, h1, h2, h3⟩
theorem flat_at {sz n c i : Nat} {cells : α → List Value} {xs : List α} {ad : Option Addr} {x : α} (h : Rep A w (flat sz cells xs) (.slice ad n c)) (hi : xs[i]? = some x) : ∃ a, ad = some a ∧ Cs w (a.add (i * sz)) (cells x) ∧ (cells x).length = sz := by
  obtain ⟨a, us, h1, h2, h3, h4, _⟩ := Rep.at_ (i := i) (r := (cells x).map D.v) h (by simp [hi])
  have := reps_v h2
  subst this
  exact ⟨a, h1, h4, h3⟩
theorem flat_flatten (cells : α → List Value) (xs : List α) : (xs.map fun x => (cells x).map D.v).flatten = ((xs.map cells).flatten).map D.v := by
  induction xs with
  | nil => rfl
  | cons x xs ih => simp [ih]
/-- a slice of the call's own reads so -/
theorem Own.flat {e sz n : Nat} {v : Value} {cells : α → List Value} {xs : List α} (h : Own w e sz v n ((xs.map cells).flatten)) (hl : ∀ x ∈ xs, (cells x).length = sz) (h1 : ∀ x ∈ xs, ∀ c ∈ cells x, c.oneCell' = true) (hn : xs.length = n) (hA : ∀ x ∈ ob v, x ∉ A) : Rep A w (flat sz cells xs) v := by
  refine h.rep ?_ ?_ (by simpa using hn) hA
  · rw [flat_flatten]
    exact reps_v_mk fun c hc => by
      obtain ⟨cs, h2, h3⟩ := List.mem_flatten.1 hc
      obtain ⟨x, h4, rfl⟩ := List.mem_map.1 h2
      exact h1 x h4 c h3
  · intro r hr
    obtain ⟨x, h4, rfl⟩ := List.mem_map.1 hr
    simp [hl x h4]
theorem Src.flat {P : Program} {tx e' sz : Nat} {cells : α → List Value} {xs : List α} {v : Value} (hk : P.underlying tx = some (.slice e')) (h : Rep A w (flat sz cells xs) v) : Src P sz tx v xs.length ((xs.map cells).flatten) w := by
  obtain ⟨vs, h1, h2, h3⟩ := Src.rep (P := P) hk h
  rw [flat_flatten] at h1
  have := reps_v h1
  subst this
  simpa using h3
end

/-! ## Structs held against each other -/
section
variable {P : Program} {n : Nat} {l : List (Nat × Value)} {w w' : World}
variable {d : Nat} {ty : TypeId} {pos : String} {af : Array Edge}
variable {dd : Option Nat} {gg : Option (Nat × Bool)} {x y z : Operand} {t t' : TypeId}
/-- one field's comparison -/
def eqc : Value → Value → Option Bool
  | .int _ a, .int _ b => some (decide (a = b))
  | .bool a, .bool b => some (decide (a = b))
  | .string a, .string b => some (decide (a.data.toList = b.data.toList))
  | _, _ => none
def eqcs : List Value → List Value → Option Bool
  | [], [] => some true
  | u :: us, v :: vs => match eqc u v, eqcs us vs with
    | some a, some b => some (a && b)
    | _, _ => none
  | _, _ => none
/-- fields of one cell each: whole numbers, truths and strings -/
def okF (P : Program) : List Field → Nat → List Value → List Value → Bool
  | [], _, [], [] => true
  | f :: fs, i, u :: us, v :: vs => f.name != "_" && f.offset == i && scB P f.type && (match P.underlying f.type, u, v with
    | some (.int _), .int k _, .int k' _ => k == k'
    | some .bool, .bool _, .bool _ => true
    | some .string, .string _, .string _ => true
    | _, _, _ => false) && okF P fs (i + 1) us vs
  | _, _, _, _ => false
def seB (P : Program) (t : Nat) (us vs : List Value) : Bool := match P.underlying t with
  | some (.struct fs) => !P.stoodInHeld t && !P.eqGuardType P.depth t && okF P fs.toList 0 us vs
  | _ => false
theorem eqFields_run {dp : Nat} : ∀ (fs : List Field) (i : Nat) (us vs : List Value) (xs ys : Array Value) (b : Bool), okF P fs i us vs = true → (∀ j u, us[j]? = some u → xs[i + j]? = some u) → (∀ j u, vs[j]? = some u → ys[i + j]? = some u) → eqcs us vs = some b →
    (Op.eqFields (dp + 1) xs ys fs).run P w = .ok b w
  | [], i, us, vs, xs, ys, b, h, hx, hy, hb => by
    cases us <;> cases vs <;> simp [okF] at h
    simp [eqcs] at hb
    subst hb
    simp [Op.eqFields]
  | f :: fs, i, us, vs, xs, ys, b, h, hx, hy, hb => by
    cases us with
    | nil => simp [okF] at h
    | cons u us =>
      cases vs with
      | nil => simp [okF] at h
      | cons v vs =>
        simp only [okF, Bool.and_eq_true, bne_iff_ne, ne_eq, beq_iff_eq] at h
        obtain ⟨⟨⟨⟨h1, h2⟩, h3⟩, h4⟩, h5⟩ := h
        obtain ⟨dsc, inf, h6, h7, h8, h9⟩ := scB_spec h3
        simp only [eqcs] at hb
        split at hb
        · rename_i b1 b2 e1 e2
          injection hb with hb
          have ih := eqFields_run (dp := dp) fs (i + 1) us vs xs ys b2 h5 (fun j u' hj => by have := hx (j + 1) u' (by simpa using hj); rwa [show i + (j + 1) = i + 1 + j by omega] at this) (fun j u' hj => by have := hy (j + 1) u' (by simpa using hj); rwa [show i + (j + 1) = i + 1 + j by omega] at this) e2
          have hxu := hx 0 u rfl
          have hyv := hy 0 v rfl
          rw [Nat.add_zero] at hxu hyv
          have p1 : (part f.type xs f.offset).run P w = .ok u w := by simp [part, run_isAgg_of h6, h8, h2, hxu]
          have p2 : (part f.type ys f.offset).run P w = .ok v w := by simp [part, run_isAgg_of h6, h8, h2, hyv]
          have e : (Op.equalIn (dp + 1) f.type u v).run P w = .ok b1 w := by
            rw [h6] at h4
            cases dsc <;> cases u <;> (try (simp at h4; done)) <;> cases v <;> (try (simp at h4; done)) <;> simp only [eqc] at e1 <;> injection e1 with e1 <;> subst e1
            · rw [run_equalIn_bool' w dp f.type _ _ h6, beq_dec]
            · simp only [beq_iff_eq] at h4
              subst h4
              rw [run_equalIn_int w dp f.type _ _ _ _ h6, beq_dec]
            · rw [run_equalIn_string w dp f.type _ _ h6, ByteArray.toList_eq, ByteArray.toList_eq, beq_dec]
          simp only [Op.eqFields, h1, ne_eq, not_false_eq_true, if_true, Sem.run_bind, p1, p2, e, Result.andThen_ok]
          cases b1
          · simp at hb ⊢
            exact hb
          · simp at hb ⊢
            rw [ih, hb]
        · cases hb
theorem run_seq {us vs : List Value} {b : Bool} (hs : seB P t us vs = true) (hb : eqcs us vs = some b) (x y : Operand) : ((do eqGuard .eql t x y (.agg us.toArray) (.agg vs.toArray); binOp .eql t (.agg us.toArray) (.agg vs.toArray)) : Sem Value).run P w = .ok (.bool b) w := by
  unfold seB at hs
  split at hs
  · rename_i fs h1
    simp only [Bool.and_eq_true, Bool.not_eq_true'] at hs
    obtain ⟨⟨h2, h3⟩, h4⟩ := hs
    have h5 : P.fieldsOf t = fs := by simp [Program.fieldsOf, h1]
    have h6 := run_equalIn_agg (P := P) w 9999 t us.toArray vs.toArray (by rw [h5]; exact h1) h2
    rw [h5] at h6
    have h7 := eqFields_run (P := P) (w := w) (dp := 9998) fs.toList 0 us vs us.toArray vs.toArray b h4 (fun j u hj => by simpa using hj) (fun j u hj => by simpa using hj) hb
    rw [Sem.run_bind, run_eqGuard_agg w .eql t x y _ _ h3]
    simp only [Result.andThen_ok]
    rw [run_eql_struct]
    rw [show (10000 : Nat) = 9999 + 1 from rfl, h6, show (9999 : Nat) = 9998 + 1 from rfl, h7]
    rfl
  · cases hs
theorem o_steq {us vs : List Value} {b : Bool} (hs : seB P t us vs = true) (hx : evO l x = some (.agg us.toArray)) (hy : evO l y = some (.agg vs.toArray)) (hb : eqcs us vs = some b) : Runs P l ⟨dd, .binOp .eql t x y t', ty, pos, af, gg⟩ w (.bool b) w := fun ρ h => by
  have := run_seq (w := w) hs hb x y
  simp only [execOp, h _ _ hx, h _ _ hy, Sem.run_bind]
  rw [Sem.run_bind] at this
  rw [this]
  rfl
theorem run_sneq {us vs : List Value} {b : Bool} (hs : seB P t us vs = true) (hb : eqcs us vs = some b) (x y : Operand) : ((do eqGuard .neq t x y (.agg us.toArray) (.agg vs.toArray); binOp .neq t (.agg us.toArray) (.agg vs.toArray)) : Sem Value).run P w = .ok (.bool (!b)) w := by
  unfold seB at hs
  split at hs
  · rename_i fs h1
    simp only [Bool.and_eq_true, Bool.not_eq_true'] at hs
    obtain ⟨⟨h2, h3⟩, h4⟩ := hs
    have h5 : P.fieldsOf t = fs := by simp [Program.fieldsOf, h1]
    have h6 := run_equalIn_agg (P := P) w 9999 t us.toArray vs.toArray (by rw [h5]; exact h1) h2
    rw [h5] at h6
    have h7 := eqFields_run (P := P) (w := w) (dp := 9998) fs.toList 0 us vs us.toArray vs.toArray b h4 (fun j u hj => by simpa using hj) (fun j u hj => by simpa using hj) hb
    rw [Sem.run_bind, run_eqGuard_agg w .neq t x y _ _ h3]
    simp only [Result.andThen_ok]
    rw [run_neq_struct]
    rw [show (10000 : Nat) = 9999 + 1 from rfl, h6, show (9999 : Nat) = 9998 + 1 from rfl, h7]
    rfl
  · cases hs
theorem o_stne {us vs : List Value} {b : Bool} (hs : seB P t us vs = true) (hx : evO l x = some (.agg us.toArray)) (hy : evO l y = some (.agg vs.toArray)) (hb : eqcs us vs = some b) : Runs P l ⟨dd, .binOp .neq t x y t', ty, pos, af, gg⟩ w (.bool (!b)) w := fun ρ h => by
  have := run_sneq (w := w) hs hb x y
  simp only [execOp, h _ _ hx, h _ _ hy, Sem.run_bind]
  rw [Sem.run_bind] at this
  rw [this]
  rfl
end
end Go.Proofs.Ythmohmpalbnjoaa.V
