/-
  A part of the proof: walks of functions, and the plain laws of what they compute. No condition of its own.
-/
import Derived.Test.YtccjjkdogljmpaaV5
import Derived.StillTail
set_option linter.unusedVariables false
set_option linter.unusedSimpArgs false
namespace Go.Proofs.Ytccjjkdogljmpaa.V
open Go
/-! ## Regions that draw their order

Of each operation's value something is known that lasts in all later worlds; an operation uses what is known of those slots alone that it looks at. So one walk of the order of the text serves every order. -/

/-- what is known of slots' values -/
abbrev Kn := Nat → Option (Value → World → Prop)
def Kn.put (N : Kn) (o : Oper) (V : Value → World → Prop) : Kn := match o.dst with
  | some d => fun t => if t = d then some V else N t
  | none => N
/-- .. holds of the slots that 'o' looks at -/
def Kn.on (ops : Array Oper) (N : Kn) (o : Oper) (a : Act) (w : World) : Prop := ∀ t V, t ∈ o.looksAt ops → N t = some V → V (a.tmps.getD t undef) w
def Kn.all (N : Kn) (n : Nat) (a : Act) (w : World) : Prop := a.tmps.size = n ∧ ∀ t V, N t = some V → V (a.tmps.getD t undef) w

def TameUpon (P : Program) (R : World → World → Prop) (w : World) (V : Value → World → Prop) : Result Next → Prop
  | .ok (.value u) w' => R w w' ∧ V u w'
  | .ok .skip w' => R w w' ∧ V undef w'
  | .ok (.enter f args) w' => w' = w ∧ Calls P f args w (Ret fun v w'' => R w w'' ∧ V v w'')
  | _ => False

section
variable {P : Program} {ops : Array Oper} {md : Region.Mode} {R : World → World → Prop} {C : World → Prop} {n : Nat} {ds : List Deferred}

/-- WHAT IS ASKED OF ONE OPERATION. -/
structure J (P : Program) (ops : Array Oper) (R : World → World → Prop) (C : World → Prop) (n : Nat) (N : Kn) (o : Oper) (V : Value → World → Prop) : Prop where
  lasts : ∀ v w w', R w w' → V v w → V v w'
  fits : ∀ d, o.dst = some d → d < n
  run : ∀ a w, C w → Kn.on ops N o a w →
    if Region.wanted o (yielded ops a.tmps) then TameUpon P R w V ((execOp a.eval o).run P w) else V undef w

/-- whatever order is picked from here on -/
def AnyT (P : Program) (md : Region.Mode) (ops : Array Oper) (R : World → World → Prop) (C : World → Prop) (n : Nat) (Fin : Kn → Prop) : Nat → Array Bool → Kn → Prop
  | 0, listed, N => Region.ready md ops listed = [] ∧ Fin N
  | fuel + 1, listed, N => (Region.ready md ops listed = [] → Fin N) ∧
    ∀ i ∈ Region.ready md ops listed, ∀ o, ops[i]? = some o → ∃ V, J P ops R C n N o V ∧ AnyT P md ops R C n Fin fuel (listed.setIfInBounds i true) (N.put o V)

/-- 'R' is a preorder under which 'C' lasts. -/
structure Later (R : World → World → Prop) (C : World → Prop) : Prop where
  refl : ∀ w, R w w
  trans : ∀ a b c, R a b → R b c → R a c
  keeps : ∀ w w', R w w' → C w → C w'

theorem put_all {N : Kn} {o : Oper} {V : Value → World → Prop} {a : Act} {w w' : World} {v : Value} (hl : ∀ t U, N t = some U → ∀ v w w', R w w' → U v w → U v w') (hR : R w w') (hN : N.all n a w) (hV : V v w') (hd : ∀ d, o.dst = some d → d < n) : (N.put o V).all n (a.put o.dst v) w' := by
  unfold Kn.put
  cases ho : o.dst with
  | none => exact ⟨hN.1, fun t U hU => hl t U hU _ _ _ hR (hN.2 t U hU)⟩
  | some d =>
    refine ⟨by simp [Act.put, hN.1], fun t U hU => ?_⟩
    dsimp only at hU
    by_cases htd : t = d
    · subst htd
      rw [if_pos rfl] at hU
      injection hU with hU
      subst hU
      have := hd t ho
      simp [Act.put, hN.1, this]
      exact hV
    · rw [if_neg htd] at hU
      have := hl t U hU _ _ _ hR (hN.2 t U hU)
      simpa [Act.put, Array.getElem?_setIfInBounds_ne (Ne.symm htd)] using this

def Kn.lasts (R : World → World → Prop) (N : Kn) : Prop := ∀ t U, N t = some U → ∀ v w w', R w w' → U v w → U v w'
theorem Kn.lasts.put {N : Kn} (h : N.lasts R) {o : Oper} {V : Value → World → Prop} (hV : ∀ v w w', R w w' → V v w → V v w') : (N.put o V).lasts R := by
  intro t U hU
  unfold Kn.put at hU
  cases ho : o.dst with
  | none => rw [ho] at hU; exact h t U hU
  | some d =>
    rw [ho] at hU
    dsimp only at hU
    split at hU
    · injection hU with hU; subst hU; exact hV
    · exact h t U hU

theorem wpOp_of_J {o : Oper} {i : Nat} {N : Kn} {V : Value → World → Prop} {a : Act} {w : World} {Q : Exit → Act → World → Prop} {K : Act → World → Prop} (hL : Later R C) (hNl : N.lasts R) (hi : ops[i]? = some o) (hJ : J P ops R C n N o V) (hC : C w) (hN : N.all n a w)
    (hK : ∀ a' w', (a'.defers = a.defers) → C w' → R w w' → (N.put o V).all n a' w' → K a' w') : wpOp P ops Q i K a w := by
  unfold wpOp
  simp only [hi]
  have hr := hJ.run a w hC (fun t U _ hU => hN.2 t U hU)
  have hdef : ∀ v, (a.put o.dst v).defers = a.defers := fun v => by cases o.dst <;> rfl
  split
  · rename_i hw
    rw [if_pos hw] at hr
    refine .inl ?_
    unfold Oper.wp
    generalize (execOp a.eval o).run P w = r at *
    cases r with
    | halt h w' => exact hr.elim
    | ok x w' =>
      cases x <;> simp only [TameUpon] at hr <;> simp only [Oper.upon]
      case value u => exact hK _ _ (hdef _) (hL.keeps _ _ hr.1 hC) hr.1 (put_all hNl hr.1 hN hr.2 hJ.fits)
      case skip => exact hK _ _ (hdef _) (hL.keeps _ _ hr.1 hC) hr.1 (put_all hNl hr.1 hN hr.2 hJ.fits)
      case enter f args =>
        obtain ⟨rfl, hc⟩ := hr
        refine hc.mono fun e w'' he => ?_
        cases e with
        | returned v => exact hK _ _ (hdef _) (hL.keeps _ _ he.1 hC) he.1 (put_all hNl he.1 hN he.2 hJ.fits)
        | panicked c => exact he.elim
        | outgrown => exact he.elim
  · rename_i hw
    rw [if_neg hw] at hr
    exact hK _ _ (hdef _) hC (hL.refl w) (put_all hNl (hL.refl w) hN hr hJ.fits)

theorem wpAny_of_T {Q : Exit → Act → World → Prop} {Fin : Kn → Prop} {w0 : World} {ds : List Deferred} (hL : Later R C)
    (hFin : ∀ N a w, N.lasts R → a.defers = ds → C w → R w0 w → N.all n a w → Fin N → Q .normal a w) : ∀ (fuel : Nat) (listed : Array Bool) (N : Kn) (a : Act) (w : World), N.lasts R → a.defers = ds → C w → R w0 w → N.all n a w →
    AnyT P md ops R C n Fin fuel listed N → wpAny P md ops Q fuel listed a w
  | 0, listed, N, a, w, h0, h1, h2, h3, h4, h => ⟨h.1, hFin N a w h0 h1 h2 h3 h4 h.2⟩
  | fuel + 1, listed, N, a, w, h0, h1, h2, h3, h4, h => by
    refine ⟨fun hr => hFin N a w h0 h1 h2 h3 h4 (h.1 hr), fun i hi => ?_⟩
    obtain ⟨_, o, ho, _⟩ := mem_ready.1 hi
    obtain ⟨V, hJ, hrest⟩ := h.2 i hi o ho
    exact wpOp_of_J hL h0 ho hJ h2 h4 fun a' w' hd hC hR hN => wpAny_of_T hL hFin fuel _ _ a' w' (h0.put hJ.lasts) (hd.trans h1) hC (hL.trans _ _ _ h3 hR) hN hrest

/-- an operation that looks at no slot that the other writes is asked the same, whether or not that one came up -/
theorem J.past {N : Kn} {o o' : Oper} {V V' : Value → World → Prop} (h : J P ops R C n (N.put o' V') o V) (hn : ∀ d, o'.dst = some d → d ∉ o.looksAt ops) : J P ops R C n N o V := by
  refine ⟨h.lasts, h.fits, fun a w hC hN => h.run a w hC fun t U ht hU => ?_⟩
  unfold Kn.put at hU
  cases hd : o'.dst with
  | none => rw [hd] at hU; exact hN t U ht hU
  | some d =>
    rw [hd] at hU
    dsimp only at hU
    split at hU
    · rename_i he; subst he; exact absurd ht (hn _ hd)
    · exact hN t U ht hU
theorem J.ahead {N : Kn} {o o' : Oper} {V V' : Value → World → Prop} (h : J P ops R C n N o V) (hn : ∀ d, o'.dst = some d → d ∉ o.looksAt ops) : J P ops R C n (N.put o' V') o V := by
  refine ⟨h.lasts, h.fits, fun a w hC hN => h.run a w hC fun t U ht hU => ?_⟩
  refine hN t U ht ?_
  unfold Kn.put
  cases hd : o'.dst with
  | none => exact hU
  | some d =>
    dsimp only
    rw [if_neg (fun he => by subst he; exact hn _ hd ht)]
    exact hU
theorem Kn.put_comm (N : Kn) {o o' : Oper} (V V' : Value → World → Prop) (h : ∀ d, o.dst = some d → o'.dst ≠ some d) : (N.put o V).put o' V' = (N.put o' V').put o V := by
  unfold Kn.put
  cases ho : o.dst with
  | none => cases o'.dst <;> rfl
  | some d =>
    cases ho' : o'.dst with
    | none => rfl
    | some d' =>
      have hne : d' ≠ d := fun e => h d ho (by rw [ho', e])
      funext t
      dsimp only
      by_cases h1 : t = d
      · subst h1
        by_cases h2 : t = d'
        · exact absurd h2.symm hne
        · simp [h2]
      · simp [h1]

theorem AnyT_first {Fin : Kn → Prop} {i : Nat} {oi : Oper} {V : Value → World → Prop} (hi : ops[i]? = some oi) :
    ∀ (fuel : Nat) (listed : Array Bool) (N : Kn),
      (∀ j oj, ops[j]? = some oj → j ≠ i → listed.getD j true = false → (∀ e ∈ oj.after, Region.binds md e = true → e.on ≠ i) → oi.apart ops oj = true) →
      i ∈ Region.ready md ops listed → J P ops R C n N oi V →
      AnyT P md ops R C n Fin fuel (listed.setIfInBounds i true) (N.put oi V) → AnyT P md ops R C n Fin (fuel + 1) listed N := by
  intro fuel
  induction fuel with
  | zero =>
    intro listed N _ hr hJ H
    refine ⟨fun h => (by rw [h] at hr; cases hr), fun j hj o ho => ?_⟩
    by_cases hji : j = i
    · subst hji
      have : o = oi := Option.some.inj (ho.symm.trans hi)
      subst this
      exact ⟨V, hJ, H⟩
    · have := ready_mono hj hji
      rw [H.1] at this
      cases this
  | succ fuel ih =>
    intro listed N hfree hr hJ H
    refine ⟨fun h => (by rw [h] at hr; cases hr), fun j hj o ho => ?_⟩
    by_cases hji : j = i
    · subst hji
      have : o = oi := Option.some.inj (ho.symm.trans hi)
      subst this
      exact ⟨V, hJ, H⟩
    · obtain ⟨Vj, hJj, hrest⟩ := H.2 j (ready_mono hj hji) o ho
      obtain ⟨hjun, oj, hoj, hall⟩ := mem_ready.1 hj
      have : o = oj := Option.some.inj (ho.symm.trans hoj)
      subst this
      have hnot : ∀ e ∈ o.after, Region.binds md e = true → e.on ≠ i := fun e he hb heq => by
        have h1 := hall e he hb
        have h0 := (mem_ready.1 hr).1
        rw [heq] at h1
        rcases Nat.lt_or_ge i listed.size with h' | h'
        · simp [h'] at h0 h1; rw [h0] at h1; cases h1
        · simp [Array.getElem?_eq_none h'] at h1
      obtain ⟨a1, a2, a3⟩ := Oper.apart_spec (hfree j o hoj hji hjun hnot)
      refine ⟨Vj, hJj.past a1, ih (listed.setIfInBounds j true) (N.put o Vj) (fun k ok hk hki hun hno => ?_) (ready_mono hr (Ne.symm hji)) (hJ.ahead a3) ?_⟩
      · refine hfree k ok hk hki ?_ hno
        by_cases hjk : j = k
        · subst hjk; exact hjun
        · rw [getD_set_ne true hjk] at hun; exact hun
      · rw [Array.setIfInBounds_comm _ _ hji, ← Kn.put_comm N V Vj a2]
        exact hrest

/-- THE WALK, in the order of the text -/
def TW (P : Program) (ops : Array Oper) (R : World → World → Prop) (C : World → Prop) (n : Nat) (Fin : Kn → Prop) : List Oper → Kn → Prop
  | [], N => Fin N
  | o :: rest, N => ∃ V, J P ops R C n N o V ∧ TW P ops R C n Fin rest (N.put o V)

theorem AnyT_lex {Fin : Kn → Prop} : ∀ (l : List Oper) (k : Nat) (listed : Array Bool) (N : Kn), (∀ j, l[j]? = ops[k + j]?) →
    Region.lexFrom md ops l.length k listed = true → TW P ops R C n Fin l N → AnyT P md ops R C n Fin l.length listed N
  | [], _, _, _, _, hB, h => ⟨by simpa [Region.lexFrom] using hB, h⟩
  | o :: l, k, listed, N, hl, hB, h => by
    have h0 : ops[k]? = some o := by simpa using (hl 0).symm
    simp only [List.length_cons, Region.lexFrom, Bool.and_eq_true] at hB
    obtain ⟨⟨hr, hf⟩, hB'⟩ := hB
    obtain ⟨V, hJ, hrest⟩ := h
    exact AnyT_first h0 l.length listed N (Region.free_spec h0 hf) (by simpa using hr) hJ
      (AnyT_lex l (k + 1) _ _ (fun j => by have := hl (j + 1); simpa [Nat.add_assoc, Nat.add_comm 1 j] using this) hB' hrest)

/-! ### .. with operations behind it that come one behind the other -/
def AnyTL (P : Program) (md : Region.Mode) (ops : Array Oper) (R : World → World → Prop) (C : World → Prop) (n m : Nat) (L : Array Bool → Kn → Prop) : Nat → Array Bool → Kn → Prop
  | 0, listed, N => L listed N
  | f + 1, listed, N => Region.ready md ops listed ≠ [] ∧
    ∀ i ∈ Region.ready md ops listed, i < m ∧ ∀ o, ops[i]? = some o → ∃ V, J P ops R C n N o V ∧ AnyTL P md ops R C n m L f (listed.setIfInBounds i true) (N.put o V)

theorem wpAny_of_TL {Q : Exit → Act → World → Prop} {L : Array Bool → Kn → Prop} {w0 : World} {ds : List Deferred} {m g : Nat} (hL : Later R C)
    (hFin : ∀ listed N a w, N.lasts R → a.defers = ds → C w → R w0 w → N.all n a w → L listed N → wpAny P md ops Q g listed a w) : ∀ (f : Nat) (listed : Array Bool) (N : Kn) (a : Act) (w : World), N.lasts R → a.defers = ds → C w → R w0 w → N.all n a w →
    AnyTL P md ops R C n m L f listed N → wpAny P md ops Q (f + g) listed a w
  | 0, listed, N, a, w, h0, h1, h2, h3, h4, h => by rw [Nat.zero_add]; exact hFin listed N a w h0 h1 h2 h3 h4 h
  | f + 1, listed, N, a, w, h0, h1, h2, h3, h4, h => by
    rw [show f + 1 + g = (f + g) + 1 by omega]
    refine ⟨fun hr => absurd hr h.1, fun i hi => ?_⟩
    obtain ⟨_, o, ho, _⟩ := mem_ready.1 hi
    obtain ⟨V, hJ, hrest⟩ := (h.2 i hi).2 o ho
    exact wpOp_of_J hL h0 ho hJ h2 h4 fun a' w' hd hC hR hN => wpAny_of_TL hL hFin f _ _ a' w' (h0.put hJ.lasts) (hd.trans h1) hC (hL.trans _ _ _ h3 hR) hN hrest

theorem AnyTL_first {m i : Nat} {oi : Oper} {V : Value → World → Prop} {L : Array Bool → Kn → Prop} (hi : ops[i]? = some oi)
    (hs : Region.sinkB md ops m = true) (hc : Region.chainB md ops m = true) (hn : m < ops.size) (hin : i < m)
    (hdone : ∀ listed N, L listed N → ∀ j ∈ Region.ready md ops listed, m ≤ j) :
    ∀ (f : Nat) (listed : Array Bool) (N : Kn), HeadInv md ops m listed →
      (∀ j oj, ops[j]? = some oj → j ≠ i → listed.getD j true = false → (∀ e ∈ oj.after, Region.binds md e = true → e.on ≠ i) → oi.apart ops oj = true) →
      i ∈ Region.ready md ops listed → J P ops R C n N oi V →
      AnyTL P md ops R C n m L f (listed.setIfInBounds i true) (N.put oi V) → AnyTL P md ops R C n m L (f + 1) listed N := by
  intro f
  induction f with
  | zero =>
    intro listed N inv _ hr hJ H
    have hun := (mem_ready.1 hr).1
    refine ⟨fun h => (by rw [h] at hr; cases hr), fun j hj => ?_⟩
    have hjn : j < m := by
      rcases Nat.lt_or_ge j m with h | h
      · exact h
      · exact absurd hj (tail_waits hs hc hn inv _ i rfl hin hun j h)
    refine ⟨hjn, fun o ho => ?_⟩
    by_cases hji : j = i
    · subst hji
      have : o = oi := Option.some.inj (ho.symm.trans hi)
      subst this
      exact ⟨V, hJ, H⟩
    · have := hdone _ _ H j (ready_mono hj hji)
      omega
  | succ f ih =>
    intro listed N inv hfree hr hJ H
    have hun := (mem_ready.1 hr).1
    refine ⟨fun h => (by rw [h] at hr; cases hr), fun j hj => ?_⟩
    have hjn : j < m := by
      rcases Nat.lt_or_ge j m with h | h
      · exact h
      · exact absurd hj (tail_waits hs hc hn inv _ i rfl hin hun j h)
    refine ⟨hjn, fun o ho => ?_⟩
    by_cases hji : j = i
    · subst hji
      have : o = oi := Option.some.inj (ho.symm.trans hi)
      subst this
      exact ⟨V, hJ, H⟩
    · obtain ⟨Vj, hJj, hrest⟩ := (H.2 j (ready_mono hj hji)).2 o ho
      obtain ⟨hjun, oj, hoj, hall⟩ := mem_ready.1 hj
      have : o = oj := Option.some.inj (ho.symm.trans hoj)
      subst this
      have hnot : ∀ e ∈ o.after, Region.binds md e = true → e.on ≠ i := fun e he hb heq => by
        have h1 := hall e he hb
        rw [heq, getD_both hun] at h1
        cases h1
      obtain ⟨a1, a2, a3⟩ := Oper.apart_spec (hfree j o hoj hji hjun hnot)
      refine ⟨Vj, hJj.past a1, ih (listed.setIfInBounds j true) (N.put o Vj) (inv.set hj hjn) (fun k ok hk hki hun hno => ?_) (ready_mono hr (Ne.symm hji)) (hJ.ahead a3) ?_⟩
      · refine hfree k ok hk hki ?_ hno
        by_cases hjk : j = k
        · subst hjk; exact hjun
        · rw [getD_set_ne true hjk] at hun; exact hun
      · rw [Array.setIfInBounds_comm _ _ hji, ← Kn.put_comm N V Vj a2]
        exact hrest

theorem AnyTL_lex {m g : Nat} {Fin : Kn → Prop} (hs : Region.sinkB md ops m = true) (hc : Region.chainB md ops m = true) (hn : m < ops.size) :
    ∀ (l : List Oper) (k : Nat) (listed : Array Bool) (N : Kn), (∀ j, j < l.length → l[j]? = ops[k + j]?) → k + l.length = m → HeadInv md ops m listed →
    Region.lexHead md ops g l.length k listed = true → TW P ops R C n Fin l N →
    AnyTL P md ops R C n m (fun listed' N' => Region.seqB md ops g m listed' = true ∧ Fin N') l.length listed N
  | [], k, listed, N, _, hk, _, hB, h => by
    have : k = m := by simpa using hk
    subst this
    exact ⟨by simpa [Region.lexHead] using hB, h⟩
  | o :: l, k, listed, N, hl, hk, inv, hB, h => by
    have h0 : ops[k]? = some o := by simpa using (hl 0 (by simp)).symm
    simp only [List.length_cons, Region.lexHead, Bool.and_eq_true] at hB
    obtain ⟨⟨hr, hf⟩, hB'⟩ := hB
    have hkn : k < m := by simp only [List.length_cons] at hk; omega
    have hr' : k ∈ Region.ready md ops listed := by simpa using hr
    obtain ⟨V, hJ, hrest⟩ := h
    exact AnyTL_first h0 hs hc hn hkn (fun listed' N' hL => seqB_ready hL.1) l.length listed N inv (Region.free_spec h0 hf) hr' hJ
      (AnyTL_lex hs hc hn l (k + 1) _ _ (fun j hj => by have := hl (j + 1) (by simp; omega); simpa [Nat.add_assoc, Nat.add_comm 1 j] using this) (by simp only [List.length_cons] at hk; omega) (inv.set hr' hkn) hB' hrest)
end
end Go.Proofs.Ytccjjkdogljmpaa.V
