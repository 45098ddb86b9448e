/-
  A part of the proof: walks of functions, and the plain laws of what they compute. No condition of its own.
-/
import Derived.Test.YtccjjkdogljmpaaV6
set_option linter.unusedVariables false
set_option linter.unusedSimpArgs false
namespace Go.Proofs.Ytccjjkdogljmpaa.V
open Go
def lkM (t : Nat) : List (Nat × (Value → World → Prop)) → Option (Value → World → Prop)
  | [] => none
  | (s, v) :: r => match Nat.beq s t with
    | true => some v
    | false => lkM t r
/-- what is known: of the slots of 'l' the value, of those of 'M' something -/
def kn (l : List (Nat × Value)) (M : List (Nat × (Value → World → Prop))) : Kn := fun t => match lk t l with
  | some v => some fun u _ => u = v
  | none => lkM t M

section
variable {P : Program} {ops : Array Oper} {Q : Exit → Act → World → Prop} {n : Nat} {ds : List Deferred} {l : List (Nat × Value)} {M : List (Nat × (Value → World → Prop))} {w w' : World} {a : Act}
variable {rest : List Oper} {d : Nat} {op : Op} {ty : TypeId} {pos : String} {af : Array Edge} {Fin : Kn → Prop}

theorem later (w : World) : Later (Mod []) (Mod [] w) := ⟨Mod.refl [], fun _ _ _ h k => h.trans k, fun _ _ h k => k.trans h⟩

abbrev TWL (P : Program) (ops : Array Oper) (w : World) (n : Nat) (Fin : Kn → Prop) (rest : List Oper) (l : List (Nat × Value)) (M : List (Nat × (Value → World → Prop))) : Prop := TW P ops (Mod []) (Mod [] w) n Fin rest (kn l M)

/-- what is asked behind the region -/
def FinW (Q : Exit → Act → World → Prop) (n : Nat) (ds : List Deferred) (w : World) (N : Kn) : Prop := ∀ a w', a.defers = ds → Mod [] w w' → N.all n a w' → Q .normal a w'

theorem kn_lasts (l : List (Nat × Value)) : (kn l []).lasts (Mod []) := by
  intro t U hU
  unfold kn at hU
  split at hU
  · injection hU with hU; subst hU; exact fun _ _ _ _ h => h
  · simp [lkM] at hU
theorem kn_all {l : List (Nat × Value)} (ha : Has n ds l a) : (kn l []).all n a w := by
  refine ⟨ha.size, fun t U hU => ?_⟩
  unfold kn at hU
  split at hU
  · rename_i v hv
    injection hU with hU
    subst hU
    simp [ha.get t v hv]
  · simp [lkM] at hU

theorem c_draw {id : Nat} {lo : List Oper} (hm : P.follows .mixedOrders = true) (hB : Region.lexB .any lo.toArray = true) (h : TWL P lo.toArray w n (FinW Q n ds w) lo l []) : WC P (.region id lo.toArray true) Q n ds l w := by
  intro a ha
  simp only [Region.lexB, Bool.and_eq_true] at hB
  refine wp_region_any hm (wpAny_of_T (n := n) (ds := ds) (w0 := w) (Fin := FinW Q n ds w) (later w) (fun N a w' _ hd hC _ hN hF => hF a w' hd hC hN) _ _ (kn l []) a _ (kn_lasts l) ha.defers (Mod.drew [] w) (Mod.drew [] w) (kn_all ha) ?_)
  have := AnyT_lex (md := .any) lo 0 (Array.replicate lo.toArray.size false) (kn l []) (by simp) (by simpa using hB.2) h
  simpa using this

/-- the operations from 'm' on come one behind the other, and may do whatever they do -/
theorem c_drawt {id : Nat} {lo : List Oper} (m : Nat) (hm : P.follows .mixedOrders = true) (hB : Region.lexTailB .any lo.toArray m = true)
    (h : TWL P lo.toArray w n (fun N => ∀ a w', a.defers = ds → Mod [] w w' → N.all n a w' → wpList P lo.toArray Q (lo.drop m) a w') (lo.take m) l []) : WC P (.region id lo.toArray true) Q n ds l w := by
  intro a ha
  simp only [Region.lexTailB, Bool.and_eq_true, decide_eq_true_eq] at hB
  obtain ⟨⟨⟨⟨hsel, hn⟩, hs⟩, hc⟩, hlex⟩ := hB
  have hn' : m < lo.length := by simpa using hn
  have htl : (lo.take m).length = m := by simp; omega
  have hdl : (lo.drop m).length = lo.toArray.size - m := by simp
  have inv0 : HeadInv .any lo.toArray m (Array.replicate lo.toArray.size false) :=
    ⟨by simp, fun j oj _ hl => (by rw [getD_replicate_false] at hl; cases hl), fun t _ ht => getD_in (by simpa using ht) (getD_replicate_false _ _)⟩
  have H := AnyTL_lex (md := .any) (g := lo.toArray.size - m) hs hc hn (lo.take m) 0 _ (kn l []) (fun j hj => by
    have hj' : j < m := by rw [htl] at hj; exact hj
    simp [hj']) (by simpa using htl) inv0 (by rw [htl]; exact hlex) h
  refine wp_region_any hm ?_
  have := wpAny_of_TL (n := n) (ds := ds) (w0 := w) (Q := Q) (g := lo.toArray.size - m) (later w) (fun listed N a w' _ hd hC _ hN hL => by
    have := wpAny_of_seq (md := .any) (Q' := Q) (lo.drop m) m listed a w' (fun j => by simp [List.getElem?_drop]) (by rw [hdl]; exact hL.1) (hL.2 a w' hd hC hN)
    rwa [hdl] at this) _ _ (kn l []) a _ (kn_lasts l) ha.defers (Mod.drew [] w) (Mod.drew [] w) (kn_all ha) H
  rw [htl, show m + (lo.toArray.size - m) = lo.toArray.size by omega] at this
  exact this

/-- behind the head: values of which something is known are named -/
theorem kn_has {l : List (Nat × Value)} {M : List (Nat × (Value → World → Prop))} (hd : a.defers = ds) (h : (kn l M).all n a w) : Has n ds (l.filter fun p => decide (p.1 < n)) a := by
  refine ⟨h.1, hd, fun t v hv => ?_⟩
  have hlt : t < n := by
    clear h
    induction l with
    | nil => simp [lk] at hv
    | cons p r ih =>
      obtain ⟨s, u⟩ := p
      by_cases hs : s < n
      · simp only [List.filter_cons, hs, decide_true, if_true, lk] at hv
        cases hb : Nat.beq s t with
        | true => have := Nat.eq_of_beq_eq_true hb; omega
        | false => rw [hb] at hv; exact ih hv
      · simp only [List.filter_cons, hs, decide_false] at hv
        exact ih hv
  have hv' : lk t l = some v := by
    clear h
    induction l with
    | nil => simp [lk] at hv
    | cons p r ih =>
      obtain ⟨s, u⟩ := p
      by_cases hs : s < n
      · simp only [List.filter_cons, hs, decide_true, if_true, lk] at hv ⊢
        cases hb : Nat.beq s t with
        | true => rw [hb] at hv; exact hv
        | false => rw [hb] at hv; exact ih hv
      · simp only [List.filter_cons, hs, decide_false] at hv
        simp only [lk]
        cases hb : Nat.beq s t with
        | true => have := Nat.eq_of_beq_eq_true hb; omega
        | false => exact ih hv
  have := h.2 t (fun u _ => u = v) (by simp [kn, hv'])
  rw [← h.1] at hlt
  simp [hlt] at this
  simp [hlt, this]

/-- what is known of the frame alone: the list's slots lie in it -/
def fitB (n : Nat) : List (Nat × Value) → Bool
  | [] => true
  | (t, _) :: r => Nat.blt t n && fitB n r
theorem fitB_filter {n : Nat} : ∀ {l : List (Nat × Value)}, fitB n l = true → (l.filter fun p => decide (p.1 < n)) = l
  | [], _ => rfl
  | (t, v) :: r, h => by
    simp only [fitB, Bool.and_eq_true, Nat.blt_eq] at h
    simp [List.filter_cons, h.1, fitB_filter h.2]
theorem tw_nil (hf : fitB n l = true) (h : ∀ w', Mod [] w w' → WE Q .normal n ds l w') : TWL P ops w n (FinW Q n ds w) [] l M := by
  intro a w' hd hC hN
  have := kn_has hd hN
  rw [fitB_filter hf] at this
  exact h w' hC a this
theorem tw_nil1 {t : Nat} {V : Value → World → Prop} (hf : fitB n l = true) (ht : lk t l = none) (hM : lkM t M = some V) (htn : Nat.blt t n = true) (h : ∀ w' v, Mod [] w w' → V v w' → WE Q .normal n ds ((t, v) :: l) w') : TWL P ops w n (FinW Q n ds w) [] l M := by
  intro a w' hd hC hN
  have h1 := kn_has hd hN
  rw [fitB_filter hf] at h1
  have htn' : t < a.tmps.size := by rw [hN.1]; simpa [Nat.blt_eq] using htn
  have h2 := hN.2 t V (by simp [kn, ht, hM])
  have h3 : a.tmps.getD t undef = a.tmps[t] := by simp [htn']
  rw [h3] at h2
  refine h w' _ hC h2 a ⟨h1.size, h1.defers, fun s v hv => ?_⟩
  simp only [lk] at hv
  cases hb : Nat.beq t s with
  | true =>
    rw [hb] at hv
    have := Nat.eq_of_beq_eq_true hb
    subst this
    injection hv with hv
    subst hv
    simp [htn']
  | false => rw [hb] at hv; exact h1.get s v hv
/-- behind the head of a region with a tail -/
theorem tw_tail {rest' : List Oper} (hf : fitB n l = true) (h : ∀ w', Mod [] w w' → WL P ops Q rest' n ds l w') : TWL P ops w n (fun N => ∀ a w', a.defers = ds → Mod [] w w' → N.all n a w' → wpList P ops Q rest' a w') [] l M := by
  intro a w' hd hC hN
  have := kn_has hd hN
  rw [fitB_filter hf] at this
  exact h w' hC a this
theorem tw_tail1 {rest' : List Oper} {t : Nat} {V : Value → World → Prop} (hf : fitB n l = true) (ht : lk t l = none) (hM : lkM t M = some V) (htn : Nat.blt t n = true) (h : ∀ w' v, Mod [] w w' → V v w' → WL P ops Q rest' n ds ((t, v) :: l) w') :
    TWL P ops w n (fun N => ∀ a w', a.defers = ds → Mod [] w w' → N.all n a w' → wpList P ops Q rest' a w') [] l M := by
  intro a w' hd hC hN
  have h1 := kn_has hd hN
  rw [fitB_filter hf] at h1
  have htn' : t < a.tmps.size := by rw [hN.1]; simpa [Nat.blt_eq] using htn
  have h2 := hN.2 t V (by simp [kn, ht, hM])
  have h3 : a.tmps.getD t undef = a.tmps[t] := by simp [htn']
  rw [h3] at h2
  refine h w' _ hC h2 a ⟨h1.size, h1.defers, fun s v hv => ?_⟩
  simp only [lk] at hv
  cases hb : Nat.beq t s with
  | true =>
    rw [hb] at hv
    have := Nat.eq_of_beq_eq_true hb
    subst this
    injection hv with hv
    subst hv
    simp [htn']
  | false => rw [hb] at hv; exact h1.get s v hv

def notSel : Op → Bool
  | .select .. => false
  | _ => true
/-- one operation's judgement out of its run -/
theorem J_of {V : Value → World → Prop} (hV : ∀ v w1 w2, Mod [] w1 w2 → V v w1 → V v w2) (hd : Nat.blt d n = true) (hs : notSel op = true)
    (hr : ∀ (ρ : Operand → Value) w1, Mod [] w w1 → (∀ x u, evO l x = some u → ρ x = u) → (∀ t U, lk t l = none → lkM t M = some U → (∃ x ∈ op.operands.toList, x = .tmp t) → U (ρ (.tmp t)) w1) →
      TameUpon P (Mod []) w1 V ((execOp ρ ⟨some d, op, ty, pos, af, none⟩).run P w1)) :
    J P ops (Mod []) (Mod [] w) n (kn l M) ⟨some d, op, ty, pos, af, none⟩ V := by
  refine ⟨hV, fun d' hd' => by injection hd' with hd'; subst hd'; simpa [Nat.blt_eq] using hd, fun a w1 hC hN => ?_⟩
  rw [if_pos (by simp [Region.wanted])]
  let ρ : Operand → Value := fun x => match evO l x with
    | some u => u
    | none => a.eval x
  have hlook : ∀ t, (∃ x ∈ op.operands.toList, x = .tmp t) → t ∈ Oper.looksAt ops ⟨some d, op, ty, pos, af, none⟩ := by
    rintro t ⟨x, hx, rfl⟩
    unfold Oper.looksAt
    exact List.mem_append_left _ (List.mem_filterMap.2 ⟨.tmp t, hx, rfl⟩)
  have hρ : ∀ x ∈ op.operands, a.eval x = ρ x := by
    intro x hx
    show a.eval x = match evO l x with | some u => u | none => a.eval x
    cases hv : evO l x with
    | none => rfl
    | some u =>
      cases x with
      | tmp t =>
        have := hN t (fun u' _ => u' = u) (hlook t ⟨_, by simpa using hx, rfl⟩) (by simp only [evO] at hv; simp [kn, hv])
        simpa [Act.eval] using this
      | const c => simp only [evO] at hv; injection hv
      | global g => simp only [evO] at hv; injection hv
      | func f => simp only [evO] at hv; injection hv
  have he := execOp_congr ⟨some d, op, ty, pos, af, none⟩ (fun cs b h => by dsimp only at h; rw [h] at hs; simp [notSel] at hs) hρ
  rw [he]
  refine hr ρ w1 hC (fun x u hx => ?_) (fun t U ht hU hx => ?_)
  · show (match evO l x with | some u => u | none => a.eval x) = u
    rw [hx]
  · have h1 := hN t U (hlook t hx) (by simp [kn, ht, hU])
    show U (match evO l (.tmp t) with | some u => u | none => a.eval (.tmp t)) w1
    simp only [evO, ht]
    simpa [Act.eval] using h1

theorem kn_put_v {o : Oper} (hd : o.dst = some d) (v : Value) : (kn l M).put o (fun u _ => u = v) = kn ((d, v) :: l) M := by
  funext t
  unfold Kn.put kn
  simp only [hd, lk]
  by_cases h : t = d
  · subst h; simp
  · have : Nat.beq d t = false := by
      cases hb : Nat.beq d t
      · rfl
      · exact absurd (Nat.eq_of_beq_eq_true hb).symm h
    simp [h, this]
theorem kn_put_r {o : Oper} (hd : o.dst = some d) (hl : lk d l = none) (V : Value → World → Prop) : (kn l M).put o V = kn l ((d, V) :: M) := by
  funext t
  unfold Kn.put kn
  simp only [hd, lkM]
  by_cases h : t = d
  · subst h; simp [hl]
  · have : Nat.beq d t = false := by
      cases hb : Nat.beq d t
      · rfl
      · exact absurd (Nat.eq_of_beq_eq_true hb).symm h
    simp [h, this]

/-- an operation with one value in all later worlds -/
theorem tv {v : Value} (hr : ∀ w1, Mod [] w w1 → Runs P l ⟨some d, op, ty, pos, af, none⟩ w1 v w1) (hd : Nat.blt d n = true) (hs : notSel op = true) (h : TWL P ops w n Fin rest ((d, v) :: l) M) :
    TWL P ops w n Fin (⟨some d, op, ty, pos, af, none⟩ :: rest) l M := by
  refine ⟨fun u _ => u = v, J_of (fun _ _ _ _ h => h) hd hs fun ρ w1 hC h1 h2 => ?_, ?_⟩
  · rw [hr w1 hC ρ h1]; exact ⟨Mod.refl [] w1, rfl⟩
  · rw [kn_put_v rfl]; exact h
/-- .. with one that has 'V' -/
theorem tr (V : Value → World → Prop) (hV : ∀ v w1 w2, Mod [] w1 w2 → V v w1 → V v w2) (hr : ∀ w1, Mod [] w w1 → ∃ v w2, Runs P l ⟨some d, op, ty, pos, af, none⟩ w1 v w2 ∧ Mod [] w1 w2 ∧ V v w2) (hd : Nat.blt d n = true) (hs : notSel op = true) (hl : lk d l = none)
    (h : TWL P ops w n Fin rest l ((d, V) :: M)) : TWL P ops w n Fin (⟨some d, op, ty, pos, af, none⟩ :: rest) l M := by
  refine ⟨V, J_of hV hd hs fun ρ w1 hC h1 h2 => ?_, ?_⟩
  · obtain ⟨v, w2, e, hm, hv⟩ := hr w1 hC
    rw [e ρ h1]
    exact ⟨hm, hv⟩
  · rw [kn_put_r rfl hl]; exact h
/-- a call with one value in all later worlds -/
theorem tc {f : FuncId} {args : Array Value} {v : Value} (hr : ∀ w1, Mod [] w w1 → RunsC P l ⟨some d, op, ty, pos, af, none⟩ w1 f args) (hc : ∀ w1, Mod [] w w1 → Calls P f args w1 (Ret fun u w2 => u = v ∧ Mod [] w1 w2)) (hd : Nat.blt d n = true) (hs : notSel op = true) (h : TWL P ops w n Fin rest ((d, v) :: l) M) :
    TWL P ops w n Fin (⟨some d, op, ty, pos, af, none⟩ :: rest) l M := by
  refine ⟨fun u _ => u = v, J_of (fun _ _ _ _ h => h) hd hs fun ρ w1 hC h1 h2 => ?_, ?_⟩
  · rw [hr w1 hC ρ h1]
    exact ⟨rfl, (hc w1 hC).mono fun e w2 he => by cases e <;> first | exact ⟨he.2, he.1⟩ | exact he⟩
  · rw [kn_put_v rfl]; exact h
/-- .. with one that has 'V' -/
theorem tcr {f : FuncId} {args : Array Value} (V : Value → World → Prop) (hV : ∀ v w1 w2, Mod [] w1 w2 → V v w1 → V v w2) (hr : ∀ w1, Mod [] w w1 → RunsC P l ⟨some d, op, ty, pos, af, none⟩ w1 f args) (hc : ∀ w1, Mod [] w w1 → Calls P f args w1 (Ret fun u w2 => V u w2 ∧ Mod [] w1 w2)) (hd : Nat.blt d n = true) (hs : notSel op = true) (hl : lk d l = none)
    (h : TWL P ops w n Fin rest l ((d, V) :: M)) : TWL P ops w n Fin (⟨some d, op, ty, pos, af, none⟩ :: rest) l M := by
  refine ⟨V, J_of hV hd hs fun ρ w1 hC h1 h2 => ?_, ?_⟩
  · rw [hr w1 hC ρ h1]
    exact ⟨rfl, (hc w1 hC).mono fun e w2 he => by cases e <;> first | exact ⟨he.2, he.1⟩ | exact he⟩
  · rw [kn_put_r rfl hl]; exact h
/-- an operation that looks at a slot of which something is known: slot 't', 'U' -/
theorem J_of1 {V : Value → World → Prop} {t : Nat} {U : Value → World → Prop} (ht : lk t l = none) (hM : lkM t M = some U) (hx : ∃ x ∈ op.operands.toList, x = .tmp t) (hV : ∀ v w1 w2, Mod [] w1 w2 → V v w1 → V v w2) (hd : Nat.blt d n = true) (hs : notSel op = true)
    (hr : ∀ (ρ : Operand → Value) w1 u, Mod [] w w1 → U u w1 → (∀ x v, evO ((t, u) :: l) x = some v → ρ x = v) → TameUpon P (Mod []) w1 V ((execOp ρ ⟨some d, op, ty, pos, af, none⟩).run P w1)) :
    J P ops (Mod []) (Mod [] w) n (kn l M) ⟨some d, op, ty, pos, af, none⟩ V := by
  refine J_of hV hd hs fun ρ w1 hC h1 h2 => hr ρ w1 (ρ (.tmp t)) hC (h2 t U ht hM hx) fun x v hv => ?_
  cases x with
  | tmp s =>
    simp only [evO, lk] at hv
    cases hb : Nat.beq t s with
    | true =>
      rw [hb] at hv
      have := Nat.eq_of_beq_eq_true hb
      subst this
      injection hv
    | false => rw [hb] at hv; exact h1 _ _ hv
  | const c => exact h1 _ _ hv
  | global g => exact h1 _ _ hv
  | func f => exact h1 _ _ hv
theorem tv1 {v : Value} (t : Nat) {U : Value → World → Prop} (ht : lk t l = none) (hM : lkM t M = some U) (hx : ∃ x ∈ op.operands.toList, x = .tmp t) (hr : ∀ w1 u, Mod [] w w1 → U u w1 → Runs P ((t, u) :: l) ⟨some d, op, ty, pos, af, none⟩ w1 v w1) (hd : Nat.blt d n = true) (hs : notSel op = true) (h : TWL P ops w n Fin rest ((d, v) :: l) M) :
    TWL P ops w n Fin (⟨some d, op, ty, pos, af, none⟩ :: rest) l M := by
  refine ⟨fun u _ => u = v, J_of1 ht hM hx (fun _ _ _ _ h => h) hd hs fun ρ w1 u hC hU h1 => ?_, ?_⟩
  · rw [hr w1 u hC hU ρ h1]; exact ⟨Mod.refl [] w1, rfl⟩
  · rw [kn_put_v rfl]; exact h
theorem tr1 (V : Value → World → Prop) (hV : ∀ v w1 w2, Mod [] w1 w2 → V v w1 → V v w2) (t : Nat) {U : Value → World → Prop} (ht : lk t l = none) (hM : lkM t M = some U) (hx : ∃ x ∈ op.operands.toList, x = .tmp t) (hr : ∀ w1 u, Mod [] w w1 → U u w1 → ∃ v w2, Runs P ((t, u) :: l) ⟨some d, op, ty, pos, af, none⟩ w1 v w2 ∧ Mod [] w1 w2 ∧ V v w2)
    (hd : Nat.blt d n = true) (hs : notSel op = true) (hl : lk d l = none) (h : TWL P ops w n Fin rest l ((d, V) :: M)) :
    TWL P ops w n Fin (⟨some d, op, ty, pos, af, none⟩ :: rest) l M := by
  refine ⟨V, J_of1 ht hM hx hV hd hs fun ρ w1 u hC hU h1 => ?_, ?_⟩
  · obtain ⟨v, w2, e, hm, hv⟩ := hr w1 u hC hU
    rw [e ρ h1]
    exact ⟨hm, hv⟩
  · rw [kn_put_r rfl hl]; exact h
theorem tc1 {f : FuncId} {args : Value → Array Value} {v : Value} (t : Nat) {U : Value → World → Prop} (ht : lk t l = none) (hM : lkM t M = some U) (hx : ∃ x ∈ op.operands.toList, x = .tmp t) (hr : ∀ w1 u, Mod [] w w1 → U u w1 → RunsC P ((t, u) :: l) ⟨some d, op, ty, pos, af, none⟩ w1 f (args u)) (hc : ∀ w1 u, Mod [] w w1 → U u w1 → Calls P f (args u) w1 (Ret fun u w2 => u = v ∧ Mod [] w1 w2)) (hd : Nat.blt d n = true) (hs : notSel op = true) (h : TWL P ops w n Fin rest ((d, v) :: l) M) :
    TWL P ops w n Fin (⟨some d, op, ty, pos, af, none⟩ :: rest) l M := by
  refine ⟨fun u _ => u = v, J_of1 ht hM hx (fun _ _ _ _ h => h) hd hs fun ρ w1 u hC hU h1 => ?_, ?_⟩
  · rw [hr w1 u hC hU ρ h1]
    exact ⟨rfl, (hc w1 u hC hU).mono fun e w2 he => by cases e <;> first | exact ⟨he.2, he.1⟩ | exact he⟩
  · rw [kn_put_v rfl]; exact h
theorem tcr1 {f : FuncId} {args : Value → Array Value} (V : Value → World → Prop) (hV : ∀ v w1 w2, Mod [] w1 w2 → V v w1 → V v w2) (t : Nat) {U : Value → World → Prop} (ht : lk t l = none) (hM : lkM t M = some U) (hx : ∃ x ∈ op.operands.toList, x = .tmp t) (hr : ∀ w1 u, Mod [] w w1 → U u w1 → RunsC P ((t, u) :: l) ⟨some d, op, ty, pos, af, none⟩ w1 f (args u)) (hc : ∀ w1 u, Mod [] w w1 → U u w1 → Calls P f (args u) w1 (Ret fun u w2 => V u w2 ∧ Mod [] w1 w2)) (hd : Nat.blt d n = true) (hs : notSel op = true) (hl : lk d l = none)
    (h : TWL P ops w n Fin rest l ((d, V) :: M)) : TWL P ops w n Fin (⟨some d, op, ty, pos, af, none⟩ :: rest) l M := by
  refine ⟨V, J_of1 ht hM hx hV hd hs fun ρ w1 u hC hU h1 => ?_, ?_⟩
  · rw [hr w1 u hC hU ρ h1]
    exact ⟨rfl, (hc w1 u hC hU).mono fun e w2 he => by cases e <;> first | exact ⟨he.2, he.1⟩ | exact he⟩
  · rw [kn_put_r rfl hl]; exact h
end
end Go.Proofs.Ytccjjkdogljmpaa.V
