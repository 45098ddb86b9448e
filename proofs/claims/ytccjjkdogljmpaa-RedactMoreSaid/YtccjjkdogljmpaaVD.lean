/-
  A part of the proof: truths held against one another; drawn operations that look at two slots of which something is known. No condition of its own.
-/
import Derived.Test.YtccjjkdogljmpaaVC
set_option linter.unusedVariables false
set_option linter.unusedSimpArgs false
namespace Go.Proofs.Ytccjjkdogljmpaa.V
open Go
section
variable {P : Program} {ops : Array Oper} {Q : Exit → Act → World → Prop} {n : Nat} {ds : List Deferred} {l : List (Nat × Value)} {M : List (Nat × (Value → World → Prop))} {w w' : World} {a : Act}
variable {rest : List Oper} {d : Nat} {op : Op} {ty : TypeId} {pos : String} {af : Array Edge} {Fin : Kn → Prop} {j : Nat} {want b : Bool}
variable {dd : Option Nat} {gg : Option (Nat × Bool)} {x y z : Operand} {t t' : TypeId}
theorem o_bseq {b b' : Bool} (he : P.underlying t = some .bool) (hx : evO l x = some (.bool b)) (hy : evO l y = some (.bool b')) : Runs P l ⟨dd, .binOp .eql t x y t', ty, pos, af, gg⟩ w (.bool (b == b')) w := fun ρ h => by
  simp [execOp, eqGuard, h _ _ hx, h _ _ hy, binOp, run_equal_bool w t b b' he]
theorem o_bsne {b b' : Bool} (he : P.underlying t = some .bool) (hx : evO l x = some (.bool b)) (hy : evO l y = some (.bool b')) : Runs P l ⟨dd, .binOp .neq t x y t', ty, pos, af, gg⟩ w (.bool (b != b')) w := fun ρ h => by
  simp [execOp, eqGuard, h _ _ hx, h _ _ hy, binOp, run_equal_bool w t b b' he]
  cases b <;> cases b' <;> rfl
theorem J_of2 {V : Value → World → Prop} {t s : Nat} {U U' : Value → World → Prop} (ht : lk t l = none) (hM : lkM t M = some U) (hx : ∃ x ∈ op.operands.toList, x = .tmp t) (hs' : lk s l = none) (hM' : lkM s M = some U') (hx' : ∃ x ∈ op.operands.toList, x = .tmp s) (hV : ∀ v w1 w2, Mod [] w1 w2 → V v w1 → V v w2) (hd : Nat.blt d n = true) (hs : notSel op = true)
    (hr : ∀ (ρ : Operand → Value) w1 u u', Mod [] w w1 → U u w1 → U' u' w1 → (∀ x v, evO ((t, u) :: (s, u') :: l) x = some v → ρ x = v) → TameUpon P (Mod []) w1 V ((execOp ρ ⟨some d, op, ty, pos, af, none⟩).run P w1)) :
    J P ops (Mod []) (Mod [] w) n (kn l M) ⟨some d, op, ty, pos, af, none⟩ V := by
  refine J_of hV hd hs fun ρ w1 hC h1 h2 => hr ρ w1 (ρ (.tmp t)) (ρ (.tmp s)) hC (h2 t U ht hM hx) (h2 s U' hs' hM' hx') fun x v hv => ?_
  cases x with
  | tmp r =>
    simp only [evO, lk] at hv
    cases hb : Nat.beq t r with
    | true =>
      rw [hb] at hv
      have := Nat.eq_of_beq_eq_true hb
      subst this
      injection hv
    | false =>
      rw [hb] at hv
      cases hb' : Nat.beq s r with
      | true =>
        rw [hb'] at hv
        have := Nat.eq_of_beq_eq_true hb'
        subst this
        injection hv
      | false => rw [hb'] at hv; exact h1 _ _ hv
  | const c => exact h1 _ _ hv
  | global g => exact h1 _ _ hv
  | func f => exact h1 _ _ hv
theorem tc2 {f : FuncId} {args : Value → Value → Array Value} {v : Value} (t s : Nat) {U U' : Value → World → Prop} (ht : lk t l = none) (hM : lkM t M = some U) (hx : ∃ x ∈ op.operands.toList, x = .tmp t) (hs' : lk s l = none) (hM' : lkM s M = some U') (hx' : ∃ x ∈ op.operands.toList, x = .tmp s)
    (hr : ∀ w1 u u', Mod [] w w1 → U u w1 → U' u' w1 → RunsC P ((t, u) :: (s, u') :: l) ⟨some d, op, ty, pos, af, none⟩ w1 f (args u u')) (hc : ∀ w1 u u', Mod [] w w1 → U u w1 → U' u' w1 → Calls P f (args u u') w1 (Ret fun r w2 => r = v ∧ Mod [] w1 w2)) (hd : Nat.blt d n = true) (hs : notSel op = true) (h : TWL P ops w n Fin rest ((d, v) :: l) M) :
    TWL P ops w n Fin (⟨some d, op, ty, pos, af, none⟩ :: rest) l M := by
  refine ⟨fun u _ => u = v, J_of2 ht hM hx hs' hM' hx' (fun _ _ _ _ h => h) hd hs fun ρ w1 u u' hC hU hU' h1 => ?_, ?_⟩
  · rw [hr w1 u u' hC hU hU' ρ h1]
    exact ⟨rfl, (hc w1 u u' hC hU hU').mono fun e w2 he => by cases e <;> first | exact ⟨he.2, he.1⟩ | exact he⟩
  · rw [kn_put_v rfl]; exact h
theorem tc2g {f : FuncId} {args : Value → Value → Array Value} {v : Value} (t s : Nat) {U U' : Value → World → Prop} (hg : gv ops l j = some b) (hb : b = want) (ht : lk t l = none) (hM : lkM t M = some U) (hx : ∃ x ∈ op.operands.toList, x = .tmp t) (hs' : lk s l = none) (hM' : lkM s M = some U') (hx' : ∃ x ∈ op.operands.toList, x = .tmp s)
    (hr : ∀ w1 u u', Mod [] w w1 → U u w1 → U' u' w1 → RunsC P ((t, u) :: (s, u') :: l) ⟨some d, op, ty, pos, af, none⟩ w1 f (args u u')) (hc : ∀ w1 u u', Mod [] w w1 → U u w1 → U' u' w1 → Calls P f (args u u') w1 (Ret fun r w2 => r = v ∧ Mod [] w1 w2)) (hd : Nat.blt d n = true) (hs : notSel op = true) (h : TWL P ops w n Fin rest ((d, v) :: l) M) :
    TWL P ops w n Fin (⟨some d, op, ty, pos, af, some (j, want)⟩ :: rest) l M := by
  refine ⟨fun u _ => u = v, J_g hg hb (J_of2 ht hM hx hs' hM' hx' (fun _ _ _ _ h => h) hd hs fun ρ w1 u u' hC hU hU' h1 => ?_), ?_⟩
  · rw [hr w1 u u' hC hU hU' ρ h1]
    exact ⟨rfl, (hc w1 u u' hC hU hU').mono fun e w2 he => by cases e <;> first | exact ⟨he.2, he.1⟩ | exact he⟩
  · rw [kn_put_v rfl]; exact h
theorem tc1g {f : FuncId} {args : Value → Array Value} {v : Value} (t : Nat) {U : Value → World → Prop} (hg : gv ops l j = some b) (hb : b = want) (ht : lk t l = none) (hM : lkM t M = some U) (hx : ∃ x ∈ op.operands.toList, x = .tmp t)
    (hr : ∀ w1 u, Mod [] w w1 → U u w1 → RunsC P ((t, u) :: l) ⟨some d, op, ty, pos, af, none⟩ w1 f (args u)) (hc : ∀ w1 u, Mod [] w w1 → U u w1 → Calls P f (args u) w1 (Ret fun r w2 => r = v ∧ Mod [] w1 w2)) (hd : Nat.blt d n = true) (hs : notSel op = true) (h : TWL P ops w n Fin rest ((d, v) :: l) M) :
    TWL P ops w n Fin (⟨some d, op, ty, pos, af, some (j, want)⟩ :: rest) l M := by
  refine ⟨fun u _ => u = v, J_g hg hb (J_of1 ht hM hx (fun _ _ _ _ h => h) hd hs fun ρ w1 u hC hU h1 => ?_), ?_⟩
  · rw [hr w1 u hC hU ρ h1]
    exact ⟨rfl, (hc w1 u hC hU).mono fun e w2 he => by cases e <;> first | exact ⟨he.2, he.1⟩ | exact he⟩
  · rw [kn_put_v rfl]; exact h
theorem Calls.imp {f : FuncId} {args : Array Value} {φ ψ : Value → World → Prop} (h : Calls P f args w (Ret φ)) (hi : ∀ u w', φ u w' → ψ u w') : Calls P f args w (Ret ψ) :=
  h.mono fun e w2 he => by cases e <;> first | exact hi _ _ he | exact he
/-- a guarded operation that is done: as one with no guard -/
theorem sgw {dst : Option Nat} (hg : gv ops l j = some b) (hb : b = want) (h : WL P ops Q (⟨dst, op, ty, pos, af, none⟩ :: rest) n ds l w) : WL P ops Q (⟨dst, op, ty, pos, af, some (j, want)⟩ :: rest) n ds l w := by
  intro a ha
  have hw : Region.wanted ⟨dst, op, ty, pos, af, some (j, want)⟩ (yielded ops a.tmps) = true := by
    simp [Region.wanted, yielded_of ha hg, hb]
  have := h a ha
  unfold wpList at this ⊢
  rw [if_pos hw]
  rw [if_pos (by simp [Region.wanted])] at this
  exact this
/-- a byte of a text, whichever -/
theorem s_sidx {u : List UInt8} {k : IntKind} {m : Int} (ht : P.underlying t = some .string) (hx : evO l x = some (S u)) (hy : evO l y = some (.int k m)) (h0 : 0 ≤ m) (hb : m.toNat < u.length) (hd : Nat.blt d n = true)
    (h : ∀ c : UInt8, u[m.toNat]? = some c → WL P ops Q rest n ds ((d, .int .u8 c.toNat) :: l) w) : WL P ops Q (⟨some d, .index t x y, ty, pos, af, none⟩ :: rest) n ds l w :=
  sv (o_sidx ht hx hy h0 (List.getElem?_eq_getElem hb)) hd (h _ (List.getElem?_eq_getElem hb))
theorem Cs.first {ad : Addr} {v : Value} {vs : List Value} (h : Cs w ad (v :: vs)) : w.cell? ad = some v := by
  have := h 0 v rfl
  rwa [Addr.add_zero'] at this
end
end Go.Proofs.Ytccjjkdogljmpaa.V
