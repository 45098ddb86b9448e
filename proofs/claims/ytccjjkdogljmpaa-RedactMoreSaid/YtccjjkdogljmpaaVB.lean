/-
  A part of the proof: walks of functions, and the plain laws of what they compute. No condition of its own.
-/
import Derived.Test.YtccjjkdogljmpaaVA
set_option linter.unusedVariables false
set_option linter.unusedSimpArgs false
namespace Go.Proofs.Ytccjjkdogljmpaa.V
open Go
section
variable {P : Program} {ops : Array Oper} {Q : Exit → Act → World → Prop} {n : Nat} {ds : List Deferred} {l : List (Nat × Value)} {w w' : World} {a : Act}
variable {rest : List Oper} {d : Nat} {op : Op} {ty : TypeId} {pos : String} {af : Array Edge}
variable {dd : Option Nat} {gg : Option (Nat × Bool)} {x y z : Operand} {t t' : TypeId} {k k' : IntKind} {m m' r : Int}
/-! ## Operations whose value is told in other words -/
theorem Own.put {e sz c g : Nat} {v : Value} {vs : List Value} (h : Own w e sz v c vs) (k : Mod [g] w w') (D : ∀ x ∈ ob v, x ≠ g) : Own w' e sz v c vs := h.mod k fun x hx hg => D x hx (by simpa using hg)
theorem New.own_ne {e sz c g T : Nat} {cs : List Value} {v : Value} {vs : List Value} (N : New w w' g T cs) (h : Own w e sz v c vs) : ∀ x ∈ ob v, x ≠ g := fun x hx => Nat.ne_of_lt (N.at_ ▸ h.lt x hx)
theorem App.ne {e sz c g T : Nat} {cs : List Value} {v v' : Value} {vs : List Value} (h : App w w' e sz v v' c vs) (D : ∀ x ∈ ob v, x ≠ g) (B : Blk w g T cs) : ∀ x ∈ ob v', x ≠ g := fun x hx => by
  rcases h.ob_ x hx with h1 | h1
  · exact D x h1
  · have := B.lt; omega
theorem App.ge {e sz c : Nat} {w0 : World} {M : List Nat} {v v' : Value} {vs : List Value} (h : App w w' e sz v v' c vs) (L : ∀ x ∈ ob v, w0.heap.size ≤ x) (E : Mod M w0 w) : ∀ x ∈ ob v', w0.heap.size ≤ x := fun x hx => by
  rcases h.ob_ x hx with h1 | h1
  · exact L x h1
  · exact Nat.le_trans E.size h1
theorem Cs.mod0 {ad : Addr} {vs : List Value} (h : Cs w ad vs) (k : Mod [] w w') : Cs w' ad vs := h.mod k (by simp)
theorem o_pickT {b : Bool} {u : Value} (hb : b = true) (hx : evO l x = some (.bool b)) (hy : evO l y = some u) : Runs P l ⟨dd, .pick x y z, ty, pos, af, gg⟩ w u w := fun ρ h => by
  subst hb
  simp [execOp, h _ _ hx, h _ _ hy, asBool]
theorem o_pickF {b : Bool} {v : Value} (hb : b = false) (hx : evO l x = some (.bool b)) (hz : evO l z = some v) : Runs P l ⟨dd, .pick x y z, ty, pos, af, gg⟩ w v w := fun ρ h => by
  subst hb
  simp [execOp, h _ _ hx, h _ _ hz, asBool]
theorem Runs.to {o : Oper} {v v' : Value} (h : Runs P l o w v w') (e : v = v') : Runs P l o w v' w' := e ▸ h
theorem o_addE (hx : evO l x = some (.int k m)) (hy : evO l y = some (.int k m')) (hr : k.wrap (m + m') = r) : Runs P l ⟨dd, .binOp .add t x y t', ty, pos, af, gg⟩ w (.int k r) w := hr ▸ o_add hx hy
theorem o_subE (hx : evO l x = some (.int k m)) (hy : evO l y = some (.int k m')) (hr : k.wrap (m - m') = r) : Runs P l ⟨dd, .binOp .sub t x y t', ty, pos, af, gg⟩ w (.int k r) w := hr ▸ o_sub hx hy
theorem o_mulE (hx : evO l x = some (.int k m)) (hy : evO l y = some (.int k m')) (hr : k.wrap (m * m') = r) : Runs P l ⟨dd, .binOp .mul t x y t', ty, pos, af, gg⟩ w (.int k r) w := hr ▸ o_mul hx hy
theorem o_shlE (hx : evO l x = some (.int k m)) (hy : evO l y = some (.int k' m')) (h0 : 0 ≤ m') (hr : k.wrap (m * 2 ^ (min m'.toNat k.bits)) = r) : Runs P l ⟨dd, .binOp .shl t x y t', ty, pos, af, gg⟩ w (.int k r) w := hr ▸ o_shl hx hy h0
theorem o_shrE (hx : evO l x = some (.int k m)) (hy : evO l y = some (.int k' m')) (h0 : 0 ≤ m') (hr : m.fdiv (2 ^ (min m'.toNat k.bits)) = r) : Runs P l ⟨dd, .binOp .shr t x y t', ty, pos, af, gg⟩ w (.int k r) w := hr ▸ o_shr hx hy h0
theorem o_andE (hx : evO l x = some (.int k m)) (hy : evO l y = some (.int k m')) (hr : k.wrap (BitVec.ofInt k.bits m &&& BitVec.ofInt k.bits m').toNat = r) : Runs P l ⟨dd, .binOp .and t x y t', ty, pos, af, gg⟩ w (.int k r) w := hr ▸ o_and hx hy
theorem o_orE (hx : evO l x = some (.int k m)) (hy : evO l y = some (.int k m')) (hr : k.wrap (BitVec.ofInt k.bits m ||| BitVec.ofInt k.bits m').toNat = r) : Runs P l ⟨dd, .binOp .or t x y t', ty, pos, af, gg⟩ w (.int k r) w := hr ▸ o_or hx hy
theorem o_xorE (hx : evO l x = some (.int k m)) (hy : evO l y = some (.int k m')) (hr : k.wrap (BitVec.ofInt k.bits m ^^^ BitVec.ofInt k.bits m').toNat = r) : Runs P l ⟨dd, .binOp .xor t x y t', ty, pos, af, gg⟩ w (.int k r) w := hr ▸ o_xor hx hy
theorem o_convE {d0 : TypeDesc} (hs : P.underlying t = some d0) (ht : P.underlying t' = some (.int k')) (hx : evO l x = some (.int k m)) (hr : k'.wrap m = r) : Runs P l ⟨dd, .convert t t' x, ty, pos, af, gg⟩ w (.int k' r) w := hr ▸ o_conv hs ht hx
theorem wrapu64_in (z : Int) (h : 0 ≤ z ∧ z ≤ 18446744073709551615) : IntKind.u64.wrap z = z := by
  simp only [IntKind.wrap, IntKind.bits, IntKind.signed, Bool.false_and]
  exact Int.emod_eq_of_lt h.1 (by omega)
theorem wrapu32_in (z : Int) (h : 0 ≤ z ∧ z ≤ 4294967295) : IntKind.u32.wrap z = z := by
  simp only [IntKind.wrap, IntKind.bits, IntKind.signed, Bool.false_and]
  exact Int.emod_eq_of_lt h.1 (by omega)
theorem wrapu8_in (z : Int) (h : 0 ≤ z ∧ z ≤ 255) : IntKind.u8.wrap z = z := by
  simp only [IntKind.wrap, IntKind.bits, IntKind.signed, Bool.false_and]
  exact Int.emod_eq_of_lt h.1 (by omega)
theorem fdiv_two (m : Int) : m.fdiv (2 ^ (min (1 : Int).toNat 64)) = m / 2 := by
  rw [show (2 : Int) ^ (min (1 : Int).toNat 64) = 2 from rfl]
  exact Int.fdiv_eq_ediv_of_nonneg _ (by omega)
/-- (i + j) / 2 of two places -/
theorem half_cast (i j : Nat) : ((i : Int) + j) / 2 = ((i + j) / 2 : Nat) := by omega
end
end Go.Proofs.Ytccjjkdogljmpaa.V
