/-
  A part of the proof: walks of functions, and the plain laws of what they compute. No condition of its own.
-/
import Derived.Test.YtccjjkdogljmpaaV0
set_option linter.unusedVariables false
set_option linter.unusedSimpArgs false
namespace Go.Proofs.Ytccjjkdogljmpaa.V
open Go
section
variable {P : Program} {ops : Array Oper} {Q : Exit → Act → World → Prop} {n : Nat} {ds : List Deferred} {l : List (Nat × Value)} {w w' : World} {a : Act}
variable {rest : List Oper} {d : Nat} {op : Op} {ty : TypeId} {pos : String} {af : Array Edge}
variable {dd : Option Nat} {gg : Option (Nat × Bool)} {x y z : Operand} {t t' : TypeId} {k k' : IntKind} {m m' : Int} {b b' : Bool}

theorem o_mv {v : Value} (hx : evO l x = some v) : Runs P l ⟨dd, .move x, ty, pos, af, gg⟩ w v w := fun ρ h => by
  simp [execOp, h x v hx]
theorem o_as {v : Value} (hx : evO l x = some v) : Runs P l ⟨dd, .assign x, ty, pos, af, gg⟩ w v w := fun ρ h => by
  simp [execOp, h x v hx]
theorem o_pick {u v : Value} (hx : evO l x = some (.bool b)) (hy : evO l y = some u) (hz : evO l z = some v) : Runs P l ⟨dd, .pick x y z, ty, pos, af, gg⟩ w (if b then u else v) w := fun ρ h => by
  cases b <;> simp [execOp, h _ _ hx, h _ _ hy, h _ _ hz, asBool]

theorem beq_dec {α : Type} [BEq α] [LawfulBEq α] [DecidableEq α] (u v : α) : (u == v) = decide (u = v) := by
  by_cases h : u = v <;> simp [h]
/-! ### whole numbers -/
theorem o_add (hx : evO l x = some (.int k m)) (hy : evO l y = some (.int k m')) : Runs P l ⟨dd, .binOp .add t x y t', ty, pos, af, gg⟩ w (.int k (k.wrap (m + m'))) w := fun ρ h => by
  simp [execOp, eqGuard, h _ _ hx, h _ _ hy, binOp, Op.intArith]
theorem o_sub (hx : evO l x = some (.int k m)) (hy : evO l y = some (.int k m')) : Runs P l ⟨dd, .binOp .sub t x y t', ty, pos, af, gg⟩ w (.int k (k.wrap (m - m'))) w := fun ρ h => by
  simp [execOp, eqGuard, h _ _ hx, h _ _ hy, binOp, Op.intArith]
theorem o_mul (hx : evO l x = some (.int k m)) (hy : evO l y = some (.int k m')) : Runs P l ⟨dd, .binOp .mul t x y t', ty, pos, af, gg⟩ w (.int k (k.wrap (m * m'))) w := fun ρ h => by
  simp [execOp, eqGuard, h _ _ hx, h _ _ hy, binOp, Op.intArith]
theorem wrap64_in (z : Int) (h : -9223372036854775808 ≤ z ∧ z ≤ 9223372036854775807) : IntKind.i64.wrap z = z := by
  rw [IntKind.wrap_i64 z]
  omega
theorem o_addN (hx : evO l x = some (.int .i64 m)) (hy : evO l y = some (.int .i64 m')) (hb : -9223372036854775808 ≤ m + m' ∧ m + m' ≤ 9223372036854775807) : Runs P l ⟨dd, .binOp .add t x y t', ty, pos, af, gg⟩ w (.int .i64 (m + m')) w := by
  have := o_add (P := P) (w := w) (dd := dd) (gg := gg) (t := t) (t' := t') (ty := ty) (pos := pos) (af := af) hx hy
  rwa [wrap64_in _ hb] at this
theorem o_subN (hx : evO l x = some (.int .i64 m)) (hy : evO l y = some (.int .i64 m')) (hb : -9223372036854775808 ≤ m - m' ∧ m - m' ≤ 9223372036854775807) : Runs P l ⟨dd, .binOp .sub t x y t', ty, pos, af, gg⟩ w (.int .i64 (m - m')) w := by
  have := o_sub (P := P) (w := w) (dd := dd) (gg := gg) (t := t) (t' := t') (ty := ty) (pos := pos) (af := af) hx hy
  rwa [wrap64_in _ hb] at this
theorem o_mulN (hx : evO l x = some (.int .i64 m)) (hy : evO l y = some (.int .i64 m')) (hb : -9223372036854775808 ≤ m * m' ∧ m * m' ≤ 9223372036854775807) : Runs P l ⟨dd, .binOp .mul t x y t', ty, pos, af, gg⟩ w (.int .i64 (m * m')) w := by
  have := o_mul (P := P) (w := w) (dd := dd) (gg := gg) (t := t) (t' := t') (ty := ty) (pos := pos) (af := af) hx hy
  rwa [wrap64_in _ hb] at this
theorem o_quo (hx : evO l x = some (.int k m)) (hy : evO l y = some (.int k m')) (h0 : m' ≠ 0) : Runs P l ⟨dd, .binOp .quo t x y t', ty, pos, af, gg⟩ w (.int k (k.wrap (m.tdiv m'))) w := fun ρ h => by
  simp [execOp, eqGuard, h _ _ hx, h _ _ hy, binOp, Op.intDiv, h0]
theorem o_rem (hx : evO l x = some (.int k m)) (hy : evO l y = some (.int k m')) (h0 : m' ≠ 0) : Runs P l ⟨dd, .binOp .rem t x y t', ty, pos, af, gg⟩ w (.int k (m.tmod m')) w := fun ρ h => by
  simp [execOp, eqGuard, h _ _ hx, h _ _ hy, binOp, Op.intDiv, h0]
/-- of a number from 0 on by one from 1 on -/
theorem o_quoN (hx : evO l x = some (.int .i64 m)) (hy : evO l y = some (.int .i64 m')) (hb : 0 ≤ m ∧ m ≤ 9223372036854775807 ∧ 0 < m') : Runs P l ⟨dd, .binOp .quo t x y t', ty, pos, af, gg⟩ w (.int .i64 (m / m')) w := by
  have := o_quo (P := P) (w := w) (dd := dd) (gg := gg) (t := t) (t' := t') (ty := ty) (pos := pos) (af := af) hx hy (by omega)
  rw [Int.tdiv_eq_ediv_of_nonneg hb.1] at this
  have h1 : 0 ≤ m / m' := Int.ediv_nonneg hb.1 (by omega)
  have h2 : m / m' ≤ m := Int.ediv_le_self _ hb.1
  rwa [wrap64_in _ (by omega)] at this
theorem o_remN (hx : evO l x = some (.int k m)) (hy : evO l y = some (.int k m')) (hb : 0 ≤ m ∧ 0 < m') : Runs P l ⟨dd, .binOp .rem t x y t', ty, pos, af, gg⟩ w (.int k (m % m')) w := by
  have := o_rem (P := P) (w := w) (dd := dd) (gg := gg) (t := t) (t' := t') (ty := ty) (pos := pos) (af := af) hx hy (by omega)
  rwa [Int.tmod_eq_emod_of_nonneg hb.1] at this
theorem o_shl (hx : evO l x = some (.int k m)) (hy : evO l y = some (.int k' m')) (h0 : 0 ≤ m') : Runs P l ⟨dd, .binOp .shl t x y t', ty, pos, af, gg⟩ w (.int k (k.wrap (m * 2 ^ (min m'.toNat k.bits)))) w := fun ρ h => by
  have : ¬ m' < 0 := by omega
  simp [execOp, eqGuard, h _ _ hx, h _ _ hy, binOp, Op.shift, this]
theorem o_shr (hx : evO l x = some (.int k m)) (hy : evO l y = some (.int k' m')) (h0 : 0 ≤ m') : Runs P l ⟨dd, .binOp .shr t x y t', ty, pos, af, gg⟩ w (.int k (m.fdiv (2 ^ (min m'.toNat k.bits)))) w := fun ρ h => by
  have : ¬ m' < 0 := by omega
  simp [execOp, eqGuard, h _ _ hx, h _ _ hy, binOp, Op.shift, this]
theorem o_and (hx : evO l x = some (.int k m)) (hy : evO l y = some (.int k m')) : Runs P l ⟨dd, .binOp .and t x y t', ty, pos, af, gg⟩ w (.int k (k.wrap (BitVec.ofInt k.bits m &&& BitVec.ofInt k.bits m').toNat)) w := fun ρ h => by
  simp [execOp, eqGuard, h _ _ hx, h _ _ hy, binOp, Op.intBits]
theorem o_or (hx : evO l x = some (.int k m)) (hy : evO l y = some (.int k m')) : Runs P l ⟨dd, .binOp .or t x y t', ty, pos, af, gg⟩ w (.int k (k.wrap (BitVec.ofInt k.bits m ||| BitVec.ofInt k.bits m').toNat)) w := fun ρ h => by
  simp [execOp, eqGuard, h _ _ hx, h _ _ hy, binOp, Op.intBits]
theorem o_xor (hx : evO l x = some (.int k m)) (hy : evO l y = some (.int k m')) : Runs P l ⟨dd, .binOp .xor t x y t', ty, pos, af, gg⟩ w (.int k (k.wrap (BitVec.ofInt k.bits m ^^^ BitVec.ofInt k.bits m').toNat)) w := fun ρ h => by
  simp [execOp, eqGuard, h _ _ hx, h _ _ hy, binOp, Op.intBits]
theorem o_andNot (hx : evO l x = some (.int k m)) (hy : evO l y = some (.int k m')) : Runs P l ⟨dd, .binOp .andNot t x y t', ty, pos, af, gg⟩ w (.int k (k.wrap (BitVec.ofInt k.bits m &&& ~~~(BitVec.ofInt k.bits m')).toNat)) w := fun ρ h => by
  simp [execOp, eqGuard, h _ _ hx, h _ _ hy, binOp, Op.intBits]

theorem o_lss (hx : evO l x = some (.int k m)) (hy : evO l y = some (.int k m')) : Runs P l ⟨dd, .binOp .lss t x y t', ty, pos, af, gg⟩ w (.bool (decide (m < m'))) w := fun ρ h => by
  simp [execOp, eqGuard, h _ _ hx, h _ _ hy, binOp, Op.intCmp]
theorem o_leq (hx : evO l x = some (.int k m)) (hy : evO l y = some (.int k m')) : Runs P l ⟨dd, .binOp .leq t x y t', ty, pos, af, gg⟩ w (.bool (decide (m ≤ m'))) w := fun ρ h => by
  simp [execOp, eqGuard, h _ _ hx, h _ _ hy, binOp, Op.intCmp]
theorem o_gtr (hx : evO l x = some (.int k m)) (hy : evO l y = some (.int k m')) : Runs P l ⟨dd, .binOp .gtr t x y t', ty, pos, af, gg⟩ w (.bool (decide (m' < m))) w := fun ρ h => by
  simp [execOp, eqGuard, h _ _ hx, h _ _ hy, binOp, Op.intCmp]
theorem o_geq (hx : evO l x = some (.int k m)) (hy : evO l y = some (.int k m')) : Runs P l ⟨dd, .binOp .geq t x y t', ty, pos, af, gg⟩ w (.bool (decide (m' ≤ m))) w := fun ρ h => by
  simp [execOp, eqGuard, h _ _ hx, h _ _ hy, binOp, Op.intCmp]
theorem o_eql (hx : evO l x = some (.int k m)) (hy : evO l y = some (.int k m')) : Runs P l ⟨dd, .binOp .eql t x y t', ty, pos, af, gg⟩ w (.bool (decide (m = m'))) w := fun ρ h => by
  simp [execOp, eqGuard, h _ _ hx, h _ _ hy, binOp, Op.intCmp, beq_dec]
theorem o_neq (hx : evO l x = some (.int k m)) (hy : evO l y = some (.int k m')) : Runs P l ⟨dd, .binOp .neq t x y t', ty, pos, af, gg⟩ w (.bool (decide (m ≠ m'))) w := fun ρ h => by
  have : (m != m') = decide (m ≠ m') := by
    by_cases h : m = m' <;> simp [h]
  simp [execOp, eqGuard, h _ _ hx, h _ _ hy, binOp, Op.intCmp, this]
theorem o_neg (hx : evO l x = some (.int k m)) : Runs P l ⟨dd, .unOp .neg t x, ty, pos, af, gg⟩ w (.int k (k.wrap (0 - m))) w := fun ρ h => by
  simp [execOp, h _ _ hx, Op.unary, Op.intArith]
theorem o_not (hx : evO l x = some (.bool b)) : Runs P l ⟨dd, .unOp .not t x, ty, pos, af, gg⟩ w (.bool (!b)) w := fun ρ h => by
  simp [execOp, h _ _ hx, Op.unary]
theorem o_com (hx : evO l x = some (.int k m)) : Runs P l ⟨dd, .unOp .xor t x, ty, pos, af, gg⟩ w (.int k (k.wrap (BitVec.ofInt k.bits (if k.signed then -1 else k.max) ^^^ BitVec.ofInt k.bits m).toNat)) w := fun ρ h => by
  simp [execOp, h _ _ hx, Op.unary, Op.intBits]
theorem o_conv {d0 : TypeDesc} (hs : P.underlying t = some d0) (ht : P.underlying t' = some (.int k')) (hx : evO l x = some (.int k m)) : Runs P l ⟨dd, .convert t t' x, ty, pos, af, gg⟩ w (.int k' (k'.wrap m)) w := fun ρ h => by
  simp [execOp, h _ _ hx, convert, run_underlying hs, run_underlying ht, Conv.intToInt]
theorem o_convN {d0 : TypeDesc} (hs : P.underlying t = some d0) (ht : P.underlying t' = some (.int k')) (hx : evO l x = some (.int k m)) (hb : k'.wrap m = m) : Runs P l ⟨dd, .convert t t' x, ty, pos, af, gg⟩ w (.int k' m) w := by
  have := o_conv (P := P) (w := w) (dd := dd) (gg := gg) (ty := ty) (pos := pos) (af := af) hs ht hx
  rwa [hb] at this

/-! ### strings -/
abbrev S (s : List UInt8) : Value := .string ⟨⟨s⟩⟩
theorem toList_S (s : List UInt8) : (⟨⟨s⟩⟩ : ByteArray).toList = s := by
  exact ByteArray.toList_mk s
theorem o_seq {u v : List UInt8} (hx : evO l x = some (S u)) (hy : evO l y = some (S v)) : Runs P l ⟨dd, .binOp .eql t x y t', ty, pos, af, gg⟩ w (.bool (decide (u = v))) w := fun ρ h => by
  simp [execOp, eqGuard, h _ _ hx, h _ _ hy, binOp, Op.stringOp, beq_dec, toList_S]
theorem o_sne {u v : List UInt8} (hx : evO l x = some (S u)) (hy : evO l y = some (S v)) : Runs P l ⟨dd, .binOp .neq t x y t', ty, pos, af, gg⟩ w (.bool (decide (u ≠ v))) w := fun ρ h => by
  have : (!(u == v)) = decide (u ≠ v) := by by_cases h : u = v <;> simp [h]
  simp [execOp, eqGuard, h _ _ hx, h _ _ hy, binOp, Op.stringOp, this, toList_S]
/-- 'u' stands below 'v' -/
abbrev bl (u v : List UInt8) : Bool := Op.bytesLess u v
theorem o_slt {u v : List UInt8} (hx : evO l x = some (S u)) (hy : evO l y = some (S v)) : Runs P l ⟨dd, .binOp .lss t x y t', ty, pos, af, gg⟩ w (.bool (bl u v)) w := fun ρ h => by
  simp [execOp, eqGuard, h _ _ hx, h _ _ hy, binOp, Op.stringOp, toList_S, bl]
theorem o_sgt {u v : List UInt8} (hx : evO l x = some (S u)) (hy : evO l y = some (S v)) : Runs P l ⟨dd, .binOp .gtr t x y t', ty, pos, af, gg⟩ w (.bool (!(bl u v || u == v))) w := fun ρ h => by
  simp [execOp, eqGuard, h _ _ hx, h _ _ hy, binOp, Op.stringOp, toList_S, bl]
theorem o_sle {u v : List UInt8} (hx : evO l x = some (S u)) (hy : evO l y = some (S v)) : Runs P l ⟨dd, .binOp .leq t x y t', ty, pos, af, gg⟩ w (.bool (bl u v || u == v)) w := fun ρ h => by
  simp [execOp, eqGuard, h _ _ hx, h _ _ hy, binOp, Op.stringOp, toList_S, bl]
theorem o_sge {u v : List UInt8} (hx : evO l x = some (S u)) (hy : evO l y = some (S v)) : Runs P l ⟨dd, .binOp .geq t x y t', ty, pos, af, gg⟩ w (.bool (!(bl u v))) w := fun ρ h => by
  simp [execOp, eqGuard, h _ _ hx, h _ _ hy, binOp, Op.stringOp, toList_S, bl]
theorem o_sadd {u v : List UInt8} (hx : evO l x = some (S u)) (hy : evO l y = some (S v)) (hb : u.length + v.length ≤ 9223372036854775807) : Runs P l ⟨dd, .binOp .add t x y t', ty, pos, af, gg⟩ w (S (u ++ v)) w := fun ρ h => by
  have h1 : ((u.length : Int) + v.length) ≤ IntKind.i64.max := by
    have : IntKind.i64.max = 9223372036854775807 := by decide
    omega
  have h2 : (⟨⟨u⟩⟩ : ByteArray) ++ ⟨⟨v⟩⟩ = ⟨⟨u ++ v⟩⟩ := by
    apply ByteArray.ext
    simp [ByteArray.data_append]
  have h3 : (⟨⟨u⟩⟩ : ByteArray).size = u.length := rfl
  have h4 : (⟨⟨v⟩⟩ : ByteArray).size = v.length := rfl
  simp only [execOp, eqGuard, h _ _ hx, h _ _ hy, binOp, Op.stringOp]
  simp [h3, h4, h2]
  exact h1
theorem o_slen {u : List UInt8} (hs : P.underlying t = some .string) (hx : evO l x = some (S u)) : Runs P l ⟨dd, .call { callee := .builtin .len, args := #[x], argTypes := #[t] }, ty, pos, af, gg⟩ w (.int .i64 u.length) w := fun ρ h => by
  have h3 : (⟨⟨u⟩⟩ : ByteArray).size = u.length := rfl
  simp [execOp, resolve, invoke, builtin, Builtin.len_, h _ _ hx, run_underlying hs, goInt, h3]
theorem o_sidx {u : List UInt8} {c : UInt8} (hs : P.underlying t = some .string) (hx : evO l x = some (S u)) (hy : evO l y = some (.int k m)) (h0 : 0 ≤ m) (hc : u[m.toNat]? = some c) : Runs P l ⟨dd, .index t x y, ty, pos, af, gg⟩ w (.int .u8 c.toNat) w := fun ρ h => by
  have hlt : m.toNat < u.length := (List.getElem?_eq_some_iff.1 hc).1
  have h3 : (⟨⟨u⟩⟩ : ByteArray)[m.toNat]? = some c := by
    have h4 : m.toNat < (⟨⟨u⟩⟩ : ByteArray).size := hlt
    have h5 := (List.getElem?_eq_some_iff.1 hc).2
    rw [getElem?_pos (⟨⟨u⟩⟩ : ByteArray) m.toNat h4, ← h5]
    rfl
  simp [execOp, Instr.index, h _ _ hx, h _ _ hy, asIntOf, run_underlying hs, h0, h3]

/-! ### the rest that touches no memory -/
theorem o_ext {vs : Array Value} {i : Nat} {v : Value} (hx : evO l x = some (.tuple vs)) (hi : vs[i]? = some v) : Runs P l ⟨dd, .extract x i, ty, pos, af, gg⟩ w v w := fun ρ h => by
  simp [execOp, Instr.extract, h _ _ hx, hi]
theorem o_nilc {ad : Addr} (hx : evO l x = some (.pointer (some ad))) : Runs P l ⟨dd, .nilCheck x, ty, pos, af, gg⟩ w (.pointer (some ad)) w := fun ρ h => by
  simp [execOp, h _ _ hx]
theorem run_eqIn_pn {e : TypeId} {ad : Option Addr} (dp : Nat) (he : P.underlying t = some (.pointer e)) : (Op.equalIn (dp + 1) t (.pointer ad) (.pointer none)).run P w = .ok ad.isNone w := by
  cases ad <;> simp [Op.equalIn, run_underlying he]
theorem run_eqIn_sn {e : TypeId} {ad : Option Addr} {c c' : Nat} (dp : Nat) (he : P.underlying t = some (.slice e)) : (Op.equalIn (dp + 1) t (.slice ad c c') (.slice none 0 0)).run P w = .ok ad.isNone w := by
  cases ad <;> simp [Op.equalIn, run_underlying he]
theorem run_eq_pn {e : TypeId} {ad : Option Addr} (he : P.underlying t = some (.pointer e)) : (binOp .eql t (.pointer ad) (.pointer none)).run P w = .ok (.bool ad.isNone) w := by
  have e1 : binOp .eql t (.pointer ad) (.pointer none) = (do pure (.bool (← Op.equalIn (9999 + 1) t (.pointer ad) (.pointer none)))) := by cases ad <;> rfl
  have e2 := run_eqIn_pn (w := w) (ad := ad) 9999 he
  rw [e1, Sem.run_bind, e2]
  rfl
theorem o_peq {ad : Option Addr} {e : TypeId} (he : P.underlying t = some (.pointer e)) (hx : evO l x = some (.pointer ad)) (hy : evO l y = some (.pointer none)) : Runs P l ⟨dd, .binOp .eql t x y t', ty, pos, af, gg⟩ w (.bool ad.isNone) w := fun ρ h => by
  have := run_eq_pn (w := w) (ad := ad) he
  simp only [execOp, eqGuard, h _ _ hx, h _ _ hy]
  simp [this]
/-- a slice held against nil -/
theorem run_eq_sn {e : TypeId} {ad : Option Addr} {c c' : Nat} (he : P.underlying t = some (.slice e)) : (binOp .eql t (.slice ad c c') (.slice none 0 0)).run P w = .ok (.bool ad.isNone) w := by
  have e1 : binOp .eql t (.slice ad c c') (.slice none 0 0) = (do pure (.bool (← Op.equalIn (9999 + 1) t (.slice ad c c') (.slice none 0 0)))) := by cases ad <;> rfl
  have e2 := run_eqIn_sn (w := w) (ad := ad) (c := c) (c' := c') 9999 he
  rw [e1, Sem.run_bind, e2]
  rfl
theorem o_neqs {ad : Option Addr} {c c' e : Nat} (he : P.underlying t = some (.slice e)) (hx : evO l x = some (.slice ad c c')) (hy : evO l y = some (.slice none 0 0)) : Runs P l ⟨dd, .binOp .eql t x y t', ty, pos, af, gg⟩ w (.bool ad.isNone) w := fun ρ h => by
  have := run_eq_sn (w := w) (ad := ad) (c := c) (c' := c') he
  simp only [execOp, eqGuard, h _ _ hx, h _ _ hy]
  simp [this]
theorem o_len {ad : Option Addr} {c c' e : Nat} (he : P.underlying t = some (.slice e)) (hx : evO l x = some (.slice ad c c')) : Runs P l ⟨dd, .call { callee := .builtin .len, args := #[x], argTypes := #[t] }, ty, pos, af, gg⟩ w (.int .i64 c) w := fun ρ h => by
  simp [execOp, resolve, invoke, builtin, Builtin.len_, h _ _ hx, run_underlying he, goInt]
theorem o_cap {ad : Option Addr} {c c' e : Nat} (he : P.underlying t = some (.slice e)) (hx : evO l x = some (.slice ad c c')) : Runs P l ⟨dd, .call { callee := .builtin .cap, args := #[x], argTypes := #[t] }, ty, pos, af, gg⟩ w (.int .i64 c') w := fun ρ h => by
  simp [execOp, resolve, invoke, builtin, Builtin.cap_, h _ _ hx, run_underlying he, goInt]
theorem evL_map {ρ : Operand → Value} (h : ∀ x u, evO l x = some u → ρ x = u) : ∀ (zs : List Operand) (us : List Value), evL l zs = some us → zs.map ρ = us := by
  intro zs
  induction zs with
  | nil => intro us hu; simp [evL] at hu; simp [← hu]
  | cons z zs ih =>
    intro us hu
    simp only [evL] at hu
    split at hu
    · rename_i v vs h1 h2
      simp only [Option.some.injEq] at hu
      subst hu
      simp [h _ _ h1, ih _ h2]
    · cases hu
theorem o_mkf {fn : Fn} {xs ys : Array Operand} {us vs : List Value} (hx : evL l xs.toList = some us) (hy : evL l ys.toList = some vs) : Runs P l ⟨dd, .makeFunc fn xs ys, ty, pos, af, gg⟩ w (.func fn us.toArray vs.toArray) w := fun ρ h => by
  have e1 : xs.map ρ = us.toArray := by apply Array.toList_inj.1; simpa using evL_map h _ _ hx
  have e2 : ys.map ρ = vs.toArray := by apply Array.toList_inj.1; simpa using evL_map h _ _ hy
  simp [execOp, Instr.makeFunc, e1, e2]
theorem o_mki {v : Value} {d0 : TypeDesc} (he : P.underlying t = some d0) (hn : (match d0 with | .interface _ => false | _ => true) = true) (hx : evO l x = some v) : Runs P l ⟨dd, .makeInterface t x, ty, pos, af, gg⟩ w (.iface t v) w := fun ρ h => by
  cases d0 <;> first | (simp at hn; done) | simp [execOp, Instr.makeInterface, h _ _ hx, run_underlying he]

/-! ### calls -/
/-- a function that can be entered -/
def Ent (P : Program) (f : FuncId) : Prop := ∀ args w, (callFunc f args).run P w = .ok (.enter f args) w
theorem Ent.of {f : FuncId} {fn : Func} (hf : P.funcs[f]? = some fn) (hn : (fn.name == "runtime.NumGoroutine") = false) (hb : fn.body.isNone = false) : Ent P f := fun args w => by
  have h1 : fn.name ≠ "runtime.NumGoroutine" := by simpa using hn
  cases hc : fn.body with
  | none => rw [hc] at hb; cases hb
  | some c => simp [callFunc, hf, h1, hc]
theorem o_call {f : FuncId} {xs : List Operand} {us : List Value} {ts : Array TypeId} (he : Ent P f) (hx : evL l xs = some us) : RunsC P l ⟨dd, .call { callee := .value (.func f), args := xs.toArray, argTypes := ts }, ty, pos, af, gg⟩ w f us.toArray := fun ρ h => by
  have e1 : xs.map ρ = us := evL_map h _ _ hx
  have e2 : ρ (.func f) = .func (.func f) #[] #[] := h _ _ rfl
  have := he us.toArray w
  simp [execOp, resolve, e2, Deferred.ofValue, invoke, ← e1] at this ⊢
  simpa using this
theorem o_callv {f : FuncId} {g : Operand} {xs : List Operand} {us vs : List Value} {ts : Array TypeId} (he : Ent P f) (hg : evO l g = some (.func (.func f) #[] vs.toArray)) (hx : evL l xs = some us) : RunsC P l ⟨dd, .call { callee := .value g, args := xs.toArray, argTypes := ts }, ty, pos, af, gg⟩ w f (us ++ vs).toArray := fun ρ h => by
  have e1 : xs.map ρ = us := evL_map h _ _ hx
  have e2 : ρ g = .func (.func f) #[] vs.toArray := h _ _ hg
  have := he (us ++ vs).toArray w
  simp [execOp, resolve, e2, Deferred.ofValue, invoke, ← e1] at this ⊢
  simpa using this
end
end Go.Proofs.Ytccjjkdogljmpaa.V
