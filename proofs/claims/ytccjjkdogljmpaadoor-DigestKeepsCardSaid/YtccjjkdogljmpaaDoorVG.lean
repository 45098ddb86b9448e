/-
  A part of the proof: words of 32 bits, and bytes, as UInt32 and UInt8: each operation in their own words. No condition of its own.
-/
import Derived.Test.YtccjjkdogljmpaaDoorVF
set_option linter.unusedVariables false
set_option linter.unusedSimpArgs false
namespace Go.Proofs.YtccjjkdogljmpaaDoor.V
open Go
/-- a word as a value -/
def W4 (x : UInt32) : Value := .int .u32 x.toNat
section
variable {P : Program} {l : List (Nat × Value)} {w : World} {ty : TypeId} {pos : String} {af : Array Edge}
variable {dd : Option Nat} {gg : Option (Nat × Bool)} {x y : Operand} {t t' t'' : TypeId} {a b : UInt32}
theorem wrap32 (z : Int) : IntKind.u32.wrap z = z % 4294967296 := by
  simp [IntKind.wrap, IntKind.bits, IntKind.signed]
theorem o_add4 (hx : evO l x = some (W4 a)) (hy : evO l y = some (W4 b)) : Runs P l ⟨dd, .binOp .add t x y t', ty, pos, af, gg⟩ w (W4 (a + b)) w := by
  refine (o_addE hx hy (r := ((a + b).toNat : Int)) ?_)
  rw [wrap32, UInt32.toNat_add]
  omega
theorem o_mul4 (hx : evO l x = some (W4 a)) (hy : evO l y = some (W4 b)) : Runs P l ⟨dd, .binOp .mul t x y t', ty, pos, af, gg⟩ w (W4 (a * b)) w := by
  refine (o_mulE hx hy (r := ((a * b).toNat : Int)) ?_)
  rw [wrap32, UInt32.toNat_mul]
  omega
theorem ofInt_toNat32 (a : UInt32) : BitVec.ofInt 32 (a.toNat : Int) = a.toBitVec := by
  apply BitVec.eq_of_toNat_eq
  rw [BitVec.toNat_ofInt]
  have := a.toNat_lt
  simp
  omega
theorem o_xor4 (hx : evO l x = some (W4 a)) (hy : evO l y = some (W4 b)) : Runs P l ⟨dd, .binOp .xor t x y t', ty, pos, af, gg⟩ w (W4 (a ^^^ b)) w := by
  refine (o_xorE hx hy (r := ((a ^^^ b).toNat : Int)) ?_)
  show IntKind.u32.wrap ((BitVec.ofInt 32 (a.toNat : Int) ^^^ BitVec.ofInt 32 (b.toNat : Int)).toNat : Int) = _
  rw [ofInt_toNat32, ofInt_toNat32, wrap32]
  have : (a.toBitVec ^^^ b.toBitVec).toNat = (a ^^^ b).toNat := by rw [← UInt32.toBitVec_xor]; rfl
  have h := (a ^^^ b).toNat_lt
  rw [this]
  omega
theorem o_and4 (hx : evO l x = some (W4 a)) (hy : evO l y = some (W4 b)) : Runs P l ⟨dd, .binOp .and t x y t', ty, pos, af, gg⟩ w (W4 (a &&& b)) w := by
  refine (o_andE hx hy (r := ((a &&& b).toNat : Int)) ?_)
  show IntKind.u32.wrap ((BitVec.ofInt 32 (a.toNat : Int) &&& BitVec.ofInt 32 (b.toNat : Int)).toNat : Int) = _
  rw [ofInt_toNat32, ofInt_toNat32, wrap32]
  have : (a.toBitVec &&& b.toBitVec).toNat = (a &&& b).toNat := by rw [← UInt32.toBitVec_and]; rfl
  have h := (a &&& b).toNat_lt
  rw [this]
  omega
theorem o_or4 (hx : evO l x = some (W4 a)) (hy : evO l y = some (W4 b)) : Runs P l ⟨dd, .binOp .or t x y t', ty, pos, af, gg⟩ w (W4 (a ||| b)) w := by
  refine (o_orE hx hy (r := ((a ||| b).toNat : Int)) ?_)
  show IntKind.u32.wrap ((BitVec.ofInt 32 (a.toNat : Int) ||| BitVec.ofInt 32 (b.toNat : Int)).toNat : Int) = _
  rw [ofInt_toNat32, ofInt_toNat32, wrap32]
  have : (a.toBitVec ||| b.toBitVec).toNat = (a ||| b).toNat := by rw [← UInt32.toBitVec_or]; rfl
  have h := (a ||| b).toNat_lt
  rw [this]
  omega
theorem o_com4 (hx : evO l x = some (W4 a)) : Runs P l ⟨dd, .unOp .xor t x, ty, pos, af, gg⟩ w (W4 (~~~a)) w := by
  refine (o_com hx).to ?_
  have h1 : BitVec.ofInt 32 4294967295 ^^^ BitVec.ofInt 32 (a.toNat : Int) = (~~~a).toBitVec := by
    rw [ofInt_toNat32, show BitVec.ofInt 32 4294967295 = BitVec.allOnes 32 from rfl, BitVec.allOnes_xor, UInt32.toBitVec_not]
  have h2 : IntKind.u32.wrap (((~~~a).toBitVec).toNat : Int) = ((~~~a).toNat : Int) := by
    rw [wrap32]
    have := (~~~a).toNat_lt
    show ((~~~a).toNat : Int) % 4294967296 = _
    omega
  rw [← h1] at h2
  exact congrArg (Value.int .u32) h2
/-- x << k, k a number of bits -/
theorem o_shl4 {k : IntKind} {m : Nat} (hx : evO l x = some (W4 a)) (hy : evO l y = some (.int k m)) (hm : m < 32) : Runs P l ⟨dd, .binOp .shl t x y t', ty, pos, af, gg⟩ w (W4 (a <<< UInt32.ofNat m)) w := by
  refine (o_shlE hx hy (by omega) (r := ((a <<< UInt32.ofNat m).toNat : Int)) ?_)
  rw [wrap32, UInt32.toNat_shiftLeft]
  have h1 : min (m : Int).toNat IntKind.u32.bits = m := by
    show min (m : Int).toNat 32 = m
    simp only [Int.toNat_natCast]
    omega
  rw [h1]
  have h2 : (UInt32.ofNat m).toNat % 32 = m := by
    rw [UInt32.toNat_ofNat']
    omega
  have h3 : ((2 : Int) ^ m) = ((2 ^ m : Nat) : Int) := by rw [Int.natCast_pow]; rfl
  rw [h2, Nat.shiftLeft_eq, h3, ← Int.natCast_mul]
  omega
theorem o_shr4 {k : IntKind} {m : Nat} (hx : evO l x = some (W4 a)) (hy : evO l y = some (.int k m)) (hm : m < 32) : Runs P l ⟨dd, .binOp .shr t x y t', ty, pos, af, gg⟩ w (W4 (a >>> UInt32.ofNat m)) w := by
  refine (o_shrE hx hy (by omega) (r := ((a >>> UInt32.ofNat m).toNat : Int)) ?_)
  rw [UInt32.toNat_shiftRight]
  have h1 : min (m : Int).toNat IntKind.u32.bits = m := by
    show min (m : Int).toNat 32 = m
    simp only [Int.toNat_natCast]
    omega
  rw [h1]
  have h2 : (UInt32.ofNat m).toNat % 32 = m := by
    rw [UInt32.toNat_ofNat']
    omega
  rw [h2, Nat.shiftRight_eq_div_pow]
  have h3 : ((2 : Int) ^ m) = ((2 ^ m : Nat) : Int) := by rw [Int.natCast_pow]; rfl
  rw [h3, Int.fdiv_eq_ediv_of_nonneg _ (Int.natCast_nonneg _)]
  rfl
/-- a byte as a word -/
theorem o_conv84 {d0 : TypeDesc} {c : UInt8} (hs : P.underlying t = some d0) (ht : P.underlying t' = some (.int .u32)) (hx : evO l x = some (B8 c)) : Runs P l ⟨dd, .convert t t' x, ty, pos, af, gg⟩ w (W4 c.toUInt32) w := by
  refine o_convE hs ht hx ?_
  have := c.toNat_lt
  rw [wrap32]
  simp
  omega
/-- a word's lowest byte -/
theorem o_conv48 {d0 : TypeDesc} (hs : P.underlying t = some d0) (ht : P.underlying t' = some (.int .u8)) (hx : evO l x = some (W4 a)) : Runs P l ⟨dd, .convert t t' x, ty, pos, af, gg⟩ w (B8 a.toUInt8) w := by
  refine o_convE hs ht hx ?_
  simp [IntKind.wrap, IntKind.bits, IntKind.signed]
end
end Go.Proofs.YtccjjkdogljmpaaDoor.V
