/-
  A part of the proof: words of 32 bits, and bytes, as UInt32 and UInt8: each operation in their own words; the digest in plain Lean; a slice that is read, as the source of an append, in every later world alike; names of servers, users, rooms and keys in plain Lean: the runes of a text of one kind, and its bytes. No condition of its own.
-/
import Derived.Test.YtknndpjacklkeaaGreatDoorM3
import Derived.Test.YtknndpjacklkeaaGreatDoorM4
import Derived.Test.YtknndpjacklkeaaGreatDoorM10
import Derived.Lib.IndexMore
import Derived.Lib.Strings
import Derived.Laws.Runes
import Derived.Scope
import Derived.Shelf.Small.Wraps
import Derived.Shelf.Strings.Search1
import Derived.Shelf.Strings.Search2
import Derived.Shelf.Strings.Cut
import Derived.Shelf.Strings.Shaped
import Derived.Shelf.Strings.Runes
import Derived.Test.YtknndpjacklkeaaGreatDoorProg
set_option linter.unusedVariables false
set_option linter.unusedSimpArgs false
namespace Go.Proofs.YtknndpjacklkeaaGreatDoor.V
open Go
def W4 (x : UInt32) : Value := .int .u32 x.toNat
section
variable {P : Program} {l : List (Nat × Value)} {w : World} {ty : TypeId} {pos : String} {af : Array Edge}
variable {dd : Option Nat} {gg : Option (Nat × Bool)} {x y : Operand} {t t' t'' : TypeId} {a b : UInt32}
theorem wrap32 (z : Int) : IntKind.u32.wrap z = z % 4294967296 := by
 simp [IntKind.wrap, IntKind.bits, IntKind.signed]
theorem o_add4 (hx : evO l x = some (W4 a)) (hy : evO l y = some (W4 b)) : Runs P l ⟨dd, .binOp .add t x y t', ty, pos, af, gg⟩ w (W4 (a + b)) w := by
 refine (o_addE hx hy (r := ((a + b).toNat : Int)) ?_)
 rw [wrap32, UInt32.toNat_add]
 omega
theorem o_mul4 (hx : evO l x = some (W4 a)) (hy : evO l y = some (W4 b)) : Runs P l ⟨dd, .binOp .mul t x y t', ty, pos, af, gg⟩ w (W4 (a * b)) w := by
 refine (o_mulE hx hy (r := ((a * b).toNat : Int)) ?_)
 rw [wrap32, UInt32.toNat_mul]
 omega
theorem ofInt_toNat32 (a : UInt32) : BitVec.ofInt 32 (a.toNat : Int) = a.toBitVec := by
 apply BitVec.eq_of_toNat_eq
 rw [BitVec.toNat_ofInt]
 have := a.toNat_lt
 simp
 omega
theorem o_xor4 (hx : evO l x = some (W4 a)) (hy : evO l y = some (W4 b)) : Runs P l ⟨dd, .binOp .xor t x y t', ty, pos, af, gg⟩ w (W4 (a ^^^ b)) w := by
 refine (o_xorE hx hy (r := ((a ^^^ b).toNat : Int)) ?_)
 show IntKind.u32.wrap ((BitVec.ofInt 32 (a.toNat : Int) ^^^ BitVec.ofInt 32 (b.toNat : Int)).toNat : Int) = _
 rw [ofInt_toNat32, ofInt_toNat32, wrap32]
 have : (a.toBitVec ^^^ b.toBitVec).toNat = (a ^^^ b).toNat := by rw [← UInt32.toBitVec_xor]; rfl
 have h := (a ^^^ b).toNat_lt
 rw [this]
 omega
theorem o_and4 (hx : evO l x = some (W4 a)) (hy : evO l y = some (W4 b)) : Runs P l ⟨dd, .binOp .and t x y t', ty, pos, af, gg⟩ w (W4 (a &&& b)) w := by
 refine (o_andE hx hy (r := ((a &&& b).toNat : Int)) ?_)
 show IntKind.u32.wrap ((BitVec.ofInt 32 (a.toNat : Int) &&& BitVec.ofInt 32 (b.toNat : Int)).toNat : Int) = _
 rw [ofInt_toNat32, ofInt_toNat32, wrap32]
 have : (a.toBitVec &&& b.toBitVec).toNat = (a &&& b).toNat := by rw [← UInt32.toBitVec_and]; rfl
 have h := (a &&& b).toNat_lt
 rw [this]
 omega
theorem o_or4 (hx : evO l x = some (W4 a)) (hy : evO l y = some (W4 b)) : Runs P l ⟨dd, .binOp .or t x y t', ty, pos, af, gg⟩ w (W4 (a ||| b)) w := by
 refine (o_orE hx hy (r := ((a ||| b).toNat : Int)) ?_)
 show IntKind.u32.wrap ((BitVec.ofInt 32 (a.toNat : Int) ||| BitVec.ofInt 32 (b.toNat : Int)).toNat : Int) = _
 rw [ofInt_toNat32, ofInt_toNat32, wrap32]
 have : (a.toBitVec ||| b.toBitVec).toNat = (a ||| b).toNat := by rw [← UInt32.toBitVec_or]; rfl
 have h := (a ||| b).toNat_lt
 rw [this]
 omega
theorem o_com4 (hx : evO l x = some (W4 a)) : Runs P l ⟨dd, .unOp .xor t x, ty, pos, af, gg⟩ w (W4 (~~~a)) w := by
 refine (o_com hx).to ?_
 have h1 : BitVec.ofInt 32 4294967295 ^^^ BitVec.ofInt 32 (a.toNat : Int) = (~~~a).toBitVec := by
  rw [ofInt_toNat32, show BitVec.ofInt 32 4294967295 = BitVec.allOnes 32 from rfl, BitVec.allOnes_xor, UInt32.toBitVec_not]
 have h2 : IntKind.u32.wrap (((~~~a).toBitVec).toNat : Int) = ((~~~a).toNat : Int) := by
  rw [wrap32]
  have := (~~~a).toNat_lt
  show ((~~~a).toNat : Int) % 4294967296 = _
  omega
 rw [← h1] at h2
 exact congrArg (Value.int .u32) h2
theorem o_shl4 {k : IntKind} {m : Nat} (hx : evO l x = some (W4 a)) (hy : evO l y = some (.int k m)) (hm : m < 32) : Runs P l ⟨dd, .binOp .shl t x y t', ty, pos, af, gg⟩ w (W4 (a <<< UInt32.ofNat m)) w := by
 refine (o_shlE hx hy (by omega) (r := ((a <<< UInt32.ofNat m).toNat : Int)) ?_)
 rw [wrap32, UInt32.toNat_shiftLeft]
 have h1 : min (m : Int).toNat IntKind.u32.bits = m := by
  show min (m : Int).toNat 32 = m
  simp only [Int.toNat_natCast]
  omega
 rw [h1]
 have h2 : (UInt32.ofNat m).toNat % 32 = m := by
  rw [UInt32.toNat_ofNat']
  omega
 have h3 : ((2 : Int) ^ m) = ((2 ^ m : Nat) : Int) := by rw [Int.natCast_pow]; rfl
 rw [h2, Nat.shiftLeft_eq, h3, ← Int.natCast_mul]
 omega
theorem o_shr4 {k : IntKind} {m : Nat} (hx : evO l x = some (W4 a)) (hy : evO l y = some (.int k m)) (hm : m < 32) : Runs P l ⟨dd, .binOp .shr t x y t', ty, pos, af, gg⟩ w (W4 (a >>> UInt32.ofNat m)) w := by
 refine (o_shrE hx hy (by omega) (r := ((a >>> UInt32.ofNat m).toNat : Int)) ?_)
 rw [UInt32.toNat_shiftRight]
 have h1 : min (m : Int).toNat IntKind.u32.bits = m := by
  show min (m : Int).toNat 32 = m
  simp only [Int.toNat_natCast]
  omega
 rw [h1]
 have h2 : (UInt32.ofNat m).toNat % 32 = m := by
  rw [UInt32.toNat_ofNat']
  omega
 rw [h2, Nat.shiftRight_eq_div_pow]
 have h3 : ((2 : Int) ^ m) = ((2 ^ m : Nat) : Int) := by rw [Int.natCast_pow]; rfl
 rw [h3, Int.fdiv_eq_ediv_of_nonneg _ (Int.natCast_nonneg _)]
 rfl
theorem o_conv84 {d0 : TypeDesc} {c : UInt8} (hs : P.underlying t = some d0) (ht : P.underlying t' = some (.int .u32)) (hx : evO l x = some (B8 c)) : Runs P l ⟨dd, .convert t t' x, ty, pos, af, gg⟩ w (W4 c.toUInt32) w := by
 refine o_convE hs ht hx ?_
 have := c.toNat_lt
 rw [wrap32]
 simp
 omega
theorem o_conv48 {d0 : TypeDesc} (hs : P.underlying t = some d0) (ht : P.underlying t' = some (.int .u8)) (hx : evO l x = some (W4 a)) : Runs P l ⟨dd, .convert t t' x, ty, pos, af, gg⟩ w (B8 a.toUInt8) w := by
 refine o_convE hs ht hx ?_
 simp [IntKind.wrap, IntKind.bits, IntKind.signed]
end
end Go.Proofs.YtknndpjacklkeaaGreatDoor.V

set_option linter.unusedVariables false
set_option linter.unusedSimpArgs false
namespace Go.Proofs.YtknndpjacklkeaaGreatDoor.V
open Go
abbrev bcells (c : UInt8) : List Value := [B8 c]
abbrev byD (b : List UInt8) : D := flat 1 bcells b
abbrev wcells (x : UInt32) : List Value := [W4 x]
abbrev woD (b : List UInt32) : D := flat 1 wcells b
def rr (x : UInt32) (k : Nat) : UInt32 := x >>> UInt32.ofNat k ||| x <<< UInt32.ofNat (32 - k)
theorem and31 : ∀ k : Fin 32, k.val ≠ 0 → IntKind.u64.wrap ((BitVec.ofInt 64 (18446744073709551616 - (k.val : Int)) &&& BitVec.ofInt 64 31).toNat : Int) = 32 - (k.val : Int) := by decide +kernel
theorem rot_conv (k : Nat) (h : 0 < k ∧ k < 32) : IntKind.u64.wrap (-(k : Int)) = 18446744073709551616 - (k : Int) := by
 have : IntKind.u64.wrap (-(k : Int)) = (-(k : Int)) % 18446744073709551616 := by simp [IntKind.wrap, IntKind.bits, IntKind.signed]
 rw [this]
 omega
def wordOf (b : List UInt8) : UInt32 := b.foldl (fun n c => n <<< UInt32.ofNat 8 ||| c.toUInt32) 0
theorem wordOf_succ {b : List UInt8} {k : Nat} {c : UInt8} (h : b[k]? = some c) : wordOf (b.take (k + 1)) = wordOf (b.take k) <<< UInt32.ofNat 8 ||| c.toUInt32 := by
 have hlt := (List.getElem?_eq_some_iff.1 h).1
 rw [wordOf, List.take_succ_eq_append_getElem hlt, (List.getElem?_eq_some_iff.1 h).2, List.foldl_append]
 rfl
theorem shl_or (n : UInt32) (c : UInt8) : n <<< UInt32.ofNat 8 ||| c.toUInt32 = n * 256 + c.toUInt32 := by
 apply UInt32.toNat_inj.1
 have hc := c.toNat_lt
 have hn := n.toNat_lt
 have h8 : (UInt32.ofNat 8).toNat % 32 = 8 := rfl
 rw [UInt32.toNat_or, UInt32.toNat_shiftLeft, h8, UInt32.toNat_add, UInt32.toNat_mul, UInt8.toNat_toUInt32, Nat.shiftLeft_eq]
 have h1 : n.toNat * 2 ^ 8 % 2 ^ 32 = 2 ^ 8 * (n.toNat % 2 ^ 24) := by omega
 rw [h1, ← Nat.two_pow_add_eq_or_of_lt (by omega)]
 have h2 : (256 : UInt32).toNat = 256 := rfl
 rw [h2]
 omega
structure S8 where
 a : UInt32
 b : UInt32
 c : UInt32
 d : UInt32
 e : UInt32
 f : UInt32
 g : UInt32
 h : UInt32
abbrev S8.cells (s : S8) : List Value := [W4 s.a, W4 s.b, W4 s.c, W4 s.d, W4 s.e, W4 s.f, W4 s.g, W4 s.h]
def s8of : S8 := ⟨0x6a09e667, 0xbb67ae85, 0x3c6ef372, 0xa54ff53a, 0x510e527f, 0x9b05688c, 0x1f83d9ab, 0x5be0cd19⟩
def numsK : List UInt32 := [
 0x428a2f98, 0x71374491, 0xb5c0fbcf, 0xe9b5dba5, 0x3956c25b, 0x59f111f1, 0x923f82a4, 0xab1c5ed5,
 0xd807aa98, 0x12835b01, 0x243185be, 0x550c7dc3, 0x72be5d74, 0x80deb1fe, 0x9bdc06a7, 0xc19bf174,
 0xe49b69c1, 0xefbe4786, 0x0fc19dc6, 0x240ca1cc, 0x2de92c6f, 0x4a7484aa, 0x5cb0a9dc, 0x76f988da,
 0x983e5152, 0xa831c66d, 0xb00327c8, 0xbf597fc7, 0xc6e00bf3, 0xd5a79147, 0x06ca6351, 0x14292967,
 0x27b70a85, 0x2e1b2138, 0x4d2c6dfc, 0x53380d13, 0x650a7354, 0x766a0abb, 0x81c2c92e, 0x92722c85,
 0xa2bfe8a1, 0xa81a664b, 0xc24b8b70, 0xc76c51a3, 0xd192e819, 0xd6990624, 0xf40e3585, 0x106aa070,
 0x19a4c116, 0x1e376c08, 0x2748774c, 0x34b0bcb5, 0x391c0cb3, 0x4ed8aa4a, 0x5b9cca4f, 0x682e6ff3,
 0x748f82ee, 0x78a5636f, 0x84c87814, 0x8cc70208, 0x90befffa, 0xa4506ceb, 0xbef9a3f7, 0xc67178f2]
def sg0 (x : UInt32) : UInt32 := rr x 7 ^^^ rr x 18 ^^^ x >>> UInt32.ofNat 3
def sg1 (y : UInt32) : UInt32 := rr y 17 ^^^ rr y 19 ^^^ y >>> UInt32.ofNat 10
def at32 (w : List UInt32) (i : Nat) : UInt32 := w.getD i 0
def nextW (w : List UInt32) (i : Nat) : UInt32 := at32 w (i - 16) + sg0 (at32 w (i - 15)) + at32 w (i - 7) + sg1 (at32 w (i - 2))
def sch (b : List UInt8) : Nat → List UInt32
 | 0 => []
 | i + 1 => sch b i ++ [if i < 16 then wordOf ((b.drop (4 * i)).take 4) else nextW (sch b i) i]
theorem sch_len (b : List UInt8) : ∀ i, (sch b i).length = i
 | 0 => rfl
 | i + 1 => by simp [sch, sch_len b i]
def rndT (k w : UInt32) (s : S8) : UInt32 := s.h + (rr s.e 6 ^^^ rr s.e 11 ^^^ rr s.e 25) + (s.e &&& s.f ^^^ ~~~s.e &&& s.g) + k + w
def rndU (s : S8) : UInt32 := rr s.a 2 ^^^ rr s.a 13 ^^^ rr s.a 22
def rndV (s : S8) : UInt32 := s.a &&& s.b ^^^ s.a &&& s.c ^^^ s.b &&& s.c
def rnd (k w : UInt32) (s : S8) : S8 := ⟨rndT k w s + (rndU s + rndV s), s.a, s.b, s.c, s.d + rndT k w s, s.e, s.f, s.g⟩
def rnds (ks ws : List UInt32) (s : S8) : Nat → S8
 | 0 => s
 | i + 1 => rnd (at32 ks i) (at32 ws i) (rnds ks ws s i)
def S8.add (s t : S8) : S8 := ⟨s.a + t.a, s.b + t.b, s.c + t.c, s.d + t.d, s.e + t.e, s.f + t.f, s.g + t.g, s.h + t.h⟩
def comp (s : S8) (b : List UInt8) : S8 := s.add (rnds numsK (sch b 64) s 64)
theorem at32_get {w : List UInt32} {i : Nat} (h : i < w.length) : w[i]? = some (at32 w i) := by
 rw [at32, List.getD_eq_getElem?_getD, List.getElem?_eq_getElem h]
 rfl
abbrev S8.list (s : S8) : List UInt32 := [s.a, s.b, s.c, s.d, s.e, s.f, s.g, s.h]
theorem words_one {xs : List UInt32} : ∀ x ∈ xs, ∀ c ∈ wcells x, c.oneCell' = true := by
 intro x _ c hc
 simp at hc
 subst hc
 rfl
theorem Own.words {w : World} {e n : Nat} {v : Value} {xs : List UInt32} (h : Own w e 1 v n ((xs.map wcells).flatten)) (hn : xs.length = n) : Rep [] w (woD xs) v := Own.flat h (fun _ _ => rfl) words_one hn (by simp)
theorem Own.wsnoc {w : World} {e n : Nat} {v : Value} {xs : List UInt32} {y x : UInt32} (h : Own w e 1 v (n + 1) ((xs.map wcells).flatten ++ [W4 y])) (hy : y = x) : Own w e 1 v (n + 1) (((xs ++ [x]).map wcells).flatten) := by
 subst hy
 simpa using h
theorem Blk.c1 {w : World} {g T i : Nat} {cs : List Value} {v : Value} (h : Blk w g T cs) (hi : cs[i]? = some v) : w.cell? ⟨g, 0 + i * 1, none⟩ = some v := by
 rw [Nat.zero_add, Nat.mul_one]
 exact h.cell hi
theorem Cs.c1 {w : World} {g i : Nat} {cs : List Value} {v : Value} (h : Cs w ⟨g, 0, none⟩ cs) (hi : cs[i]? = some v) : w.cell? ⟨g, 0 + i * 1, none⟩ = some v := by
 have := h i v hi
 rw [Addr.add_lit] at this
 rw [Nat.mul_one]
 exact this
def rowW (xs : List UInt32) (n : Nat) : List Value := xs.map W4 ++ List.replicate (n - xs.length) (W4 0)
theorem rowW_get {xs : List UInt32} {n i : Nat} (h : i < xs.length) : (rowW xs n)[i]? = some (W4 (at32 xs i)) := by
 rw [rowW, List.getElem?_append_left (by simpa using h), List.getElem?_map, at32_get h]
 rfl
theorem rowW_len {xs : List UInt32} {n : Nat} (h : xs.length ≤ n) : (rowW xs n).length = n := by
 simp only [rowW, List.length_append, List.length_map, List.length_replicate]
 omega
theorem rowW_set {xs : List UInt32} {n : Nat} {x : UInt32} (h : xs.length < n) : (rowW xs n).set xs.length (W4 x) = rowW (xs ++ [x]) n := by
 have h1 : n - xs.length = (n - (xs.length + 1)) + 1 := by omega
 rw [rowW, rowW, List.set_append_right _ _ (by simp), h1, List.replicate_succ]
 simp
theorem mix_get {A Z : List UInt32} {tl : List Value} {i : Nat} (hZ : Z.length = A.length) (h : i < A.length) : ((Z.take i ++ A.drop i).map W4 ++ tl)[i]? = some (W4 (at32 A i)) := by
 have hl : (Z.take i).length = i := by rw [List.length_take]; omega
 rw [List.getElem?_append_left (by simp; omega), List.getElem?_map, List.getElem?_append_right (by omega), hl, List.getElem?_drop]
 simp only [Nat.sub_self, Nat.add_zero]
 rw [at32_get h]
 rfl
theorem mix_set {A Z : List UInt32} {tl : List Value} {i : Nat} {z : UInt32} (hZ : Z.length = A.length) (h : i < A.length) (hz : Z[i]? = some z) : ((Z.take i ++ A.drop i).map W4 ++ tl).set i (W4 z) = (Z.take (i + 1) ++ A.drop (i + 1)).map W4 ++ tl := by
 have hl : (Z.take i).length = i := by rw [List.length_take]; omega
 have h1 : A.drop i = A[i] :: A.drop (i + 1) := by rw [List.drop_eq_getElem_cons h]
 have h2 : Z.take (i + 1) = Z.take i ++ [z] := by rw [List.take_succ_eq_append_getElem (by omega), (List.getElem?_eq_some_iff.1 hz).2]
 rw [List.set_append_left _ _ (by simp; omega), h1, h2]
 congr 1
 rw [List.map_append, List.map_cons, List.set_append_right _ _ (by rw [List.length_map, hl]; exact Nat.le_refl _), List.length_map, hl, Nat.sub_self]
 simp only [List.set_cons_zero, List.map_append, List.map_cons, List.map_nil, List.append_assoc, List.cons_append, List.nil_append]
section
variable {P : Program} {ops : Array Oper} {Q : Exit → Act → World → Prop} {n : Nat} {ds : List Deferred} {l : List (Nat × Value)} {w w' : World}
variable {rest : List Oper} {ty : TypeId} {pos : String} {af : Array Edge} {x y : Operand} {t : TypeId}
theorem s_st1 {v : Value} {g i T : Nat} {cs : List Value} (ht : scB P t = true) (B : Blk w g T cs) (hx : evO l x = some (.pointer (some ⟨g, 0 + i * 1, none⟩))) (hy : evO l y = some v) (hv : v.oneCell' = true) (hi : i < cs.length)
  (h : ∀ w', Put w w' g T (cs.set i v) → WL P ops Q rest n ds l w') : WL P ops Q (⟨none, .store t x y, ty, pos, af, none⟩ :: rest) n ds l w := by
 rw [Nat.zero_add, Nat.mul_one] at hx
 exact s_st ht B hx hy hv hi h
end
theorem flat_from {α : Type} {A : List Nat} {w : World} {sz i c : Nat} {cells : α → List Value} {xs : List α} {ad : Option Addr} (h : Rep A w (flat sz cells xs) (.slice ad xs.length c)) (hi : i ≤ xs.length) : Rep A w (flat sz cells (xs.drop i)) (.slice (adS ad c i sz) (xs.length - i) (c - i)) := by
 have := Rep.cut (lo := i) (hi := xs.length) h hi (Nat.le_refl _)
 rw [List.take_of_length_le (by simp), ← List.map_drop] at this
 exact this
theorem row_step {w : World} {g T i : Nat} {b : List UInt8} {x : UInt32} (hi : i < 64) (hx : x = if i < 16 then wordOf ((b.drop (4 * i)).take 4) else nextW (sch b i) i) (B : Blk w g T ((rowW (sch b i) 64).set i (W4 x))) : Blk w g T (rowW (sch b (i + 1)) 64) := by
 have h := rowW_set (xs := sch b i) (n := 64) (x := x) (by rw [sch_len]; exact hi)
 rw [sch_len] at h
 rw [h, hx] at B
 exact B
theorem nums_get {i : Nat} (h : i < 64) : (numsK.map W4)[i]? = some (W4 (at32 numsK i)) := by
 rw [List.getElem?_map, at32_get (show i < numsK.length from h)]
 rfl
theorem s8_get {s : S8} {i : Nat} (h : i < 8) : s.cells[i]? = some (W4 (at32 s.list i)) := by
 show (s.list.map W4)[i]? = _
 rw [List.getElem?_map, at32_get (show i < s.list.length from h)]
 rfl
theorem zip_get {A V : List UInt32} {i : Nat} (h : i < A.length) (h' : i < V.length) : (List.zipWith (· + ·) A V)[i]? = some (at32 A i + at32 V i) := by
 rw [List.getElem?_zipWith, at32_get h, at32_get h']
theorem rowW_nil (b : List UInt8) : rowW (sch b 0) 64 = List.replicate 64 (.int .u32 0) := rfl
end Go.Proofs.YtknndpjacklkeaaGreatDoor.V

set_option linter.unusedVariables false
set_option linter.unusedSimpArgs false
namespace Go.Proofs.YtknndpjacklkeaaGreatDoor.V
open Go
section
variable {P : Program} {A : List Nat} {w : World}
theorem RepRows.cells_ {sz : Nat} {ad : Addr} : ∀ (i : Nat) (rws : List (List D)), RepRows A w sz ad i rws → ∃ vs, Reps A w rws.flatten vs ∧ vs.length = rws.length * sz ∧ ∀ j u, vs[j]? = some u → w.cell? (ad.add (i * sz + j)) = some u
 | _, [], _ => ⟨[], rfl, by simp, fun j u hu => by simp at hu⟩
 | i, r :: rs, hh => by
  simp only [RepRows] at hh
  obtain ⟨hl, hrow, hrest⟩ := hh
  obtain ⟨us, hu1, hu2⟩ := hrow.cells
  obtain ⟨vs, hv1, hv2, hv3⟩ := RepRows.cells_ (i + 1) rs hrest
  refine ⟨us ++ vs, by simp only [List.flatten_cons]; exact hu1.append hv1, by simp [hu1.length, hl, hv2, Nat.add_mul]; omega, fun j u hj => ?_⟩
  rw [List.getElem?_append] at hj
  have hul : us.length = sz := by rw [hu1.length, hl]
  split at hj
  ·have := hu2 j u hj
   rwa [Nat.zero_add, Addr.add_add] at this
  ·rename_i hge
   have := hv3 _ u hj
   rwa [show (i + 1) * sz + (j - us.length) = i * sz + j by rw [Nat.add_mul, hul]; rw [hul] at hge; omega] at this
theorem Src.rep0 {tx e' sz : Nat} {rows : List (List D)} {v : Value} (hk : P.underlying tx = some (.slice e')) (h : Rep A w (.sl sz rows) v) : ∃ vs, Reps A w rows.flatten vs ∧ vs.length = rows.length * sz ∧ ∀ w', Mod [] w w' → Src P sz tx v rows.length vs w' := by
 cases hrows : rows with
 | nil =>
  subst hrows
  simp only [Rep] at h
  obtain ⟨ad, c, rfl, h2, h3, h4⟩ := h
  refine ⟨[], rfl, by simp, fun w' _ => ?_⟩
  cases ad with
  | none => exact Src.ofNil w' hk c
  | some ad => exact Src.ofSlice w' hk ad 0 c [] (by simp) (fun j u hu => by simp at hu) (fun u hu => by cases hu)
 | cons r0 rs =>
  rw [← hrows]
  simp only [Rep] at h
  obtain ⟨ad, c, rfl, h2, h3, h4⟩ := h
  obtain ⟨ad, rfl, hA, hb, hr⟩ := h4 (by simp [hrows])
  obtain ⟨vs, hv1, hv2, hv3⟩ := RepRows.cells_ 0 rows hr
  have hC : Cs w ad vs := fun j u hu => by have := hv3 j u hu; rwa [Nat.zero_mul, Nat.zero_add] at this
  exact ⟨vs, hv1, hv2, fun w' k => Src.ofSlice w' hk ad _ c vs hv2 (hC.mod0 k) hv1.one⟩
end
end Go.Proofs.YtknndpjacklkeaaGreatDoor.V

set_option linter.unusedVariables false
set_option linter.unusedSimpArgs false
namespace Go.Proofs.YtknndpjacklkeaaGreatDoor.V
open Go
theorem atL_at {s : Str} {p : Nat} {b : UInt8} (h : s[p]? = some b) : atL (s.drop p) 0 = b.toNat := by
  unfold atL
  rw [List.getD_eq_getElem?_getD, List.getElem?_drop, Nat.add_zero, h]
  rfl
theorem dec_lt {s : Str} {p : Nat} {b : UInt8} (h : s[p]? = some b) (hb : b.toNat < 128) : Utf8.decode ⟨⟨s⟩⟩ p = (b.toNat, 1) := by
  rw [decode_eq]
  unfold decL
  rw [atL_at h, if_pos (by omega)]
theorem dec_ge {s : Str} {p : Nat} {b : UInt8} (h : s[p]? = some b) (hb : 128 ≤ b.toNat) : ∃ c m, Utf8.decode ⟨⟨s⟩⟩ p = (c, m) ∧ 128 ≤ c ∧ c ≤ 1114111 ∧ ¬ (55296 ≤ c ∧ c ≤ 57343) := by
  have hlt := (List.getElem?_eq_some_iff.1 h).1
  rw [decode_eq]
  rcases ok_all (dec_at hlt) with ⟨_, h2⟩ | ⟨h1, h2, h3, h4, h5, h6⟩
  · exact ⟨65533, 1, h2, by omega, by omega, by omega⟩
  · refine ⟨_, _, h2, ?_, h4, h5⟩
    rcases Nat.lt_or_ge (runeR (s.drop p)).1 128 with hc | hc
    · exfalso
      unfold encL at h3
      rw [if_pos hc] at h3
      have hl : s.drop p = b :: s.drop (p + 1) := by
        rw [List.drop_eq_getElem_cons hlt]
        congr 1
        exact (List.getElem?_eq_some_iff.1 h).2
      rw [hl] at h3 h1
      cases hm : (runeR (b :: s.drop (p + 1))).2 with
      | zero => exact h1 hm
      | succ m =>
        rw [hm, List.take_succ_cons] at h3
        simp only [List.map_cons, List.cons.injEq] at h3
        rw [hl] at hc
        omega
    · exact hc
def allB (q : Nat → Bool) (s : Str) : Bool := decide (s ≠ []) && s.all (fun b => q b.toNat)
theorem all_succ {q : Nat → Bool} {s : Str} {p : Nat} {b : UInt8} (h : s[p]? = some b) (ha : (s.take p).all (fun b => q b.toNat) = true) (hb : q b.toNat = true) : (s.take (p + 1)).all (fun b => q b.toNat) = true := by
  have hlt := (List.getElem?_eq_some_iff.1 h).1
  rw [List.take_succ_eq_append_getElem hlt, (List.getElem?_eq_some_iff.1 h).2, List.all_append, ha]
  simp [hb]
theorem allB_no {q : Nat → Bool} {s : Str} {p : Nat} {b : UInt8} (h : s[p]? = some b) (hb : q b.toNat = false) : allB q s = false := by
  unfold allB
  have : s.all (fun b => q b.toNat) = false := by
    rw [List.all_eq_false]
    exact ⟨b, List.mem_of_getElem? h, by simp [hb]⟩
  rw [this, Bool.and_false]
theorem allB_yes {q : Nat → Bool} {s : Str} {p : Nat} (hp : s.length ≤ p) (ha : (s.take p).all (fun b => q b.toNat) = true) : allB q s = decide (s ≠ []) := by
  unfold allB
  rw [List.take_of_length_le hp] at ha
  rw [ha, Bool.and_true]
theorem allB_congr {q r : Nat → Bool} (h : ∀ b : UInt8, q b.toNat = r b.toNat) (s : Str) : allB q s = allB r s := by
  unfold allB
  congr 1
  induction s with
  | nil => rfl
  | cons b s ih => simp only [List.all_cons, ih, h b]
def kS (c : Nat) : Bool := decide (97 ≤ (c : Int)) && decide ((c : Int) ≤ 122)
def kG (c : Nat) : Bool := decide (65 ≤ (c : Int)) && decide ((c : Int) ≤ 90)
def kD (c : Nat) : Bool := decide (48 ≤ (c : Int)) && decide ((c : Int) ≤ 57)
abbrev userS : Str := [46, 95, 61, 45, 47, 43]
def qServer (c : Nat) : Bool := kS c || kD c || decide ((c : Int) = 46) || decide ((c : Int) = 45)
def qUser (c : Nat) : Bool := kS c || kD c || userS.any (fun b => decide (b.toNat = c))
def qRoom (c : Nat) : Bool := kS c || kG c || kD c || decide ((c : Int) = 95) || decide ((c : Int) = 45)
def qKey (c : Nat) : Bool := kS c || kG c || kD c || decide ((c : Int) = 95)
theorem qServer_lt (c : Nat) (h : qServer c = true) : c < 128 := by
  simp only [qServer, kS, kD, Bool.or_eq_true, Bool.and_eq_true, decide_eq_true_eq] at h
  omega
theorem kD_lt (c : Nat) (h : kD c = true) : c < 128 := by
  simp only [kD, Bool.and_eq_true, decide_eq_true_eq] at h
  omega
theorem qUser_lt (c : Nat) (h : qUser c = true) : c < 128 := by
  simp [qUser, kS, kD] at h
  omega
theorem qRoom_lt (c : Nat) (h : qRoom c = true) : c < 128 := by
  simp only [qRoom, kS, kG, kD, Bool.or_eq_true, Bool.and_eq_true, decide_eq_true_eq] at h
  omega
theorem qKey_lt (c : Nat) (h : qKey c = true) : c < 128 := by
  simp only [qKey, kS, kG, kD, Bool.or_eq_true, Bool.and_eq_true, decide_eq_true_eq] at h
  omega
/-! ### the first colon -/
def colonAt (s : Str) : Nat := s.findIdx (fun b => b == 58)
theorem colon_le (s : Str) : colonAt s ≤ s.length := List.findIdx_le_length
theorem index_colon (s : Str) : Lib.index s [58] = if colonAt s < s.length then (colonAt s : Int) else -1 := by
  induction s with
  | nil => rfl
  | cons b s ih =>
    unfold Lib.index
    rw [ih]
    have hp : ([58] : Str).isPrefixOf (b :: s) = (b == 58) := by
      simp only [List.isPrefixOf, Bool.and_true]
      rw [Bool.eq_iff_iff]
      simp only [beq_iff_eq]
      exact ⟨Eq.symm, Eq.symm⟩
    rw [hp]
    have hl := colon_le s
    cases hb : b == 58 with
    | true => simp [colonAt, List.findIdx_cons, hb]
    | false =>
      have : colonAt (b :: s) = colonAt s + 1 := by simp [colonAt, List.findIdx_cons, hb]
      rw [this]
      by_cases h : colonAt s < s.length
      · have e1 : ((colonAt s : Int) == -1) = false := by rw [beq_eq_false_iff_ne]; omega
        have e2 : colonAt s + 1 < (b :: s).length := by simp only [List.length_cons]; omega
        simp only [if_pos h, e1, if_pos e2, Bool.false_eq_true, if_false]
        omega
      · have e2 : ¬ colonAt s + 1 < (b :: s).length := by simp only [List.length_cons]; omega
        simp only [if_neg h, if_neg e2, Bool.false_eq_true, if_false]
        rfl
theorem cut_colon (s : Str) : Lib.cut s [58] = if colonAt s < s.length then (s.take (colonAt s), s.drop (colonAt s + 1), true) else (s, [], false) := by
  unfold Lib.cut
  rw [index_colon]
  by_cases h : colonAt s < s.length
  · rw [if_pos h, if_pos h, if_pos (by omega)]
    simp
  · rw [if_neg h, if_neg h, if_neg (by omega)]
def serverB (s : Str) : Bool :=
  allB qServer (s.take (colonAt s)) && decide (s.length ≤ 255) && (decide (colonAt s = s.length) || (decide (s.length - colonAt s ≤ 6) && allB kD (s.drop (colonAt s + 1))))
def namedB (sign : UInt8) (q : Nat → Bool) (s : Str) : Bool :=
  decide (s.length ≤ 255) && decide (colonAt s < s.length) && decide (s.head? = some sign) && allB q ((s.take (colonAt s)).drop 1) && serverB (s.drop (colonAt s + 1))
abbrev edS : Str := [101, 100, 50, 53, 53, 49, 57, 58]
def keyB (s : Str) : Bool := decide (s.length ≤ 255) && decide (s.take 8 = edS) && allB qKey (s.drop 8)
/-! ### control: a scope that is not jumped about in -/
section
variable {P : Program} {Q : Exit → Act → World → Prop} {n : Nat} {ds : List Deferred} {l : List (Nat × Value)} {w : World}
theorem c_scope {c : Code} (h : WC P c (Exit.noGoto Q) n ds l w) : WC P (.scope c) Q n ds l w := fun a ha => wp_scope_straight (h a ha)
theorem e_scope {e : Exit} (he : ∀ j, e ≠ .goto j) (h : WE Q e n ds l w) : WE (Exit.noGoto Q) e n ds l w := fun a ha => by
  have := h a ha
  cases e <;> first | exact this | exact absurd rfl (he _)
variable {t t' : TypeId} {ty : TypeId} {pos : String} {af : Array Edge} {dd : Option Nat} {gg : Option (Nat × Bool)} {x y : Operand} {ops : Array Oper} {rest : List Oper} {d : Nat}
theorem o_r2s {d0 : TypeDesc} {c : Nat} {k : IntKind} (hs : P.underlying t = some d0) (ht : P.underlying t' = some .string) (hx : evO l x = some (.int k (c : Int))) : Runs P l ⟨dd, .convert t t' x, ty, pos, af, gg⟩ w (.string (Utf8.encode c)) w := fun ρ h => by
  have h1 := run_convert_int_string (P := P) w t t' k (c : Int) (by rw [hs]; rfl) ht
  simp only [execOp, h _ _ hx, Sem.run_bind, h1, Result.andThen, Sem.run_pure]
end
theorem enc_last {c : Nat} (h1 : c ≤ 1114111) (h2 : ¬ (55296 ≤ c ∧ c ≤ 57343)) (h : 128 ≤ c) : ∃ rs : Str, Utf8.encode (c : Int) = ⟨⟨rs⟩⟩ ∧ 2 ≤ rs.length ∧ rs.length ≤ 4 ∧ ∃ b, rs[rs.length - 1]? = some b ∧ 128 ≤ b.toNat := by
  obtain ⟨f1, f2, f3⟩ := encode_facts (c : Int) (by rw [valid_nat]; simp; omega) (by omega)
  generalize Utf8.encode (c : Int) = e at f1 f2 f3 ⊢
  obtain ⟨⟨rs⟩⟩ := e
  have hs : (⟨⟨rs⟩⟩ : ByteArray).size = rs.length := rfl
  rw [hs] at f1 f2
  have hl : rs.length - 1 < rs.length := by omega
  exact ⟨rs, rfl, f1, f2, rs[rs.length - 1], List.getElem?_eq_getElem hl, f3 hl⟩
theorem indexByte_none {s : Str} {b : UInt8} (h : ∀ x ∈ s, x.toNat < 128) (hb : 128 ≤ b.toNat) : Lib.indexByte s b = -1 := by
  induction s with
  | nil => rfl
  | cons c s ih =>
    have hc := h c (by simp)
    have hne : (c == b) = false := by
      rw [beq_eq_false_iff_ne]
      intro e
      subst e
      omega
    unfold Lib.indexByte
    rw [hne, ih fun x hx => h x (by simp [hx])]
    rfl
theorem indexByte_mem (s : Str) (c : Nat) (hc : c < 128) : decide (0 ≤ Lib.indexByte s c.toUInt8) = s.any (fun b => decide (b.toNat = c)) := by
  induction s with
  | nil => rfl
  | cons b s ih =>
    unfold Lib.indexByte
    rw [List.any_cons, ← ih]
    have he : (b == c.toUInt8) = decide (b.toNat = c) := by
      rw [Bool.eq_iff_iff]
      simp only [beq_iff_eq, decide_eq_true_eq]
      have hn : c.toUInt8.toNat = c := by
        show (UInt8.ofNat c).toNat = c
        exact UInt8.toNat_ofNat_of_lt' (by have : c < 256 := by omega
                                           exact this)
      constructor
      · intro e; rw [e, hn]
      · intro e; exact UInt8.toNat_inj.1 (by rw [hn, e])
    rw [he]
    have hr : Lib.indexByte s c.toUInt8 = -1 ∨ 0 ≤ Lib.indexByte s c.toUInt8 := by
      clear ih he
      induction s with
      | nil => exact .inl rfl
      | cons x s ih =>
        unfold Lib.indexByte
        split
        · exact .inr (by omega)
        · split
          · exact .inl rfl
          · rename_i h
            rcases ih with h1 | h1
            · rw [h1] at h; simp at h
            · exact .inr (by omega)
    by_cases hb : b.toNat = c
    · simp [hb]
    · simp only [hb, decide_false, Bool.false_eq_true, if_false, Bool.false_or]
      rcases hr with h | h
      · rw [h]; rfl
      · have e1 : (Lib.indexByte s c.toUInt8 == -1) = false := by rw [beq_eq_false_iff_ne]; omega
        rw [e1, decide_eq_true h]
        simp only [Bool.false_eq_true, if_false]
        exact decide_eq_true (by omega)
end Go.Proofs.YtknndpjacklkeaaGreatDoor.V

namespace Go.Proofs
open Go.Shelf
def Tryz.lays137_ren : Go.Shelf.Ren := ⟨fun | 137 => 100 | 217 => 146 | 266 => 182 | n => n, fun | 9 => 9 | 5 => 5 | 3 => 3 | n => n, fun | n => n⟩
theorem Tryz.lays137 : Go.Proofs.Lays.n137 Tryz.prog Tryz.lays137_ren := {
 mixed := by kernel_rfl
 f137 := Tryz.func100.trans (congrArg some (by kernel_rfl))
 f217 := Tryz.func146.trans (congrArg some (by kernel_rfl))
 f266 := Tryz.func182.trans (congrArg some (by kernel_rfl))
 t3 := Tryz.underlying3
 a3 := Tryz.isAgg3
 z3 := Tryz.sizeOf3
 v3 := Tryz.zeroValue3
 t5 := Tryz.underlying5
 a5 := Tryz.isAgg5
 z5 := Tryz.sizeOf5
 v5 := Tryz.zeroValue5
 t9 := Tryz.underlying9
 a9 := Tryz.isAgg9
 z9 := Tryz.sizeOf9
 v9 := Tryz.zeroValue9 }
open Go.RowKit in
theorem Tryz.strings_IndexByte (s : ByteArray) (c : Int) (w : World) :
  Calls Tryz.prog 100 #[.string s, .int .u8 c] w fun e w' => e = .returned (.int .i64 (Lib.indexByte s.data.toList c.toNat.toUInt8)) ∧ w' = w := Any.strings_IndexByte Tryz.lays137 s c w
def Tryz.lays103_ren : Go.Shelf.Ren := ⟨fun | 103 => 196 | 210 => 231 | 206 => 201 | n => n, fun | 9 => 9 | 4 => 4 | 24 => 171 | 3 => 3 | n => n, fun | n => n⟩
theorem Tryz.lays103 : Go.Proofs.Lays.n103 Tryz.prog Tryz.lays103_ren := {
 mixed := by kernel_rfl
 f103 := Tryz.func196.trans (congrArg some (by kernel_rfl))
 f206 := Tryz.func201.trans (congrArg some (by kernel_rfl))
 f210 := Tryz.func231.trans (congrArg some (by kernel_rfl))
 t3 := Tryz.underlying3
 a3 := Tryz.isAgg3
 z3 := Tryz.sizeOf3
 v3 := Tryz.zeroValue3
 t4 := Tryz.underlying4
 a4 := Tryz.isAgg4
 z4 := Tryz.sizeOf4
 v4 := Tryz.zeroValue4
 t9 := Tryz.underlying9
 a9 := Tryz.isAgg9
 z9 := Tryz.sizeOf9
 v9 := Tryz.zeroValue9
 t24 := Tryz.underlying171
 a24 := Tryz.isAgg171
 z24 := Tryz.sizeOf171
 v24 := Tryz.zeroValue171 }
open Go.RowKit in
theorem Tryz.strings_CutPrefix (s p : ByteArray) (w : World) :
  Calls Tryz.prog 196 #[.string s, .string p] w fun e w' => e = .returned (.tuple #[.string ⟨(Lib.trimPrefix s.data.toList p.data.toList).toArray⟩, .bool (Lib.hasPrefix s.data.toList p.data.toList)]) ∧ w' = w := Any.strings_CutPrefix Tryz.lays103 s p w
def Tryz.lays145_ren : Go.Shelf.Ren := ⟨fun | 145 => 192 | 220 => 227 | 219 => 248 | 217 => 146 | 225 => 230 | 224 => 229 | 267 => 258 | 266 => 182 | 314 => 260 | n => n, fun | 9 => 9 | 4 => 4 | 59 => 174 | 3 => 3 | 5 => 5 | 46 => 144 | 146 => 266 | 51 => 147 | n => n, fun | 1 => 1 | n => n⟩
theorem Tryz.lays145 : Go.Proofs.Lays.n145 Tryz.prog Tryz.lays145_ren := {
 mixed := by kernel_rfl
 f145 := Tryz.func192.trans (congrArg some (by kernel_rfl))
 f217 := Tryz.func146.trans (congrArg some (by kernel_rfl))
 f219 := Tryz.func248.trans (congrArg some (by kernel_rfl))
 f220 := Tryz.func227.trans (congrArg some (by kernel_rfl))
 f224 := Tryz.func229.trans (congrArg some (by kernel_rfl))
 f225 := Tryz.func230.trans (congrArg some (by kernel_rfl))
 f266 := Tryz.func182.trans (congrArg some (by kernel_rfl))
 f267 := Tryz.func258.trans (congrArg some (by kernel_rfl))
 f314 := Tryz.func260.trans (congrArg some (by kernel_rfl))
 t3 := Tryz.underlying3
 a3 := Tryz.isAgg3
 z3 := Tryz.sizeOf3
 v3 := Tryz.zeroValue3
 t4 := Tryz.underlying4
 a4 := Tryz.isAgg4
 z4 := Tryz.sizeOf4
 v4 := Tryz.zeroValue4
 t5 := Tryz.underlying5
 a5 := Tryz.isAgg5
 z5 := Tryz.sizeOf5
 v5 := Tryz.zeroValue5
 t9 := Tryz.underlying9
 a9 := Tryz.isAgg9
 z9 := Tryz.sizeOf9
 v9 := Tryz.zeroValue9
 t46 := Tryz.underlying144
 a46 := Tryz.isAgg144
 z46 := Tryz.sizeOf144
 v46 := Tryz.zeroValue144
 t51 := Tryz.underlying147
 a51 := Tryz.isAgg147
 z51 := Tryz.sizeOf147
 v51 := Tryz.zeroValue147
 t59 := Tryz.underlying174
 a59 := Tryz.isAgg174
 z59 := Tryz.sizeOf174
 v59 := Tryz.zeroValue174
 t146 := Tryz.underlying266
 a146 := Tryz.isAgg266
 z146 := Tryz.sizeOf266
 v146 := Tryz.zeroValue266
 g1 := by kernel_rfl }
open Go.RowKit Go.Lib in
theorem Tryz.strings_Cut (s sep : ByteArray) (m : Int) (w : World) (hs : s.size < 4294967281) (hm : w.cell? ⟨1, 0, none⟩ = some (.int .i64 m)) :
  Calls Tryz.prog 192 #[.string s, .string sep] w fun e w' => e = .returned (.tuple #[.string ⟨(Lib.cut s.data.toList sep.data.toList).1.toArray⟩, .string ⟨(Lib.cut s.data.toList sep.data.toList).2.1.toArray⟩, .bool (Lib.cut s.data.toList sep.data.toList).2.2]) ∧ ∃ n, w' = w.drewN n := Any.strings_Cut Tryz.lays145 s sep m w hs hm
def Tryz.laysM145_ren : Go.Shelf.Ren := ⟨fun | 145 => 192 | 220 => 227 | 219 => 248 | 217 => 146 | 225 => 230 | 224 => 229 | 267 => 258 | 266 => 182 | 314 => 260 | n => n, fun | 9 => 9 | 4 => 4 | 59 => 174 | 3 => 3 | 5 => 5 | 46 => 144 | 146 => 266 | 51 => 147 | n => n, fun | 1 => 1 | n => n⟩
theorem Tryz.laysM145 : Go.Proofs.LaysM.n145 Tryz.prog Tryz.laysM145_ren := {
 mixed := by kernel_rfl
 f145 := Tryz.func192.trans (congrArg some (by kernel_rfl))
 f217 := Tryz.func146.trans (congrArg some (by kernel_rfl))
 f219 := Tryz.func248.trans (congrArg some (by kernel_rfl))
 f220 := Tryz.func227.trans (congrArg some (by kernel_rfl))
 f224 := Tryz.func229.trans (congrArg some (by kernel_rfl))
 f225 := Tryz.func230.trans (congrArg some (by kernel_rfl))
 f266 := Tryz.func182.trans (congrArg some (by kernel_rfl))
 f267 := Tryz.func258.trans (congrArg some (by kernel_rfl))
 f314 := Tryz.func260.trans (congrArg some (by kernel_rfl))
 t3 := Tryz.underlying3
 a3 := Tryz.isAgg3
 z3 := Tryz.sizeOf3
 v3 := Tryz.zeroValue3
 t4 := Tryz.underlying4
 a4 := Tryz.isAgg4
 z4 := Tryz.sizeOf4
 v4 := Tryz.zeroValue4
 t5 := Tryz.underlying5
 a5 := Tryz.isAgg5
 z5 := Tryz.sizeOf5
 v5 := Tryz.zeroValue5
 t9 := Tryz.underlying9
 a9 := Tryz.isAgg9
 z9 := Tryz.sizeOf9
 v9 := Tryz.zeroValue9
 t46 := Tryz.underlying144
 a46 := Tryz.isAgg144
 z46 := Tryz.sizeOf144
 v46 := Tryz.zeroValue144
 t51 := Tryz.underlying147
 a51 := Tryz.isAgg147
 z51 := Tryz.sizeOf147
 v51 := Tryz.zeroValue147
 t59 := Tryz.underlying174
 a59 := Tryz.isAgg174
 z59 := Tryz.sizeOf174
 v59 := Tryz.zeroValue174
 t146 := Tryz.underlying266
 a146 := Tryz.isAgg266
 z146 := Tryz.sizeOf266
 v146 := Tryz.zeroValue266
 g1 := by kernel_rfl
 i3 := by kernel_rfl
 i4 := by kernel_rfl
 i5 := by kernel_rfl
 i9 := by kernel_rfl
 i46 := by kernel_rfl
 i51 := by kernel_rfl
 i59 := by kernel_rfl
 i146 := by kernel_rfl
 m1 := by kernel_rfl
 s1_3 := fun w h => Go.Proofs.cell_of_shapedOpen_int (zero := #[.int .i64 0]) (t := 3) h (of_decide_eq_true (by kernel_rfl)) (by kernel_rfl) rfl (by kernel_rfl) (by kernel_rfl) Tryz.underlying3 }
def Tryz.lays151_ren : Go.Shelf.Ren := ⟨fun | 151 => 165 | 152 => 194 | 137 => 100 | 119 => 228 | 224 => 229 | 225 => 230 | 217 => 146 | 266 => 182 | n => n, fun | 9 => 9 | 21 => 21 | 4 => 4 | 3 => 3 | 5 => 5 | 0 => 0 | 46 => 144 | n => n, fun | n => n⟩
theorem Tryz.lays151 : Go.Proofs.Lays.n151 Tryz.prog Tryz.lays151_ren := {
 mixed := by kernel_rfl
 f119 := Tryz.func228.trans (congrArg some (by kernel_rfl))
 f137 := Tryz.func100.trans (congrArg some (by kernel_rfl))
 f151 := Tryz.func165.trans (congrArg some (by kernel_rfl))
 f152 := Tryz.func194.trans (congrArg some (by kernel_rfl))
 f217 := Tryz.func146.trans (congrArg some (by kernel_rfl))
 f224 := Tryz.func229.trans (congrArg some (by kernel_rfl))
 f225 := Tryz.func230.trans (congrArg some (by kernel_rfl))
 f266 := Tryz.func182.trans (congrArg some (by kernel_rfl))
 t0 := Tryz.underlying0
 a0 := Tryz.isAgg0
 z0 := Tryz.sizeOf0
 v0 := Tryz.zeroValue0
 t3 := Tryz.underlying3
 a3 := Tryz.isAgg3
 z3 := Tryz.sizeOf3
 v3 := Tryz.zeroValue3
 t4 := Tryz.underlying4
 a4 := Tryz.isAgg4
 z4 := Tryz.sizeOf4
 v4 := Tryz.zeroValue4
 t5 := Tryz.underlying5
 a5 := Tryz.isAgg5
 z5 := Tryz.sizeOf5
 v5 := Tryz.zeroValue5
 t9 := Tryz.underlying9
 a9 := Tryz.isAgg9
 z9 := Tryz.sizeOf9
 v9 := Tryz.zeroValue9
 t21 := Tryz.underlying21
 a21 := Tryz.isAgg21
 z21 := Tryz.sizeOf21
 v21 := Tryz.zeroValue21
 t46 := Tryz.underlying144
 a46 := Tryz.isAgg144
 z46 := Tryz.sizeOf144
 v46 := Tryz.zeroValue144 }
open Go.RowKit Go.Lib in
theorem Tryz.strings_ContainsRune_ascii (s : ByteArray) (r : Int) (w : World) (h0 : 0 ≤ r) (h1 : r < 128) :
  Calls Tryz.prog 165 #[.string s, .int .i32 r] w fun e w' => e = .returned (.bool (decide (0 ≤ Lib.indexByte s.data.toList r.toNat.toUInt8))) ∧ w' = w := Any.strings_ContainsRune_ascii Tryz.lays151 s r w h0 h1
end Go.Proofs

namespace Go.Proofs.YtknndpjacklkeaaGreatDoor.V
open Go Go.Proofs
def MaxL (w : World) : Prop := ∃ m, w.cell? ⟨1, 0, none⟩ = some (.int .i64 m)
theorem MaxL.of_ {W : World} (h : W.ShapedOpen Tryz.prog) : MaxL W := Tryz.laysM145.s1_3 W h
theorem MaxL.mod0 {w w' : World} (h : MaxL w) (k : Mod [] w w') : MaxL w' := by
 obtain ⟨m, hm⟩ := h
 refine ⟨m, ?_⟩
 have hlt : 1 < w.heap.size := by
  rcases Nat.lt_or_ge 1 w.heap.size with hl | hl
  ·exact hl
  ·unfold World.cell? at hm
   rw [Array.getElem?_eq_none hl] at hm
   cases hm
 unfold World.cell? at hm ⊢
 rw [k.block 1 hlt (by simp)]
 exact hm
theorem drewN_mod (w : World) (n : Nat) : Mod [] w (w.drewN n) := ⟨rfl, rfl, rfl, Nat.le_refl _, fun _ _ _ => rfl⟩
theorem c_cut (w : World) (s : Str) (hs : s.length < 4294967281) (hM : MaxL w) : Calls Tryz.prog 192 [S s, S [58]].toArray w (Ret fun u w' => u = .tuple #[S (Lib.cut s [58]).1, S (Lib.cut s [58]).2.1, .bool (Lib.cut s [58]).2.2] ∧ Mod [] w w') := by
 obtain ⟨m, hm⟩ := hM
 refine (Tryz.strings_Cut ⟨⟨s⟩⟩ ⟨⟨[58]⟩⟩ m w hs hm).mono fun e w' he => ?_
 obtain ⟨rfl, n, rfl⟩ := he
 exact ⟨rfl, drewN_mod w n⟩
theorem c_cutp (w : World) (s p : Str) : Calls Tryz.prog 196 [S s, S p].toArray w (Ret fun u w' => u = .tuple #[S (Lib.trimPrefix s p), .bool (Lib.hasPrefix s p)] ∧ Mod [] w w') := by
 refine (Tryz.strings_CutPrefix ⟨⟨s⟩⟩ ⟨⟨p⟩⟩ w).mono fun e w' he => ?_
 obtain ⟨rfl, rfl⟩ := he
 exact ⟨rfl, Mod.refl _ _⟩
theorem c_ib (w : World) (s : Str) (b : UInt8) : Calls Tryz.prog 100 [S s, .int .u8 (b.toNat : Int)].toArray w (Ret fun u w' => u = .int .i64 (Lib.indexByte s b) ∧ Mod [] w w') := by
 refine (Tryz.strings_IndexByte ⟨⟨s⟩⟩ (b.toNat : Int) w).mono fun e w' he => ?_
 obtain ⟨rfl, rfl⟩ := he
 refine ⟨?_, Mod.refl _ _⟩
 have h1 : ((b.toNat : Int).toNat).toUInt8 = b := by rw [Int.toNat_natCast]; exact UInt8.ofNat_toNat
 rw [h1]
theorem c_crune_lo (w : World) (s : Str) (c : Nat) (hc : c < 128) : Calls Tryz.prog 165 [S s, .int .i32 (c : Int)].toArray w (Ret fun u w' => u = .bool (s.any fun b => decide (b.toNat = c)) ∧ Mod [] w w') := by
 refine (Tryz.strings_ContainsRune_ascii ⟨⟨s⟩⟩ (c : Int) w (by omega) (by omega)).mono fun e w' he => ?_
 obtain ⟨rfl, rfl⟩ := he
 refine ⟨?_, Mod.refl _ _⟩
 rw [Int.toNat_natCast, indexByte_mem _ _ hc]
end Go.Proofs.YtknndpjacklkeaaGreatDoor.V
