/-
  A part of the proof: the digest in plain Lean. No condition of its own.
-/
import Derived.Test.YtccjjkdogljmpaaDoorVG
set_option linter.unusedVariables false
set_option linter.unusedSimpArgs false
namespace Go.Proofs.YtccjjkdogljmpaaDoor.V
open Go
abbrev bcells (c : UInt8) : List Value := [B8 c]
abbrev byD (b : List UInt8) : D := flat 1 bcells b
abbrev wcells (x : UInt32) : List Value := [W4 x]
abbrev woD (b : List UInt32) : D := flat 1 wcells b
/-- a word turned to the right -/
def rr (x : UInt32) (k : Nat) : UInt32 := x >>> UInt32.ofNat k ||| x <<< UInt32.ofNat (32 - k)
theorem and31 : ∀ k : Fin 32, k.val ≠ 0 → IntKind.u64.wrap ((BitVec.ofInt 64 (18446744073709551616 - (k.val : Int)) &&& BitVec.ofInt 64 31).toNat : Int) = 32 - (k.val : Int) := by decide +kernel
theorem rot_conv (k : Nat) (h : 0 < k ∧ k < 32) : IntKind.u64.wrap (-(k : Int)) = 18446744073709551616 - (k : Int) := by
  have : IntKind.u64.wrap (-(k : Int)) = (-(k : Int)) % 18446744073709551616 := by simp [IntKind.wrap, IntKind.bits, IntKind.signed]
  rw [this]
  omega
/-- the word of bytes, the highest first -/
def wordOf (b : List UInt8) : UInt32 := b.foldl (fun n c => n <<< UInt32.ofNat 8 ||| c.toUInt32) 0
theorem wordOf_succ {b : List UInt8} {k : Nat} {c : UInt8} (h : b[k]? = some c) : wordOf (b.take (k + 1)) = wordOf (b.take k) <<< UInt32.ofNat 8 ||| c.toUInt32 := by
  have hlt := (List.getElem?_eq_some_iff.1 h).1
  rw [wordOf, List.take_succ_eq_append_getElem hlt, (List.getElem?_eq_some_iff.1 h).2, List.foldl_append]
  rfl
/-- .. by numbers -/
theorem shl_or (n : UInt32) (c : UInt8) : n <<< UInt32.ofNat 8 ||| c.toUInt32 = n * 256 + c.toUInt32 := by
  apply UInt32.toNat_inj.1
  have hc := c.toNat_lt
  have hn := n.toNat_lt
  have h8 : (UInt32.ofNat 8).toNat % 32 = 8 := rfl
  rw [UInt32.toNat_or, UInt32.toNat_shiftLeft, h8, UInt32.toNat_add, UInt32.toNat_mul, UInt8.toNat_toUInt32, Nat.shiftLeft_eq]
  have h1 : n.toNat * 2 ^ 8 % 2 ^ 32 = 2 ^ 8 * (n.toNat % 2 ^ 24) := by omega
  rw [h1, ← Nat.two_pow_add_eq_or_of_lt (by omega)]
  have h2 : (256 : UInt32).toNat = 256 := rfl
  rw [h2]
  omega
structure S8 where
  a : UInt32
  b : UInt32
  c : UInt32
  d : UInt32
  e : UInt32
  f : UInt32
  g : UInt32
  h : UInt32
abbrev S8.cells (s : S8) : List Value := [W4 s.a, W4 s.b, W4 s.c, W4 s.d, W4 s.e, W4 s.f, W4 s.g, W4 s.h]
def s8of : S8 := ⟨0x6a09e667, 0xbb67ae85, 0x3c6ef372, 0xa54ff53a, 0x510e527f, 0x9b05688c, 0x1f83d9ab, 0x5be0cd19⟩
def numsK : List UInt32 := [
  0x428a2f98, 0x71374491, 0xb5c0fbcf, 0xe9b5dba5, 0x3956c25b, 0x59f111f1, 0x923f82a4, 0xab1c5ed5,
  0xd807aa98, 0x12835b01, 0x243185be, 0x550c7dc3, 0x72be5d74, 0x80deb1fe, 0x9bdc06a7, 0xc19bf174,
  0xe49b69c1, 0xefbe4786, 0x0fc19dc6, 0x240ca1cc, 0x2de92c6f, 0x4a7484aa, 0x5cb0a9dc, 0x76f988da,
  0x983e5152, 0xa831c66d, 0xb00327c8, 0xbf597fc7, 0xc6e00bf3, 0xd5a79147, 0x06ca6351, 0x14292967,
  0x27b70a85, 0x2e1b2138, 0x4d2c6dfc, 0x53380d13, 0x650a7354, 0x766a0abb, 0x81c2c92e, 0x92722c85,
  0xa2bfe8a1, 0xa81a664b, 0xc24b8b70, 0xc76c51a3, 0xd192e819, 0xd6990624, 0xf40e3585, 0x106aa070,
  0x19a4c116, 0x1e376c08, 0x2748774c, 0x34b0bcb5, 0x391c0cb3, 0x4ed8aa4a, 0x5b9cca4f, 0x682e6ff3,
  0x748f82ee, 0x78a5636f, 0x84c87814, 0x8cc70208, 0x90befffa, 0xa4506ceb, 0xbef9a3f7, 0xc67178f2]
def sg0 (x : UInt32) : UInt32 := rr x 7 ^^^ rr x 18 ^^^ x >>> UInt32.ofNat 3
def sg1 (y : UInt32) : UInt32 := rr y 17 ^^^ rr y 19 ^^^ y >>> UInt32.ofNat 10
def at32 (w : List UInt32) (i : Nat) : UInt32 := w.getD i 0
def nextW (w : List UInt32) (i : Nat) : UInt32 := at32 w (i - 16) + sg0 (at32 w (i - 15)) + at32 w (i - 7) + sg1 (at32 w (i - 2))
/-- a block's words -/
def sch (b : List UInt8) : Nat → List UInt32
  | 0 => []
  | i + 1 => sch b i ++ [if i < 16 then wordOf ((b.drop (4 * i)).take 4) else nextW (sch b i) i]
theorem sch_len (b : List UInt8) : ∀ i, (sch b i).length = i
  | 0 => rfl
  | i + 1 => by simp [sch, sch_len b i]
def rndT (k w : UInt32) (s : S8) : UInt32 := s.h + (rr s.e 6 ^^^ rr s.e 11 ^^^ rr s.e 25) + (s.e &&& s.f ^^^ ~~~s.e &&& s.g) + k + w
def rndU (s : S8) : UInt32 := rr s.a 2 ^^^ rr s.a 13 ^^^ rr s.a 22
def rndV (s : S8) : UInt32 := s.a &&& s.b ^^^ s.a &&& s.c ^^^ s.b &&& s.c
def rnd (k w : UInt32) (s : S8) : S8 := ⟨rndT k w s + (rndU s + rndV s), s.a, s.b, s.c, s.d + rndT k w s, s.e, s.f, s.g⟩
def rnds (ks ws : List UInt32) (s : S8) : Nat → S8
  | 0 => s
  | i + 1 => rnd (at32 ks i) (at32 ws i) (rnds ks ws s i)
def S8.add (s t : S8) : S8 := ⟨s.a + t.a, s.b + t.b, s.c + t.c, s.d + t.d, s.e + t.e, s.f + t.f, s.g + t.g, s.h + t.h⟩
/-- a block taken in -/
def comp (s : S8) (b : List UInt8) : S8 := s.add (rnds numsK (sch b 64) s 64)
theorem at32_get {w : List UInt32} {i : Nat} (h : i < w.length) : w[i]? = some (at32 w i) := by
  rw [at32, List.getD_eq_getElem?_getD, List.getElem?_eq_getElem h]
  rfl
abbrev S8.list (s : S8) : List UInt32 := [s.a, s.b, s.c, s.d, s.e, s.f, s.g, s.h]
theorem w4_one (x : UInt32) : (W4 x).oneCell' = true := rfl
theorem words_one {xs : List UInt32} : ∀ x ∈ xs, ∀ c ∈ wcells x, c.oneCell' = true := by
  intro x _ c hc
  simp at hc
  subst hc
  rfl
theorem Own.words {w : World} {e n : Nat} {v : Value} {xs : List UInt32} (h : Own w e 1 v n ((xs.map wcells).flatten)) (hn : xs.length = n) : Rep [] w (woD xs) v := Own.flat h (fun _ _ => rfl) words_one hn (by simp)
theorem Own.wsnoc {w : World} {e n : Nat} {v : Value} {xs : List UInt32} {y x : UInt32} (h : Own w e 1 v (n + 1) ((xs.map wcells).flatten ++ [W4 y])) (hy : y = x) : Own w e 1 v (n + 1) (((xs ++ [x]).map wcells).flatten) := by
  subst hy
  simpa using h
theorem Blk.c1 {w : World} {g T i : Nat} {cs : List Value} {v : Value} (h : Blk w g T cs) (hi : cs[i]? = some v) : w.cell? ⟨g, 0 + i * 1, none⟩ = some v := by
  rw [Nat.zero_add, Nat.mul_one]
  exact h.cell hi
theorem Cs.c1 {w : World} {g i : Nat} {cs : List Value} {v : Value} (h : Cs w ⟨g, 0, none⟩ cs) (hi : cs[i]? = some v) : w.cell? ⟨g, 0 + i * 1, none⟩ = some v := by
  have := h i v hi
  rw [Addr.add_lit] at this
  rw [Nat.mul_one]
  exact this
/-- a row of words, of which the first are named -/
def rowW (xs : List UInt32) (n : Nat) : List Value := xs.map W4 ++ List.replicate (n - xs.length) (W4 0)
theorem rowW_get {xs : List UInt32} {n i : Nat} (h : i < xs.length) : (rowW xs n)[i]? = some (W4 (at32 xs i)) := by
  rw [rowW, List.getElem?_append_left (by simpa using h), List.getElem?_map, at32_get h]
  rfl
theorem rowW_len {xs : List UInt32} {n : Nat} (h : xs.length ≤ n) : (rowW xs n).length = n := by
  simp only [rowW, List.length_append, List.length_map, List.length_replicate]
  omega
theorem rowW_set {xs : List UInt32} {n : Nat} {x : UInt32} (h : xs.length < n) : (rowW xs n).set xs.length (W4 x) = rowW (xs ++ [x]) n := by
  have h1 : n - xs.length = (n - (xs.length + 1)) + 1 := by omega
  rw [rowW, rowW, List.set_append_right _ _ (by simp), h1, List.replicate_succ]
  simp
theorem mix_get {A Z : List UInt32} {tl : List Value} {i : Nat} (hZ : Z.length = A.length) (h : i < A.length) : ((Z.take i ++ A.drop i).map W4 ++ tl)[i]? = some (W4 (at32 A i)) := by
  have hl : (Z.take i).length = i := by rw [List.length_take]; omega
  rw [List.getElem?_append_left (by simp; omega), List.getElem?_map, List.getElem?_append_right (by omega), hl, List.getElem?_drop]
  simp only [Nat.sub_self, Nat.add_zero]
  rw [at32_get h]
  rfl
theorem mix_set {A Z : List UInt32} {tl : List Value} {i : Nat} {z : UInt32} (hZ : Z.length = A.length) (h : i < A.length) (hz : Z[i]? = some z) : ((Z.take i ++ A.drop i).map W4 ++ tl).set i (W4 z) = (Z.take (i + 1) ++ A.drop (i + 1)).map W4 ++ tl := by
  have hl : (Z.take i).length = i := by rw [List.length_take]; omega
  have h1 : A.drop i = A[i] :: A.drop (i + 1) := by rw [List.drop_eq_getElem_cons h]
  have h2 : Z.take (i + 1) = Z.take i ++ [z] := by rw [List.take_succ_eq_append_getElem (by omega), (List.getElem?_eq_some_iff.1 hz).2]
  rw [List.set_append_left _ _ (by simp; omega), h1, h2]
  congr 1
  rw [List.map_append, List.map_cons, List.set_append_right _ _ (by rw [List.length_map, hl]; exact Nat.le_refl _), List.length_map, hl, Nat.sub_self]
  simp only [List.set_cons_zero, List.map_append, List.map_cons, List.map_nil, List.append_assoc, List.cons_append, List.nil_append]
section
variable {P : Program} {ops : Array Oper} {Q : Exit → Act → World → Prop} {n : Nat} {ds : List Deferred} {l : List (Nat × Value)} {w w' : World}
variable {rest : List Oper} {ty : TypeId} {pos : String} {af : Array Edge} {x y : Operand} {t : TypeId}
theorem s_st1 {v : Value} {g i T : Nat} {cs : List Value} (ht : scB P t = true) (B : Blk w g T cs) (hx : evO l x = some (.pointer (some ⟨g, 0 + i * 1, none⟩))) (hy : evO l y = some v) (hv : v.oneCell' = true) (hi : i < cs.length)
    (h : ∀ w', Put w w' g T (cs.set i v) → WL P ops Q rest n ds l w') : WL P ops Q (⟨none, .store t x y, ty, pos, af, none⟩ :: rest) n ds l w := by
  rw [Nat.zero_add, Nat.mul_one] at hx
  exact s_st ht B hx hy hv hi h
end
theorem flat_from {α : Type} {A : List Nat} {w : World} {sz i c : Nat} {cells : α → List Value} {xs : List α} {ad : Option Addr} (h : Rep A w (flat sz cells xs) (.slice ad xs.length c)) (hi : i ≤ xs.length) : Rep A w (flat sz cells (xs.drop i)) (.slice (adS ad c i sz) (xs.length - i) (c - i)) := by
  have := Rep.cut (lo := i) (hi := xs.length) h hi (Nat.le_refl _)
  rw [List.take_of_length_le (by simp), ← List.map_drop] at this
  exact this
theorem row_step {w : World} {g T i : Nat} {b : List UInt8} {x : UInt32} (hi : i < 64) (hx : x = if i < 16 then wordOf ((b.drop (4 * i)).take 4) else nextW (sch b i) i) (B : Blk w g T ((rowW (sch b i) 64).set i (W4 x))) : Blk w g T (rowW (sch b (i + 1)) 64) := by
  have h := rowW_set (xs := sch b i) (n := 64) (x := x) (by rw [sch_len]; exact hi)
  rw [sch_len] at h
  rw [h, hx] at B
  exact B
theorem nums_get {i : Nat} (h : i < 64) : (numsK.map W4)[i]? = some (W4 (at32 numsK i)) := by
  rw [List.getElem?_map, at32_get (show i < numsK.length from h)]
  rfl
theorem s8_get {s : S8} {i : Nat} (h : i < 8) : s.cells[i]? = some (W4 (at32 s.list i)) := by
  show (s.list.map W4)[i]? = _
  rw [List.getElem?_map, at32_get (show i < s.list.length from h)]
  rfl
theorem zip_get {A V : List UInt32} {i : Nat} (h : i < A.length) (h' : i < V.length) : (List.zipWith (· + ·) A V)[i]? = some (at32 A i + at32 V i) := by
  rw [List.getElem?_zipWith, at32_get h, at32_get h']
theorem rowW_nil (b : List UInt8) : rowW (sch b 0) 64 = List.replicate 64 (.int .u32 0) := rfl
end Go.Proofs.YtccjjkdogljmpaaDoor.V
