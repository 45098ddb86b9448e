/-
  A part of the proof: the digest in plain Lean; blocks taken in, one behind the other; what stands behind the bytes; the digest's bytes; the digest of bytes; the reference's digest is the digest; slices of arrays; a slice's type changed in name alone; one byte of a slice of the call's own is written; letters that stand for bytes: their numbers, whether they stand for bytes, in plain Lean. No condition of its own.
-/
import Derived.Test.YtkhbnhdlelmbnaaGreatDoorM16
import Derived.Test.YtkhbnhdlelmbnaaGreatDoorM15
set_option linter.unusedVariables false
set_option linter.unusedSimpArgs false
namespace Go.Proofs.YtkhbnhdlelmbnaaGreatDoor.V
open Go
abbrev bcells (c : UInt8) : List Value := [B8 c]
abbrev byD (b : List UInt8) : D := flat 1 bcells b
abbrev wcells (x : UInt32) : List Value := [W4 x]
abbrev woD (b : List UInt32) : D := flat 1 wcells b
/-- a word turned to the right -/
def rr (x : UInt32) (k : Nat) : UInt32 := x >>> UInt32.ofNat k ||| x <<< UInt32.ofNat (32 - k)
/-- the word of bytes, the highest first -/
def wordOf (b : List UInt8) : UInt32 := b.foldl (fun n c => n <<< UInt32.ofNat 8 ||| c.toUInt32) 0
structure S8 where
  a : UInt32
  b : UInt32
  c : UInt32
  d : UInt32
  e : UInt32
  f : UInt32
  g : UInt32
  h : UInt32
abbrev S8.cells (s : S8) : List Value := [W4 s.a, W4 s.b, W4 s.c, W4 s.d, W4 s.e, W4 s.f, W4 s.g, W4 s.h]
def numsK : List UInt32 := [
  0x428a2f98, 0x71374491, 0xb5c0fbcf, 0xe9b5dba5, 0x3956c25b, 0x59f111f1, 0x923f82a4, 0xab1c5ed5,
  0xd807aa98, 0x12835b01, 0x243185be, 0x550c7dc3, 0x72be5d74, 0x80deb1fe, 0x9bdc06a7, 0xc19bf174,
  0xe49b69c1, 0xefbe4786, 0x0fc19dc6, 0x240ca1cc, 0x2de92c6f, 0x4a7484aa, 0x5cb0a9dc, 0x76f988da,
  0x983e5152, 0xa831c66d, 0xb00327c8, 0xbf597fc7, 0xc6e00bf3, 0xd5a79147, 0x06ca6351, 0x14292967,
  0x27b70a85, 0x2e1b2138, 0x4d2c6dfc, 0x53380d13, 0x650a7354, 0x766a0abb, 0x81c2c92e, 0x92722c85,
  0xa2bfe8a1, 0xa81a664b, 0xc24b8b70, 0xc76c51a3, 0xd192e819, 0xd6990624, 0xf40e3585, 0x106aa070,
  0x19a4c116, 0x1e376c08, 0x2748774c, 0x34b0bcb5, 0x391c0cb3, 0x4ed8aa4a, 0x5b9cca4f, 0x682e6ff3,
  0x748f82ee, 0x78a5636f, 0x84c87814, 0x8cc70208, 0x90befffa, 0xa4506ceb, 0xbef9a3f7, 0xc67178f2]
def sg0 (x : UInt32) : UInt32 := rr x 7 ^^^ rr x 18 ^^^ x >>> UInt32.ofNat 3
def sg1 (y : UInt32) : UInt32 := rr y 17 ^^^ rr y 19 ^^^ y >>> UInt32.ofNat 10
def at32 (w : List UInt32) (i : Nat) : UInt32 := w.getD i 0
def nextW (w : List UInt32) (i : Nat) : UInt32 := at32 w (i - 16) + sg0 (at32 w (i - 15)) + at32 w (i - 7) + sg1 (at32 w (i - 2))
/-- a block's words -/
def sch (b : List UInt8) : Nat → List UInt32
  | 0 => []
  | i + 1 => sch b i ++ [if i < 16 then wordOf ((b.drop (4 * i)).take 4) else nextW (sch b i) i]
def rndT (k w : UInt32) (s : S8) : UInt32 := s.h + (rr s.e 6 ^^^ rr s.e 11 ^^^ rr s.e 25) + (s.e &&& s.f ^^^ ~~~s.e &&& s.g) + k + w
def rndU (s : S8) : UInt32 := rr s.a 2 ^^^ rr s.a 13 ^^^ rr s.a 22
def rndV (s : S8) : UInt32 := s.a &&& s.b ^^^ s.a &&& s.c ^^^ s.b &&& s.c
def rnd (k w : UInt32) (s : S8) : S8 := ⟨rndT k w s + (rndU s + rndV s), s.a, s.b, s.c, s.d + rndT k w s, s.e, s.f, s.g⟩
def rnds (ks ws : List UInt32) (s : S8) : Nat → S8
  | 0 => s
  | i + 1 => rnd (at32 ks i) (at32 ws i) (rnds ks ws s i)
def S8.add (s t : S8) : S8 := ⟨s.a + t.a, s.b + t.b, s.c + t.c, s.d + t.d, s.e + t.e, s.f + t.f, s.g + t.g, s.h + t.h⟩
/-- a block taken in -/
def comp (s : S8) (b : List UInt8) : S8 := s.add (rnds numsK (sch b 64) s 64)
abbrev S8.list (s : S8) : List UInt32 := [s.a, s.b, s.c, s.d, s.e, s.f, s.g, s.h]
theorem words_one {xs : List UInt32} : ∀ x ∈ xs, ∀ c ∈ wcells x, c.oneCell' = true := by
  intro x _ c hc
  simp at hc
  subst hc
  rfl
theorem Own.words {w : World} {e n : Nat} {v : Value} {xs : List UInt32} (h : Own w e 1 v n ((xs.map wcells).flatten)) (hn : xs.length = n) : Rep [] w (woD xs) v := Own.flat h (fun _ _ => rfl) words_one hn (by simp)
theorem Blk.c1 {w : World} {g T i : Nat} {cs : List Value} {v : Value} (h : Blk w g T cs) (hi : cs[i]? = some v) : w.cell? ⟨g, 0 + i * 1, none⟩ = some v := by
  rw [Nat.zero_add, Nat.mul_one]
  exact h.cell hi
theorem Cs.c1 {w : World} {g i : Nat} {cs : List Value} {v : Value} (h : Cs w ⟨g, 0, none⟩ cs) (hi : cs[i]? = some v) : w.cell? ⟨g, 0 + i * 1, none⟩ = some v := by
  have := h i v hi
  rw [Addr.add_lit] at this
  rw [Nat.mul_one]
  exact this
section
variable {P : Program} {ops : Array Oper} {Q : Exit → Act → World → Prop} {n : Nat} {ds : List Deferred} {l : List (Nat × Value)} {w w' : World}
variable {rest : List Oper} {ty : TypeId} {pos : String} {af : Array Edge} {x y : Operand} {t : TypeId}
end
end Go.Proofs.YtkhbnhdlelmbnaaGreatDoor.V

set_option linter.unusedVariables false
set_option linter.unusedSimpArgs false
namespace Go.Proofs.YtkhbnhdlelmbnaaGreatDoor.V
open Go
theorem bytes_one {b : List UInt8} : ∀ x ∈ b, ∀ c ∈ bcells x, c.oneCell' = true := by
  intro x _ c hc
  simp at hc
  subst hc
  rfl
theorem Own.byts {w : World} {e n : Nat} {v : Value} {b : List UInt8} (A : List Nat) (h : Own w e 1 v n ((b.map bcells).flatten)) (hn : b.length = n) (hA : ∀ x ∈ ob v, x ∉ A) : Rep A w (byD b) v := Own.flat h (fun _ _ => rfl) bytes_one hn hA
theorem Own.as {w : World} {e sz m n : Nat} {v : Value} {us vs : List Value} (h : Own w e sz v n vs) (hm : n = m) (hv : vs = us) : Own w e sz v m us := by
  subst hm; subst hv; exact h
end Go.Proofs.YtkhbnhdlelmbnaaGreatDoor.V

set_option linter.unusedVariables false
set_option linter.unusedSimpArgs false
namespace Go.Proofs.YtkhbnhdlelmbnaaGreatDoor.V
open Go
def lenb (n i : Nat) : UInt8 := UInt8.ofNat (n * 8 / 256 ^ i)
/-- the first k of the eight bytes of the length, the highest first -/
def lens (n k : Nat) : List UInt8 := (List.range k).map fun i => lenb n (7 - i)
/-- a word's byte: the j-th from below -/
def wb (x : UInt32) (j : Nat) : UInt8 := (x >>> UInt32.ofNat (8 * j)).toUInt8
end Go.Proofs.YtkhbnhdlelmbnaaGreatDoor.V

set_option linter.unusedVariables false
set_option linter.unusedSimpArgs false
namespace Go.Proofs.YtkhbnhdlelmbnaaGreatDoor.V
open Go
end Go.Proofs.YtkhbnhdlelmbnaaGreatDoor.V

set_option linter.unusedVariables false
set_option linter.unusedSimpArgs false
namespace Go.Proofs.YtkhbnhdlelmbnaaGreatDoor.V
open Go
section
variable {P : Program} {l : List (Nat × Value)} {w : World} {ty : TypeId} {pos : String} {af : Array Edge}
variable {dd : Option Nat} {gg : Option (Nat × Bool)} {x y : Operand} {t : TypeId}
end
theorem Own.block {w : World} {e c i : Nat} {ad : Option Addr} {t : List UInt8} (h : Own w e 1 (.slice ad t.length c) t.length ((t.map bcells).flatten)) (hi : 64 * i + 64 ≤ t.length) : Rep [] w (byD ((t.drop (64 * i)).take 64)) (.slice (adS ad c (64 * i) 1) (64 * i + 64 - 64 * i) (c - 64 * i)) := by
  have h1 := h.cut (lo := 64 * i) (hi := 64 * i + 64) (by omega) hi
  have h2 := flat_drop_ (cells := bcells) (sz := 1) (xs := t) (fun _ => rfl) (64 * i)
  have h3 := flat_take_ (cells := bcells) (sz := 1) (xs := t.drop (64 * i)) (fun _ => rfl) (64 * i + 64 - 64 * i)
  rw [h2, h3] at h1
  have h4 : 64 * i + 64 - 64 * i = 64 := by omega
  rw [h4] at h1 ⊢
  exact Own.byts [] h1 (by rw [List.length_take, List.length_drop]; omega) (by simp)
end Go.Proofs.YtkhbnhdlelmbnaaGreatDoor.V

set_option linter.unusedVariables false
set_option linter.unusedSimpArgs false
namespace Go.Proofs.YtkhbnhdlelmbnaaGreatDoor.V
open Go
section
variable {P : Program} {l : List (Nat × Value)} {w : World} {ty : TypeId} {pos : String} {af : Array Edge}
variable {dd : Option Nat} {gg : Option (Nat × Bool)} {x y : Operand} {t t' : TypeId}
variable {ops : Array Oper} {Q : Exit → Act → World → Prop} {n : Nat} {ds : List Deferred} {rest : List Oper} {d : Nat}
end
end Go.Proofs.YtkhbnhdlelmbnaaGreatDoor.V

set_option linter.unusedVariables false
set_option linter.unusedSimpArgs false
namespace Go.Proofs.YtkhbnhdlelmbnaaGreatDoor.V
open Go
section
variable {P : Program} {ops : Array Oper} {Q : Exit → Act → World → Prop} {n : Nat} {ds : List Deferred} {l : List (Nat × Value)} {w w' : World}
variable {rest : List Oper} {ty : TypeId} {pos : String} {af : Array Edge} {x y : Operand}
theorem s_stown1 {e N c i : Nat} {ad : Addr} {vs : List Value} {u : Value} {T : TypeId} (ht : scB P T = true) (O : Own w e 1 (.slice (some ad) N c) N vs) (hx : evO l x = some (.pointer (some (ad.add (i * 1))))) (hy : evO l y = some u) (h1c : u.oneCell' = true) (hi : i < N)
    (h : ∀ w', Own w' e 1 (.slice (some ad) N c) N (vs.set i u) → Mod [ad.block] w w' → w'.heap.size = w.heap.size → WL P ops Q rest n ds l w') :
    WL P ops Q (⟨none, .store T x y, ty, pos, af, none⟩ :: rest) n ds l w := by
  rcases O.2 with ⟨h0, _⟩ | ⟨g, o, cap, cs, hv, hB, hc1, hc2, hc3, hc4⟩
  · cases h0
  injection hv with e1 e2 e3
  injection e1 with e1
  subst e1; subst e3
  have hvl := O.1
  rw [Addr.add_lit, Nat.mul_one] at hx
  refine s_st ht hB hx hy h1c (by omega) fun w' hp => ?_
  refine h w' ⟨by simp [hvl], .inr ⟨g, o, c, _, rfl, hp.blk, hc1, hc2, by simp; omega, ?_⟩⟩ hp.mod hp.size
  subst hc4
  apply List.ext_getElem?
  intro j
  simp only [List.getElem?_take, List.getElem?_drop, List.getElem?_set, List.length_take, List.length_drop]
  repeat' split
  all_goals first
    | omega
    | rfl
    | skip
end
end Go.Proofs.YtkhbnhdlelmbnaaGreatDoor.V

set_option linter.unusedVariables false
set_option linter.unusedSimpArgs false
namespace Go.Proofs.YtkhbnhdlelmbnaaGreatDoor.V
open Go
def l62 (url : Bool) (c : Nat) : Bool := (decide ((c : Int) = 43) && !url) || (decide ((c : Int) = 45) && url)
def l63 (url : Bool) (c : Nat) : Bool := (decide ((c : Int) = 47) && !url) || (decide ((c : Int) = 95) && url)
/-- a letter's number -/
def lv (url : Bool) (c : Nat) : Option Nat :=
  if kG c = true then some (c - 65) else if kS c = true then some (c - 97 + 26) else if kD c = true then some (c - 48 + 52) else if l62 url c = true then some 62 else if l63 url c = true then some 63 else none
def letB (url : Bool) (n : Nat) : Nat := if n < 26 then 65 + n else if n < 52 then 97 + (n - 26) else if n < 62 then 48 + (n - 52) else if url = true then (if n = 62 then 45 else 95) else if n = 62 then 43 else 47
theorem lv_hi (url : Bool) (c : Nat) (h : 128 ≤ c) : lv url c = none := by
  unfold lv kG kS kD l62 l63
  simp only [Bool.or_eq_true, Bool.and_eq_true, decide_eq_true_eq]
  rw [if_neg (by omega), if_neg (by omega), if_neg (by omega), if_neg (by omega), if_neg (by omega)]
theorem lv_lt {url : Bool} {c x : Nat} (h : lv url c = some x) : x < 64 := by
  unfold lv kG kS kD at h
  simp only [Bool.and_eq_true, decide_eq_true_eq] at h
  split at h
  · injection h with h; omega
  · split at h
    · injection h with h; omega
    · split at h
      · injection h with h; omega
      · split at h
        · injection h with h; omega
        · split at h
          · injection h with h; omega
          · cases h
theorem letB_lv : ∀ url : Bool, ∀ b : Fin 128, ∀ x, lv url b.val = some x → letB url x = b.val := by
  have : ∀ url : Bool, ∀ b : Fin 128, (match lv url b.val with | some x => letB url x == b.val | none => true) = true := by decide +kernel
  intro url b x h
  have := this url b
  rw [h] at this
  simpa using this
theorem lv_letB : ∀ url : Bool, ∀ x : Fin 64, lv url (letB url x.val) = some x.val := by decide +kernel
theorem lv_find {url : Bool} {b n : Nat} (hn : n < 64) (h : letB url n = b) : lv url b = some n := by
  rw [← h]
  exact lv_letB url ⟨n, hn⟩
theorem lv_not {url : Bool} {b : Nat} (h : ∀ y, y < 64 → letB url y ≠ b) : lv url b = none := by
  cases hx : lv url b with
  | none => rfl
  | some x =>
    exfalso
    have hb : b < 128 := by
      rcases Nat.lt_or_ge b 128 with h1 | h1
      · exact h1
      · rw [lv_hi url b h1] at hx; cases hx
    exact h x (lv_lt hx) (letB_lv url ⟨b, hb⟩ x hx)
/-- 2 ^ (6k mod 8) -/
def pw6 (k : Nat) : Nat := if k % 4 = 0 then 1 else if k % 4 = 1 then 64 else if k % 4 = 2 then 16 else 4
/-- the bits left over behind so many letters -/
def rest (url : Bool) (s : Str) (k : Nat) : Nat := match k with
  | 0 => 0
  | k + 1 => ((lv url ((s.getD k 0).toNat)).getD 0) % pw6 (k + 1)
def decOK (url : Bool) (s : Str) : Bool := s.all (fun b => (lv url b.toNat).isSome) && !decide (((6 * s.length % 8 : Nat) : Int) ≥ 6) && !decide ((rest url s s.length : Int) ≠ 0)
theorem rest_succ {url : Bool} {s : Str} {k x : Nat} {b : UInt8} (h : s[k]? = some b) (hx : lv url b.toNat = some x) : rest url s (k + 1) = x % pw6 (k + 1) := by
  show ((lv url ((s.getD k 0).toNat)).getD 0) % pw6 (k + 1) = _
  rw [List.getD_eq_getElem?_getD, h]
  simp [hx]
theorem pw_pos (k : Nat) : 0 < pw6 k := by
  unfold pw6
  repeat' split
  all_goals omega
theorem pw_le (k : Nat) : pw6 k ≤ 64 := by
  unfold pw6
  repeat' split
  all_goals omega
theorem rest_lt (url : Bool) (s : Str) (k : Nat) : rest url s k < 64 := by
  cases k with
  | zero => show 0 < 64; omega
  | succ k =>
    have h1 : rest url s (k + 1) < pw6 (k + 1) := Nat.mod_lt _ (pw_pos _)
    have := pw_le (k + 1)
    omega
theorem rest_zero {url : Bool} {s : Str} {k : Nat} (h : k % 4 = 0) : rest url s k = 0 := by
  cases k with
  | zero => rfl
  | succ k =>
    show _ % pw6 (k + 1) = 0
    have : pw6 (k + 1) = 1 := by unfold pw6; rw [if_pos h]
    rw [this, Nat.mod_one]
theorem dec_no {url : Bool} {s : Str} {k : Nat} {b : UInt8} (h : s[k]? = some b) (hb : lv url b.toNat = none) : decOK url s = false := by
  unfold decOK
  have : s.all (fun b => (lv url b.toNat).isSome) = false := by
    rw [List.all_eq_false]
    exact ⟨b, List.mem_of_getElem? h, by simp [hb]⟩
  rw [this]
  rfl
/-! ### the words -/
theorem or64 {h x : Nat} (hh : h < 64) (hx : x < 64) : IntKind.u64.wrap (BitVec.ofInt IntKind.u64.bits ((h * 64 : Nat) : Int) ||| BitVec.ofInt IntKind.u64.bits (x : Int)).toNat = ((h * 64 + x : Nat) : Int) := by
  have : ∀ h x : Fin 64, IntKind.u64.wrap (BitVec.ofInt IntKind.u64.bits ((h.val * 64 : Nat) : Int) ||| BitVec.ofInt IntKind.u64.bits (x.val : Int)).toNat = ((h.val * 64 + x.val : Nat) : Int) := by decide +kernel
  exact this ⟨h, hh⟩ ⟨x, hx⟩
theorem and_m {m : Nat} (hm : m < 4096) {q : Nat} (hq : q = 1 ∨ q = 4 ∨ q = 16 ∨ q = 64) : IntKind.u64.wrap (BitVec.ofInt IntKind.u64.bits (m : Int) &&& BitVec.ofInt IntKind.u64.bits ((q - 1 : Nat) : Int)).toNat = ((m % q : Nat) : Int) := by
  have e1 : ∀ z : Nat, z < 4096 → BitVec.ofInt IntKind.u64.bits (z : Int) = BitVec.ofNat 64 z := fun z _ => rfl
  rw [e1 m hm, e1 (q - 1) (by omega)]
  have h2 : ((BitVec.ofNat 64 m &&& BitVec.ofNat 64 (q - 1)).toNat) = m % q := by
    rw [BitVec.toNat_and, BitVec.toNat_ofNat, BitVec.toNat_ofNat, Nat.mod_eq_of_lt (by omega), Nat.mod_eq_of_lt (by omega)]
    rcases hq with rfl | rfl | rfl | rfl
    · simp [Nat.mod_one]
    · exact Nat.and_two_pow_sub_one_eq_mod m 2
    · exact Nat.and_two_pow_sub_one_eq_mod m 4
    · exact Nat.and_two_pow_sub_one_eq_mod m 6
  have : m % q ≤ m := Nat.mod_le _ _
  refine (congrArg (fun n : Nat => IntKind.u64.wrap (n : Int)) h2).trans ?_
  show ((m % q : Nat) : Int) % 18446744073709551616 = _
  exact Int.emod_eq_of_lt (by omega) (by omega)
theorem pw_or (k : Nat) : pw6 k = 1 ∨ pw6 k = 4 ∨ pw6 k = 16 ∨ pw6 k = 64 := by
  unfold pw6
  repeat' split
  all_goals simp
theorem mod_pw (h x k : Nat) : (h * 64 + x) % pw6 k = x % pw6 k := by
  rcases pw_or k with e | e | e | e <;> rw [e] <;> omega
theorem wrapi32_in (z : Int) (h : -2147483648 ≤ z ∧ z ≤ 2147483647) : IntKind.i32.wrap z = z := by
  rw [IntKind.wrap_i32 z]
  omega
theorem shl6 {h : Nat} (hh : h < 64) : IntKind.u64.wrap ((h : Int) * 2 ^ (min (6 : Int).toNat IntKind.u64.bits)) = ((h * 64 : Nat) : Int) := by
  have : (2 : Int) ^ (min (6 : Int).toNat IntKind.u64.bits) = 64 := by decide
  rw [this, wrapu64_in _ (by omega)]
  omega
theorem shl_pw {k m : Nat} (hm : m = 6 * k % 8) : IntKind.u64.wrap ((1 : Int) * 2 ^ (min (m : Int).toNat IntKind.u64.bits)) = (pw6 k : Int) := by
  have h4 : k % 4 = 0 ∨ k % 4 = 1 ∨ k % 4 = 2 ∨ k % 4 = 3 := by omega
  rcases h4 with h | h | h | h
  · obtain rfl : m = 0 := by omega
    unfold pw6; rw [if_pos h]; decide
  · obtain rfl : m = 6 := by omega
    unfold pw6; rw [if_neg (by omega), if_pos h]; decide
  · obtain rfl : m = 4 := by omega
    unfold pw6; rw [if_neg (by omega), if_neg (by omega), if_pos h]; decide
  · obtain rfl : m = 2 := by omega
    unfold pw6; rw [if_neg (by omega), if_neg (by omega), if_neg (by omega)]; decide
theorem u8_ex (z : Int) : ∃ c : UInt8, IntKind.u8.wrap z = (c.toNat : Int) := by
  have h1 : IntKind.u8.wrap z = z % 256 := rfl
  refine ⟨UInt8.ofNat (z % 256).toNat, ?_⟩
  rw [h1, UInt8.toNat_ofNat_of_lt' (by have : (z % 256).toNat < 256 := by omega
                                       exact this)]
  omega
theorem own_byte {w : World} {v : Value} {bs : Str} {n : Nat} {z : Int} (h : Own w 5 1 v n ((bs.map b8c).flatten ++ [.int .u8 (IntKind.u8.wrap z)])) (hn : n = bs.length + 1) : ∃ cb, OwB w v (bs ++ [cb]) := by
  obtain ⟨c, hc⟩ := u8_ex z
  refine ⟨c, h.same (by rw [hn]; simp) ?_⟩
  rw [hc]
  simp [cells_b8, B8]
theorem own_set {w : World} {v : Value} {bs : Str} {n i : Nat} {z : Int} (h : Own w 5 1 v n (((bs.map b8c).flatten).set i (.int .u8 (IntKind.u8.wrap z)))) : ∃ cb, Own w 5 1 v n (((bs.set i cb).map b8c).flatten) := by
  obtain ⟨c, hc⟩ := u8_ex z
  refine ⟨c, h.same rfl ?_⟩
  rw [hc, cells_b8, cells_b8, List.map_set]
  rfl
theorem own_at {w : World} {ad : Addr} {bs : Str} {n m i : Nat} {b : UInt8} (h : Own w 5 1 (.slice (some ad) n m) n ((bs.map b8c).flatten)) (hb : bs[i]? = some b) : w.cell? (ad.add (i * 1)) = some (.int .u8 (b.toNat : Int)) := by
  rw [Nat.mul_one]
  refine h.cs i _ ?_
  rw [cells_b8, List.getElem?_map, hb]
  rfl
/-- a bit of a number below 64 -/
theorem and1 {m : Nat} (h : m < 64) : IntKind.i64.wrap (BitVec.ofInt IntKind.i64.bits (m : Int) &&& BitVec.ofInt IntKind.i64.bits 1).toNat = ((m % 2 : Nat) : Int) := by
  have : ∀ m : Fin 64, IntKind.i64.wrap (BitVec.ofInt IntKind.i64.bits (m.val : Int) &&& BitVec.ofInt IntKind.i64.bits 1).toNat = ((m.val % 2 : Nat) : Int) := by decide +kernel
  exact this ⟨m, h⟩
theorem shr64 {n e : Nat} (he : e ≤ 63) : (n : Int).fdiv (2 ^ (min (e : Int).toNat IntKind.i64.bits)) = ((n / 2 ^ e : Nat) : Int) := by
  have h1 : min (e : Int).toNat IntKind.i64.bits = e := by
    show min e 64 = e
    omega
  rw [h1, Int.fdiv_eq_ediv_of_nonneg _ (by exact_mod_cast Nat.zero_le (2 ^ e)), Int.natCast_ediv]
  norm_cast
theorem bits_zero {n q : Nat} (hn : n < 64) : ∀ k, k % 4 = q → (∀ j, j < 6 * k % 8 → n / 2 ^ j % 2 = 0) → n % pw6 k = 0 := by
  intro k hk h
  have h4 : k % 4 = 0 ∨ k % 4 = 1 ∨ k % 4 = 2 ∨ k % 4 = 3 := by omega
  unfold pw6
  rcases h4 with h5 | h5 | h5 | h5
  · rw [if_pos h5, Nat.mod_one]
  · rw [if_neg (by omega), if_pos h5]
    have a0 := h 0 (by omega); have a1 := h 1 (by omega); have a2 := h 2 (by omega); have a3 := h 3 (by omega); have a4 := h 4 (by omega); have a5 := h 5 (by omega)
    simp only [Nat.pow_zero, Nat.pow_succ, Nat.pow_one, Nat.div_one, Nat.one_mul, Nat.reduceMul] at a0 a1 a2 a3 a4 a5
    omega
  · rw [if_neg (by omega), if_neg (by omega), if_pos h5]
    have a0 := h 0 (by omega); have a1 := h 1 (by omega); have a2 := h 2 (by omega); have a3 := h 3 (by omega)
    simp only [Nat.pow_zero, Nat.pow_succ, Nat.pow_one, Nat.div_one, Nat.one_mul, Nat.reduceMul] at a0 a1 a2 a3
    omega
  · rw [if_neg (by omega), if_neg (by omega), if_neg (by omega)]
    have a0 := h 0 (by omega); have a1 := h 1 (by omega)
    simp only [Nat.pow_zero, Nat.pow_succ, Nat.pow_one, Nat.div_one, Nat.one_mul, Nat.reduceMul] at a0 a1
    omega
theorem bit_one {n k j : Nat} (hj : j < 6 * k % 8) (h : n / 2 ^ j % 2 ≠ 0) : n % pw6 k ≠ 0 := by
  intro hz
  have h4 : k % 4 = 0 ∨ k % 4 = 1 ∨ k % 4 = 2 ∨ k % 4 = 3 := by omega
  have hj6 : j < 6 := by omega
  unfold pw6 at hz
  rcases h4 with h5 | h5 | h5 | h5
  · omega
  · rw [if_neg (by omega), if_pos h5] at hz
    have : j = 0 ∨ j = 1 ∨ j = 2 ∨ j = 3 ∨ j = 4 ∨ j = 5 := by omega
    rcases this with rfl | rfl | rfl | rfl | rfl | rfl <;> simp only [Nat.pow_zero, Nat.pow_succ, Nat.pow_one, Nat.div_one, Nat.one_mul, Nat.reduceMul] at h <;> omega
  · rw [if_neg (by omega), if_neg (by omega), if_pos h5] at hz
    have : j = 0 ∨ j = 1 ∨ j = 2 ∨ j = 3 := by omega
    rcases this with rfl | rfl | rfl | rfl <;> simp only [Nat.pow_zero, Nat.pow_succ, Nat.pow_one, Nat.div_one, Nat.one_mul, Nat.reduceMul] at h <;> omega
  · rw [if_neg (by omega), if_neg (by omega), if_neg (by omega)] at hz
    have : j = 0 ∨ j = 1 := by omega
    rcases this with rfl | rfl <;> simp only [Nat.pow_zero, Nat.pow_succ, Nat.pow_one, Nat.div_one, Nat.one_mul, Nat.reduceMul] at h <;> omega
theorem dec_rest {url : Bool} {s : Str} (h : rest url s s.length ≠ 0) : decOK url s = false := by
  unfold decOK
  rw [show decide ((rest url s s.length : Int) ≠ 0) = true from decide_eq_true (by omega)]
  simp
theorem rest_last {url : Bool} {s : Str} {i n : Nat} {b : UInt8} (hb : s[i]? = some b) (hn : lv url b.toNat = some n) (hz : ∀ k, k < 6 → 8 * (s.length * 6 / 8) ≤ 6 * i + k → n / 2 ^ (5 - k) % 2 = 0) : i + 1 = s.length → rest url s (i + 1) = 0 := by
  intro hi
  rw [rest_succ hb hn]
  refine bits_zero (lv_lt hn) (i + 1) rfl fun j hj => ?_
  have := hz (5 - j) (by omega) (by omega)
  rwa [show 5 - (5 - j) = j by omega] at this
theorem rest_bad {url : Bool} {s : Str} {i n k : Nat} {b : UInt8} (hb : s[i]? = some b) (hn : lv url b.toNat = some n) (hk : k < 6) (h8 : s.length * 6 / 8 ≤ (6 * i + k) / 8) (hz : n / 2 ^ (5 - k) % 2 ≠ 0) : decOK url s = false := by
  have hlt := (List.getElem?_eq_some_iff.1 hb).1
  have hi : i + 1 = s.length := by omega
  refine dec_rest ?_
  rw [← hi, rest_succ hb hn]
  exact bit_one (j := 5 - k) (by omega) hz
/-- what reading letters answers -/
def DecR (w w' : World) (url : Bool) (s : Str) (u : Value) : Prop := ∃ v bs o, u = .tuple #[v, .bool o] ∧ o = decOK url s ∧ OwB w' v bs ∧ bs.length = (if decOK url s = true then s.length * 6 / 8 else 0) ∧ ∀ x ∈ ob v, w.heap.size ≤ x
theorem DecR.no {w w' : World} {url : Bool} {s : Str} (h : decOK url s = false) : DecR w w' url s (.tuple #[.slice none 0 0, .bool false]) := ⟨_, [], _, rfl, h.symm, Own.nil _ 5 1, by rw [h]; rfl, by simp [ob]⟩
theorem DecR.yes {w w' : World} {url : Bool} {s bs : Str} {v : Value} (h : decOK url s = true) (O : OwB w' v bs) (hl : bs.length = s.length * 6 / 8) (L : ∀ x ∈ ob v, w.heap.size ≤ x) : DecR w w' url s (.tuple #[v, .bool true]) := ⟨_, bs, _, rfl, h.symm, O, by rw [h, hl]; rfl, L⟩
def eventB (s : Str) : Bool := decide (s.head? = some 36) && decOK true (s.drop 1) && decide ((s.drop 1).length * 6 / 8 = 32)
def bytesB (s : Str) (n : Nat) : Bool := decOK false s && decide (s.length * 6 / 8 = n)
end Go.Proofs.YtkhbnhdlelmbnaaGreatDoor.V

set_option linter.unusedVariables false
set_option linter.unusedSimpArgs false
set_option maxRecDepth 10000
namespace Go.Proofs.YtkhbnhdlelmbnaaGreatDoor.V
open Go Go.Proofs
theorem ent137 : Ent Tryz.prog 137 := Ent.of Tryz.func137 (by kernel_rfl) (by kernel_rfl)
theorem c_value (w : World) (url : Bool) (c : Nat) (hc : c ≤ 1114111) : Calls Tryz.prog 137 [.int .i32 (c : Int), .bool url].toArray w (Ret fun u w' => u = .tuple #[.int .u64 (((lv url c).getD 0 : Nat) : Int), .bool (lv url c).isSome] ∧ Mod [] w w') := by
 refine enter Tryz.func137 rfl rfl rfl (l := [(0, _), (1, _)]) ⟨rfl, rfl, trivial⟩ ?_
 have E := Mod.refl [] w
 refine Cq fun K1 hK1 => Cr (Za rfl (Za rfl (Ln (e_K (hK1 _ _ _ _ (Cq fun K2 hK2 => cB (Cq fun K3 hK3 => ?_)))))))
 have J3 : ∀  (w1 : World), True ∧ Mod [] w w1 → ∀ a, Has 62 [] [(0, .int .i32 (c : Int)), (1, .bool url), (6, .bool (kG c))] a → K3 a w1 := by
  intro  w1 hI
  obtain ⟨_, E⟩ := hI
  refine hK3 _ _ _ _ ?_
  refine c_cond rfl (fun h6 => ?_) (fun h6 => ?_)
  ·refine Cq fun K4 hK4 => Cr (Zm rfl ?_)
   have hr : 65 ≤ c ∧ c ≤ 90 := by simp [kG] at h6; omega
   exact Sv ((o_sub rfl rfl).to (v' := .int .i32 ((c - 65 : Nat) : Int)) (by rw [wrapi32_in _ (by omega)]; congr 1; omega)) (Sv (o_convN Tryz.underlying21 Tryz.underlying102 rfl (wrapu64_in _ (by omega))) (Za rfl (Za rfl (Ln (e_K (hK4 _ _ _ _ (cR (eI (by simp) (eT (by simp) (ret2 rfl rfl rfl ⟨by rw [show lv url c = some (c - 65) by rw [lv, if_pos h6]]; rfl, E⟩))))))))))
  ·refine Cq fun K5 hK5 => ?_
   have J5 : ∀  (w1 : World), True ∧ Mod [] w w1 → ∀ a, Has 62 [] [(0, .int .i32 (c : Int)), (1, .bool url), (16, .bool (kS c))] a → K5 a w1 := by
    intro  w2 hI
    obtain ⟨_, E⟩ := hI
    refine hK5 _ _ _ _ ?_
    refine c_cond rfl (fun h16 => ?_) (fun h16 => ?_)
    ·refine Cq fun K6 hK6 => Cr (Zm rfl ?_)
     have hr : 97 ≤ c ∧ c ≤ 122 := by simp [kS] at h16; omega
     exact Sv ((o_sub rfl rfl).to (v' := .int .i32 ((c - 97 : Nat) : Int)) (by rw [wrapi32_in _ (by omega)]; congr 1; omega)) (Sv (o_convN Tryz.underlying21 Tryz.underlying102 rfl (wrapu64_in _ (by omega))) (Sv ((o_add rfl rfl).to (v' := .int .u64 ((c - 97 + 26 : Nat) : Int)) (by rw [wrapu64_in _ (by omega)]; rfl)) (Za rfl (Za rfl (Ln (e_K (hK6 _ _ _ _ (cR (eI (by simp) (eT (by simp) (ret2 rfl rfl rfl ⟨by rw [show lv url c = some (c - 97 + 26) by rw [lv, if_neg (by simp [h6]), if_pos h16]]; rfl, E⟩)))))))))))
    ·refine Cq fun K7 hK7 => ?_
     have J7 : ∀  (w1 : World), True ∧ Mod [] w w1 → ∀ a, Has 62 [] [(0, .int .i32 (c : Int)), (1, .bool url), (27, .bool (kD c))] a → K7 a w1 := by
      intro  w3 hI
      obtain ⟨_, E⟩ := hI
      refine hK7 _ _ _ _ ?_
      refine c_cond rfl (fun h27 => ?_) (fun h27 => ?_)
      ·refine Cq fun K8 hK8 => Cr (Zm rfl ?_)
       have hr : 48 ≤ c ∧ c ≤ 57 := by simp [kD] at h27; omega
       exact Sv ((o_sub rfl rfl).to (v' := .int .i32 ((c - 48 : Nat) : Int)) (by rw [wrapi32_in _ (by omega)]; congr 1; omega)) (Sv (o_convN Tryz.underlying21 Tryz.underlying102 rfl (wrapu64_in _ (by omega))) (Sv ((o_add rfl rfl).to (v' := .int .u64 ((c - 48 + 52 : Nat) : Int)) (by rw [wrapu64_in _ (by omega)]; rfl)) (Za rfl (Za rfl (Ln (e_K (hK8 _ _ _ _ (cR (eI (by simp) (eT (by simp) (ret2 rfl rfl rfl ⟨by rw [show lv url c = some (c - 48 + 52) by rw [lv, if_neg (by simp [h6]), if_neg (by simp [h16]), if_pos h27]]; rfl, E⟩)))))))))))
      ·refine Cq fun K9 hK9 => ?_
       have J9 : ∀ (x : Bool) (w1 : World), x = l62 url c ∧ Mod [] w w1 → ∀ a, Has 62 [] [(0, .int .i32 (c : Int)), (1, .bool url), (38, .bool x)] a → K9 a w1 := by
        intro x w4 hI
        obtain ⟨hx38, E⟩ := hI
        refine hK9 _ _ _ _ ?_
        refine c_cond rfl (fun h38 => ?_) (fun h38 => ?_)
        ·exact Cq fun K10 hK10 => Cr (Za rfl (Za rfl (Ln (e_K (hK10 _ _ _ _ (cR (eI (by simp) (eT (by simp) (ret2 rfl rfl rfl ⟨by rw [show lv url c = some 62 by rw [lv, if_neg (by simp [h6]), if_neg (by simp [h16]), if_neg (by simp [h27]), if_pos (hx38.symm.trans h38)]]; rfl, E⟩)))))))))
        ·refine Cq fun K11 hK11 => ?_
         have J11 : ∀ (x : Bool) (w1 : World), x = l63 url c ∧ Mod [] w w1 → ∀ a, Has 62 [] [(0, .int .i32 (c : Int)), (1, .bool url), (50, .bool x)] a → K11 a w1 := by
          intro x w5 hI
          obtain ⟨hx50, E⟩ := hI
          refine hK11 _ _ _ _ ?_
          refine c_cond rfl (fun h50 => ?_) (fun h50 => ?_)
          ·exact Cq fun K12 hK12 => Cr (Za rfl (Za rfl (Ln (e_K (hK12 _ _ _ _ (cR (eI (by simp) (eT (by simp) (ret2 rfl rfl rfl ⟨by rw [show lv url c = some 63 by rw [lv, if_neg (by simp [h6]), if_neg (by simp [h16]), if_neg (by simp [h27]), if_neg (by rw [← hx38, h38]; simp), if_pos (hx50.symm.trans h50)]]; rfl, E⟩)))))))))
          ·exact cK (eI (by simp) (e_K (hK2 _ _ _ _ (Cq fun K13 hK13 => Cr (Za rfl (Za rfl (Ln (e_K (hK13 _ _ _ _ (cR (ret2 rfl rfl rfl ⟨by rw [show lv url c = none by rw [lv, if_neg (by simp [h6]), if_neg (by simp [h16]), if_neg (by simp [h27]), if_neg (by rw [← hx38, h38]; simp), if_neg (by rw [← hx50, h50]; simp)]]; rfl, E⟩)))))))))))
         refine Cq fun K14 hK14 => ?_
         have J14 : ∀  (w1 : World), True ∧ Mod [] w w1 → ∀ a, Has 62 [] [(0, .int .i32 (c : Int)), (1, .bool url), (50, .bool (decide ((c : Int) = 47) && !url))] a → K14 a w1 := by
          intro  w6 hI
          obtain ⟨_, E⟩ := hI
          refine hK14 _ _ _ _ ?_
          refine c_cond rfl (fun h50 => ?_) (fun h50 => ?_)
          ·refine cK ?_
           refine WE.sub (l' := [(0, _), (1, _), (50, _)]) ⟨rfl, rfl, rfl, trivial⟩ (e_K (J11 (decide ((c : Int) = 47) && !url) w6 ⟨(by rw [l63, h50, Bool.true_or]), E⟩))
          ·by_cases hk0 : (c : Int) = 95
           ·refine Cr (Zm rfl (Sv (oE rfl rfl) (Zm rfl (Sg rfl (dT hk0) (oM rfl) (Sv (oT (dT hk0) rfl rfl) (Za rfl (Ln ?_)))))))
            refine WE.sub (l' := [(0, _), (1, _), (50, _)]) ⟨rfl, rfl, rfl, trivial⟩ (e_K (J11 url w6 ⟨(by rw [l63, h50]; simp only [dT hk0, Bool.true_and, Bool.and_true, Bool.false_and, Bool.and_false, Bool.true_or, Bool.or_true, Bool.false_or, Bool.or_false, Bool.not_true, Bool.not_false]), E⟩))
           ·refine Cr (Zm rfl (Sv (oE rfl rfl) (Zm rfl (Sx rfl (dF hk0) (Sv (oF (dF hk0) rfl rfl) (Za rfl (Ln ?_)))))))
            refine WE.sub (l' := [(0, _), (1, _), (50, _)]) ⟨rfl, rfl, rfl, trivial⟩ (e_K (J11 false w6 ⟨(by rw [l63, h50]; simp only [dF hk0, Bool.true_and, Bool.and_true, Bool.false_and, Bool.and_false, Bool.true_or, Bool.or_true, Bool.false_or, Bool.or_false, Bool.not_true, Bool.not_false]), E⟩))
         by_cases hk0 : (c : Int) = 47
         ·by_cases hk1 : (!url) = true
          ·refine Cr (Zm rfl (Sv (oE rfl rfl) (Zm rfl (Sg rfl (dT hk0) (oM rfl) (Sg rfl (dT hk0) (o_not rfl) (Sv (oT (dT hk0) rfl rfl) (Sv ((o_as rfl).to (v' := .bool (decide ((c : Int) = 47) && !url)) (congrArg Value.bool (by simp only [dT hk0, hk1, Bool.true_and, Bool.and_true, Bool.false_and, Bool.and_false, Bool.true_or, Bool.or_true, Bool.false_or, Bool.or_false, Bool.not_true, Bool.not_false]))) (Ln ?_))))))))
           refine WE.sub (l' := [(0, _), (1, _), (50, _)]) ⟨rfl, rfl, rfl, trivial⟩ (e_K (J14  w4 ⟨trivial, E⟩))
          ·refine Cr (Zm rfl (Sv (oE rfl rfl) (Zm rfl (Sg rfl (dT hk0) (oM rfl) (Sg rfl (dT hk0) (o_not rfl) (Sv (oT (dT hk0) rfl rfl) (Sv ((o_as rfl).to (v' := .bool (decide ((c : Int) = 47) && !url)) (congrArg Value.bool (by simp only [dT hk0, bF hk1, Bool.true_and, Bool.and_true, Bool.false_and, Bool.and_false, Bool.true_or, Bool.or_true, Bool.false_or, Bool.or_false, Bool.not_true, Bool.not_false]))) (Ln ?_))))))))
           refine WE.sub (l' := [(0, _), (1, _), (50, _)]) ⟨rfl, rfl, rfl, trivial⟩ (e_K (J14  w4 ⟨trivial, E⟩))
         ·refine Cr (Zm rfl (Sv (oE rfl rfl) (Zm rfl (Sx rfl (dF hk0) (Sx rfl (dF hk0) (Sv (oF (dF hk0) rfl rfl) (Sv ((o_as rfl).to (v' := .bool (decide ((c : Int) = 47) && !url)) (congrArg Value.bool (by simp only [dF hk0, Bool.true_and, Bool.and_true, Bool.false_and, Bool.and_false, Bool.true_or, Bool.or_true, Bool.false_or, Bool.or_false, Bool.not_true, Bool.not_false]))) (Ln ?_))))))))
          refine WE.sub (l' := [(0, _), (1, _), (50, _)]) ⟨rfl, rfl, rfl, trivial⟩ (e_K (J14  w4 ⟨trivial, E⟩))
       refine Cq fun K15 hK15 => ?_
       have J15 : ∀  (w1 : World), True ∧ Mod [] w w1 → ∀ a, Has 62 [] [(0, .int .i32 (c : Int)), (1, .bool url), (38, .bool (decide ((c : Int) = 43) && !url))] a → K15 a w1 := by
        intro  w7 hI
        obtain ⟨_, E⟩ := hI
        refine hK15 _ _ _ _ ?_
        refine c_cond rfl (fun h38 => ?_) (fun h38 => ?_)
        ·refine cK ?_
         refine WE.sub (l' := [(0, _), (1, _), (38, _)]) ⟨rfl, rfl, rfl, trivial⟩ (e_K (J9 (decide ((c : Int) = 43) && !url) w7 ⟨(by rw [l62, h38, Bool.true_or]), E⟩))
        ·by_cases hk0 : (c : Int) = 45
         ·refine Cr (Zm rfl (Sv (oE rfl rfl) (Zm rfl (Sg rfl (dT hk0) (oM rfl) (Sv (oT (dT hk0) rfl rfl) (Za rfl (Ln ?_)))))))
          refine WE.sub (l' := [(0, _), (1, _), (38, _)]) ⟨rfl, rfl, rfl, trivial⟩ (e_K (J9 url w7 ⟨(by rw [l62, h38]; simp only [dT hk0, Bool.true_and, Bool.and_true, Bool.false_and, Bool.and_false, Bool.true_or, Bool.or_true, Bool.false_or, Bool.or_false, Bool.not_true, Bool.not_false]), E⟩))
         ·refine Cr (Zm rfl (Sv (oE rfl rfl) (Zm rfl (Sx rfl (dF hk0) (Sv (oF (dF hk0) rfl rfl) (Za rfl (Ln ?_)))))))
          refine WE.sub (l' := [(0, _), (1, _), (38, _)]) ⟨rfl, rfl, rfl, trivial⟩ (e_K (J9 false w7 ⟨(by rw [l62, h38]; simp only [dF hk0, Bool.true_and, Bool.and_true, Bool.false_and, Bool.and_false, Bool.true_or, Bool.or_true, Bool.false_or, Bool.or_false, Bool.not_true, Bool.not_false]), E⟩))
       by_cases hk0 : (c : Int) = 43
       ·by_cases hk1 : (!url) = true
        ·refine Cr (Zm rfl (Sv (oE rfl rfl) (Zm rfl (Sg rfl (dT hk0) (oM rfl) (Sg rfl (dT hk0) (o_not rfl) (Sv (oT (dT hk0) rfl rfl) (Sv ((o_as rfl).to (v' := .bool (decide ((c : Int) = 43) && !url)) (congrArg Value.bool (by simp only [dT hk0, hk1, Bool.true_and, Bool.and_true, Bool.false_and, Bool.and_false, Bool.true_or, Bool.or_true, Bool.false_or, Bool.or_false, Bool.not_true, Bool.not_false]))) (Ln ?_))))))))
         refine WE.sub (l' := [(0, _), (1, _), (38, _)]) ⟨rfl, rfl, rfl, trivial⟩ (e_K (J15  w3 ⟨trivial, E⟩))
        ·refine Cr (Zm rfl (Sv (oE rfl rfl) (Zm rfl (Sg rfl (dT hk0) (oM rfl) (Sg rfl (dT hk0) (o_not rfl) (Sv (oT (dT hk0) rfl rfl) (Sv ((o_as rfl).to (v' := .bool (decide ((c : Int) = 43) && !url)) (congrArg Value.bool (by simp only [dT hk0, bF hk1, Bool.true_and, Bool.and_true, Bool.false_and, Bool.and_false, Bool.true_or, Bool.or_true, Bool.false_or, Bool.or_false, Bool.not_true, Bool.not_false]))) (Ln ?_))))))))
         refine WE.sub (l' := [(0, _), (1, _), (38, _)]) ⟨rfl, rfl, rfl, trivial⟩ (e_K (J15  w3 ⟨trivial, E⟩))
       ·refine Cr (Zm rfl (Sv (oE rfl rfl) (Zm rfl (Sx rfl (dF hk0) (Sx rfl (dF hk0) (Sv (oF (dF hk0) rfl rfl) (Sv ((o_as rfl).to (v' := .bool (decide ((c : Int) = 43) && !url)) (congrArg Value.bool (by simp only [dF hk0, Bool.true_and, Bool.and_true, Bool.false_and, Bool.and_false, Bool.true_or, Bool.or_true, Bool.false_or, Bool.or_false, Bool.not_true, Bool.not_false]))) (Ln ?_))))))))
        refine WE.sub (l' := [(0, _), (1, _), (38, _)]) ⟨rfl, rfl, rfl, trivial⟩ (e_K (J15  w3 ⟨trivial, E⟩))
     by_cases hk0 : 48 ≤ (c : Int)
     ·by_cases hk1 : (c : Int) ≤ 57
      ·refine Cr (Zm rfl (Sv (o_geq rfl rfl) (Zm rfl (Sg rfl (dT hk0) (oM rfl) (Sg rfl (dT hk0) (o_leq rfl rfl) (Sv (oT (dT hk0) rfl rfl) (Sv ((o_as rfl).to (v' := .bool (kD c)) (congrArg Value.bool (by simp only [kD, dT hk0, dT hk1, Bool.true_and, Bool.and_true, Bool.false_and, Bool.and_false, Bool.true_or, Bool.or_true, Bool.false_or, Bool.or_false, Bool.not_true, Bool.not_false]))) (Ln ?_))))))))
       refine WE.sub (l' := [(0, _), (1, _), (27, _)]) ⟨rfl, rfl, rfl, trivial⟩ (e_K (J7  w2 ⟨trivial, E⟩))
      ·refine Cr (Zm rfl (Sv (o_geq rfl rfl) (Zm rfl (Sg rfl (dT hk0) (oM rfl) (Sg rfl (dT hk0) (o_leq rfl rfl) (Sv (oT (dT hk0) rfl rfl) (Sv ((o_as rfl).to (v' := .bool (kD c)) (congrArg Value.bool (by simp only [kD, dT hk0, dF hk1, Bool.true_and, Bool.and_true, Bool.false_and, Bool.and_false, Bool.true_or, Bool.or_true, Bool.false_or, Bool.or_false, Bool.not_true, Bool.not_false]))) (Ln ?_))))))))
       refine WE.sub (l' := [(0, _), (1, _), (27, _)]) ⟨rfl, rfl, rfl, trivial⟩ (e_K (J7  w2 ⟨trivial, E⟩))
     ·refine Cr (Zm rfl (Sv (o_geq rfl rfl) (Zm rfl (Sx rfl (dF hk0) (Sx rfl (dF hk0) (Sv (oF (dF hk0) rfl rfl) (Sv ((o_as rfl).to (v' := .bool (kD c)) (congrArg Value.bool (by simp only [kD, dF hk0, Bool.true_and, Bool.and_true, Bool.false_and, Bool.and_false, Bool.true_or, Bool.or_true, Bool.false_or, Bool.or_false, Bool.not_true, Bool.not_false]))) (Ln ?_))))))))
      refine WE.sub (l' := [(0, _), (1, _), (27, _)]) ⟨rfl, rfl, rfl, trivial⟩ (e_K (J7  w2 ⟨trivial, E⟩))
   by_cases hk0 : 97 ≤ (c : Int)
   ·by_cases hk1 : (c : Int) ≤ 122
    ·refine Cr (Zm rfl (Sv (o_geq rfl rfl) (Zm rfl (Sg rfl (dT hk0) (oM rfl) (Sg rfl (dT hk0) (o_leq rfl rfl) (Sv (oT (dT hk0) rfl rfl) (Sv ((o_as rfl).to (v' := .bool (kS c)) (congrArg Value.bool (by simp only [kS, dT hk0, dT hk1, Bool.true_and, Bool.and_true, Bool.false_and, Bool.and_false, Bool.true_or, Bool.or_true, Bool.false_or, Bool.or_false, Bool.not_true, Bool.not_false]))) (Ln ?_))))))))
     refine WE.sub (l' := [(0, _), (1, _), (16, _)]) ⟨rfl, rfl, rfl, trivial⟩ (e_K (J5  w1 ⟨trivial, E⟩))
    ·refine Cr (Zm rfl (Sv (o_geq rfl rfl) (Zm rfl (Sg rfl (dT hk0) (oM rfl) (Sg rfl (dT hk0) (o_leq rfl rfl) (Sv (oT (dT hk0) rfl rfl) (Sv ((o_as rfl).to (v' := .bool (kS c)) (congrArg Value.bool (by simp only [kS, dT hk0, dF hk1, Bool.true_and, Bool.and_true, Bool.false_and, Bool.and_false, Bool.true_or, Bool.or_true, Bool.false_or, Bool.or_false, Bool.not_true, Bool.not_false]))) (Ln ?_))))))))
     refine WE.sub (l' := [(0, _), (1, _), (16, _)]) ⟨rfl, rfl, rfl, trivial⟩ (e_K (J5  w1 ⟨trivial, E⟩))
   ·refine Cr (Zm rfl (Sv (o_geq rfl rfl) (Zm rfl (Sx rfl (dF hk0) (Sx rfl (dF hk0) (Sv (oF (dF hk0) rfl rfl) (Sv ((o_as rfl).to (v' := .bool (kS c)) (congrArg Value.bool (by simp only [kS, dF hk0, Bool.true_and, Bool.and_true, Bool.false_and, Bool.and_false, Bool.true_or, Bool.or_true, Bool.false_or, Bool.or_false, Bool.not_true, Bool.not_false]))) (Ln ?_))))))))
    refine WE.sub (l' := [(0, _), (1, _), (16, _)]) ⟨rfl, rfl, rfl, trivial⟩ (e_K (J5  w1 ⟨trivial, E⟩))
 by_cases hk0 : 65 ≤ (c : Int)
 ·by_cases hk1 : (c : Int) ≤ 90
  ·refine Cr (Zm rfl (Sv (o_geq rfl rfl) (Zm rfl (Sg rfl (dT hk0) (oM rfl) (Sg rfl (dT hk0) (o_leq rfl rfl) (Sv (oT (dT hk0) rfl rfl) (Sv ((o_as rfl).to (v' := .bool (kG c)) (congrArg Value.bool (by simp only [kG, dT hk0, dT hk1, Bool.true_and, Bool.and_true, Bool.false_and, Bool.and_false, Bool.true_or, Bool.or_true, Bool.false_or, Bool.or_false, Bool.not_true, Bool.not_false]))) (Ln ?_))))))))
   refine WE.sub (l' := [(0, _), (1, _), (6, _)]) ⟨rfl, rfl, rfl, trivial⟩ (e_K (J3  w ⟨trivial, E⟩))
  ·refine Cr (Zm rfl (Sv (o_geq rfl rfl) (Zm rfl (Sg rfl (dT hk0) (oM rfl) (Sg rfl (dT hk0) (o_leq rfl rfl) (Sv (oT (dT hk0) rfl rfl) (Sv ((o_as rfl).to (v' := .bool (kG c)) (congrArg Value.bool (by simp only [kG, dT hk0, dF hk1, Bool.true_and, Bool.and_true, Bool.false_and, Bool.and_false, Bool.true_or, Bool.or_true, Bool.false_or, Bool.or_false, Bool.not_true, Bool.not_false]))) (Ln ?_))))))))
   refine WE.sub (l' := [(0, _), (1, _), (6, _)]) ⟨rfl, rfl, rfl, trivial⟩ (e_K (J3  w ⟨trivial, E⟩))
 ·refine Cr (Zm rfl (Sv (o_geq rfl rfl) (Zm rfl (Sx rfl (dF hk0) (Sx rfl (dF hk0) (Sv (oF (dF hk0) rfl rfl) (Sv ((o_as rfl).to (v' := .bool (kG c)) (congrArg Value.bool (by simp only [kG, dF hk0, Bool.true_and, Bool.and_true, Bool.false_and, Bool.and_false, Bool.true_or, Bool.or_true, Bool.false_or, Bool.or_false, Bool.not_true, Bool.not_false]))) (Ln ?_))))))))
  refine WE.sub (l' := [(0, _), (1, _), (6, _)]) ⟨rfl, rfl, rfl, trivial⟩ (e_K (J3  w ⟨trivial, E⟩))

theorem c_decode (w : World) (s : Str) (url : Bool) (hs : s.length ≤ 140737488351232) : Calls Tryz.prog 124 [S s, .bool url].toArray w (Ret fun u w' => DecR w w' url s u ∧ Mod [] w w') := by
 refine enter Tryz.func124 rfl rfl rfl (l := [(0, _), (1, _)]) ⟨rfl, rfl, trivial⟩ ?_
 have E := Mod.refl [] w
 refine Cq fun K1 hK1 => Cr (Za rfl (Za rfl (Ln (e_K (hK1 _ _ _ _ (Cq fun K2 hK2 => Cr (Za rfl (Ln (e_K (hK2 _ _ _ _ (Cq fun K3 hK3 => Cr (Za rfl ?_))))))))))))
 refine Za rfl (Ln (e_K (hK3 _ _ _ _ (Cq fun K4 hK4 => Cq fun K5 hK5 => Cr (Zm rfl (s_range Tryz.underlying9 rfl rfl fun gi w1 IT hgi EI => ?_))))))
 have Lgi : w.heap.size ≤ gi := by have := E.size; omega
 replace E := E.then EI
 refine Ln (e_K (hK5 _ _ _ _ (cB (c_loop (σ := Nat × Value × Str) (fun ⟨k, v, bs⟩ => [(0, S s), (1, .bool url), (6, v), (7, .int .u64 (rest url s k : Int)), (8, .int .i64 ((6 * k % 8 : Nat) : Int)), (14, .pointer (some ⟨gi, 0, none⟩))]) (fun ⟨k, v, bs⟩ w1 => k ≤ s.length ∧ (s.take k).all (fun b => (lv url b.toNat).isSome) = true ∧ It w1 gi s k ∧ OwB w1 v bs ∧ bs.length = 6 * k / 8 ∧ (∀ x ∈ ob v, w.heap.size ≤ x) ∧ (∀ x ∈ ob v, x ≠ gi) ∧ Mod [] w w1) (fun ⟨k, v, bs⟩ => s.length - k) (⟨0, .slice none 0 0, []⟩) ⟨rfl, rfl, rfl, rfl, rfl, rfl, trivial⟩ (⟨by omega, by simp, IT, Own.nil _ 5 1, rfl, by simp [ob], by simp [ob], E⟩) ?_))))
 rintro ⟨k, v, bs⟩ w2 ⟨hp, ha, IT, O, hbl, L0, DI, E⟩
 refine Cq fun K6 hK6 => ?_
 by_cases hplt : k < s.length
 ·obtain ⟨b, hb⟩ : ∃ b, s[k]? = some b := ⟨_, List.getElem?_eq_getElem hplt⟩
  have hbl8 := b.toNat_lt
  by_cases hbs : b.toNat < 128
  ·skip
   refine Cr (s_next rfl IT hplt (dec_lt hb hbs) rfl fun w3 IT2 EN hzN => ?_)
   replace E := E.trans' EN (fun x hx => .inr (by simp at hx; subst hx; exact Lgi))
   replace O := O.mod EN (fun x hx hm => DI x hx (by simpa using hm))
   clear IT
   have IT := IT2
   refine Sv (o_ext rfl rfl) (Ln (e_K (hK6 _ _ _ _ (Cq fun K7 hK7 => ?_))))
   refine c_cond rfl (fun h16 => ?_) (fun h16 => ?_)
   ·skip
    refine cK (e_K (hK7 _ _ _ _ (cB (Cq fun K8 hK8 => Cr (Sv (o_ext rfl rfl) (Za rfl (Ln (e_K (hK8 _ _ _ _ (Cq fun K9 hK9 => Cr (Zm rfl (Zm rfl (sc (oC ent137 rfl) (c_value _ url b.toNat (by omega)) rfl fun v_ w4 h_ => ?_)))))))))))))
    obtain ⟨rfl, E_⟩ := h_
    replace IT := IT.mod0 E_
    replace E := E.then E_
    replace O := O.mod0 E_
    refine Zm rfl (Sv (o_ext rfl rfl) (Sv (o_ext rfl rfl) (Za rfl (Za rfl (Ln (e_K (hK9 _ _ _ _ (Cq fun K10 hK10 => Cq fun K11 hK11 => Cr (Zm rfl (Sv (o_not rfl) (Ln (e_K (hK11 _ _ _ _ ?_)))))))))))))
    refine c_cond rfl (fun h25 => ?_) (fun h25 => ?_)
    ·have hD : decOK url s = false := dec_no hb (by simpa using h25)
     exact Cq fun K12 hK12 => Cr (Za rfl (Za rfl (Ln (e_K (hK12 _ _ _ _ (cR (eT (by simp) (eI (by simp) (eT (by simp) (eI (by simp) (eT (by simp) (ret2 rfl rfl rfl ⟨DecR.no hD, E⟩))))))))))))
    ·obtain ⟨x, hx⟩ : ∃ x, lv url b.toNat = some x := Option.isSome_iff_exists.1 (by simpa using h25)
     have hxl := lv_lt hx
     refine cK (e_K (hK10 _ _ _ _ (Cq fun K13 hK13 => Cr ?_)))
     have hrl := rest_lt url s k
     refine Zm rfl (Sv ((o_shl rfl rfl (by omega)).to (v' := .int .u64 ((rest url s k * 64 : Nat) : Int)) (by rw [shl6 hrl])) (Sv ((oM rfl).to (v' := .int .u64 (x : Int)) (by rw [hx]; rfl)) (Sv ((o_or rfl rfl).to (v' := .int .u64 ((rest url s k * 64 + x : Nat) : Int)) (by rw [or64 hrl hxl])) (Zm rfl (Sv (o_addE (r := ((6 * k % 8 + 6 : Nat) : Int)) rfl rfl (by rw [wrap64_in _ (by omega)]; omega)) (Za rfl (Za rfl (Ln (e_K (hK13 _ _ _ _ (Cq fun K14 hK14 => Cr (Zm rfl (Sv (o_geq rfl rfl) ?_)))))))))))))
     refine Ln (e_K (hK14 _ _ _ _ ?_))
     refine c_if rfl (fun h33 => ?_) (fun h33 => ?_)
     ·refine Cq fun K15 hK15 => Cr (Zm rfl (Sv (o_subE (r := ((6 * (k + 1) % 8 : Nat) : Int)) rfl rfl (by rw [wrap64_in _ (by omega)]; omega)) (Za rfl (Ln (e_K (hK15 _ _ _ _ (Cq fun K16 hK16 => Cr (Zm rfl (Zm rfl (Zm rfl (Sv (o_shr rfl rfl (by omega)) (Sv (o_conv Tryz.underlying74 Tryz.underlying5 rfl) ?_))))))))))))
      refine s_bslice (cs := [_]) sl53 zv5 rfl rfl rfl (by decide) rfl fun g1 w5 N1 => ?_
      have Lg1_E := N1.le E
      have Da0_g1 := N1.own_ne O
      replace IT := IT.mod0 N1.mod
      replace E := E.then N1.mod
      replace O := O.mod0 N1.mod
      have Bg1 := N1.blk
      refine s_append sl53 rfl rfl O (Src.own Tryz.underlying53 (Own.all (cs := [_]) Bg1 rfl (by omega)) (by simp [Value.oneCell'])) (by decide) (by omega) (by omega) rfl fun v1 w6 A1 => ?_
      have Dv1_g1 := A1.ne Da0_g1 Bg1
      have Lv1_E := A1.ge L0 E
      replace Bg1 := Bg1.mod A1.mod (fun hx => Da0_g1 _ hx rfl)
      replace E := E.trans' A1.mod (fun x hx => .inr (L0 x hx))
      replace O := A1.own
      have DI1 := A1.neI DI IT
      replace IT := IT.mod A1.mod (fun hx => DI _ hx rfl)
      obtain ⟨cb, O⟩ := own_byte O rfl
      refine Za rfl (Ln (e_K (hK16 _ _ _ _ (Cr (Zm rfl (Zm rfl (Sv ((o_shl rfl rfl (by omega)).to (v' := .int .u64 (pw6 (k + 1) : Int)) (by rw [shl_pw rfl])) (Sv ((o_sub rfl rfl).to (v' := .int .u64 ((pw6 (k + 1) - 1 : Nat) : Int)) (by have h1 := pw_pos (k + 1); have h2 := pw_le (k + 1); rw [wrapu64_in _ (by omega)]; congr 1; omega)) (Sv ((o_and rfl rfl).to (v' := .int .u64 (rest url s (k + 1) : Int)) (by rw [and_m (by omega) (pw_or _), mod_pw, ← rest_succ hb hx])) (Za rfl (Ln (eI (by simp) ?_))))))))))))
      have hnx : (s.take (k + 1)).all (fun b => (lv url b.toNat).isSome) = true := all_succ (q := fun c => (lv url c).isSome) hb ha (by rw [hx]; rfl)
      exact eR (σ := Nat × Value × Str) (s := ⟨k, v, bs⟩) (⟨k + 1, v1, (bs ++ [cb])⟩) ⟨rfl, rfl, rfl, rfl, rfl, rfl, trivial⟩ ⟨by omega, hnx, IT, O, by simp; omega, Lv1_E, DI1, E⟩ (by dsimp only; omega)
     ·have hk0 : k % 4 = 0 := by omega
      have e8 : 6 * k % 8 + 6 = 6 * (k + 1) % 8 := by omega
      have e7 : rest url s k * 64 + x = rest url s (k + 1) := by
       rw [rest_succ hb hx, rest_zero hk0]
       unfold pw6
       rw [if_neg (by omega), if_pos (by omega)]
       omega
      rw [e7, e8]
      refine cK (eI (by simp) ?_)
      have hnx : (s.take (k + 1)).all (fun b => (lv url b.toNat).isSome) = true := all_succ (q := fun c => (lv url c).isSome) hb ha (by rw [hx]; rfl)
      exact eR (σ := Nat × Value × Str) (s := ⟨k, v, bs⟩) (⟨k + 1, v, bs⟩) ⟨rfl, rfl, rfl, rfl, rfl, rfl, trivial⟩ ⟨by omega, hnx, IT, O, by omega, L0, DI, E⟩ (by dsimp only; omega)
   ·cases h16
  ·obtain ⟨c, m, hdec, hc128, hc1, hc2⟩ := dec_ge hb (by omega)
   refine Cr (s_next rfl IT hplt (hdec) rfl fun w7 IT2 EN hzN => ?_)
   replace E := E.trans' EN (fun x hx => .inr (by simp at hx; subst hx; exact Lgi))
   replace O := O.mod EN (fun x hx hm => DI x hx (by simpa using hm))
   clear IT
   have IT := IT2
   refine Sv (o_ext rfl rfl) (Ln (e_K (hK6 _ _ _ _ (Cq fun K17 hK17 => ?_))))
   refine c_cond rfl (fun h16 => ?_) (fun h16 => ?_)
   ·skip
    refine cK (e_K (hK17 _ _ _ _ (cB (Cq fun K18 hK18 => Cr (Sv (o_ext rfl rfl) (Za rfl (Ln (e_K (hK18 _ _ _ _ (Cq fun K19 hK19 => Cr (Zm rfl (Zm rfl (sc (oC ent137 rfl) (c_value _ url c (by omega)) rfl fun v_ w8 h_ => ?_)))))))))))))
    obtain ⟨rfl, E_⟩ := h_
    replace IT := IT.mod0 E_
    replace E := E.then E_
    replace O := O.mod0 E_
    refine Zm rfl (Sv (o_ext rfl rfl) (Sv (o_ext rfl rfl) (Za rfl (Za rfl (Ln (e_K (hK19 _ _ _ _ (Cq fun K20 hK20 => Cq fun K21 hK21 => Cr (Zm rfl (Sv (o_not rfl) (Ln (e_K (hK21 _ _ _ _ ?_)))))))))))))
    refine c_cond rfl (fun h25 => ?_) (fun h25 => ?_)
    ·have hD : decOK url s = false := dec_no hb (lv_hi url _ (by omega))
     exact Cq fun K22 hK22 => Cr (Za rfl (Za rfl (Ln (e_K (hK22 _ _ _ _ (cR (eT (by simp) (eI (by simp) (eT (by simp) (eI (by simp) (eT (by simp) (ret2 rfl rfl rfl ⟨DecR.no hD, E⟩))))))))))))
    ·rw [lv_hi url c hc128] at h25; cases h25
   ·cases h16
 ·have hs_end := hplt
  have hk : k = s.length := by omega
  have hall : s.all (fun b => (lv url b.toNat).isSome) = true := by rw [List.take_of_length_le (by omega)] at ha; exact ha
  refine Cr (s_next_end rfl IT hs_end rfl (Sv (o_ext rfl rfl) (Ln (e_K (hK6 _ _ _ _ (Cq fun K23 hK23 => ?_))))))
  refine c_cond rfl (fun h16 => ?_) (fun h16 => ?_)
  ·cases h16
  ·skip
   refine c_exit (eT (by simp) (eT (by simp) (e_hit (e_K (hK4 _ _ _ _ (Cq fun K24 hK24 => Cq fun K25 hK25 => ?_))))))
   by_cases hk0 : ((6 * k % 8 : Nat) : Int) ≥ 6
   ·refine Cr (Zm rfl (Sv (o_geq rfl rfl) (Zm rfl (Sx rfl (dT hk0) (Sx rfl (dT hk0) (Sv (oT (dT hk0) rfl rfl) (Ln (e_K (hK25 _ _ _ _ (c_true rfl ?_))))))))))
    have hD : decOK url s = false := by unfold decOK; rw [hall, ← hk]; simp only [dT hk0, Bool.true_and, Bool.and_true, Bool.false_and, Bool.and_false, Bool.true_or, Bool.or_true, Bool.false_or, Bool.or_false, Bool.not_true, Bool.not_false]
    exact Cq fun K26 hK26 => Cr (Za rfl (Za rfl (Ln (e_K (hK26 _ _ _ _ (cR (eT (by simp) (ret2 rfl rfl rfl ⟨DecR.no hD, E⟩))))))))
   ·by_cases hk1 : (rest url s k : Int) ≠ 0
    ·refine Cr (Zm rfl (Sv (o_geq rfl rfl) (Zm rfl (Sg rfl (dF hk0) (oM rfl) (Sg rfl (dF hk0) (o_neq rfl rfl) (Sv (oF (dF hk0) rfl rfl) (Ln (e_K (hK25 _ _ _ _ ?_)))))))))
     refine c_if rfl (fun h53 => ?_) (fun h53 => absurd hk1 h53)
     have hD : decOK url s = false := by unfold decOK; rw [hall, ← hk]; simp only [dF hk0, dT hk1, Bool.true_and, Bool.and_true, Bool.false_and, Bool.and_false, Bool.true_or, Bool.or_true, Bool.false_or, Bool.or_false, Bool.not_true, Bool.not_false]
     exact Cq fun K27 hK27 => Cr (Za rfl (Za rfl (Ln (e_K (hK27 _ _ _ _ (cR (eT (by simp) (ret2 rfl rfl rfl ⟨DecR.no hD, E⟩))))))))
    ·refine Cr (Zm rfl (Sv (o_geq rfl rfl) (Zm rfl (Sg rfl (dF hk0) (oM rfl) (Sg rfl (dF hk0) (o_neq rfl rfl) (Sv (oF (dF hk0) rfl rfl) (Ln (e_K (hK25 _ _ _ _ (c_if rfl (fun h53 => absurd h53 hk1) (fun h53 => ?_)))))))))))
     have hD : decOK url s = true := by unfold decOK; rw [hall, ← hk]; simp only [dF hk0, dF hk1, Bool.true_and, Bool.and_true, Bool.false_and, Bool.and_false, Bool.true_or, Bool.or_true, Bool.false_or, Bool.or_false, Bool.not_true, Bool.not_false]
     exact cK (e_K (hK24 _ _ _ _ (Cq fun K28 hK28 => Cr (Zm rfl (Za rfl (Za rfl (Ln (e_K (hK28 _ _ _ _ (cR (ret2 rfl rfl rfl ⟨DecR.yes hD O (by omega) L0, E⟩)))))))))))
end Go.Proofs.YtkhbnhdlelmbnaaGreatDoor.V
