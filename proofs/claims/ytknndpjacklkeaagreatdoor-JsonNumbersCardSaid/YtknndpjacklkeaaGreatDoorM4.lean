/-
  A part of the proof: bits of bytes; the letter behind a backslash; a text between quotes, rune by rune; the operations that make the bytes of a rune; a text between quotes, rune by rune: what each round adds; a writer in memory: what its functions leave, whether they return or panic; the writing of lists and maps, step by step; a deferred function that recovers; what a function with one leaves; names of servers, users, rooms and keys in plain Lean: the runes of a text of one kind, and its bytes. No condition of its own.
-/
import Derived.Test.YtknndpjacklkeaaGreatDoorM3
import Derived.Recover
import Derived.WideLaws
import Derived.Lib.IndexMore
import Derived.Lib.Strings
import Derived.Laws.Runes
import Derived.Scope
import Derived.Test.YtknndpjacklkeaaGreatDoorM2
import Derived.Shelf.Small.Wraps
import Derived.Shelf.Strings.Search1
import Derived.Shelf.Strings.Search2
import Derived.Shelf.Strings.Cut
import Derived.Shelf.Strings.Shaped
import Derived.Shelf.Strings.Runes
import Derived.Test.YtknndpjacklkeaaGreatDoorProg
set_option linter.unusedVariables false
set_option linter.unusedSimpArgs false
namespace Go.Proofs.YtknndpjacklkeaaGreatDoor.V
open Go
section
variable {P : Program} {l : List (Nat × Value)} {w : World} {ty : TypeId} {pos : String} {af : Array Edge} {dd : Option Nat} {gg : Option (Nat × Bool)} {x y hi : Operand} {t : TypeId}
theorem o_ssto {u : List UInt8} {n : Nat} (ht : P.underlying t = some .string) (hx : evO l x = some (S u)) (hh : evO l hi = some (.int .i64 (n : Int))) (hb : n ≤ u.length) : Runs P l ⟨dd, .slice t x none (some hi) none, ty, pos, af, gg⟩ w (S (u.take n)) w :=
 (o_ssl (pl := none) (ph := some (.i64, (n : Int))) ht hx rfl (by simp [evS, hh]) (by simp only [loV, hiV]; omega)).to (by
  simp only [loV, hiV, Int.toNat_natCast]
  simp)
end
theorem or192 {m : Nat} (h : m < 32) : IntKind.u8.wrap (BitVec.ofInt IntKind.u8.bits 192 ||| BitVec.ofInt IntKind.u8.bits (m : Int)).toNat = ((192 + m : Nat) : Int) := by
 have : ∀ m : Fin 32, IntKind.u8.wrap (BitVec.ofInt IntKind.u8.bits 192 ||| BitVec.ofInt IntKind.u8.bits (m.val : Int)).toNat = ((192 + m.val : Nat) : Int) := by decide +kernel
 exact this ⟨m, h⟩
theorem or224 {m : Nat} (h : m < 16) : IntKind.u8.wrap (BitVec.ofInt IntKind.u8.bits 224 ||| BitVec.ofInt IntKind.u8.bits (m : Int)).toNat = ((224 + m : Nat) : Int) := by
 have : ∀ m : Fin 16, IntKind.u8.wrap (BitVec.ofInt IntKind.u8.bits 224 ||| BitVec.ofInt IntKind.u8.bits (m.val : Int)).toNat = ((224 + m.val : Nat) : Int) := by decide +kernel
 exact this ⟨m, h⟩
theorem or240 {m : Nat} (h : m < 8) : IntKind.u8.wrap (BitVec.ofInt IntKind.u8.bits 240 ||| BitVec.ofInt IntKind.u8.bits (m : Int)).toNat = ((240 + m : Nat) : Int) := by
 have : ∀ m : Fin 8, IntKind.u8.wrap (BitVec.ofInt IntKind.u8.bits 240 ||| BitVec.ofInt IntKind.u8.bits (m.val : Int)).toNat = ((240 + m.val : Nat) : Int) := by decide +kernel
 exact this ⟨m, h⟩
theorem or128 {m : Nat} (h : m < 64) : IntKind.u8.wrap (BitVec.ofInt IntKind.u8.bits 128 ||| BitVec.ofInt IntKind.u8.bits (m : Int)).toNat = ((128 + m : Nat) : Int) := by
 have : ∀ m : Fin 64, IntKind.u8.wrap (BitVec.ofInt IntKind.u8.bits 128 ||| BitVec.ofInt IntKind.u8.bits (m.val : Int)).toNat = ((128 + m.val : Nat) : Int) := by decide +kernel
 exact this ⟨m, h⟩
theorem and63 {m : Nat} (h : m < 256) : IntKind.u8.wrap (BitVec.ofInt IntKind.u8.bits (m : Int) &&& BitVec.ofInt IntKind.u8.bits 63).toNat = ((m % 64 : Nat) : Int) := by
 have : ∀ m : Fin 256, IntKind.u8.wrap (BitVec.ofInt IntKind.u8.bits (m.val : Int) &&& BitVec.ofInt IntKind.u8.bits 63).toNat = ((m.val % 64 : Nat) : Int) := by decide +kernel
 exact this ⟨m, h⟩
theorem and15 {m : Nat} (h : m < 32) : IntKind.i32.wrap (BitVec.ofInt IntKind.i32.bits (m : Int) &&& BitVec.ofInt IntKind.i32.bits 15).toNat = ((m % 16 : Nat) : Int) := by
 have : ∀ m : Fin 32, IntKind.i32.wrap (BitVec.ofInt IntKind.i32.bits (m.val : Int) &&& BitVec.ofInt IntKind.i32.bits 15).toNat = ((m.val % 16 : Nat) : Int) := by decide +kernel
 exact this ⟨m, h⟩
theorem shrN {c e : Nat} (he : e ≤ 31) : (c : Int).fdiv (2 ^ (min (e : Int).toNat IntKind.i32.bits)) = ((c / 2 ^ e : Nat) : Int) := by
 have h1 : min (e : Int).toNat IntKind.i32.bits = e := by
  show min e 32 = e
  omega
 rw [h1, Int.fdiv_eq_ediv_of_nonneg _ (by exact_mod_cast Nat.zero_le (2 ^ e)), Int.natCast_ediv]
 norm_cast
theorem convu8 (m : Nat) : IntKind.u8.wrap (m : Int) = ((m % 256 : Nat) : Int) := by
 have : ((m % 256 : Nat) : Int) = (m : Int) % 256 := Int.natCast_emod ..
 rw [this]
 rfl
theorem convu32 {m : Nat} (h : m < 4294967296) : IntKind.u32.wrap (m : Int) = (m : Int) := by
 show (m : Int) % 4294967296 = m
 exact Int.emod_eq_of_lt (by omega) (by omega)
def shq (c : Nat) : Nat := if c = 34 then 34 else if c = 92 then 92 else if c = 8 then 98 else if c = 9 then 116 else if c = 10 then 110 else if c = 12 then 102 else if c = 13 then 114 else 0
theorem shq_big {c : Nat} (h : 128 ≤ c) : shq c = 0 := by
 unfold shq
 rw [if_neg (by omega), if_neg (by omega), if_neg (by omega), if_neg (by omega), if_neg (by omega), if_neg (by omega), if_neg (by omega)]
theorem shq_esc {c : UInt8} (h : shq c.toNat ≠ 0) : (escQ c).map B8 = [.int .u8 92, .int .u8 (shq c.toNat : Int)] := by
 unfold shq at h ⊢
 repeat' split at h
 ·rename_i e; rw [if_pos e, escQ1 (by omega)]; simp [B8]; omega
 ·rename_i e0 e; rw [if_neg e0, if_pos e, escQ1 (by omega)]; simp [B8]; omega
 ·rename_i e0 e1 e; rw [if_neg e0, if_neg e1, if_pos e, escQ2 (by omega)]; simp [B8]
 ·rename_i e0 e1 e2 e; rw [if_neg e0, if_neg e1, if_neg e2, if_pos e, escQ3 (by omega)]; simp [B8]
 ·rename_i e0 e1 e2 e3 e; rw [if_neg e0, if_neg e1, if_neg e2, if_neg e3, if_pos e, escQ4 (by omega)]; simp [B8]
 ·rename_i e0 e1 e2 e3 e4 e; rw [if_neg e0, if_neg e1, if_neg e2, if_neg e3, if_neg e4, if_pos e, escQ5 (by omega)]; simp [B8]
 ·rename_i e0 e1 e2 e3 e4 e5 e; rw [if_neg e0, if_neg e1, if_neg e2, if_neg e3, if_neg e4, if_neg e5, if_pos e, escQ6 (by omega)]; simp [B8]
 ·exact absurd rfl h
theorem shq_none {c : UInt8} (h : ¬ shq c.toNat ≠ 0) : escQ c = if c.toNat < 32 then [92, 117, 48, 48, hexD.getD (c.toNat / 16) 0, hexD.getD (c.toNat % 16) 0] else [c] := by
 have h := Classical.not_not.1 h
 unfold shq at h
 repeat' split at h
 all_goals first | (exact absurd h (by decide)) | skip
 exact escQ7 (by omega) (by omega) (by omega) (by omega) (by omega) (by omega) (by omega)
theorem escs_big {l : Str} (h : ∀ b ∈ l, 128 ≤ b.toNat) : escs l = l := by
 induction l with
 | nil => rfl
 | cons b r ih =>
  have hb := h b (by simp)
  have h1 : escQ b = [b] := by rw [shq_none (by rw [shq_big hb]; simp), if_neg (by omega)]
  have h2 := ih fun x hx => h x (by simp [hx])
  simp only [escs, List.map_cons, List.flatten_cons, h1] at h2 ⊢
  rw [h2]
  rfl
theorem escs_add {s : Str} {p m : Nat} : escs (s.take (p + m)) = escs (s.take p) ++ escs ((s.drop p).take m) := by
 have : s.take (p + m) = s.take p ++ (s.drop p).take m := by
  rw [List.take_add]
 rw [this]
 simp [escs]
theorem encL_big {c : Nat} (h : 128 ≤ c) (h2 : c ≤ 1114111) : ∀ m ∈ encL c, 128 ≤ m ∧ m < 256 := by
 intro m hm
 unfold encL at hm
 rw [if_neg (by omega)] at hm
 split at hm
 ·simp at hm; omega
 ·split at hm
  ·simp at hm; omega
  ·simp at hm; omega
theorem encL_len (c : Nat) : (encL c).length ≤ 4 := by
 unfold encL
 repeat' split
 all_goals simp
theorem enc_take {l : Str} (h : l ≠ []) (h0 : (runeR l).2 ≠ 0) : Utf8.decode ⟨⟨l⟩⟩ 0 = runeR l ∧ (l.take (runeR l).2).map B8 = (encL (runeR l).1).map (fun m : Nat => Value.int .u8 (m : Int)) ∧ (runeR l).1 ≤ 1114111 ∧ ¬ (55296 ≤ (runeR l).1 ∧ (runeR l).1 ≤ 57343) := by
 rcases ok_all h with ⟨h1, _⟩ | ⟨_, h2, h3, h4, h5, _⟩
 ·exact absurd h1 h0
 ·refine ⟨by rw [decode_eq]; exact h2, ?_, h4, h5⟩
  rw [← h3, List.map_map]
  rfl
theorem rune_byte {l : Str} (h : l ≠ []) (h0 : (runeR l).2 ≠ 0) (hc : (runeR l).1 < 128) : ∃ b, l.take (runeR l).2 = [b] ∧ b.toNat = (runeR l).1 := by
 rcases ok_all h with ⟨h1, _⟩ | ⟨_, h2, h3, h4, h5, _⟩
 ·exact absurd h1 h0
 ·unfold encL at h3
  rw [if_pos hc] at h3
  match hl : l.take (runeR l).2, h3 with
  | [b], h3 => exact ⟨b, rfl, by simpa using h3⟩
  | [], h3 => simp at h3
  | _ :: _ :: _, h3 => simp at h3
theorem rune_bytes {l : Str} (h : l ≠ []) (h0 : (runeR l).2 ≠ 0) (hc : 128 ≤ (runeR l).1) : ∀ b ∈ l.take (runeR l).2, 128 ≤ b.toNat := by
 rcases ok_all h with ⟨h1, _⟩ | ⟨_, h2, h3, h4, h5, _⟩
 ·exact absurd h1 h0
 ·intro b hb
  have : b.toNat ∈ encL (runeR l).1 := by rw [← h3]; exact List.mem_map_of_mem hb
  exact (encL_big hc h4 _ this).1
theorem no_pre {l : Str} (h0 : (runeR l).2 = 0) : ¬ (3 ≤ l.length ∧ l.take 3 = [239, 191, 189]) := by
 rintro ⟨h1, h2⟩
 match l, h1, h2 with
 | b0 :: b1 :: b2 :: r, _, h2 =>
  simp only [List.take_succ_cons, List.take_zero, List.cons.injEq, and_true] at h2
  obtain ⟨rfl, rfl, rfl⟩ := h2
  have : runeR (239 :: 191 :: 189 :: r) = (65533, 3) := runeR_good (n := 3) (l := 2048) (c := 15) (d := 65533) (by decide) (by decide) (by simp) rfl (by decide)
  rw [this] at h0
  cases h0
theorem is_pre {l : Str} (h : l ≠ []) (h0 : (runeR l).2 ≠ 0) (hc : (runeR l).1 = 65533) : 3 ≤ l.length ∧ l.take 3 = [239, 191, 189] := by
 rcases ok_all h with ⟨h1, _⟩ | ⟨_, h2, h3, h4, h5, _⟩
 ·exact absurd h1 h0
 ·rw [hc] at h3
  have e : encL 65533 = [239, 191, 189] := by decide
  rw [e] at h3
  have hl := congrArg List.length h3
  simp only [List.length_map, List.length_take, List.length_cons, List.length_nil] at hl
  have hle := runeR_le l
  have hm : (runeR l).2 = 3 := by omega
  rw [hm] at h3
  refine ⟨by omega, ?_⟩
  match l, h3 with
  | b0 :: b1 :: b2 :: r, h3 =>
   simp only [List.take_succ_cons, List.take_zero, List.map_cons, List.map_nil, List.cons.injEq, and_true] at h3 ⊢
   obtain ⟨h1, h2, h3⟩ := h3
   exact ⟨UInt8.toNat_inj.1 h1, UInt8.toNat_inj.1 h2, UInt8.toNat_inj.1 h3⟩
  | [], h3 => simp at h3
  | [_], h3 => simp at h3
  | [_, _], h3 => simp at h3
theorem dec_at {s : Str} {p : Nat} (h : p < s.length) : s.drop p ≠ [] := fun e => by have := congrArg List.length e; simp at this; omega
theorem dec_ok {s : Str} {p : Nat} (h : p < s.length) (h0 : (runeR (s.drop p)).2 ≠ 0) : Utf8.decode ⟨⟨s⟩⟩ p = ((runeR (s.drop p)).1, (runeR (s.drop p)).2) := by
 rcases ok_all (dec_at h) with ⟨h1, _⟩ | ⟨_, h2, _⟩
 ·exact absurd h1 h0
 ·rw [decode_eq, h2]
theorem dec_bad {s : Str} {p : Nat} (h : p < s.length) (h0 : (runeR (s.drop p)).2 = 0) : Utf8.decode ⟨⟨s⟩⟩ p = (65533, 1) := by
 rcases ok_all (dec_at h) with ⟨_, h2⟩ | ⟨h1, _⟩
 ·rw [decode_eq, h2]
 ·exact absurd h0 h1
theorem valid_pos {l : Str} (h : l ≠ []) (hv : validR l = true) : (runeR l).2 ≠ 0 := fun h0 => by rw [validR_no h h0] at hv; cases hv
end Go.Proofs.YtknndpjacklkeaaGreatDoor.V

set_option linter.unusedVariables false
set_option linter.unusedSimpArgs false
namespace Go.Proofs.YtknndpjacklkeaaGreatDoor.V
open Go
section
variable {P : Program} {l : List (Nat × Value)} {w w' : World} {ty : TypeId} {pos : String} {af : Array Edge} {dd : Option Nat} {gg : Option (Nat × Bool)} {x y : Operand} {t t' : TypeId}
theorem o_shE {c : Nat} (e d : Nat) (hx : evO l x = some (.int .i32 (c : Int))) (hy : evO l y = some (.int .u64 (e : Int))) (he : e ≤ 31) (hd : 2 ^ e = d) : Runs P l ⟨dd, .binOp .shr t x y t', ty, pos, af, gg⟩ w (.int .i32 ((c / d : Nat) : Int)) w :=
 (o_shr hx hy (by omega)).to (by rw [shrN he, hd])
theorem o_cv8 {m : Nat} {d0 : TypeDesc} (hs : P.underlying t = some d0) (ht : P.underlying t' = some (.int .u8)) (hx : evO l x = some (.int .i32 (m : Int))) : Runs P l ⟨dd, .convert t t' x, ty, pos, af, gg⟩ w (.int .u8 ((m % 256 : Nat) : Int)) w :=
 (o_conv hs ht hx).to (by rw [convu8])
theorem o_a63 {m : Nat} (hx : evO l x = some (.int .u8 ((m % 256 : Nat) : Int))) (hy : evO l y = some (.int .u8 63)) : Runs P l ⟨dd, .binOp .and t x y t', ty, pos, af, gg⟩ w (.int .u8 ((m % 64 : Nat) : Int)) w :=
 (o_and hx hy).to (by rw [and63 (Nat.mod_lt _ (by decide)), show m % 256 % 64 = m % 64 by omega])
theorem o_o128 {m : Nat} (hx : evO l x = some (.int .u8 128)) (hy : evO l y = some (.int .u8 ((m % 64 : Nat) : Int))) : Runs P l ⟨dd, .binOp .or t x y t', ty, pos, af, gg⟩ w (.int .u8 ((128 + m % 64 : Nat) : Int)) w :=
 (o_or hx hy).to (by rw [or128 (Nat.mod_lt _ (by decide))])
theorem o_o192 {m : Nat} (hx : evO l x = some (.int .u8 192)) (hy : evO l y = some (.int .u8 ((m % 256 : Nat) : Int))) (h : m < 32) : Runs P l ⟨dd, .binOp .or t x y t', ty, pos, af, gg⟩ w (.int .u8 ((192 + m : Nat) : Int)) w :=
 (o_or hx hy).to (by rw [show m % 256 = m by omega, or192 h])
theorem o_o224 {m : Nat} (hx : evO l x = some (.int .u8 224)) (hy : evO l y = some (.int .u8 ((m % 256 : Nat) : Int))) (h : m < 16) : Runs P l ⟨dd, .binOp .or t x y t', ty, pos, af, gg⟩ w (.int .u8 ((224 + m : Nat) : Int)) w :=
 (o_or hx hy).to (by rw [show m % 256 = m by omega, or224 h])
theorem o_o240 {m : Nat} (hx : evO l x = some (.int .u8 240)) (hy : evO l y = some (.int .u8 ((m % 256 : Nat) : Int))) (h : m < 8) : Runs P l ⟨dd, .binOp .or t x y t', ty, pos, af, gg⟩ w (.int .u8 ((240 + m : Nat) : Int)) w :=
 (o_or hx hy).to (by rw [show m % 256 = m by omega, or240 h])
theorem o_cu32 {m : Nat} {d0 : TypeDesc} (hs : P.underlying t = some d0) (ht : P.underlying t' = some (.int .u32)) (hx : evO l x = some (.int .i32 (m : Int))) (h : m ≤ 1114111) : Runs P l ⟨dd, .convert t t' x, ty, pos, af, gg⟩ w (.int .u32 (m : Int)) w :=
 o_convN hs ht hx (convu32 (by omega))
end
theorem encL_lt {c : Nat} (h2 : c ≤ 1114111) : ∀ m ∈ encL c, m < 256 := by
 intro m hm
 by_cases h : 128 ≤ c
 ·exact (encL_big h h2 m hm).2
 ·unfold encL at hm
  rw [if_pos (by omega)] at hm
  simp at hm
  omega
def encB (c : Nat) : Str := (encL c).map UInt8.ofNat
theorem encB_cells {c : Nat} (h2 : c ≤ 1114111) : (encB c).map B8 = (encL c).map (fun m : Nat => Value.int .u8 (m : Int)) := by
 unfold encB
 rw [List.map_map]
 refine List.map_congr_left fun m hm => ?_
 have := encL_lt h2 m hm
 simp only [Function.comp, B8]
 rw [UInt8.toNat_ofNat_of_lt' (by simpa using this)]
theorem own_enc {w : World} {v : Value} {b : Str} {n c : Nat} {vs : List Value} (hc : c ≤ 1114111) (h : Own w 5 1 v n vs) (hn : n = b.length + (encL c).length) (hv : vs = (b.map b8c).flatten ++ (encL c).map (fun m : Nat => Value.int .u8 (m : Int))) : OwB w v (b ++ encB c) :=
 h.same (by rw [hn, List.length_append]; simp [encB]) (by rw [hv, List.map_append, List.flatten_append, cells_b8 (encB c), encB_cells hc])
theorem encB_len (c : Nat) : (encB c).length ≤ 4 := by
 have := encL_len c
 simpa [encB] using this
theorem encB_take {l : Str} (h : l ≠ []) (h0 : (runeR l).2 ≠ 0) : encB (runeR l).1 = l.take (runeR l).2 := by
 rcases ok_all h with ⟨h1, _⟩ | ⟨_, h2, h3, h4, h5, _⟩
 ·exact absurd h1 h0
 ·unfold encB
  rw [← h3, List.map_map]
  refine (List.map_congr_left fun b hb => ?_).trans (List.map_id _)
  simp [Function.comp]
end Go.Proofs.YtknndpjacklkeaaGreatDoor.V

set_option linter.unusedVariables false
set_option linter.unusedSimpArgs false
namespace Go.Proofs.YtknndpjacklkeaaGreatDoor.V
open Go
section
variable {P : Program} {l : List (Nat × Value)} {w w' : World} {ty : TypeId} {pos : String} {af : Array Edge} {dd : Option Nat} {gg : Option (Nat × Bool)} {x y : Operand} {t t' : TypeId}
theorem o_a15 {m : Nat} (hx : evO l x = some (.int .i32 (m : Int))) (hy : evO l y = some (.int .i32 15)) (h : m < 32) : Runs P l ⟨dd, .binOp .and t x y t', ty, pos, af, gg⟩ w (.int .i32 ((m % 16 : Nat) : Int)) w :=
 (o_and hx hy).to (by rw [and15 h])
end
section
variable {s : Str} {p : Nat}
theorem valid_go (h : p < s.length) (h0 : (runeR (s.drop p)).2 ≠ 0) (hv : validR (s.drop p) = true) : validR (s.drop (p + (runeR (s.drop p)).2)) = true := by
 rw [← List.drop_drop, ← validR_go (dec_at h) h0]
 exact hv
theorem put_t1 (h : p < s.length) (h0 : (runeR (s.drop p)).2 ≠ 0) (hq : (shq (runeR (s.drop p)).1 : Int) ≠ 0) : ∃ t, escs (s.take (p + (runeR (s.drop p)).2)) = escs (s.take p) ++ t ∧ t.map B8 = [.int .u8 92, .int .u8 (shq (runeR (s.drop p)).1 : Int)] ∧ t.length = 2 := by
 have hc : (runeR (s.drop p)).1 < 128 := by
  rcases Nat.lt_or_ge (runeR (s.drop p)).1 128 with h1 | h1
  ·exact h1
  ·rw [shq_big h1] at hq
   exact absurd rfl hq
 obtain ⟨b, hb, hbc⟩ := rune_byte (dec_at h) h0 hc
 have hm := shq_esc (c := b) (by rw [hbc]; omega)
 rw [hbc] at hm
 refine ⟨escQ b, by rw [escs_add, hb]; simp [escs], hm, ?_⟩
 have := congrArg List.length hm
 simpa using this
theorem put_t2 (h : p < s.length) (h0 : (runeR (s.drop p)).2 ≠ 0) (hq : ¬ (shq (runeR (s.drop p)).1 : Int) ≠ 0) (hc : ((runeR (s.drop p)).1 : Int) < 32) : escs (s.take (p + (runeR (s.drop p)).2)) = escs (s.take p) ++ [92, 117, 48, 48, hexD.getD ((runeR (s.drop p)).1 / 16) 0, hexD.getD ((runeR (s.drop p)).1 % 16) 0] := by
 obtain ⟨b, hb, hbc⟩ := rune_byte (dec_at h) h0 (by omega)
 have hm := shq_none (c := b) (by rw [hbc]; omega)
 rw [if_pos (by omega), hbc] at hm
 rw [escs_add, hb]
 simp only [escs, List.map_cons, List.map_nil, List.flatten_cons, List.flatten_nil, hm]
 rfl
theorem put_t3 (h : p < s.length) (h0 : (runeR (s.drop p)).2 ≠ 0) (hq : ¬ (shq (runeR (s.drop p)).1 : Int) ≠ 0) (hc : ¬ ((runeR (s.drop p)).1 : Int) < 32) : escs (s.take (p + (runeR (s.drop p)).2)) = escs (s.take p) ++ encB (runeR (s.drop p)).1 := by
 rw [escs_add, encB_take (dec_at h) h0]
 congr 1
 rcases Nat.lt_or_ge (runeR (s.drop p)).1 128 with h1 | h1
 ·obtain ⟨b, hb, hbc⟩ := rune_byte (dec_at h) h0 h1
  have hm := shq_none (c := b) (by rw [hbc]; omega)
  rw [if_neg (by omega)] at hm
  rw [hb]
  simp only [escs, List.map_cons, List.map_nil, List.flatten_cons, List.flatten_nil, hm]
  rfl
 ·exact escs_big (rune_bytes (dec_at h) h0 h1)
theorem put_own {w : World} {v : Value} {n q : Nat} {vs : List Value} {t : Str} (O : Own w 5 1 v n vs) (ht : escs (s.take q) = escs (s.take p) ++ t) (hn : n = (34 :: escs (s.take p)).length + t.length) (hvs : vs = ((34 :: escs (s.take p)).map b8c).flatten ++ t.map B8) : OwB w v (34 :: escs (s.take q)) := by
 refine O.same (by rw [hn, ht]; simp; omega) ?_
 rw [hvs, ht]
 simp [cells_b8]
end
end Go.Proofs.YtknndpjacklkeaaGreatDoor.V

set_option linter.unusedVariables false
set_option linter.unusedSimpArgs false
namespace Go.Proofs.YtknndpjacklkeaaGreatDoor.V
open Go
def pEnt (T : TypeId) (e : Int) : List PanicEntry := [{ v := .iface T (.agg #[.int .i64 e]), recovered := false }]
def WrF (T : TypeId) (e : Int) (w : World) : Ending → World → Prop
 | .panicked c, w' => c = pEnt T e ∧ w' = w
 | _, _ => False
structure WrB (w : World) (g V : Nat) (u : Value) (b : Str) : Prop where
 blk : Blk w g V [u]
 own : OwB w u b
 ne : ∀ x ∈ ob u, x ≠ g
 len : b.length ≤ 65536
def WrP (w : World) (g V T : Nat) (u : Value) (r : Except Int Str) : Ending → World → Prop
 | .returned _, w' => ∃ u' b, r = .ok b ∧ WrB w' g V u' b ∧ Mod (g :: ob u) w w' ∧ ∀ x ∈ ob u', x ∈ ob u ∨ w.heap.size ≤ x
 | .panicked c, w' => ∃ e, r = .error e ∧ e ≠ 0 ∧ c = pEnt T e ∧ Mod (g :: ob u) w w'
 | .outgrown, _ => False
structure WrT (w0 w : World) (u0 : Value) (g V : Nat) (u : Value) (b : Str) : Prop where
 wb : WrB w g V u b
 hob : ∀ x ∈ ob u, x ∈ ob u0 ∨ w0.heap.size ≤ x
 mod : Mod (g :: ob u0) w0 w
section
variable {w0 w wA w' : World} {u0 u u1 x : Value} {g V T : Nat} {b t : Str} {r r1 : Except Int Str} {c : List PanicEntry} {e : Int}
theorem WrB.mod0 (H : WrB w g V u b) (k : Mod [] w w') : WrB w' g V u b := ⟨H.blk.mod0 k, H.own.mod0 k, H.ne, H.len⟩
theorem WrT.init (H : WrB w g V u b) : WrT w w u g V u b := ⟨H, fun x hx => .inl hx, Mod.refl _ _⟩
theorem WrT.mod0 (H : WrT w0 w u0 g V u b) (k : Mod [] w w') : WrT w0 w' u0 g V u b := ⟨H.wb.mod0 k, H.hob, H.mod.then k⟩
theorem WrT.in_ (H : WrT w0 w u0 g V u b) : ∀ x ∈ g :: ob u, x ∈ g :: ob u0 ∨ w0.heap.size ≤ x := fun x hx => by
 rcases List.mem_cons.1 hx with rfl | h
 ·exact .inl (by simp)
 ·exact (H.hob x h).imp (fun h => by simp [h]) id
theorem WrT.rep {d : D} {v : Value} (H : WrT w0 w u0 g V u b) (R : Rep (g :: ob u0) w0 d v) : Rep (g :: ob u) w d v := Rep.to H.mod (fun x hx => hx) H.in_ d v R
theorem WrT.ret (H : WrT w0 w u0 g V u b) (h : WrP w g V T u r1 (.returned x) w') : ∃ u' b', r1 = .ok b' ∧ WrT w0 w' u0 g V u' b' ∧ Mod (g :: ob u) w w' ∧ ∀ x ∈ ob u', x ∈ ob u ∨ w.heap.size ≤ x := by
 obtain ⟨u', b', h1, h2, h3, h4⟩ := h
 exact ⟨u', b', h1, ⟨h2, fun x hx => (h4 x hx).elim (H.hob x) (fun h => .inr (Nat.le_trans H.mod.size h)), H.mod.trans' h3 H.in_⟩, h3, h4⟩
theorem WrT.panic (H : WrT w0 w u0 g V u b) (h : WrP w g V T u r1 (.panicked c) w') (hr : ∀ e, r1 = .error e → r = .error e) : WrP w0 g V T u0 r (.panicked c) w' := by
 obtain ⟨e, h1, h0, h2, h3⟩ := h
 exact ⟨e, hr e h1, h0, h2, H.mod.trans' h3 H.in_⟩
theorem WrT.fail (H : WrT w0 w u0 g V u b) (hr : r = .error e) (h0 : e ≠ 0 := by decide) : WrP w0 g V T u0 r (.panicked (pEnt T e)) w := ⟨e, hr, h0, rfl, H.mod⟩
theorem WrT.fin (H : WrT w0 w u0 g V u b) (hr : r = .ok b) : WrP w0 g V T u0 r (.returned x) w := ⟨u, b, hr, H.wb, H.mod, H.hob⟩
theorem WrT.app {n : Nat} {vs : List Value} (H : WrT w0 w u0 g V u b) (AA : App w wA 5 1 u u1 n vs) (k : Mod [g] wA w') : Mod (g :: ob u0) w0 w' :=
 (H.mod.trans' AA.mod (fun x hx => H.in_ x (by simp [hx]))).trans' k (fun x hx => .inl (by simp at hx; simp [hx]))
theorem WrT.app' {n : Nat} {vs : List Value} (H : WrT w0 w u0 g V u b) (AA : App w wA 5 1 u u1 n vs) (O1 : OwB wA u1 (b ++ t)) (k : Mod [g] wA w') (B : Blk w' g V [u1]) (hl : (b ++ t).length ≤ 65536) : WrT w0 w' u0 g V u1 (b ++ t) := by
 have hne : ∀ x ∈ ob u1, x ≠ g := fun x hx => (AA.ob_ x hx).elim (H.wb.ne x) (fun h e => by have := H.wb.blk.lt; omega)
 refine ⟨⟨B, O1.mod k (fun x hx hm => hne x hx (by simpa using hm)), hne, hl⟩, fun x hx => ?_, H.app AA k⟩
 exact (AA.ob_ x hx).elim (H.hob x) (fun h => .inr (Nat.le_trans H.mod.size h))
structure WrK (w : World) (g : Nat) (u : Value) (h W : Nat) (cells : List Value) : Prop where
 blk : Blk w h W cells
 ne : h ≠ g
 dis : ∀ x ∈ ob u, x ≠ h
variable {h W : Nat} {cells : List Value}
theorem WrK.mod0 (K : WrK w g u h W cells) (k : Mod [] w w') : WrK w' g u h W cells := ⟨K.blk.mod0 k, K.ne, K.dis⟩
theorem WrK.step (K : WrK w g u h W cells) (k : Mod (g :: ob u) w w') (ho : ∀ x ∈ ob u1, x ∈ ob u ∨ w.heap.size ≤ x) : WrK w' g u1 h W cells :=
 ⟨K.blk.mod k (fun hx => by
  rcases List.mem_cons.1 hx with h1 | h1
  ·exact K.ne h1
  ·exact K.dis _ h1 rfl), K.ne, fun x hx => (ho x hx).elim (K.dis x) (fun h e => by have := K.blk.lt; omega)⟩
theorem WrK.of_ (H : WrB w g V u b) (B : Blk w' h W cells) (hh : w.heap.size ≤ h) : WrK w' g u h W cells :=
 ⟨B, fun e => by have := H.blk.lt; omega, fun x hx e => by have := H.own.lt x hx; omega⟩
end
def JV.plain (v : JV) : Bool := decide (0 ≤ v.kind ∧ v.kind ≤ 5) && (decide (v.kind = 1) || !v.is) && (decide (v.kind = 2) || decide (v.num = 0)) && (decide (v.kind = 3) || decide (v.str = [])) && (decide (v.kind = 4) || decide (v.list.length = 0)) && (decide (v.kind = 5) || decide (v.map.length = 0))
theorem JV.bare_plain (v : JV) : v.bare = (v.plain && decide (-9007199254740991 ≤ v.num ∧ v.num ≤ 9007199254740991)) := by
 unfold JV.bare JV.plain
 rw [Bool.eq_iff_iff]
 simp only [Bool.and_eq_true, Bool.or_eq_true, Bool.not_eq_true', decide_eq_true_eq, decide_eq_false_iff_not]
 constructor
 ·rintro ⟨⟨⟨⟨⟨⟨h1, h2⟩, h3⟩, h4⟩, h5⟩, h6⟩, h7⟩
  refine ⟨⟨⟨⟨⟨⟨h1, h2⟩, h3⟩, h4⟩, h5⟩, h6⟩, ?_⟩
  rcases h7 with h7 | h7
  ·rcases h3 with h3 | h3
   ·exact absurd h3 h7
   ·omega
  ·exact h7
 ·rintro ⟨⟨⟨⟨⟨⟨h1, h2⟩, h3⟩, h4⟩, h5⟩, h6⟩, h7⟩
  exact ⟨⟨⟨⟨⟨⟨h1, h2⟩, h3⟩, h4⟩, h5⟩, h6⟩, .inr h7⟩
end Go.Proofs.YtknndpjacklkeaaGreatDoor.V

set_option linter.unusedVariables false
set_option linter.unusedSimpArgs false
namespace Go.Proofs.YtknndpjacklkeaaGreatDoor.V
open Go
section
variable {w w' : World} {g : Nat} {u u1 : Value} {ds : List D} {us : List Value} {A : List Nat}
theorem Reps.mod0 (R : Reps A w ds us) (k : Mod [] w w') : Reps A w' ds us := R.to0 k
theorem Reps.wstep (R : Reps (g :: ob u) w ds us) (k : Mod (g :: ob u) w w') (ho : ∀ x ∈ ob u1, x ∈ ob u ∨ w.heap.size ≤ x) : Reps (g :: ob u1) w' ds us :=
 Reps.to k (fun x hx => hx) (fun x hx => by
  rcases List.mem_cons.1 hx with rfl | h
  ·exact .inl (by simp)
  ·exact (ho x h).imp (fun h => by simp [h]) id) ds us R
end
theorem wl_c {l : List JV} {k deep : Nat} {x : JV} {b : Str} {W : Except Int Str} (hx : l[k]? = some x) (hinv : JV.wrl (l.drop k) deep (decide (k = 0)) b = W) :
  ((if k = 0 then Except.ok b else lng (b ++ [44])).bind fun b => (JV.wr x (deep + 1) b).bind fun b => JV.wrl (l.drop (k + 1)) deep (decide (k + 1 = 0)) b) = W := by
 rw [wrl_at hx] at hinv
 rw [show decide (k + 1 = 0) = false by simp, ← hinv]
 by_cases h : k = 0 <;> simp [h]
def riseK (m : List (Str × JV)) (k : Nat) (x : Str × JV) : Bool := match prevK m k with
 | none => true
 | some q => bl q x.1
theorem riseK_0 {m : List (Str × JV)} {k : Nat} {x : Str × JV} (h : k = 0) : riseK m k x = true := by subst h; rfl
theorem riseK_at {m : List (Str × JV)} {k : Nat} {x q : Str × JV} (hq : m[k - 1]? = some q) (h0 : 0 < k) : riseK m k x = bl q.1 x.1 := by
 unfold riseK prevK
 rw [if_neg (by omega), hq]
 rfl
theorem wm_c {m : List (Str × JV)} {k deep : Nat} {x : Str × JV} {b : Str} {W : Except Int Str} (hx : m[k]? = some x) (hinv : JV.wrm (m.drop k) deep (prevK m k) b = W) :
  ((if k = 0 then Except.ok b else lng (b ++ [44])).bind fun b => (if riseK m k x then Except.ok b else Except.error 1).bind fun b => (txtW b x.1).bind fun b => (lng (b ++ [58])).bind fun b => (JV.wr x.2 (deep + 1) b).bind fun b => JV.wrm (m.drop (k + 1)) deep (prevK m (k + 1)) b) = W := by
 by_cases h : k = 0
 ·rw [riseK_0 h, if_pos h]
  exact wrm_step0 hx h hinv
 ·obtain ⟨q, hq⟩ : ∃ q, m[k - 1]? = some q := ⟨_, List.getElem?_eq_getElem (by have := (List.getElem?_eq_some_iff.1 hx).1; omega)⟩
  have := wrm_step hx hq (by omega) hinv
  rw [riseK_at hq (by omega), if_neg h, ← this]
  cases lng (b ++ [44]) <;> rfl
theorem JV.bare_kind {v : JV} (h : v.bare = true) : 0 ≤ v.kind ∧ v.kind ≤ 5 := by
 unfold JV.bare at h
 simp only [Bool.and_eq_true, decide_eq_true_eq] at h
 omega
end Go.Proofs.YtknndpjacklkeaaGreatDoor.V

set_option linter.unusedVariables false
set_option linter.unusedSimpArgs false
namespace Go.Proofs.YtknndpjacklkeaaGreatDoor.V
open Go
section
variable {P : Program} {ops : Array Oper} {Q : Exit → Act → World → Prop} {n : Nat} {ds : List Deferred} {l : List (Nat × Value)} {w w' : World}
variable {rest : List Oper} {d : Nat} {op : Op} {ty : TypeId} {pos : String} {af : Array Edge} {x y : Operand} {t t' : TypeId} {dd : Option Nat} {gg : Option (Nat × Bool)}
theorem o_inn (hi : P.underlying t = some (.interface (P.methodsAt t))) (hx : evO l x = some .nilIface) : Runs P l ⟨dd, .binOp .eql t x (.const .nilIface) t', ty, pos, af, gg⟩ w (.bool true) w := fun ρ h => by
 have h1 : ρ (.const .nilIface) = .nilIface := h _ _ rfl
 have hg : eqGuard .eql t x (.const .nilIface) .nilIface .nilIface = pure () := by cases x <;> rfl
 simp [execOp, h _ _ hx, h1, binOp, hg, run_equal_nil_nil w t hi]
theorem o_ifn {T : TypeId} {v : Value} (hi : P.underlying t = some (.interface (P.methodsAt t))) (hx : evO l x = some (.iface T v)) : Runs P l ⟨dd, .binOp .eql t x (.const .nilIface) t', ty, pos, af, gg⟩ w (.bool false) w := fun ρ h => by
 have h1 : ρ (.const .nilIface) = .nilIface := h _ _ rfl
 have hg : eqGuard .eql t x (.const .nilIface) (.iface T v) .nilIface = pure () := by rfl
 simp [execOp, h _ _ hx, h1, binOp, hg, run_equal_held_nil w t _ _ hi]
theorem o_ta {T t0 : TypeId} {v : Value} {d0 : TypeDesc} (hT : P.underlying T = some d0) (hn : (match d0 with | .interface _ => false | _ => true) = true) (hx : evO l x = some (.iface T v)) : Runs P l ⟨dd, .typeAssert x t0 T true, ty, pos, af, gg⟩ w (.tuple #[v, .bool true]) w := fun ρ h => by
 cases d0 <;> first | (simp at hn; done) | simp [execOp, Instr.typeAssert, h _ _ hx, run_underlying hT]
theorem s_defer {fn : Fn} {us vs : Array Value} {ts : Array TypeId} (hx : evO l x = some (.func fn us vs)) (h : WL P ops Q rest n ({ target := .fn fn vs, args := us } :: ds) l w) :
  WL P ops Q (⟨none, .defer { callee := .value x, args := #[], argTypes := ts }, ty, pos, af, none⟩ :: rest) n ds l w := by
 intro a ha
 refine wpList_plain rfl fun K hK => ?_
 have hr : (execOp a.eval ⟨none, .defer { callee := .value x, args := #[], argTypes := ts }, ty, pos, af, none⟩).run P w = .ok (.defer { target := .fn fn vs, args := us }) w := by
  simp [execOp, resolve, ha.ev hx, Deferred.ofValue]
 simp only [Oper.wp, hr, Oper.upon]
 exact hK _ _ (h _ ⟨ha.size, by simp [Act.put, ha.defers], ha.get⟩)
theorem enterD {f : FuncId} {fn : Func} {c : Code} {vs : List Value} {R : Ending → World → Prop} (hf : P.funcs[f]? = some fn) (hb : fn.body = some c) (hn : fn.ntmps = n) (hle : Nat.ble vs.length n = true) (hs : Sub (argL 0 vs) l)
  (h : WC P c (bodyPostD P fn R) n [] l w) : Calls P f vs.toArray w R := by
 have hle' : vs.length ≤ n := by simpa using hle
 have ha : Has n [] (argL 0 vs) { tmps := vs.toArray ++ Array.replicate (fn.ntmps - vs.toArray.size) undef, defers := [] } := by
  refine ⟨by rw [Array.size_append, Array.size_replicate, List.size_toArray, hn]; omega, rfl, fun t v hv => ?_⟩
  obtain ⟨_, h2⟩ := argL_get vs 0 t v hv
  rw [Nat.sub_zero] at h2
  have hlt := (List.getElem?_eq_some_iff.1 h2).1
  dsimp only
  rw [Array.getElem?_append_left (by simpa using hlt)]
  simpa using h2
 exact calls_of_wp_defers hf hb (h _ (ha.sub hs))
theorem opsS_of_list {QS : Exit → Act → List Frame → World → Prop} {cs : List Frame} (hno : ¬ LetsOut Q) (hq : ∀ e a w, Q e a w → QS e a cs w) :
  ∀ (m : List Oper) (k : Nat), (∀ j, m[j]? = ops[k + j]?) → ∀ a w, wpList P ops Q m a w → wpOpsS P ops QS (List.range' k m.length) a cs w
 | [], k, _, a, w, h => hq _ _ _ h
 | o :: m, k, hj, a, w, h => by
  have ih := opsS_of_list hno hq m (k + 1) (fun j => by have := hj (j + 1); simpa [Nat.add_assoc, Nat.add_comm 1 j] using this)
  have h0 : ops[k]? = some o := by simpa using (hj 0).symm
  simp only [List.length_cons, List.range'_succ, wpOpsS, h0]
  simp only [wpList] at h
  by_cases hw : Region.wanted o (yielded ops a.tmps) = true
  ·simp only [hw, if_true] at h ⊢
   rcases h with h | h
   ·simp only [Oper.wp] at h
    generalize hr : (execOp a.eval o).run P w = r at h
    split
    ·rename_i w1 
     simp only [Oper.upon] at h
    ·rename_i r' hne
     match r, h with
     | .ok (.value v) w1, h => exact ih _ _ h
     | .ok .skip w1, h => exact ih _ _ h
     | .ok (.defer dd) w1, h => exact ih _ _ h
     | .ok (.enter f args) w1, h =>
      refine Calls.mono h fun e w2 he => ?_
      cases e with
      | returned v => exact ih _ _ he
      | panicked c => exact hq _ _ _ he
      | outgrown => exact absurd he hno
     | .ok (.row rw args) w1, h => exact Rows.mono h fun v w2 he => ih _ _ he
     | .halt (.panic v) w1, h => exact hq _ _ _ h
   ·exact absurd h.2 hno
  ·simp only [hw, if_false, Bool.false_eq_true] at h ⊢
   exact ih _ _ h
def RecOf (u : FrameMode) (v : Value) (u1 : FrameMode) : Prop :=
 (u = .returning ∧ v = .nilIface ∧ u1 = .returning) ∨ (u = .panicking [{ v := v, recovered := false }] ∧ u1 = .panicking [{ v := v, recovered := true }])
theorem rec_enter {f : FuncId} {fn : Func} {id : Nat} {y : Code} {vs : List Value} {u u1 : FrameMode} {v : Value} {R : Ending → FrameMode → World → Prop}
  (hf : P.funcs[f]? = some fn) (hb : fn.body = some (.seq (.region id ops false) y)) (hn : fn.ntmps = n) (hle : Nat.ble vs.length n = true) (hs : Sub (argL 0 vs) l)
  (ho : ops.toList = ⟨some d, .call { callee := .builtin .recover, args := #[], argTypes := #[] }, ty, pos, af, none⟩ :: rest) (hd : Nat.blt d n = true) (hu : RecOf u v u1) (hout : ∀ u w, ¬ R .outgrown u w)
  (h : ∀ K : Act → World → Prop, (∀ n ds l w, WC P y (bodyPost P fn fun e w => R e u1 w) n ds l w → ∀ a, Has n ds l a → K a w) → WL P ops (Exit.then K (bodyPost P fn fun e w => R e u1 w)) rest n [] ((d, v) :: l) w) : CallsD P f vs.toArray u w R := by
 have hle' : vs.length ≤ n := by simpa using hle
 have ha : Has n [] (argL 0 vs) { tmps := vs.toArray ++ Array.replicate (fn.ntmps - vs.toArray.size) undef, defers := [] } := by
  refine ⟨by rw [Array.size_append, Array.size_replicate, List.size_toArray, hn]; omega, rfl, fun t v hv => ?_⟩
  obtain ⟨_, h2⟩ := argL_get vs 0 t v hv
  rw [Nat.sub_zero] at h2
  have hlt := (List.getElem?_eq_some_iff.1 h2).1
  dsimp only
  rw [Array.getElem?_append_left (by simpa using hlt)]
  simpa using h2
 refine callsD_of_wpS hf hb fun c₀ cs hc => wpS_seq (wpS_region ?_)
 have hsz : ops.size = rest.length + 1 := by rw [← Array.length_toList, ho]; rfl
 have h0 : ops[0]? = some ⟨some d, .call { callee := .builtin .recover, args := #[], argTypes := #[] }, ty, pos, af, none⟩ := by rw [← Array.getElem?_toList, ho]; rfl
 have hm : ∃ cs', cs' = { c₀ with mode := u1 } :: cs ∧ ((recoverD (c₀ :: cs) = some (v, cs')) ∨ (recoverD (c₀ :: cs) = none ∧ v = .nilIface ∧ cs' = c₀ :: cs)) := by
  refine ⟨_, rfl, ?_⟩
  rcases hu with ⟨h1, h2, h3⟩ | ⟨h1, h2⟩
  ·refine .inr ⟨by simp [recoverD, hc, h1], h2, ?_⟩
   rw [h3, ← h1, ← hc]
  ·exact .inl (by subst h2; simp [recoverD, hc, h1])
 obtain ⟨cs', hcs, hm⟩ := hm
 have key := h (fun a w => y.wp P (bodyPost P fn fun e w => R e u1 w) a w) (fun n ds l w hy a ha => hy a ha) _ ((ha.sub hs).put hd v)
 have hno : ¬ LetsOut (Exit.then (fun a w => y.wp P (bodyPost P fn fun e w => R e u1 w) a w) (bodyPost P fn fun e w => R e u1 w)) := by
  rintro ⟨a, w, h⟩
  exact hout _ _ h
 have hQ : ∀ e a w, bodyPost P fn (fun e w => R e u1 w) e a w → bodyPostS P fn c₀ cs R e a cs' w := by
  intro e a w hq
  cases e with
  | normal => obtain ⟨h1, v, h2, h3⟩ := hq; exact ⟨h1, u1, hcs, v, h2, h3⟩
  | ret => obtain ⟨h1, v, h2, h3⟩ := hq; exact ⟨h1, u1, hcs, v, h2, h3⟩
  | panic c => obtain ⟨h1, h3⟩ := hq; exact ⟨h1, u1, hcs, h3⟩
  | outgrown => exact absurd hq (hout _ _)
  | exit i => exact hq.elim
  | goto i => exact hq.elim
 have hq2 : ∀ e a w, Exit.then (fun a w => y.wp P (bodyPost P fn fun e w => R e u1 w) a w) (bodyPost P fn fun e w => R e u1 w) e a w → Exit.thenS (y.wpS P (bodyPostS P fn c₀ cs R)) (bodyPostS P fn c₀ cs R) e a cs' w := by
  intro e a w hq
  cases e with
  | normal => exact wpS_of_wp (Code.wp_mono hQ hq)
  | ret => exact hQ .ret a w hq
  | panic c => exact hQ (.panic c) a w hq
  | outgrown => exact hQ .outgrown a w hq
  | exit i => exact hQ (.exit i) a w hq
  | goto i => exact hQ (.goto i) a w hq
 have hlist := opsS_of_list (ops := ops) hno hq2 rest 1 (fun j => by rw [← Array.getElem?_toList, ho, Nat.add_comm]; rfl) _ _ key
 rw [hsz, List.range_eq_range', List.range'_succ]
 simp only [wpOpsS, h0, Region.wanted, if_true]
 have hr : (execOp (Act.eval { tmps := vs.toArray ++ Array.replicate (fn.ntmps - vs.toArray.size) undef, defers := [] }) ⟨some d, .call { callee := .builtin .recover, args := #[], argTypes := #[] }, ty, pos, af, none⟩).run P w = .ok .recover w := by
  simp [execOp, resolve, invoke, builtin]
 simp only [hr]
 rcases hm with hm | ⟨hm, hv, hc'⟩
 ·rw [hm]
  exact hlist
 ·rw [hm]
  subst hv
  rw [← hc']
  exact hlist
variable {fn : Func} {R : Ending → World → Prop} {u : FrameMode}
theorem we_ret (h : ∀ a, Has n ds l a → Leaves P fn a.tmps R ds .returning w) : WE (bodyPostD P fn R) .ret n ds l w := fun a ha => by
 show Leaves P fn a.tmps R a.defers .returning w
 rw [ha.defers]
 exact h a ha
theorem we_panic {c : List PanicEntry} (h : ∀ a, Has n ds l a → Leaves P fn a.tmps R ds (.panicking c) w) : WE (bodyPostD P fn R) (.panic c) n ds l w := fun a ha => by
 show Leaves P fn a.tmps R a.defers (.panicking c) w
 rw [ha.defers]
 exact h a ha
theorem leavesD {k : FuncId} {cap tmps : Array Value} {R1 : Ending → FrameMode → World → Prop} (hu : u ≠ .run) (hE : Ent P k) (hc : CallsD P k cap u w R1)
  (h : ∀ e u' w', R1 e u' w' → ∃ v, e = .returned v ∧ settle u' = .returning ∧ ∃ r, (results fn tmps).run P w' = .ok r w' ∧ R (.returned r) w') : Leaves P fn tmps R [{ target := .fn (.func k) cap, args := #[] }] u w := by
 refine leaves_cons hu (f := k) (args := cap) ?_ (hc.mono fun e u' w' he => ?_)
 ·have := hE cap w
  simpa [invoke] using this
 ·obtain ⟨v, rfl, h2, r, h3, h4⟩ := h e u' w' he
  dsimp only
  rw [h2]
  exact ⟨r, h3, h4⟩
theorem results_cc {a : Act} {t t' T T' : Nat} {ad ad' : Addr} {v v' : Value} (ha : Has n ds l a) (hr : fn.results = #[.cell t T, .cell t' T']) (ht : scB P T = true) (ht' : scB P T' = true) (hv : lk t l = some (.pointer (some ad))) (hv' : lk t' l = some (.pointer (some ad')))
  (hc : w.cell? ad = some v) (hc' : w.cell? ad' = some v') : (results fn a.tmps).run P w = .ok (.tuple #[v, v']) w := by
 simp [results, hr, ha.get _ _ hv, ha.get _ _ hv', asAddr, run_loadVar_sc ht hc, run_loadVar_sc ht' hc']
end
end Go.Proofs.YtknndpjacklkeaaGreatDoor.V

set_option linter.unusedVariables false
set_option linter.unusedSimpArgs false
namespace Go.Proofs.YtknndpjacklkeaaGreatDoor.V
open Go
theorem atL_at {s : Str} {p : Nat} {b : UInt8} (h : s[p]? = some b) : atL (s.drop p) 0 = b.toNat := by
 unfold atL
 rw [List.getD_eq_getElem?_getD, List.getElem?_drop, Nat.add_zero, h]
 rfl
theorem dec_lt {s : Str} {p : Nat} {b : UInt8} (h : s[p]? = some b) (hb : b.toNat < 128) : Utf8.decode ⟨⟨s⟩⟩ p = (b.toNat, 1) := by
 rw [decode_eq]
 unfold decL
 rw [atL_at h, if_pos (by omega)]
def allB (q : Nat → Bool) (s : Str) : Bool := decide (s ≠ []) && s.all (fun b => q b.toNat)
def kS (c : Nat) : Bool := decide (97 ≤ (c : Int)) && decide ((c : Int) ≤ 122)
def kG (c : Nat) : Bool := decide (65 ≤ (c : Int)) && decide ((c : Int) ≤ 90)
def kD (c : Nat) : Bool := decide (48 ≤ (c : Int)) && decide ((c : Int) ≤ 57)
abbrev userS : Str := [46, 95, 61, 45, 47, 43]
def qServer (c : Nat) : Bool := kS c || kD c || decide ((c : Int) = 46) || decide ((c : Int) = 45)
def qUser (c : Nat) : Bool := kS c || kD c || userS.any (fun b => decide (b.toNat = c))
def qRoom (c : Nat) : Bool := kS c || kG c || kD c || decide ((c : Int) = 95) || decide ((c : Int) = 45)
def qKey (c : Nat) : Bool := kS c || kG c || kD c || decide ((c : Int) = 95)
/-! ### the first colon -/
def colonAt (s : Str) : Nat := s.findIdx (fun b => b == 58)
def serverB (s : Str) : Bool :=
 allB qServer (s.take (colonAt s)) && decide (s.length ≤ 255) && (decide (colonAt s = s.length) || (decide (s.length - colonAt s ≤ 6) && allB kD (s.drop (colonAt s + 1))))
def namedB (sign : UInt8) (q : Nat → Bool) (s : Str) : Bool :=
 decide (s.length ≤ 255) && decide (colonAt s < s.length) && decide (s.head? = some sign) && allB q ((s.take (colonAt s)).drop 1) && serverB (s.drop (colonAt s + 1))
abbrev edS : Str := [101, 100, 50, 53, 53, 49, 57, 58]
def keyB (s : Str) : Bool := decide (s.length ≤ 255) && decide (s.take 8 = edS) && allB qKey (s.drop 8)
/-! ### control: a scope that is not jumped about in -/
section
variable {P : Program} {Q : Exit → Act → World → Prop} {n : Nat} {ds : List Deferred} {l : List (Nat × Value)} {w : World}
theorem c_scope {c : Code} (h : WC P c (Exit.noGoto Q) n ds l w) : WC P (.scope c) Q n ds l w := fun a ha => wp_scope_straight (h a ha)
theorem e_scope {e : Exit} (he : ∀ j, e ≠ .goto j) (h : WE Q e n ds l w) : WE (Exit.noGoto Q) e n ds l w := fun a ha => by
 have := h a ha
 cases e <;> first | exact this | exact absurd rfl (he _)
variable {t t' : TypeId} {ty : TypeId} {pos : String} {af : Array Edge} {dd : Option Nat} {gg : Option (Nat × Bool)} {x y : Operand} {ops : Array Oper} {rest : List Oper} {d : Nat}
theorem o_r2s {d0 : TypeDesc} {c : Nat} {k : IntKind} (hs : P.underlying t = some d0) (ht : P.underlying t' = some .string) (hx : evO l x = some (.int k (c : Int))) : Runs P l ⟨dd, .convert t t' x, ty, pos, af, gg⟩ w (.string (Utf8.encode c)) w := fun ρ h => by
 have h1 := run_convert_int_string (P := P) w t t' k (c : Int) (by rw [hs]; rfl) ht
 simp only [execOp, h _ _ hx, Sem.run_bind, h1, Result.andThen, Sem.run_pure]
end
theorem enc_last {c : Nat} (h1 : c ≤ 1114111) (h2 : ¬ (55296 ≤ c ∧ c ≤ 57343)) (h : 128 ≤ c) : ∃ rs : Str, Utf8.encode (c : Int) = ⟨⟨rs⟩⟩ ∧ 2 ≤ rs.length ∧ rs.length ≤ 4 ∧ ∃ b, rs[rs.length - 1]? = some b ∧ 128 ≤ b.toNat := by
 obtain ⟨f1, f2, f3⟩ := encode_facts (c : Int) (by rw [valid_nat]; simp; omega) (by omega)
 generalize Utf8.encode (c : Int) = e at f1 f2 f3 ⊢
 obtain ⟨⟨rs⟩⟩ := e
 have hs : (⟨⟨rs⟩⟩ : ByteArray).size = rs.length := rfl
 rw [hs] at f1 f2
 have hl : rs.length - 1 < rs.length := by omega
 exact ⟨rs, rfl, f1, f2, rs[rs.length - 1], List.getElem?_eq_getElem hl, f3 hl⟩
theorem indexByte_none {s : Str} {b : UInt8} (h : ∀ x ∈ s, x.toNat < 128) (hb : 128 ≤ b.toNat) : Lib.indexByte s b = -1 := by
 induction s with
 | nil => rfl
 | cons c s ih =>
  have hc := h c (by simp)
  have hne : (c == b) = false := by
   rw [beq_eq_false_iff_ne]
   intro e
   subst e
   omega
  unfold Lib.indexByte
  rw [hne, ih fun x hx => h x (by simp [hx])]
  rfl
end Go.Proofs.YtknndpjacklkeaaGreatDoor.V

namespace Go.Proofs
open Go.Shelf
def Tryz.lays137_ren : Go.Shelf.Ren := ⟨fun | 137 => 100 | 217 => 146 | 266 => 182 | n => n, fun | 9 => 9 | 5 => 5 | 3 => 3 | n => n, fun | n => n⟩
theorem Tryz.lays137 : Go.Proofs.Lays.n137 Tryz.prog Tryz.lays137_ren := {
 mixed := by kernel_rfl
 f137 := Tryz.func100.trans (congrArg some (by kernel_rfl))
 f217 := Tryz.func146.trans (congrArg some (by kernel_rfl))
 f266 := Tryz.func182.trans (congrArg some (by kernel_rfl))
 t3 := Tryz.underlying3
 a3 := Tryz.isAgg3
 z3 := Tryz.sizeOf3
 v3 := Tryz.zeroValue3
 t5 := Tryz.underlying5
 a5 := Tryz.isAgg5
 z5 := Tryz.sizeOf5
 v5 := Tryz.zeroValue5
 t9 := Tryz.underlying9
 a9 := Tryz.isAgg9
 z9 := Tryz.sizeOf9
 v9 := Tryz.zeroValue9 }
open Go.RowKit in
theorem Tryz.strings_IndexByte (s : ByteArray) (c : Int) (w : World) :
  Calls Tryz.prog 100 #[.string s, .int .u8 c] w fun e w' => e = .returned (.int .i64 (Lib.indexByte s.data.toList c.toNat.toUInt8)) ∧ w' = w := Any.strings_IndexByte Tryz.lays137 s c w
def Tryz.lays103_ren : Go.Shelf.Ren := ⟨fun | 103 => 196 | 210 => 231 | 206 => 201 | n => n, fun | 9 => 9 | 4 => 4 | 24 => 171 | 3 => 3 | n => n, fun | n => n⟩
theorem Tryz.lays103 : Go.Proofs.Lays.n103 Tryz.prog Tryz.lays103_ren := {
 mixed := by kernel_rfl
 f103 := Tryz.func196.trans (congrArg some (by kernel_rfl))
 f206 := Tryz.func201.trans (congrArg some (by kernel_rfl))
 f210 := Tryz.func231.trans (congrArg some (by kernel_rfl))
 t3 := Tryz.underlying3
 a3 := Tryz.isAgg3
 z3 := Tryz.sizeOf3
 v3 := Tryz.zeroValue3
 t4 := Tryz.underlying4
 a4 := Tryz.isAgg4
 z4 := Tryz.sizeOf4
 v4 := Tryz.zeroValue4
 t9 := Tryz.underlying9
 a9 := Tryz.isAgg9
 z9 := Tryz.sizeOf9
 v9 := Tryz.zeroValue9
 t24 := Tryz.underlying171
 a24 := Tryz.isAgg171
 z24 := Tryz.sizeOf171
 v24 := Tryz.zeroValue171 }
open Go.RowKit in
theorem Tryz.strings_CutPrefix (s p : ByteArray) (w : World) :
  Calls Tryz.prog 196 #[.string s, .string p] w fun e w' => e = .returned (.tuple #[.string ⟨(Lib.trimPrefix s.data.toList p.data.toList).toArray⟩, .bool (Lib.hasPrefix s.data.toList p.data.toList)]) ∧ w' = w := Any.strings_CutPrefix Tryz.lays103 s p w
def Tryz.laysM145_ren : Go.Shelf.Ren := ⟨fun | 145 => 192 | 220 => 227 | 219 => 248 | 217 => 146 | 225 => 230 | 224 => 229 | 267 => 258 | 266 => 182 | 314 => 260 | n => n, fun | 9 => 9 | 4 => 4 | 59 => 174 | 3 => 3 | 5 => 5 | 46 => 144 | 146 => 266 | 51 => 147 | n => n, fun | 1 => 1 | n => n⟩
theorem Tryz.laysM145 : Go.Proofs.LaysM.n145 Tryz.prog Tryz.laysM145_ren := {
 mixed := by kernel_rfl
 f145 := Tryz.func192.trans (congrArg some (by kernel_rfl))
 f217 := Tryz.func146.trans (congrArg some (by kernel_rfl))
 f219 := Tryz.func248.trans (congrArg some (by kernel_rfl))
 f220 := Tryz.func227.trans (congrArg some (by kernel_rfl))
 f224 := Tryz.func229.trans (congrArg some (by kernel_rfl))
 f225 := Tryz.func230.trans (congrArg some (by kernel_rfl))
 f266 := Tryz.func182.trans (congrArg some (by kernel_rfl))
 f267 := Tryz.func258.trans (congrArg some (by kernel_rfl))
 f314 := Tryz.func260.trans (congrArg some (by kernel_rfl))
 t3 := Tryz.underlying3
 a3 := Tryz.isAgg3
 z3 := Tryz.sizeOf3
 v3 := Tryz.zeroValue3
 t4 := Tryz.underlying4
 a4 := Tryz.isAgg4
 z4 := Tryz.sizeOf4
 v4 := Tryz.zeroValue4
 t5 := Tryz.underlying5
 a5 := Tryz.isAgg5
 z5 := Tryz.sizeOf5
 v5 := Tryz.zeroValue5
 t9 := Tryz.underlying9
 a9 := Tryz.isAgg9
 z9 := Tryz.sizeOf9
 v9 := Tryz.zeroValue9
 t46 := Tryz.underlying144
 a46 := Tryz.isAgg144
 z46 := Tryz.sizeOf144
 v46 := Tryz.zeroValue144
 t51 := Tryz.underlying147
 a51 := Tryz.isAgg147
 z51 := Tryz.sizeOf147
 v51 := Tryz.zeroValue147
 t59 := Tryz.underlying174
 a59 := Tryz.isAgg174
 z59 := Tryz.sizeOf174
 v59 := Tryz.zeroValue174
 t146 := Tryz.underlying266
 a146 := Tryz.isAgg266
 z146 := Tryz.sizeOf266
 v146 := Tryz.zeroValue266
 g1 := by kernel_rfl
 i3 := by kernel_rfl
 i4 := by kernel_rfl
 i5 := by kernel_rfl
 i9 := by kernel_rfl
 i46 := by kernel_rfl
 i51 := by kernel_rfl
 i59 := by kernel_rfl
 i146 := by kernel_rfl
 m1 := by kernel_rfl
 s1_3 := fun w h => Go.Proofs.cell_of_shapedOpen_int (zero := #[.int .i64 0]) (t := 3) h (of_decide_eq_true (by kernel_rfl)) (by kernel_rfl) rfl (by kernel_rfl) (by kernel_rfl) Tryz.underlying3 }
end Go.Proofs

namespace Go.Proofs.YtknndpjacklkeaaGreatDoor.V
open Go Go.Proofs
def MaxL (w : World) : Prop := ∃ m, w.cell? ⟨1, 0, none⟩ = some (.int .i64 m)
theorem MaxL.of_ {W : World} (h : W.ShapedOpen Tryz.prog) : MaxL W := Tryz.laysM145.s1_3 W h
theorem MaxL.mod0 {w w' : World} (h : MaxL w) (k : Mod [] w w') : MaxL w' := by
 obtain ⟨m, hm⟩ := h
 refine ⟨m, ?_⟩
 have hlt : 1 < w.heap.size := by
  rcases Nat.lt_or_ge 1 w.heap.size with hl | hl
  ·exact hl
  ·unfold World.cell? at hm
   rw [Array.getElem?_eq_none hl] at hm
   cases hm
 unfold World.cell? at hm ⊢
 rw [k.block 1 hlt (by simp)]
 exact hm
theorem c_cutp (w : World) (s p : Str) : Calls Tryz.prog 196 [S s, S p].toArray w (Ret fun u w' => u = .tuple #[S (Lib.trimPrefix s p), .bool (Lib.hasPrefix s p)] ∧ Mod [] w w') := by
 refine (Tryz.strings_CutPrefix ⟨⟨s⟩⟩ ⟨⟨p⟩⟩ w).mono fun e w' he => ?_
 obtain ⟨rfl, rfl⟩ := he
 exact ⟨rfl, Mod.refl _ _⟩
theorem c_ib (w : World) (s : Str) (b : UInt8) : Calls Tryz.prog 100 [S s, .int .u8 (b.toNat : Int)].toArray w (Ret fun u w' => u = .int .i64 (Lib.indexByte s b) ∧ Mod [] w w') := by
 refine (Tryz.strings_IndexByte ⟨⟨s⟩⟩ (b.toNat : Int) w).mono fun e w' he => ?_
 obtain ⟨rfl, rfl⟩ := he
 refine ⟨?_, Mod.refl _ _⟩
 have h1 : ((b.toNat : Int).toNat).toUInt8 = b := by rw [Int.toNat_natCast]; exact UInt8.ofNat_toNat
 rw [h1]
end Go.Proofs.YtknndpjacklkeaaGreatDoor.V
