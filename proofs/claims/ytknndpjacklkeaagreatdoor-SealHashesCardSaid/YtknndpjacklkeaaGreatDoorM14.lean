/-
  A part of the proof: letters that stand for bytes: their numbers, whether they stand for bytes, in plain Lean. No condition of its own.
-/
import Derived.Test.YtknndpjacklkeaaGreatDoorM12
import Derived.Test.YtknndpjacklkeaaGreatDoorM13
import Derived.Test.YtknndpjacklkeaaGreatDoorM4
set_option linter.unusedVariables false
set_option linter.unusedSimpArgs false
namespace Go.Proofs.YtknndpjacklkeaaGreatDoor.V
open Go
def l62 (url : Bool) (c : Nat) : Bool := (decide ((c : Int) = 43) && !url) || (decide ((c : Int) = 45) && url)
def l63 (url : Bool) (c : Nat) : Bool := (decide ((c : Int) = 47) && !url) || (decide ((c : Int) = 95) && url)
def lv (url : Bool) (c : Nat) : Option Nat :=
  if kG c = true then some (c - 65) else if kS c = true then some (c - 97 + 26) else if kD c = true then some (c - 48 + 52) else if l62 url c = true then some 62 else if l63 url c = true then some 63 else none
def letB (url : Bool) (n : Nat) : Nat := if n < 26 then 65 + n else if n < 52 then 97 + (n - 26) else if n < 62 then 48 + (n - 52) else if url = true then (if n = 62 then 45 else 95) else if n = 62 then 43 else 47
theorem lv_hi (url : Bool) (c : Nat) (h : 128 ≤ c) : lv url c = none := by
  unfold lv kG kS kD l62 l63
  simp only [Bool.or_eq_true, Bool.and_eq_true, decide_eq_true_eq]
  rw [if_neg (by omega), if_neg (by omega), if_neg (by omega), if_neg (by omega), if_neg (by omega)]
theorem lv_lt {url : Bool} {c x : Nat} (h : lv url c = some x) : x < 64 := by
  unfold lv kG kS kD at h
  simp only [Bool.and_eq_true, decide_eq_true_eq] at h
  split at h
  · injection h with h; omega
  · split at h
    · injection h with h; omega
    · split at h
      · injection h with h; omega
      · split at h
        · injection h with h; omega
        · split at h
          · injection h with h; omega
          · cases h
theorem letB_lv : ∀ url : Bool, ∀ b : Fin 128, ∀ x, lv url b.val = some x → letB url x = b.val := by
  have : ∀ url : Bool, ∀ b : Fin 128, (match lv url b.val with | some x => letB url x == b.val | none => true) = true := by decide +kernel
  intro url b x h
  have := this url b
  rw [h] at this
  simpa using this
theorem lv_letB : ∀ url : Bool, ∀ x : Fin 64, lv url (letB url x.val) = some x.val := by decide +kernel
theorem lv_find {url : Bool} {b n : Nat} (hn : n < 64) (h : letB url n = b) : lv url b = some n := by
  rw [← h]
  exact lv_letB url ⟨n, hn⟩
theorem lv_not {url : Bool} {b : Nat} (h : ∀ y, y < 64 → letB url y ≠ b) : lv url b = none := by
  cases hx : lv url b with
  | none => rfl
  | some x =>
    exfalso
    have hb : b < 128 := by
      rcases Nat.lt_or_ge b 128 with h1 | h1
      · exact h1
      · rw [lv_hi url b h1] at hx; cases hx
    exact h x (lv_lt hx) (letB_lv url ⟨b, hb⟩ x hx)
def pw6 (k : Nat) : Nat := if k % 4 = 0 then 1 else if k % 4 = 1 then 64 else if k % 4 = 2 then 16 else 4
def rest (url : Bool) (s : Str) (k : Nat) : Nat := match k with
  | 0 => 0
  | k + 1 => ((lv url ((s.getD k 0).toNat)).getD 0) % pw6 (k + 1)
def decOK (url : Bool) (s : Str) : Bool := s.all (fun b => (lv url b.toNat).isSome) && !decide (((6 * s.length % 8 : Nat) : Int) ≥ 6) && !decide ((rest url s s.length : Int) ≠ 0)
theorem rest_succ {url : Bool} {s : Str} {k x : Nat} {b : UInt8} (h : s[k]? = some b) (hx : lv url b.toNat = some x) : rest url s (k + 1) = x % pw6 (k + 1) := by
  show ((lv url ((s.getD k 0).toNat)).getD 0) % pw6 (k + 1) = _
  rw [List.getD_eq_getElem?_getD, h]
  simp [hx]
theorem pw_pos (k : Nat) : 0 < pw6 k := by
  unfold pw6
  repeat' split
  all_goals omega
theorem pw_le (k : Nat) : pw6 k ≤ 64 := by
  unfold pw6
  repeat' split
  all_goals omega
theorem rest_lt (url : Bool) (s : Str) (k : Nat) : rest url s k < 64 := by
  cases k with
  | zero => show 0 < 64; omega
  | succ k =>
    have h1 : rest url s (k + 1) < pw6 (k + 1) := Nat.mod_lt _ (pw_pos _)
    have := pw_le (k + 1)
    omega
theorem rest_zero {url : Bool} {s : Str} {k : Nat} (h : k % 4 = 0) : rest url s k = 0 := by
  cases k with
  | zero => rfl
  | succ k =>
    show _ % pw6 (k + 1) = 0
    have : pw6 (k + 1) = 1 := by unfold pw6; rw [if_pos h]
    rw [this, Nat.mod_one]
theorem dec_no {url : Bool} {s : Str} {k : Nat} {b : UInt8} (h : s[k]? = some b) (hb : lv url b.toNat = none) : decOK url s = false := by
  unfold decOK
  have : s.all (fun b => (lv url b.toNat).isSome) = false := by
    rw [List.all_eq_false]
    exact ⟨b, List.mem_of_getElem? h, by simp [hb]⟩
  rw [this]
  rfl
/-! ### the words -/
theorem or64 {h x : Nat} (hh : h < 64) (hx : x < 64) : IntKind.u64.wrap (BitVec.ofInt IntKind.u64.bits ((h * 64 : Nat) : Int) ||| BitVec.ofInt IntKind.u64.bits (x : Int)).toNat = ((h * 64 + x : Nat) : Int) := by
  have : ∀ h x : Fin 64, IntKind.u64.wrap (BitVec.ofInt IntKind.u64.bits ((h.val * 64 : Nat) : Int) ||| BitVec.ofInt IntKind.u64.bits (x.val : Int)).toNat = ((h.val * 64 + x.val : Nat) : Int) := by decide +kernel
  exact this ⟨h, hh⟩ ⟨x, hx⟩
theorem and_m {m : Nat} (hm : m < 4096) {q : Nat} (hq : q = 1 ∨ q = 4 ∨ q = 16 ∨ q = 64) : IntKind.u64.wrap (BitVec.ofInt IntKind.u64.bits (m : Int) &&& BitVec.ofInt IntKind.u64.bits ((q - 1 : Nat) : Int)).toNat = ((m % q : Nat) : Int) := by
  have e1 : ∀ z : Nat, z < 4096 → BitVec.ofInt IntKind.u64.bits (z : Int) = BitVec.ofNat 64 z := fun z _ => rfl
  rw [e1 m hm, e1 (q - 1) (by omega)]
  have h2 : ((BitVec.ofNat 64 m &&& BitVec.ofNat 64 (q - 1)).toNat) = m % q := by
    rw [BitVec.toNat_and, BitVec.toNat_ofNat, BitVec.toNat_ofNat, Nat.mod_eq_of_lt (by omega), Nat.mod_eq_of_lt (by omega)]
    rcases hq with rfl | rfl | rfl | rfl
    · simp [Nat.mod_one]
    · exact Nat.and_two_pow_sub_one_eq_mod m 2
    · exact Nat.and_two_pow_sub_one_eq_mod m 4
    · exact Nat.and_two_pow_sub_one_eq_mod m 6
  have : m % q ≤ m := Nat.mod_le _ _
  refine (congrArg (fun n : Nat => IntKind.u64.wrap (n : Int)) h2).trans ?_
  show ((m % q : Nat) : Int) % 18446744073709551616 = _
  exact Int.emod_eq_of_lt (by omega) (by omega)
theorem pw_or (k : Nat) : pw6 k = 1 ∨ pw6 k = 4 ∨ pw6 k = 16 ∨ pw6 k = 64 := by
  unfold pw6
  repeat' split
  all_goals simp
theorem mod_pw (h x k : Nat) : (h * 64 + x) % pw6 k = x % pw6 k := by
  rcases pw_or k with e | e | e | e <;> rw [e] <;> omega
theorem wrapi32_in (z : Int) (h : -2147483648 ≤ z ∧ z ≤ 2147483647) : IntKind.i32.wrap z = z := by
  rw [IntKind.wrap_i32 z]
  omega
theorem shl6 {h : Nat} (hh : h < 64) : IntKind.u64.wrap ((h : Int) * 2 ^ (min (6 : Int).toNat IntKind.u64.bits)) = ((h * 64 : Nat) : Int) := by
  have : (2 : Int) ^ (min (6 : Int).toNat IntKind.u64.bits) = 64 := by decide
  rw [this, wrapu64_in _ (by omega)]
  omega
theorem shl_pw {k m : Nat} (hm : m = 6 * k % 8) : IntKind.u64.wrap ((1 : Int) * 2 ^ (min (m : Int).toNat IntKind.u64.bits)) = (pw6 k : Int) := by
  have h4 : k % 4 = 0 ∨ k % 4 = 1 ∨ k % 4 = 2 ∨ k % 4 = 3 := by omega
  rcases h4 with h | h | h | h
  · obtain rfl : m = 0 := by omega
    unfold pw6; rw [if_pos h]; decide
  · obtain rfl : m = 6 := by omega
    unfold pw6; rw [if_neg (by omega), if_pos h]; decide
  · obtain rfl : m = 4 := by omega
    unfold pw6; rw [if_neg (by omega), if_neg (by omega), if_pos h]; decide
  · obtain rfl : m = 2 := by omega
    unfold pw6; rw [if_neg (by omega), if_neg (by omega), if_neg (by omega)]; decide
theorem u8_ex (z : Int) : ∃ c : UInt8, IntKind.u8.wrap z = (c.toNat : Int) := by
  have h1 : IntKind.u8.wrap z = z % 256 := rfl
  refine ⟨UInt8.ofNat (z % 256).toNat, ?_⟩
  rw [h1, UInt8.toNat_ofNat_of_lt' (by have : (z % 256).toNat < 256 := by omega
                                       exact this)]
  omega
theorem own_byte {w : World} {v : Value} {bs : Str} {n : Nat} {z : Int} (h : Own w 5 1 v n ((bs.map b8c).flatten ++ [.int .u8 (IntKind.u8.wrap z)])) (hn : n = bs.length + 1) : ∃ cb, OwB w v (bs ++ [cb]) := by
  obtain ⟨c, hc⟩ := u8_ex z
  refine ⟨c, h.same (by rw [hn]; simp) ?_⟩
  rw [hc]
  simp [cells_b8, B8]
theorem own_set {w : World} {v : Value} {bs : Str} {n i : Nat} {z : Int} (h : Own w 5 1 v n (((bs.map b8c).flatten).set i (.int .u8 (IntKind.u8.wrap z)))) : ∃ cb, Own w 5 1 v n (((bs.set i cb).map b8c).flatten) := by
  obtain ⟨c, hc⟩ := u8_ex z
  refine ⟨c, h.same rfl ?_⟩
  rw [hc, cells_b8, cells_b8, List.map_set]
  rfl
theorem own_at {w : World} {ad : Addr} {bs : Str} {n m i : Nat} {b : UInt8} (h : Own w 5 1 (.slice (some ad) n m) n ((bs.map b8c).flatten)) (hb : bs[i]? = some b) : w.cell? (ad.add (i * 1)) = some (.int .u8 (b.toNat : Int)) := by
  rw [Nat.mul_one]
  refine h.cs i _ ?_
  rw [cells_b8, List.getElem?_map, hb]
  rfl
theorem and1 {m : Nat} (h : m < 64) : IntKind.i64.wrap (BitVec.ofInt IntKind.i64.bits (m : Int) &&& BitVec.ofInt IntKind.i64.bits 1).toNat = ((m % 2 : Nat) : Int) := by
  have : ∀ m : Fin 64, IntKind.i64.wrap (BitVec.ofInt IntKind.i64.bits (m.val : Int) &&& BitVec.ofInt IntKind.i64.bits 1).toNat = ((m.val % 2 : Nat) : Int) := by decide +kernel
  exact this ⟨m, h⟩
theorem shr64 {n e : Nat} (he : e ≤ 63) : (n : Int).fdiv (2 ^ (min (e : Int).toNat IntKind.i64.bits)) = ((n / 2 ^ e : Nat) : Int) := by
  have h1 : min (e : Int).toNat IntKind.i64.bits = e := by
    show min e 64 = e
    omega
  rw [h1, Int.fdiv_eq_ediv_of_nonneg _ (by exact_mod_cast Nat.zero_le (2 ^ e)), Int.natCast_ediv]
  norm_cast
theorem bits_zero {n q : Nat} (hn : n < 64) : ∀ k, k % 4 = q → (∀ j, j < 6 * k % 8 → n / 2 ^ j % 2 = 0) → n % pw6 k = 0 := by
  intro k hk h
  have h4 : k % 4 = 0 ∨ k % 4 = 1 ∨ k % 4 = 2 ∨ k % 4 = 3 := by omega
  unfold pw6
  rcases h4 with h5 | h5 | h5 | h5
  · rw [if_pos h5, Nat.mod_one]
  · rw [if_neg (by omega), if_pos h5]
    have a0 := h 0 (by omega); have a1 := h 1 (by omega); have a2 := h 2 (by omega); have a3 := h 3 (by omega); have a4 := h 4 (by omega); have a5 := h 5 (by omega)
    simp only [Nat.pow_zero, Nat.pow_succ, Nat.pow_one, Nat.div_one, Nat.one_mul, Nat.reduceMul] at a0 a1 a2 a3 a4 a5
    omega
  · rw [if_neg (by omega), if_neg (by omega), if_pos h5]
    have a0 := h 0 (by omega); have a1 := h 1 (by omega); have a2 := h 2 (by omega); have a3 := h 3 (by omega)
    simp only [Nat.pow_zero, Nat.pow_succ, Nat.pow_one, Nat.div_one, Nat.one_mul, Nat.reduceMul] at a0 a1 a2 a3
    omega
  · rw [if_neg (by omega), if_neg (by omega), if_neg (by omega)]
    have a0 := h 0 (by omega); have a1 := h 1 (by omega)
    simp only [Nat.pow_zero, Nat.pow_succ, Nat.pow_one, Nat.div_one, Nat.one_mul, Nat.reduceMul] at a0 a1
    omega
theorem bit_one {n k j : Nat} (hj : j < 6 * k % 8) (h : n / 2 ^ j % 2 ≠ 0) : n % pw6 k ≠ 0 := by
  intro hz
  have h4 : k % 4 = 0 ∨ k % 4 = 1 ∨ k % 4 = 2 ∨ k % 4 = 3 := by omega
  have hj6 : j < 6 := by omega
  unfold pw6 at hz
  rcases h4 with h5 | h5 | h5 | h5
  · omega
  · rw [if_neg (by omega), if_pos h5] at hz
    have : j = 0 ∨ j = 1 ∨ j = 2 ∨ j = 3 ∨ j = 4 ∨ j = 5 := by omega
    rcases this with rfl | rfl | rfl | rfl | rfl | rfl <;> simp only [Nat.pow_zero, Nat.pow_succ, Nat.pow_one, Nat.div_one, Nat.one_mul, Nat.reduceMul] at h <;> omega
  · rw [if_neg (by omega), if_neg (by omega), if_pos h5] at hz
    have : j = 0 ∨ j = 1 ∨ j = 2 ∨ j = 3 := by omega
    rcases this with rfl | rfl | rfl | rfl <;> simp only [Nat.pow_zero, Nat.pow_succ, Nat.pow_one, Nat.div_one, Nat.one_mul, Nat.reduceMul] at h <;> omega
  · rw [if_neg (by omega), if_neg (by omega), if_neg (by omega)] at hz
    have : j = 0 ∨ j = 1 := by omega
    rcases this with rfl | rfl <;> simp only [Nat.pow_zero, Nat.pow_succ, Nat.pow_one, Nat.div_one, Nat.one_mul, Nat.reduceMul] at h <;> omega
theorem dec_rest {url : Bool} {s : Str} (h : rest url s s.length ≠ 0) : decOK url s = false := by
  unfold decOK
  rw [show decide ((rest url s s.length : Int) ≠ 0) = true from decide_eq_true (by omega)]
  simp
theorem rest_last {url : Bool} {s : Str} {i n : Nat} {b : UInt8} (hb : s[i]? = some b) (hn : lv url b.toNat = some n) (hz : ∀ k, k < 6 → 8 * (s.length * 6 / 8) ≤ 6 * i + k → n / 2 ^ (5 - k) % 2 = 0) : i + 1 = s.length → rest url s (i + 1) = 0 := by
  intro hi
  rw [rest_succ hb hn]
  refine bits_zero (lv_lt hn) (i + 1) rfl fun j hj => ?_
  have := hz (5 - j) (by omega) (by omega)
  rwa [show 5 - (5 - j) = j by omega] at this
theorem rest_bad {url : Bool} {s : Str} {i n k : Nat} {b : UInt8} (hb : s[i]? = some b) (hn : lv url b.toNat = some n) (hk : k < 6) (h8 : s.length * 6 / 8 ≤ (6 * i + k) / 8) (hz : n / 2 ^ (5 - k) % 2 ≠ 0) : decOK url s = false := by
  have hlt := (List.getElem?_eq_some_iff.1 hb).1
  have hi : i + 1 = s.length := by omega
  refine dec_rest ?_
  rw [← hi, rest_succ hb hn]
  exact bit_one (j := 5 - k) (by omega) hz
def DecR (w w' : World) (url : Bool) (s : Str) (u : Value) : Prop := ∃ v bs o, u = .tuple #[v, .bool o] ∧ o = decOK url s ∧ OwB w' v bs ∧ bs.length = (if decOK url s = true then s.length * 6 / 8 else 0) ∧ ∀ x ∈ ob v, w.heap.size ≤ x
theorem DecR.no {w w' : World} {url : Bool} {s : Str} (h : decOK url s = false) : DecR w w' url s (.tuple #[.slice none 0 0, .bool false]) := ⟨_, [], _, rfl, h.symm, Own.nil _ 5 1, by rw [h]; rfl, by simp [ob]⟩
theorem DecR.yes {w w' : World} {url : Bool} {s bs : Str} {v : Value} (h : decOK url s = true) (O : OwB w' v bs) (hl : bs.length = s.length * 6 / 8) (L : ∀ x ∈ ob v, w.heap.size ≤ x) : DecR w w' url s (.tuple #[v, .bool true]) := ⟨_, bs, _, rfl, h.symm, O, by rw [h, hl]; rfl, L⟩
def eventB (s : Str) : Bool := decide (s.head? = some 36) && decOK true (s.drop 1) && decide ((s.drop 1).length * 6 / 8 = 32)
def bytesB (s : Str) (n : Nat) : Bool := decOK false s && decide (s.length * 6 / 8 = n)
end Go.Proofs.YtknndpjacklkeaaGreatDoor.V

set_option linter.unusedVariables false
set_option linter.unusedSimpArgs false
set_option maxRecDepth 10000
namespace Go.Proofs.YtknndpjacklkeaaGreatDoor.V
open Go Go.Proofs
theorem ent195 : Ent Tryz.prog 195 := Ent.of Tryz.func195 (by kernel_rfl) (by kernel_rfl)
theorem c_value (w : World) (url : Bool) (c : Nat) (hc : c ≤ 1114111) : Calls Tryz.prog 195 [.int .i32 (c : Int), .bool url].toArray w (Ret fun u w' => u = .tuple #[.int .u64 (((lv url c).getD 0 : Nat) : Int), .bool (lv url c).isSome] ∧ Mod [] w w') := by
 refine enter Tryz.func195 rfl rfl rfl (l := [(0, _), (1, _)]) ⟨rfl, rfl, trivial⟩ ?_
 have E := Mod.refl [] w
 refine Cq fun K1 hK1 => Cr (tW 2 rfl (Ln (e_K (hK1 _ _ _ _ (Cq fun K2 hK2 => cB (Cq fun K3 hK3 => ?_))))))
 have J3 : ∀  (w1 : World), True ∧ Mod [] w w1 → ∀ a, Has 62 [] [(0, .int .i32 (c : Int)), (1, .bool url), (6, .bool (kG c))] a → K3 a w1 := by
  intro  w1 hI
  obtain ⟨_, E⟩ := hI
  refine hK3 _ _ _ _ ?_
  refine c_cond rfl (fun h6 => ?_) (fun h6 => ?_)
  ·refine Cq fun K4 hK4 => Cr (Zm rfl ?_)
   have hr : 65 ≤ c ∧ c ≤ 90 := by simp [kG] at h6; omega
   exact Sv ((o_sub rfl rfl).to (v' := .int .i32 ((c - 65 : Nat) : Int)) (by rw [wrapi32_in _ (by omega)]; congr 1; omega)) (Sv (o_convN Tryz.underlying21 Tryz.underlying182 rfl (wrapu64_in _ (by omega))) (tW 2 rfl (Ln (e_K (hK4 _ _ _ _ (cR (eI (by simp) (eT (by simp) (ret2 rfl rfl rfl ⟨by rw [show lv url c = some (c - 65) by rw [lv, if_pos h6]]; rfl, E⟩)))))))))
  ·refine Cq fun K5 hK5 => ?_
   have J5 : ∀  (w1 : World), True ∧ Mod [] w w1 → ∀ a, Has 62 [] [(0, .int .i32 (c : Int)), (1, .bool url), (16, .bool (kS c))] a → K5 a w1 := by
    intro  w2 hI
    obtain ⟨_, E⟩ := hI
    refine hK5 _ _ _ _ ?_
    refine c_cond rfl (fun h16 => ?_) (fun h16 => ?_)
    ·refine Cq fun K6 hK6 => Cr (Zm rfl ?_)
     have hr : 97 ≤ c ∧ c ≤ 122 := by simp [kS] at h16; omega
     exact Sv ((o_sub rfl rfl).to (v' := .int .i32 ((c - 97 : Nat) : Int)) (by rw [wrapi32_in _ (by omega)]; congr 1; omega)) (Sv (o_convN Tryz.underlying21 Tryz.underlying182 rfl (wrapu64_in _ (by omega))) (Sv ((o_add rfl rfl).to (v' := .int .u64 ((c - 97 + 26 : Nat) : Int)) (by rw [wrapu64_in _ (by omega)]; rfl)) (tW 2 rfl (Ln (e_K (hK6 _ _ _ _ (cR (eI (by simp) (eT (by simp) (ret2 rfl rfl rfl ⟨by rw [show lv url c = some (c - 97 + 26) by rw [lv, if_neg (by simp [h6]), if_pos h16]]; rfl, E⟩))))))))))
    ·refine Cq fun K7 hK7 => ?_
     have J7 : ∀  (w1 : World), True ∧ Mod [] w w1 → ∀ a, Has 62 [] [(0, .int .i32 (c : Int)), (1, .bool url), (27, .bool (kD c))] a → K7 a w1 := by
      intro  w3 hI
      obtain ⟨_, E⟩ := hI
      refine hK7 _ _ _ _ ?_
      refine c_cond rfl (fun h27 => ?_) (fun h27 => ?_)
      ·refine Cq fun K8 hK8 => Cr (Zm rfl ?_)
       have hr : 48 ≤ c ∧ c ≤ 57 := by simp [kD] at h27; omega
       exact Sv ((o_sub rfl rfl).to (v' := .int .i32 ((c - 48 : Nat) : Int)) (by rw [wrapi32_in _ (by omega)]; congr 1; omega)) (Sv (o_convN Tryz.underlying21 Tryz.underlying182 rfl (wrapu64_in _ (by omega))) (Sv ((o_add rfl rfl).to (v' := .int .u64 ((c - 48 + 52 : Nat) : Int)) (by rw [wrapu64_in _ (by omega)]; rfl)) (tW 2 rfl (Ln (e_K (hK8 _ _ _ _ (cR (eI (by simp) (eT (by simp) (ret2 rfl rfl rfl ⟨by rw [show lv url c = some (c - 48 + 52) by rw [lv, if_neg (by simp [h6]), if_neg (by simp [h16]), if_pos h27]]; rfl, E⟩))))))))))
      ·refine Cq fun K9 hK9 => ?_
       have J9 : ∀ (x : Bool) (w1 : World), x = l62 url c ∧ Mod [] w w1 → ∀ a, Has 62 [] [(0, .int .i32 (c : Int)), (1, .bool url), (38, .bool x)] a → K9 a w1 := by
        intro x w4 hI
        obtain ⟨hx38, E⟩ := hI
        refine hK9 _ _ _ _ ?_
        refine c_cond rfl (fun h38 => ?_) (fun h38 => ?_)
        ·exact Cq fun K10 hK10 => Cr (tW 2 rfl (Ln (e_K (hK10 _ _ _ _ (cR (eI (by simp) (eT (by simp) (ret2 rfl rfl rfl ⟨by rw [show lv url c = some 62 by rw [lv, if_neg (by simp [h6]), if_neg (by simp [h16]), if_neg (by simp [h27]), if_pos (hx38.symm.trans h38)]]; rfl, E⟩))))))))
        ·refine Cq fun K11 hK11 => ?_
         have J11 : ∀ (x : Bool) (w1 : World), x = l63 url c ∧ Mod [] w w1 → ∀ a, Has 62 [] [(0, .int .i32 (c : Int)), (1, .bool url), (50, .bool x)] a → K11 a w1 := by
          intro x w5 hI
          obtain ⟨hx50, E⟩ := hI
          refine hK11 _ _ _ _ ?_
          refine c_cond rfl (fun h50 => ?_) (fun h50 => ?_)
          ·exact Cq fun K12 hK12 => Cr (tW 2 rfl (Ln (e_K (hK12 _ _ _ _ (cR (eI (by simp) (eT (by simp) (ret2 rfl rfl rfl ⟨by rw [show lv url c = some 63 by rw [lv, if_neg (by simp [h6]), if_neg (by simp [h16]), if_neg (by simp [h27]), if_neg (by rw [← hx38, h38]; simp), if_pos (hx50.symm.trans h50)]]; rfl, E⟩))))))))
          ·exact cK (eI (by simp) (e_K (hK2 _ _ _ _ (Cq fun K13 hK13 => Cr (tW 2 rfl (Ln (e_K (hK13 _ _ _ _ (cR (ret2 rfl rfl rfl ⟨by rw [show lv url c = none by rw [lv, if_neg (by simp [h6]), if_neg (by simp [h16]), if_neg (by simp [h27]), if_neg (by rw [← hx38, h38]; simp), if_neg (by rw [← hx50, h50]; simp)]]; rfl, E⟩))))))))))
         refine Cq fun K14 hK14 => ?_
         have J14 : ∀  (w1 : World), True ∧ Mod [] w w1 → ∀ a, Has 62 [] [(0, .int .i32 (c : Int)), (1, .bool url), (50, .bool (decide ((c : Int) = 47) && !url))] a → K14 a w1 := by
          intro  w6 hI
          obtain ⟨_, E⟩ := hI
          refine hK14 _ _ _ _ ?_
          refine c_cond rfl (fun h50 => ?_) (fun h50 => ?_)
          ·refine cK ?_
           refine WE.sub (l' := [(0, _), (1, _), (50, _)]) ⟨rfl, rfl, rfl, trivial⟩ (e_K (J11 (decide ((c : Int) = 47) && !url) w6 ⟨(by rw [l63, h50, Bool.true_or]), E⟩))
          ·refine Cr (tW 2 rfl ?_)
           refine bD (fun hk0 : (c : Int) = 95 => ?_) (fun hk0 => ?_)
           ·refine tW 4 rfl (Ln ?_)
            refine WE.sub (l' := [(0, _), (1, _), (50, _)]) ⟨rfl, rfl, rfl, trivial⟩ (e_K (J11 url w6 ⟨(by rw [l63, h50]; simp only [dT hk0, Bool.true_and, Bool.and_true, Bool.false_and, Bool.and_false, Bool.true_or, Bool.or_true, Bool.false_or, Bool.or_false, Bool.not_true, Bool.not_false]), E⟩))
           ·refine tW 4 rfl (Ln ?_)
            refine WE.sub (l' := [(0, _), (1, _), (50, _)]) ⟨rfl, rfl, rfl, trivial⟩ (e_K (J11 false w6 ⟨(by rw [l63, h50]; simp only [dF hk0, Bool.true_and, Bool.and_true, Bool.false_and, Bool.and_false, Bool.true_or, Bool.or_true, Bool.false_or, Bool.or_false, Bool.not_true, Bool.not_false]), E⟩))
         refine Cr (tW 2 rfl ?_)
         refine bD (fun hk0 : (c : Int) = 47 => ?_) (fun hk0 => ?_)
         ·refine tW 3 rfl ?_
          refine bB (fun hk1 : (!url) = true => ?_) (fun hk1 => ?_)
          ·refine Sv (oT rfl rfl rfl) (Sv ((o_as rfl).to (v' := .bool (decide ((c : Int) = 47) && !url)) (congrArg Value.bool (by simp only [dT hk0, hk1, Bool.true_and, Bool.and_true, Bool.false_and, Bool.and_false, Bool.true_or, Bool.or_true, Bool.false_or, Bool.or_false, Bool.not_true, Bool.not_false]))) (Ln ?_))
           refine WE.sub (l' := [(0, _), (1, _), (50, _)]) ⟨rfl, rfl, rfl, trivial⟩ (e_K (J14  w4 ⟨trivial, E⟩))
          ·refine Sv (oT rfl rfl rfl) (Sv ((o_as rfl).to (v' := .bool (decide ((c : Int) = 47) && !url)) (congrArg Value.bool (by simp only [dT hk0, bF hk1, Bool.true_and, Bool.and_true, Bool.false_and, Bool.and_false, Bool.true_or, Bool.or_true, Bool.false_or, Bool.or_false, Bool.not_true, Bool.not_false]))) (Ln ?_))
           refine WE.sub (l' := [(0, _), (1, _), (50, _)]) ⟨rfl, rfl, rfl, trivial⟩ (e_K (J14  w4 ⟨trivial, E⟩))
         ·refine tW 4 rfl (Sv ((o_as rfl).to (v' := .bool (decide ((c : Int) = 47) && !url)) (congrArg Value.bool (by simp only [dF hk0, Bool.true_and, Bool.and_true, Bool.false_and, Bool.and_false, Bool.true_or, Bool.or_true, Bool.false_or, Bool.or_false, Bool.not_true, Bool.not_false]))) (Ln ?_))
          refine WE.sub (l' := [(0, _), (1, _), (50, _)]) ⟨rfl, rfl, rfl, trivial⟩ (e_K (J14  w4 ⟨trivial, E⟩))
       refine Cq fun K15 hK15 => ?_
       have J15 : ∀  (w1 : World), True ∧ Mod [] w w1 → ∀ a, Has 62 [] [(0, .int .i32 (c : Int)), (1, .bool url), (38, .bool (decide ((c : Int) = 43) && !url))] a → K15 a w1 := by
        intro  w7 hI
        obtain ⟨_, E⟩ := hI
        refine hK15 _ _ _ _ ?_
        refine c_cond rfl (fun h38 => ?_) (fun h38 => ?_)
        ·refine cK ?_
         refine WE.sub (l' := [(0, _), (1, _), (38, _)]) ⟨rfl, rfl, rfl, trivial⟩ (e_K (J9 (decide ((c : Int) = 43) && !url) w7 ⟨(by rw [l62, h38, Bool.true_or]), E⟩))
        ·refine Cr (tW 2 rfl ?_)
         refine bD (fun hk0 : (c : Int) = 45 => ?_) (fun hk0 => ?_)
         ·refine tW 4 rfl (Ln ?_)
          refine WE.sub (l' := [(0, _), (1, _), (38, _)]) ⟨rfl, rfl, rfl, trivial⟩ (e_K (J9 url w7 ⟨(by rw [l62, h38]; simp only [dT hk0, Bool.true_and, Bool.and_true, Bool.false_and, Bool.and_false, Bool.true_or, Bool.or_true, Bool.false_or, Bool.or_false, Bool.not_true, Bool.not_false]), E⟩))
         ·refine tW 4 rfl (Ln ?_)
          refine WE.sub (l' := [(0, _), (1, _), (38, _)]) ⟨rfl, rfl, rfl, trivial⟩ (e_K (J9 false w7 ⟨(by rw [l62, h38]; simp only [dF hk0, Bool.true_and, Bool.and_true, Bool.false_and, Bool.and_false, Bool.true_or, Bool.or_true, Bool.false_or, Bool.or_false, Bool.not_true, Bool.not_false]), E⟩))
       refine Cr (tW 2 rfl ?_)
       refine bD (fun hk0 : (c : Int) = 43 => ?_) (fun hk0 => ?_)
       ·refine tW 3 rfl ?_
        refine bB (fun hk1 : (!url) = true => ?_) (fun hk1 => ?_)
        ·refine Sv (oT rfl rfl rfl) (Sv ((o_as rfl).to (v' := .bool (decide ((c : Int) = 43) && !url)) (congrArg Value.bool (by simp only [dT hk0, hk1, Bool.true_and, Bool.and_true, Bool.false_and, Bool.and_false, Bool.true_or, Bool.or_true, Bool.false_or, Bool.or_false, Bool.not_true, Bool.not_false]))) (Ln ?_))
         refine WE.sub (l' := [(0, _), (1, _), (38, _)]) ⟨rfl, rfl, rfl, trivial⟩ (e_K (J15  w3 ⟨trivial, E⟩))
        ·refine Sv (oT rfl rfl rfl) (Sv ((o_as rfl).to (v' := .bool (decide ((c : Int) = 43) && !url)) (congrArg Value.bool (by simp only [dT hk0, bF hk1, Bool.true_and, Bool.and_true, Bool.false_and, Bool.and_false, Bool.true_or, Bool.or_true, Bool.false_or, Bool.or_false, Bool.not_true, Bool.not_false]))) (Ln ?_))
         refine WE.sub (l' := [(0, _), (1, _), (38, _)]) ⟨rfl, rfl, rfl, trivial⟩ (e_K (J15  w3 ⟨trivial, E⟩))
       ·refine tW 4 rfl (Sv ((o_as rfl).to (v' := .bool (decide ((c : Int) = 43) && !url)) (congrArg Value.bool (by simp only [dF hk0, Bool.true_and, Bool.and_true, Bool.false_and, Bool.and_false, Bool.true_or, Bool.or_true, Bool.false_or, Bool.or_false, Bool.not_true, Bool.not_false]))) (Ln ?_))
        refine WE.sub (l' := [(0, _), (1, _), (38, _)]) ⟨rfl, rfl, rfl, trivial⟩ (e_K (J15  w3 ⟨trivial, E⟩))
     refine Cr (Zm rfl (Sv (o_geq rfl rfl) ?_))
     refine bD (fun hk0 : 48 ≤ (c : Int) => ?_) (fun hk0 => ?_)
     ·refine tW 3 rfl ?_
      refine bD (fun hk1 : (c : Int) ≤ 57 => ?_) (fun hk1 => ?_)
      ·refine Sv (oT rfl rfl rfl) (Sv ((o_as rfl).to (v' := .bool (kD c)) (congrArg Value.bool (by simp only [kD, dT hk0, dT hk1, Bool.true_and, Bool.and_true, Bool.false_and, Bool.and_false, Bool.true_or, Bool.or_true, Bool.false_or, Bool.or_false, Bool.not_true, Bool.not_false]))) (Ln ?_))
       refine WE.sub (l' := [(0, _), (1, _), (27, _)]) ⟨rfl, rfl, rfl, trivial⟩ (e_K (J7  w2 ⟨trivial, E⟩))
      ·refine Sv (oT rfl rfl rfl) (Sv ((o_as rfl).to (v' := .bool (kD c)) (congrArg Value.bool (by simp only [kD, dT hk0, dF hk1, Bool.true_and, Bool.and_true, Bool.false_and, Bool.and_false, Bool.true_or, Bool.or_true, Bool.false_or, Bool.or_false, Bool.not_true, Bool.not_false]))) (Ln ?_))
       refine WE.sub (l' := [(0, _), (1, _), (27, _)]) ⟨rfl, rfl, rfl, trivial⟩ (e_K (J7  w2 ⟨trivial, E⟩))
     ·refine tW 4 rfl (Sv ((o_as rfl).to (v' := .bool (kD c)) (congrArg Value.bool (by simp only [kD, dF hk0, Bool.true_and, Bool.and_true, Bool.false_and, Bool.and_false, Bool.true_or, Bool.or_true, Bool.false_or, Bool.or_false, Bool.not_true, Bool.not_false]))) (Ln ?_))
      refine WE.sub (l' := [(0, _), (1, _), (27, _)]) ⟨rfl, rfl, rfl, trivial⟩ (e_K (J7  w2 ⟨trivial, E⟩))
   refine Cr (Zm rfl (Sv (o_geq rfl rfl) ?_))
   refine bD (fun hk0 : 97 ≤ (c : Int) => ?_) (fun hk0 => ?_)
   ·refine tW 3 rfl ?_
    refine bD (fun hk1 : (c : Int) ≤ 122 => ?_) (fun hk1 => ?_)
    ·refine Sv (oT rfl rfl rfl) (Sv ((o_as rfl).to (v' := .bool (kS c)) (congrArg Value.bool (by simp only [kS, dT hk0, dT hk1, Bool.true_and, Bool.and_true, Bool.false_and, Bool.and_false, Bool.true_or, Bool.or_true, Bool.false_or, Bool.or_false, Bool.not_true, Bool.not_false]))) (Ln ?_))
     refine WE.sub (l' := [(0, _), (1, _), (16, _)]) ⟨rfl, rfl, rfl, trivial⟩ (e_K (J5  w1 ⟨trivial, E⟩))
    ·refine Sv (oT rfl rfl rfl) (Sv ((o_as rfl).to (v' := .bool (kS c)) (congrArg Value.bool (by simp only [kS, dT hk0, dF hk1, Bool.true_and, Bool.and_true, Bool.false_and, Bool.and_false, Bool.true_or, Bool.or_true, Bool.false_or, Bool.or_false, Bool.not_true, Bool.not_false]))) (Ln ?_))
     refine WE.sub (l' := [(0, _), (1, _), (16, _)]) ⟨rfl, rfl, rfl, trivial⟩ (e_K (J5  w1 ⟨trivial, E⟩))
   ·refine tW 4 rfl (Sv ((o_as rfl).to (v' := .bool (kS c)) (congrArg Value.bool (by simp only [kS, dF hk0, Bool.true_and, Bool.and_true, Bool.false_and, Bool.and_false, Bool.true_or, Bool.or_true, Bool.false_or, Bool.or_false, Bool.not_true, Bool.not_false]))) (Ln ?_))
    refine WE.sub (l' := [(0, _), (1, _), (16, _)]) ⟨rfl, rfl, rfl, trivial⟩ (e_K (J5  w1 ⟨trivial, E⟩))
 refine Cr (Zm rfl (Sv (o_geq rfl rfl) ?_))
 refine bD (fun hk0 : 65 ≤ (c : Int) => ?_) (fun hk0 => ?_)
 ·refine tW 3 rfl ?_
  refine bD (fun hk1 : (c : Int) ≤ 90 => ?_) (fun hk1 => ?_)
  ·refine Sv (oT rfl rfl rfl) (Sv ((o_as rfl).to (v' := .bool (kG c)) (congrArg Value.bool (by simp only [kG, dT hk0, dT hk1, Bool.true_and, Bool.and_true, Bool.false_and, Bool.and_false, Bool.true_or, Bool.or_true, Bool.false_or, Bool.or_false, Bool.not_true, Bool.not_false]))) (Ln ?_))
   refine WE.sub (l' := [(0, _), (1, _), (6, _)]) ⟨rfl, rfl, rfl, trivial⟩ (e_K (J3  w ⟨trivial, E⟩))
  ·refine Sv (oT rfl rfl rfl) (Sv ((o_as rfl).to (v' := .bool (kG c)) (congrArg Value.bool (by simp only [kG, dT hk0, dF hk1, Bool.true_and, Bool.and_true, Bool.false_and, Bool.and_false, Bool.true_or, Bool.or_true, Bool.false_or, Bool.or_false, Bool.not_true, Bool.not_false]))) (Ln ?_))
   refine WE.sub (l' := [(0, _), (1, _), (6, _)]) ⟨rfl, rfl, rfl, trivial⟩ (e_K (J3  w ⟨trivial, E⟩))
 ·refine tW 4 rfl (Sv ((o_as rfl).to (v' := .bool (kG c)) (congrArg Value.bool (by simp only [kG, dF hk0, Bool.true_and, Bool.and_true, Bool.false_and, Bool.and_false, Bool.true_or, Bool.or_true, Bool.false_or, Bool.or_false, Bool.not_true, Bool.not_false]))) (Ln ?_))
  refine WE.sub (l' := [(0, _), (1, _), (6, _)]) ⟨rfl, rfl, rfl, trivial⟩ (e_K (J3  w ⟨trivial, E⟩))

theorem c_decode (w : World) (s : Str) (url : Bool) (hs : s.length ≤ 140737488351232) : Calls Tryz.prog 167 [S s, .bool url].toArray w (Ret fun u w' => DecR w w' url s u ∧ Mod [] w w') := by
 refine enter Tryz.func167 rfl rfl rfl (l := [(0, _), (1, _)]) ⟨rfl, rfl, trivial⟩ ?_
 have E := Mod.refl [] w
 refine Cq fun K1 hK1 => Cr (tW 2 rfl (Ln (e_K (hK1 _ _ _ _ (Cq fun K2 hK2 => Cr (Za rfl (Ln (e_K (hK2 _ _ _ _ (Cq fun K3 hK3 => Cr (tW 2 rfl (Ln ?_))))))))))))
 refine e_K (hK3 _ _ _ _ (Cq fun K4 hK4 => Cq fun K5 hK5 => Cr (Zm rfl (s_range Tryz.underlying9 rfl rfl fun gi w1 IT hgi EI => ?_))))
 have Lgi : w.heap.size ≤ gi := by have := E.size; omega
 replace E := E.then EI
 refine Ln (e_K (hK5 _ _ _ _ (cB (c_loop (σ := Nat × Value × Str) (fun ⟨k, v, bs⟩ => [(0, S s), (1, .bool url), (6, v), (7, .int .u64 (rest url s k : Int)), (8, .int .i64 ((6 * k % 8 : Nat) : Int)), (14, .pointer (some ⟨gi, 0, none⟩))]) (fun ⟨k, v, bs⟩ w1 => k ≤ s.length ∧ (s.take k).all (fun b => (lv url b.toNat).isSome) = true ∧ It w1 gi s k ∧ OwB w1 v bs ∧ bs.length = 6 * k / 8 ∧ (∀ x ∈ ob v, w.heap.size ≤ x) ∧ (∀ x ∈ ob v, x ≠ gi) ∧ Mod [] w w1) (fun ⟨k, v, bs⟩ => s.length - k) (⟨0, .slice none 0 0, []⟩) ⟨rfl, rfl, rfl, rfl, rfl, rfl, trivial⟩ (⟨by omega, by simp, IT, Own.nil _ 5 1, rfl, by simp [ob], by simp [ob], E⟩) ?_))))
 rintro ⟨k, v, bs⟩ w2 ⟨hp, ha, IT, O, hbl, L0, DI, E⟩
 refine Cq fun K6 hK6 => ?_
 by_cases hplt : k < s.length
 ·obtain ⟨b, hb⟩ : ∃ b, s[k]? = some b := ⟨_, List.getElem?_eq_getElem hplt⟩
  have hbl8 := b.toNat_lt
  by_cases hbs : b.toNat < 128
  ·skip
   refine Cr (s_next rfl IT hplt (dec_lt hb hbs) rfl fun w3 IT2 EN hzN => ?_)
   replace E := E.trans' EN (fun x hx => .inr (by simp at hx; subst hx; exact Lgi))
   replace O := O.mod EN (fun x hx hm => DI x hx (by simpa using hm))
   clear IT
   have IT := IT2
   refine Sv (o_ext rfl rfl) (Ln (e_K (hK6 _ _ _ _ (Cq fun K7 hK7 => ?_))))
   refine c_cond rfl (fun h16 => ?_) (fun h16 => ?_)
   ·skip
    refine cK (e_K (hK7 _ _ _ _ (cB (Cq fun K8 hK8 => Cr (tW 2 rfl (Ln (e_K (hK8 _ _ _ _ (Cq fun K9 hK9 => Cr (tW 2 rfl (sc (oC ent195 rfl) (c_value _ url b.toNat (by omega)) rfl fun v_ w4 h_ => ?_)))))))))))
    obtain ⟨rfl, E_⟩ := h_
    replace IT := IT.mod0 E_
    replace E := E.then E_
    replace O := O.mod0 E_
    refine tW 5 rfl (Ln (e_K (hK9 _ _ _ _ (Cq fun K10 hK10 => Cq fun K11 hK11 => Cr (tW 2 rfl (Ln (e_K (hK11 _ _ _ _ ?_))))))))
    refine c_cond rfl (fun h25 => ?_) (fun h25 => ?_)
    ·have hD : decOK url s = false := dec_no hb (by simpa using h25)
     exact Cq fun K12 hK12 => Cr (tW 2 rfl (Ln (e_K (hK12 _ _ _ _ (cR (eT (by simp) (eI (by simp) (eT (by simp) (eI (by simp) (eT (by simp) (ret2 rfl rfl rfl ⟨DecR.no hD, E⟩)))))))))))
    ·obtain ⟨x, hx⟩ : ∃ x, lv url b.toNat = some x := Option.isSome_iff_exists.1 (by simpa using h25)
     have hxl := lv_lt hx
     refine cK (e_K (hK10 _ _ _ _ (Cq fun K13 hK13 => Cr ?_)))
     have hrl := rest_lt url s k
     refine Zm rfl (Sv ((o_shl rfl rfl (by omega)).to (v' := .int .u64 ((rest url s k * 64 : Nat) : Int)) (by rw [shl6 hrl])) (Sv ((oM rfl).to (v' := .int .u64 (x : Int)) (by rw [hx]; rfl)) (Sv ((o_or rfl rfl).to (v' := .int .u64 ((rest url s k * 64 + x : Nat) : Int)) (by rw [or64 hrl hxl])) (Zm rfl (Sv (o_addE (r := ((6 * k % 8 + 6 : Nat) : Int)) rfl rfl (by rw [wrap64_in _ (by omega)]; omega)) (tW 2 rfl (Ln (e_K (hK13 _ _ _ _ (Cq fun K14 hK14 => Cr (Zm rfl (Sv (o_geq rfl rfl) (Ln ?_)))))))))))))
     refine e_K (hK14 _ _ _ _ ?_)
     refine c_if rfl (fun h33 => ?_) (fun h33 => ?_)
     ·refine Cq fun K15 hK15 => Cr (Zm rfl (Sv (o_subE (r := ((6 * (k + 1) % 8 : Nat) : Int)) rfl rfl (by rw [wrap64_in _ (by omega)]; omega)) (Za rfl (Ln (e_K (hK15 _ _ _ _ (Cq fun K16 hK16 => Cr (tW 3 rfl (Sv (o_shr rfl rfl (by omega)) (Sv (o_conv Tryz.underlying144 Tryz.underlying5 rfl) (s_bslice (cs := [_]) sl74 zv5 rfl rfl rfl (by decide) rfl fun g1 w5 N1 => ?_)))))))))))
      have Lg1_E := N1.le E
      have Da0_g1 := N1.own_ne O
      replace IT := IT.mod0 N1.mod
      replace E := E.then N1.mod
      replace O := O.mod0 N1.mod
      have Bg1 := N1.blk
      refine s_append sl74 rfl rfl O (Src.own Tryz.underlying74 (Own.all (cs := [_]) Bg1 rfl (by omega)) (by simp [Value.oneCell'])) (by decide) (by omega) (by omega) rfl fun v1 w6 A1 => ?_
      have Dv1_g1 := A1.ne Da0_g1 Bg1
      have Lv1_E := A1.ge L0 E
      replace Bg1 := Bg1.mod A1.mod (fun hx => Da0_g1 _ hx rfl)
      replace E := E.trans' A1.mod (fun x hx => .inr (L0 x hx))
      replace O := A1.own
      have DI1 := A1.neI DI IT
      replace IT := IT.mod A1.mod (fun hx => DI _ hx rfl)
      obtain ⟨cb, O⟩ := own_byte O rfl
      refine Za rfl (Ln (e_K (hK16 _ _ _ _ (Cr (tW 2 rfl (Sv ((o_shl rfl rfl (by omega)).to (v' := .int .u64 (pw6 (k + 1) : Int)) (by rw [shl_pw rfl])) (Sv ((o_sub rfl rfl).to (v' := .int .u64 ((pw6 (k + 1) - 1 : Nat) : Int)) (by have h1 := pw_pos (k + 1); have h2 := pw_le (k + 1); rw [wrapu64_in _ (by omega)]; congr 1; omega)) (Sv ((o_and rfl rfl).to (v' := .int .u64 (rest url s (k + 1) : Int)) (by rw [and_m (by omega) (pw_or _), mod_pw, ← rest_succ hb hx])) (Za rfl (Ln (eI (by simp) ?_)))))))))))
      have hnx : (s.take (k + 1)).all (fun b => (lv url b.toNat).isSome) = true := all_succ (q := fun c => (lv url c).isSome) hb ha (by rw [hx]; rfl)
      exact eR (σ := Nat × Value × Str) (s := ⟨k, v, bs⟩) (⟨k + 1, v1, (bs ++ [cb])⟩) ⟨rfl, rfl, rfl, rfl, rfl, rfl, trivial⟩ ⟨by omega, hnx, IT, O, by simp; omega, Lv1_E, DI1, E⟩ (by dsimp only; omega)
     ·have hk0 : k % 4 = 0 := by omega
      have e8 : 6 * k % 8 + 6 = 6 * (k + 1) % 8 := by omega
      have e7 : rest url s k * 64 + x = rest url s (k + 1) := by
       rw [rest_succ hb hx, rest_zero hk0]
       unfold pw6
       rw [if_neg (by omega), if_pos (by omega)]
       omega
      rw [e7, e8]
      refine cK (eI (by simp) ?_)
      have hnx : (s.take (k + 1)).all (fun b => (lv url b.toNat).isSome) = true := all_succ (q := fun c => (lv url c).isSome) hb ha (by rw [hx]; rfl)
      exact eR (σ := Nat × Value × Str) (s := ⟨k, v, bs⟩) (⟨k + 1, v, bs⟩) ⟨rfl, rfl, rfl, rfl, rfl, rfl, trivial⟩ ⟨by omega, hnx, IT, O, by omega, L0, DI, E⟩ (by dsimp only; omega)
   ·cases h16
  ·obtain ⟨c, m, hdec, hc128, hc1, hc2⟩ := dec_ge hb (by omega)
   refine Cr (s_next rfl IT hplt (hdec) rfl fun w7 IT2 EN hzN => ?_)
   replace E := E.trans' EN (fun x hx => .inr (by simp at hx; subst hx; exact Lgi))
   replace O := O.mod EN (fun x hx hm => DI x hx (by simpa using hm))
   clear IT
   have IT := IT2
   refine Sv (o_ext rfl rfl) (Ln (e_K (hK6 _ _ _ _ (Cq fun K17 hK17 => ?_))))
   refine c_cond rfl (fun h16 => ?_) (fun h16 => ?_)
   ·skip
    refine cK (e_K (hK17 _ _ _ _ (cB (Cq fun K18 hK18 => Cr (tW 2 rfl (Ln (e_K (hK18 _ _ _ _ (Cq fun K19 hK19 => Cr (tW 2 rfl (sc (oC ent195 rfl) (c_value _ url c (by omega)) rfl fun v_ w8 h_ => ?_)))))))))))
    obtain ⟨rfl, E_⟩ := h_
    replace IT := IT.mod0 E_
    replace E := E.then E_
    replace O := O.mod0 E_
    refine tW 5 rfl (Ln (e_K (hK19 _ _ _ _ (Cq fun K20 hK20 => Cq fun K21 hK21 => Cr (tW 2 rfl (Ln (e_K (hK21 _ _ _ _ ?_))))))))
    refine c_cond rfl (fun h25 => ?_) (fun h25 => ?_)
    ·have hD : decOK url s = false := dec_no hb (lv_hi url _ (by omega))
     exact Cq fun K22 hK22 => Cr (tW 2 rfl (Ln (e_K (hK22 _ _ _ _ (cR (eT (by simp) (eI (by simp) (eT (by simp) (eI (by simp) (eT (by simp) (ret2 rfl rfl rfl ⟨DecR.no hD, E⟩)))))))))))
    ·rw [lv_hi url c hc128] at h25; cases h25
   ·cases h16
 ·have hs_end := hplt
  have hk : k = s.length := by omega
  have hall : s.all (fun b => (lv url b.toNat).isSome) = true := by rw [List.take_of_length_le (by omega)] at ha; exact ha
  refine Cr (s_next_end rfl IT hs_end rfl (Sv (o_ext rfl rfl) (Ln (e_K (hK6 _ _ _ _ (Cq fun K23 hK23 => ?_))))))
  refine c_cond rfl (fun h16 => ?_) (fun h16 => ?_)
  ·cases h16
  ·skip
   refine c_exit (eT (by simp) (eT (by simp) (e_hit (e_K (hK4 _ _ _ _ (Cq fun K24 hK24 => Cq fun K25 hK25 => Cr (Zm rfl (Sv (o_geq rfl rfl) ?_))))))))
   refine bD (fun hk0 : ((6 * k % 8 : Nat) : Int) ≥ 6 => ?_) (fun hk0 => ?_)
   ·refine tW 4 rfl (Ln (e_K (hK25 _ _ _ _ (c_true rfl ?_))))
    have hD : decOK url s = false := by unfold decOK; rw [hall, ← hk]; simp only [dT hk0, Bool.true_and, Bool.and_true, Bool.false_and, Bool.and_false, Bool.true_or, Bool.or_true, Bool.false_or, Bool.or_false, Bool.not_true, Bool.not_false]
    exact Cq fun K26 hK26 => Cr (tW 2 rfl (Ln (e_K (hK26 _ _ _ _ (cR (eT (by simp) (ret2 rfl rfl rfl ⟨DecR.no hD, E⟩)))))))
   ·refine tW 3 rfl ?_
    refine bD (fun hk1 : (rest url s k : Int) ≠ 0 => ?_) (fun hk1 => ?_)
    ·refine Sv (oF rfl rfl rfl) (Ln (e_K (hK25 _ _ _ _ (c_true rfl ?_))))
     have hD : decOK url s = false := by unfold decOK; rw [hall, ← hk]; simp only [dF hk0, dT hk1, Bool.true_and, Bool.and_true, Bool.false_and, Bool.and_false, Bool.true_or, Bool.or_true, Bool.false_or, Bool.or_false, Bool.not_true, Bool.not_false]
     exact Cq fun K27 hK27 => Cr (tW 2 rfl (Ln (e_K (hK27 _ _ _ _ (cR (eT (by simp) (ret2 rfl rfl rfl ⟨DecR.no hD, E⟩)))))))
    ·refine Sv (oF rfl rfl rfl) (Ln (e_K (hK25 _ _ _ _ (c_false rfl ?_))))
     have hD : decOK url s = true := by unfold decOK; rw [hall, ← hk]; simp only [dF hk0, dF hk1, Bool.true_and, Bool.and_true, Bool.false_and, Bool.and_false, Bool.true_or, Bool.or_true, Bool.false_or, Bool.or_false, Bool.not_true, Bool.not_false]
     exact cK (e_K (hK24 _ _ _ _ (Cq fun K28 hK28 => Cr (tW 3 rfl (Ln (e_K (hK28 _ _ _ _ (cR (ret2 rfl rfl rfl ⟨DecR.yes hD O (by omega) L0, E⟩)))))))))
end Go.Proofs.YtknndpjacklkeaaGreatDoor.V

set_option linter.unusedVariables false
set_option linter.unusedSimpArgs false
set_option maxRecDepth 10000
namespace Go.Proofs.YtknndpjacklkeaaGreatDoor.V
open Go Go.Proofs
theorem ent135 : Ent Tryz.prog 135 := Ent.of Tryz.func135 (by kernel_rfl) (by kernel_rfl)
theorem sc5 : scB Tryz.prog 5 = true := by kernel_rfl
theorem c_letter (w : World) (url : Bool) (n : Nat) (hn : n < 64) : Calls Tryz.prog 135 [.int .i64 (n : Int), .bool url].toArray w (Ret fun u w' => u = .int .u8 (letB url n : Int) ∧ Mod [] w w') := by
 refine enter Tryz.func135 rfl rfl rfl (l := [(0, _), (1, _)]) ⟨rfl, rfl, trivial⟩ ?_
 have E := Mod.refl [] w
 refine Cq fun K1 hK1 => Cr (Za rfl (Ln (e_K (hK1 _ _ _ _ (Cq fun K2 hK2 => Cq fun K3 hK3 => Cr (tW 2 rfl (Ln (e_K (hK3 _ _ _ _ ?_)))))))))
 refine c_if rfl (fun h6 => ?_) (fun h6 => ?_)
 ·exact Cq fun K4 hK4 => Cr (Zm rfl (Sv (o_convN Tryz.underlying3 Tryz.underlying5 rfl (wrapu8_in _ (by omega))) (Sv ((o_add rfl rfl).to (v' := .int .u8 ((65 + n : Nat) : Int)) (by rw [wrapu8_in _ (by omega)]; rfl)) (Za rfl (Ln (e_K (hK4 _ _ _ _ (cR (eT (by simp) (ret1 rfl rfl ⟨by rw [letB, if_pos (by omega)], E⟩))))))))))
 ·refine cK (e_K (hK2 _ _ _ _ (Cq fun K5 hK5 => Cq fun K6 hK6 => Cr (tW 2 rfl (Ln (e_K (hK6 _ _ _ _ ?_)))))))
  refine c_if rfl (fun h11 => ?_) (fun h11 => ?_)
  ·exact Cq fun K7 hK7 => Cr (Zm rfl (Sv ((o_sub rfl rfl).to (v' := .int .i64 ((n - 26 : Nat) : Int)) (by rw [wrap64_in _ (by omega)]; congr 1; omega)) (Sv (o_convN Tryz.underlying3 Tryz.underlying5 rfl (wrapu8_in _ (by omega))) (Sv ((o_add rfl rfl).to (v' := .int .u8 ((97 + (n - 26) : Nat) : Int)) (by rw [wrapu8_in _ (by omega)]; rfl)) (Za rfl (Ln (e_K (hK7 _ _ _ _ (cR (eT (by simp) (ret1 rfl rfl ⟨by rw [letB, if_neg (by omega), if_pos (by omega)], E⟩)))))))))))
  ·refine cK (e_K (hK5 _ _ _ _ (Cq fun K8 hK8 => Cq fun K9 hK9 => Cr (tW 2 rfl (Ln (e_K (hK9 _ _ _ _ ?_)))))))
   refine c_if rfl (fun h17 => ?_) (fun h17 => ?_)
   ·exact Cq fun K10 hK10 => Cr (Zm rfl (Sv ((o_sub rfl rfl).to (v' := .int .i64 ((n - 52 : Nat) : Int)) (by rw [wrap64_in _ (by omega)]; congr 1; omega)) (Sv (o_convN Tryz.underlying3 Tryz.underlying5 rfl (wrapu8_in _ (by omega))) (Sv ((o_add rfl rfl).to (v' := .int .u8 ((48 + (n - 52) : Nat) : Int)) (by rw [wrapu8_in _ (by omega)]; rfl)) (Za rfl (Ln (e_K (hK10 _ _ _ _ (cR (eT (by simp) (ret1 rfl rfl ⟨by rw [letB, if_neg (by omega), if_neg (by omega), if_pos (by omega)], E⟩)))))))))))
   ·refine cK (e_K (hK8 _ _ _ _ (Cq fun K11 hK11 => Cq fun K12 hK12 => Cr (Zm rfl (Ln (e_K (hK12 _ _ _ _ ?_)))))))
    refine c_cond rfl (fun h22 => ?_) (fun h22 => ?_)
    ·refine Cq fun K13 hK13 => Cr (Zm rfl (Sv ((o_sub rfl rfl).to (v' := .int .i64 ((n - 62 : Nat) : Int)) (by rw [wrap64_in _ (by omega)]; congr 1; omega)) ?_))
     obtain ⟨q, hq, hq2⟩ : ∃ q : UInt8, ([45, 95] : Str)[n - 62]? = some q ∧ q.toNat = letB url n := by
      have : n = 62 ∨ n = 63 := by omega
      rw [h22]
      rcases this with rfl | rfl <;> exact ⟨_, rfl, rfl⟩
     exact Sv (o_sidx (u := [45, 95]) Tryz.underlying9 rfl rfl (by omega) (by rw [Int.toNat_natCast]; exact hq)) (Za rfl (Ln (e_K (hK13 _ _ _ _ (cR (eT (by simp) (ret1 rfl rfl ⟨by rw [hq2], E⟩)))))))
    ·refine cK (e_K (hK11 _ _ _ _ (Cq fun K14 hK14 => Cr (Zm rfl (Sv ((o_sub rfl rfl).to (v' := .int .i64 ((n - 62 : Nat) : Int)) (by rw [wrap64_in _ (by omega)]; congr 1; omega)) ?_)))))
     obtain ⟨q, hq, hq2⟩ : ∃ q : UInt8, ([43, 47] : Str)[n - 62]? = some q ∧ q.toNat = letB url n := by
      have : n = 62 ∨ n = 63 := by omega
      rw [h22]
      rcases this with rfl | rfl <;> exact ⟨_, rfl, rfl⟩
     exact Sv (o_sidx (u := [43, 47]) Tryz.underlying9 rfl rfl (by omega) (by rw [Int.toNat_natCast]; exact hq)) (Za rfl (Ln (e_K (hK14 _ _ _ _ (cR (ret1 rfl rfl ⟨by rw [hq2], E⟩))))))

theorem c_decodeR (w : World) (s : Str) (url : Bool) (hs : s.length ≤ 140737488351232) : Calls Tryz.prog 125 [S s, .bool url].toArray w (Ret fun u w' => DecR w w' url s u ∧ Mod [] w w') := by
 refine enter Tryz.func125 rfl rfl rfl (l := [(0, _), (1, _)]) ⟨rfl, rfl, trivial⟩ ?_
 have E := Mod.refl [] w
 refine Cq fun K1 hK1 => Cr (tW 2 rfl (Ln (e_K (hK1 _ _ _ _ (Cq fun K2 hK2 => Cr (Zm rfl (Sv (o_slen Tryz.underlying9 rfl) (Sv (o_mulE (r := ((s.length * 6 : Nat) : Int)) rfl rfl (by rw [wrap64_in _ (by omega)]; omega)) (Sv ((o_quoN rfl rfl (by omega)).to (v' := .int .i64 ((s.length * 6 / 8 : Nat) : Int)) (by rw [Int.natCast_ediv]; rfl)) (s_make sl74 zv5 rfl rfl rfl (by omega) rfl fun gm w1 Nm => ?_))))))))))
 have Lgm : w.heap.size ≤ gm := by have := Nm.at_; have := E.size; omega
 replace E := E.then Nm.mod
 have O : Own w1 5 1 (.slice (some ⟨gm, 0, none⟩) (s.length * 6 / 8) (s.length * 6 / 8)) (s.length * 6 / 8) (((List.replicate (s.length * 6 / 8) (0 : UInt8)).map b8c).flatten) := (Own.all (c := s.length * 6 / 8) (sz := 1) Nm.blk (by simp; omega) (by omega)).same rfl (by simp [B8]; omega)
 have hbl : (List.replicate (s.length * 6 / 8) (0 : UInt8)).length = s.length * 6 / 8 := by simp
 refine Za rfl (Ln (e_K (hK2 _ _ _ _ (Cq fun K3 hK3 => Cq fun K4 hK4 => Cr (Za rfl (Ln (e_K (hK4 _ _ _ _ (cB (c_loop (σ := Nat × Str) (fun ⟨i, bs⟩ => [(0, S s), (1, .bool url), (6, .slice (some ⟨gm, 0, none⟩) (s.length * 6 / 8) (s.length * 6 / 8)), (7, .int .i64 (i : Int))]) (fun ⟨i, bs⟩ w1 => i ≤ s.length ∧ (s.take i).all (fun b => (lv url b.toNat).isSome) = true ∧ (i = s.length → rest url s i = 0) ∧ Own w1 5 1 (.slice (some ⟨gm, 0, none⟩) (s.length * 6 / 8) (s.length * 6 / 8)) (s.length * 6 / 8) ((bs.map b8c).flatten) ∧ bs.length = s.length * 6 / 8 ∧ Mod [] w w1) (fun ⟨i, bs⟩ => s.length - i) (⟨0, List.replicate (s.length * 6 / 8) 0⟩) ⟨rfl, rfl, rfl, rfl, trivial⟩ (⟨by omega, by simp, fun _ => rfl, O, hbl, E⟩) ?_))))))))))
 rintro ⟨i, bs⟩ w2 ⟨hi, ha, hz, O, hbl, E⟩
 refine Cq fun K5 hK5 => Cq fun K6 hK6 => Cr (tW 2 rfl (Sv (o_slen Tryz.underlying9 rfl) (Sv (o_lss rfl rfl) (Ln (e_K (hK6 _ _ _ _ ?_))))))
 refine c_if rfl (fun h19 => ?_) (fun h19 => ?_)
 ·obtain ⟨b, hb⟩ : ∃ b, s[i]? = some b := ⟨_, List.getElem?_eq_getElem (by omega)⟩
  refine cK (e_K (hK5 _ _ _ _ (Cq fun K7 hK7 => cB (Cq fun K8 hK8 => Cr (Za rfl (Ln (e_K (hK8 _ _ _ _ (Cq fun K9 hK9 => cB (c_loop (σ := Nat) (fun n => [(0, S s), (1, .bool url), (6, .slice (some ⟨gm, 0, none⟩) (s.length * 6 / 8) (s.length * 6 / 8)), (7, .int .i64 (i : Int)), (8, .int .i64 (n : Int))]) (fun n w1 => n ≤ 64 ∧ (∀ y, y < n → letB url y ≠ b.toNat) ∧ Own w1 5 1 (.slice (some ⟨gm, 0, none⟩) (s.length * 6 / 8) (s.length * 6 / 8)) (s.length * 6 / 8) ((bs.map b8c).flatten) ∧ Mod [] w w1) (fun n => 64 - n) (0) ⟨rfl, rfl, rfl, rfl, rfl, trivial⟩ (⟨by omega, fun y h => absurd h (by omega), O, E⟩) ?_))))))))))
  rintro n w3 ⟨hn, hno, O, E⟩
  refine Cq fun K10 hK10 => Cq fun K11 hK11 => ?_
  by_cases hk0 : (n : Int) < 64
  ·by_cases hk1 : (letB url n : Int) ≠ (b.toNat : Int)
   ·refine c_draw wide (by kernel_rfl) (tU 3 rfl rfl (tvg rfl (dT hk0) (fun w_ E_ => (oM rfl)) rfl rfl (tvg rfl (dT hk0) (fun w_ E_ => (oM rfl)) rfl rfl (tcg rfl (dT hk0) (fun w_ E_ => oC ent135 rfl) (fun w_ E_ => c_letter _ url n (by omega)) rfl rfl (tvg rfl (dT hk0) (fun w_ E_ => (oM rfl)) rfl rfl (tvg rfl (dT hk0) (fun w_ E_ => (oM rfl)) rfl rfl (tvg rfl (dT hk0) (fun w_ E_ => (o_sidx Tryz.underlying9 rfl rfl (by omega) (by rw [Int.toNat_natCast]; exact hb))) rfl rfl (tvg rfl (dT hk0) (fun w_ E_ => (o_neq rfl rfl)) rfl rfl (tv (fun w_ E_ => (oT (dT hk0) rfl rfl)) rfl rfl (tw_nil rfl fun w4 E_ => ?_))))))))))
    replace E := E.then E_
    replace O := O.mod0 E_
    refine e_K (hK11 _ _ _ _ ?_)
    refine c_if rfl (fun h32 => ?_) (fun h32 => absurd hk1 h32)
    have hne : letB url n ≠ b.toNat := by omega
    exact cK (e_K (hK10 _ _ _ _ (cB (Cr (Zm rfl (Sv (o_addN rfl rfl (by omega)) (Za rfl (Ln (eI (by simp) (eR (σ := Nat) (s := n) (n + 1) ⟨rfl, rfl, rfl, rfl, rfl, trivial⟩ ⟨by omega, fun y hy => (Nat.lt_succ_iff_lt_or_eq.1 hy).elim (hno y) (fun h => by subst h; exact hne), O, E⟩ (by omega)))))))))))
   ·refine c_draw wide (by kernel_rfl) (tU 3 rfl rfl (tvg rfl (dT hk0) (fun w_ E_ => (oM rfl)) rfl rfl (tvg rfl (dT hk0) (fun w_ E_ => (oM rfl)) rfl rfl (tcg rfl (dT hk0) (fun w_ E_ => oC ent135 rfl) (fun w_ E_ => c_letter _ url n (by omega)) rfl rfl (tvg rfl (dT hk0) (fun w_ E_ => (oM rfl)) rfl rfl (tvg rfl (dT hk0) (fun w_ E_ => (oM rfl)) rfl rfl (tvg rfl (dT hk0) (fun w_ E_ => (o_sidx Tryz.underlying9 rfl rfl (by omega) (by rw [Int.toNat_natCast]; exact hb))) rfl rfl (tvg rfl (dT hk0) (fun w_ E_ => (o_neq rfl rfl)) rfl rfl (tv (fun w_ E_ => (oT (dT hk0) rfl rfl)) rfl rfl (tw_nil rfl fun w5 E_ => ?_))))))))))
    replace E := E.then E_
    replace O := O.mod0 E_
    refine e_K (hK11 _ _ _ _ (c_if rfl (fun h32 => absurd h32 hk1) (fun h32 => ?_)))
    have hx : lv url b.toNat = some n := lv_find (by omega) (by omega)
    refine c_exit (eT (by simp) (eT (by simp) (e_hit (e_K (hK9 _ _ _ _ (Cq fun K12 hK12 => Cq fun K13 hK13 => Cr (tW 2 rfl (Ln (e_K (hK13 _ _ _ _ ?_))))))))))
    refine c_if rfl (fun h36 => ?_) (fun h36 => ?_)
    ·have hD : decOK url s = false := dec_no hb (lv_not (fun y hy => hno y (by omega)))
     exact Cq fun K14 hK14 => Cr (tW 2 rfl (Ln (e_K (hK14 _ _ _ _ (cR (eT (by simp) (eI (by simp) (eT (by simp) (eT (by simp) (eI (by simp) (eT (by simp) (ret2 rfl rfl rfl ⟨DecR.no hD, E⟩))))))))))))
    ·have hx : lv url b.toNat = some n := by first | assumption | (exfalso; omega)
     have hn6 : n < 64 := lv_lt hx
     refine cK (e_K (hK12 _ _ _ _ (Cq fun K15 hK15 => Cr (Za rfl (Ln (e_K (hK15 _ _ _ _ (cB (c_loop (σ := Nat × Str) (fun ⟨k, bs2⟩ => [(0, S s), (1, .bool url), (6, .slice (some ⟨gm, 0, none⟩) (s.length * 6 / 8) (s.length * 6 / 8)), (7, .int .i64 (i : Int)), (8, .int .i64 (n : Int)), (9, .int .i64 (k : Int))]) (fun ⟨k, bs2⟩ w1 => k ≤ 6 ∧ (∀ k', k' < k → 8 * (s.length * 6 / 8) ≤ 6 * i + k' → n / 2 ^ (5 - k') % 2 = 0) ∧ Own w1 5 1 (.slice (some ⟨gm, 0, none⟩) (s.length * 6 / 8) (s.length * 6 / 8)) (s.length * 6 / 8) ((bs2.map b8c).flatten) ∧ bs2.length = s.length * 6 / 8 ∧ Mod [] w w1) (fun ⟨k, bs2⟩ => 6 - k) (⟨0, bs⟩) ⟨rfl, rfl, rfl, rfl, rfl, rfl, trivial⟩ (⟨by omega, fun k' h => absurd h (by omega), O, hbl, E⟩) ?_)))))))))
     rintro ⟨k, bs2⟩ w6 ⟨hk, hkz, O, hbl2, E⟩
     refine Cq fun K16 hK16 => Cq fun K17 hK17 => Cr (tW 2 rfl (Ln (e_K (hK17 _ _ _ _ ?_))))
     refine c_if rfl (fun h38 => ?_) (fun h38 => ?_)
     ·refine cK (e_K (hK16 _ _ _ _ (Cq fun K18 hK18 => cB (Cq fun K19 hK19 => Cr (Zm rfl (Sv (o_mulE (r := ((6 * i : Nat) : Int)) rfl rfl (by rw [wrap64_in _ (by omega)]; omega)) (Zm rfl (Sv (o_addE (r := ((6 * i + k : Nat) : Int)) rfl rfl (by rw [wrap64_in _ (by omega)]; omega)) (Za rfl (Ln (e_K (hK19 _ _ _ _ (Cq fun K20 hK20 => ?_)))))))))))))
      refine Cq fun K21 hK21 => Cr (tW 2 rfl (Sv (o_subE (r := ((5 - k : Nat) : Int)) rfl rfl (by rw [wrap64_in _ (by omega)]; omega)) (Sv (o_convN Tryz.underlying3 Tryz.underlying182 rfl (wrapu64_in _ (by omega))) (Sv ((o_shr rfl rfl (by omega)).to (v' := .int .i64 ((n / 2 ^ (5 - k) : Nat) : Int)) (by rw [shr64 (by omega)])) ?_))))
      have hnk : n / 2 ^ (5 - k) < 64 := Nat.lt_of_le_of_lt (Nat.div_le_self _ _) hn6
      refine Sv ((o_and rfl rfl).to (v' := .int .i64 ((n / 2 ^ (5 - k) % 2 : Nat) : Int)) (by rw [and1 hnk])) (Sv (oE rfl rfl) (Ln (e_K (hK21 _ _ _ _ ?_))))
      refine c_if rfl (fun h51 => ?_) (fun h51 => ?_)
      ·skip
       exact c_exit (eT (by simp) (e_hit (e_K (hK18 _ _ _ _ (Cr (Zm rfl (Sv (o_addN rfl rfl (by omega)) (Za rfl (Ln (eR (σ := Nat × Str) (s := ⟨k, bs2⟩) (⟨k + 1, bs2⟩) ⟨rfl, rfl, rfl, rfl, rfl, rfl, trivial⟩ ⟨by omega, fun k' h hh => (Nat.lt_succ_iff_lt_or_eq.1 h).elim (fun h => hkz k' h hh) (fun h => by subst h; omega), O, hbl2, E⟩ (by dsimp only; omega)))))))))))
      ·skip
       refine cK (e_K (hK20 _ _ _ _ (Cq fun K22 hK22 => Cq fun K23 hK23 => Cr (Zm rfl (Sv ((o_quoN rfl rfl (by omega)).to (v' := .int .i64 (((6 * i + k) / 8 : Nat) : Int)) (by rw [Int.natCast_ediv]; rfl)) (Zm rfl (Sv (o_len Tryz.underlying74 rfl) (Sv (o_geq rfl rfl) (Ln (e_K (hK23 _ _ _ _ ?_)))))))))))
       refine c_if rfl (fun h56 => ?_) (fun h56 => ?_)
       ·have hD : decOK url s = false := rest_bad (k := k) hb hx (by omega) (by omega) (by omega)
        refine Cq fun K24 hK24 => Cr (tW 2 rfl (Ln (e_K (hK24 _ _ _ _ (cR (eT (by simp) (eI (by simp) (eT (by simp) (eT (by simp) (eI (by simp) (eI (by simp) (eT (by simp) (eT (by simp) ?_)))))))))))))
        exact eI (by simp) (eT (by simp) (ret2 rfl rfl rfl ⟨DecR.no hD, E⟩))
       ·refine cK (e_K (hK22 _ _ _ _ (Cr ?_)))
        obtain ⟨bb, hbb⟩ : ∃ bb, bs2[(6 * i + k) / 8]? = some bb := ⟨_, List.getElem?_eq_getElem (by omega)⟩
        refine tW 2 rfl (Sv ((o_quoN rfl rfl (by omega)).to (v' := .int .i64 (((6 * i + k) / 8 : Nat) : Int)) (by rw [Int.natCast_ediv]; rfl)) (tW 2 rfl (Sv ((o_quoN rfl rfl (by omega)).to (v' := .int .i64 (((6 * i + k) / 8 : Nat) : Int)) (by rw [Int.natCast_ediv]; rfl)) (Sv (o_ix sl74 rfl rfl (by omega)) (Sv (oL sc5 rfl (own_at O hbb)) (Zm rfl (Sv (o_remN rfl rfl (by omega)) (Sv (o_convN Tryz.underlying3 Tryz.underlying182 rfl (wrapu64_in _ (by omega))) (Sv (o_shr rfl rfl (by omega)) (Sv (o_or rfl rfl) (Sv (o_ix sl74 rfl rfl (by omega)) (s_stown1 (i := (6 * i + k) / 8) sc5 O rfl rfl rfl (by omega) fun wS O2 ES hzS => ?_))))))))))))
        replace E := E.own ES Lgm
        obtain ⟨cb, O3⟩ := own_set O2
        clear O O2
        have O := O3
        exact Ln (eI (by simp) (e_K (hK18 _ _ _ _ (Cr (Zm rfl (Sv (o_addN rfl rfl (by omega)) (Za rfl (Ln (eR (σ := Nat × Str) (s := ⟨k, bs2⟩) (⟨k + 1, (bs2.set ((6 * i + k) / 8) cb)⟩) ⟨rfl, rfl, rfl, rfl, rfl, rfl, trivial⟩ ⟨by omega, fun k' h hh => (Nat.lt_succ_iff_lt_or_eq.1 h).elim (fun h => hkz k' h hh) (fun h => by subst h; omega), O, by rw [List.length_set]; exact hbl2, E⟩ (by dsimp only; omega))))))))))
     ·have hnx : (s.take (i + 1)).all (fun b => (lv url b.toNat).isSome) = true := all_succ (q := fun c => (lv url c).isSome) hb ha (by rw [hx]; rfl)
      have hzn := rest_last hb hx (fun k' h hh => hkz k' (by omega) hh)
      exact c_exit (eT (by simp) (eT (by simp) (e_hit (eI (by simp) (e_K (hK7 _ _ _ _ (Cr (Zm rfl (Sv (o_addN rfl rfl (by omega)) (Za rfl (Ln (eR (σ := Nat × Str) (s := ⟨i, bs⟩) (⟨i + 1, bs2⟩) ⟨rfl, rfl, rfl, rfl, trivial⟩ ⟨by omega, hnx, hzn, O, hbl2, E⟩ (by dsimp only; omega)))))))))))))
  ·refine c_draw wide (by kernel_rfl) (tU 3 rfl rfl (Tx rfl (dF hk0) (Tx rfl (dF hk0) (Tx rfl (dF hk0) (Tx rfl (dF hk0) (Tx rfl (dF hk0) (Tx rfl (dF hk0) (Tx rfl (dF hk0) (tv (fun w_ E_ => (oF (dF hk0) rfl rfl)) rfl rfl (tw_nil rfl fun w7 E_ => ?_))))))))))
   replace E := E.then E_
   replace O := O.mod0 E_
   refine e_K (hK11 _ _ _ _ (c_false rfl ?_))
   have hx : lv url b.toNat = none := lv_not (fun y hy => hno y (by omega))
   refine c_exit (eT (by simp) (eT (by simp) (e_hit (e_K (hK9 _ _ _ _ (Cq fun K25 hK25 => Cq fun K26 hK26 => Cr (tW 2 rfl (Ln (e_K (hK26 _ _ _ _ ?_))))))))))
   refine c_if rfl (fun h36 => ?_) (fun h36 => ?_)
   ·have hD : decOK url s = false := dec_no hb (lv_not (fun y hy => hno y (by omega)))
    exact Cq fun K27 hK27 => Cr (tW 2 rfl (Ln (e_K (hK27 _ _ _ _ (cR (eT (by simp) (eI (by simp) (eT (by simp) (eT (by simp) (eI (by simp) (eT (by simp) (ret2 rfl rfl rfl ⟨DecR.no hD, E⟩))))))))))))
   ·have hx : lv url b.toNat = some n := by first | assumption | (exfalso; omega)
    have hn6 : n < 64 := lv_lt hx
    refine cK (e_K (hK25 _ _ _ _ (Cq fun K28 hK28 => Cr (Za rfl (Ln (e_K (hK28 _ _ _ _ (cB (c_loop (σ := Nat × Str) (fun ⟨k, bs2⟩ => [(0, S s), (1, .bool url), (6, .slice (some ⟨gm, 0, none⟩) (s.length * 6 / 8) (s.length * 6 / 8)), (7, .int .i64 (i : Int)), (8, .int .i64 (n : Int)), (9, .int .i64 (k : Int))]) (fun ⟨k, bs2⟩ w1 => k ≤ 6 ∧ (∀ k', k' < k → 8 * (s.length * 6 / 8) ≤ 6 * i + k' → n / 2 ^ (5 - k') % 2 = 0) ∧ Own w1 5 1 (.slice (some ⟨gm, 0, none⟩) (s.length * 6 / 8) (s.length * 6 / 8)) (s.length * 6 / 8) ((bs2.map b8c).flatten) ∧ bs2.length = s.length * 6 / 8 ∧ Mod [] w w1) (fun ⟨k, bs2⟩ => 6 - k) (⟨0, bs⟩) ⟨rfl, rfl, rfl, rfl, rfl, rfl, trivial⟩ (⟨by omega, fun k' h => absurd h (by omega), O, hbl, E⟩) ?_)))))))))
    rintro ⟨k, bs2⟩ w8 ⟨hk, hkz, O, hbl2, E⟩
    refine Cq fun K29 hK29 => Cq fun K30 hK30 => Cr (tW 2 rfl (Ln (e_K (hK30 _ _ _ _ ?_))))
    refine c_if rfl (fun h38 => ?_) (fun h38 => ?_)
    ·refine cK (e_K (hK29 _ _ _ _ (Cq fun K31 hK31 => cB (Cq fun K32 hK32 => Cr (Zm rfl (Sv (o_mulE (r := ((6 * i : Nat) : Int)) rfl rfl (by rw [wrap64_in _ (by omega)]; omega)) (Zm rfl (Sv (o_addE (r := ((6 * i + k : Nat) : Int)) rfl rfl (by rw [wrap64_in _ (by omega)]; omega)) (Za rfl (Ln (e_K (hK32 _ _ _ _ (Cq fun K33 hK33 => ?_)))))))))))))
     refine Cq fun K34 hK34 => Cr (tW 2 rfl (Sv (o_subE (r := ((5 - k : Nat) : Int)) rfl rfl (by rw [wrap64_in _ (by omega)]; omega)) (Sv (o_convN Tryz.underlying3 Tryz.underlying182 rfl (wrapu64_in _ (by omega))) (Sv ((o_shr rfl rfl (by omega)).to (v' := .int .i64 ((n / 2 ^ (5 - k) : Nat) : Int)) (by rw [shr64 (by omega)])) ?_))))
     have hnk : n / 2 ^ (5 - k) < 64 := Nat.lt_of_le_of_lt (Nat.div_le_self _ _) hn6
     refine Sv ((o_and rfl rfl).to (v' := .int .i64 ((n / 2 ^ (5 - k) % 2 : Nat) : Int)) (by rw [and1 hnk])) (Sv (oE rfl rfl) (Ln (e_K (hK34 _ _ _ _ ?_))))
     refine c_if rfl (fun h51 => ?_) (fun h51 => ?_)
     ·skip
      exact c_exit (eT (by simp) (e_hit (e_K (hK31 _ _ _ _ (Cr (Zm rfl (Sv (o_addN rfl rfl (by omega)) (Za rfl (Ln (eR (σ := Nat × Str) (s := ⟨k, bs2⟩) (⟨k + 1, bs2⟩) ⟨rfl, rfl, rfl, rfl, rfl, rfl, trivial⟩ ⟨by omega, fun k' h hh => (Nat.lt_succ_iff_lt_or_eq.1 h).elim (fun h => hkz k' h hh) (fun h => by subst h; omega), O, hbl2, E⟩ (by dsimp only; omega)))))))))))
     ·skip
      refine cK (e_K (hK33 _ _ _ _ (Cq fun K35 hK35 => Cq fun K36 hK36 => Cr (Zm rfl (Sv ((o_quoN rfl rfl (by omega)).to (v' := .int .i64 (((6 * i + k) / 8 : Nat) : Int)) (by rw [Int.natCast_ediv]; rfl)) (Zm rfl (Sv (o_len Tryz.underlying74 rfl) (Sv (o_geq rfl rfl) (Ln (e_K (hK36 _ _ _ _ ?_)))))))))))
      refine c_if rfl (fun h56 => ?_) (fun h56 => ?_)
      ·have hD : decOK url s = false := rest_bad (k := k) hb hx (by omega) (by omega) (by omega)
       refine Cq fun K37 hK37 => Cr (tW 2 rfl (Ln (e_K (hK37 _ _ _ _ (cR (eT (by simp) (eI (by simp) (eT (by simp) (eT (by simp) (eI (by simp) (eI (by simp) (eT (by simp) (eT (by simp) ?_)))))))))))))
       exact eI (by simp) (eT (by simp) (ret2 rfl rfl rfl ⟨DecR.no hD, E⟩))
      ·refine cK (e_K (hK35 _ _ _ _ (Cr ?_)))
       obtain ⟨bb, hbb⟩ : ∃ bb, bs2[(6 * i + k) / 8]? = some bb := ⟨_, List.getElem?_eq_getElem (by omega)⟩
       refine tW 2 rfl (Sv ((o_quoN rfl rfl (by omega)).to (v' := .int .i64 (((6 * i + k) / 8 : Nat) : Int)) (by rw [Int.natCast_ediv]; rfl)) (tW 2 rfl (Sv ((o_quoN rfl rfl (by omega)).to (v' := .int .i64 (((6 * i + k) / 8 : Nat) : Int)) (by rw [Int.natCast_ediv]; rfl)) (Sv (o_ix sl74 rfl rfl (by omega)) (Sv (oL sc5 rfl (own_at O hbb)) (Zm rfl (Sv (o_remN rfl rfl (by omega)) (Sv (o_convN Tryz.underlying3 Tryz.underlying182 rfl (wrapu64_in _ (by omega))) (Sv (o_shr rfl rfl (by omega)) (Sv (o_or rfl rfl) (Sv (o_ix sl74 rfl rfl (by omega)) (s_stown1 (i := (6 * i + k) / 8) sc5 O rfl rfl rfl (by omega) fun wS O2 ES hzS => ?_))))))))))))
       replace E := E.own ES Lgm
       obtain ⟨cb, O3⟩ := own_set O2
       clear O O2
       have O := O3
       exact Ln (eI (by simp) (e_K (hK31 _ _ _ _ (Cr (Zm rfl (Sv (o_addN rfl rfl (by omega)) (Za rfl (Ln (eR (σ := Nat × Str) (s := ⟨k, bs2⟩) (⟨k + 1, (bs2.set ((6 * i + k) / 8) cb)⟩) ⟨rfl, rfl, rfl, rfl, rfl, rfl, trivial⟩ ⟨by omega, fun k' h hh => (Nat.lt_succ_iff_lt_or_eq.1 h).elim (fun h => hkz k' h hh) (fun h => by subst h; omega), O, by rw [List.length_set]; exact hbl2, E⟩ (by dsimp only; omega))))))))))
    ·have hnx : (s.take (i + 1)).all (fun b => (lv url b.toNat).isSome) = true := all_succ (q := fun c => (lv url c).isSome) hb ha (by rw [hx]; rfl)
     have hzn := rest_last hb hx (fun k' h hh => hkz k' (by omega) hh)
     exact c_exit (eT (by simp) (eT (by simp) (e_hit (eI (by simp) (e_K (hK7 _ _ _ _ (Cr (Zm rfl (Sv (o_addN rfl rfl (by omega)) (Za rfl (Ln (eR (σ := Nat × Str) (s := ⟨i, bs⟩) (⟨i + 1, bs2⟩) ⟨rfl, rfl, rfl, rfl, trivial⟩ ⟨by omega, hnx, hzn, O, hbl2, E⟩ (by dsimp only; omega)))))))))))))
 ·have hil : i = s.length := by omega
  have hr0 := hz hil
  have hall : s.all (fun b => (lv url b.toNat).isSome) = true := by rw [List.take_of_length_le (by omega)] at ha; exact ha
  refine c_exit (eT (by simp) (eT (by simp) (e_hit (e_K (hK3 _ _ _ _ (Cq fun K38 hK38 => Cq fun K39 hK39 => Cr (Zm rfl (Sv (o_slen Tryz.underlying9 rfl) (Sv (o_remN rfl rfl (by omega)) (Sv (oE rfl rfl) (Ln (e_K (hK39 _ _ _ _ ?_)))))))))))))
  refine c_if rfl (fun h74 => ?_) (fun h74 => ?_)
  ·have hD : decOK url s = false := by
    unfold decOK
    rw [show decide (((6 * s.length % 8 : Nat) : Int) ≥ 6) = true from dT (by omega)]
    simp
   exact Cq fun K40 hK40 => Cr (tW 2 rfl (Ln (e_K (hK40 _ _ _ _ (cR (eT (by simp) (ret2 rfl rfl rfl ⟨DecR.no hD, E⟩)))))))
  ·have hD : decOK url s = true := by
    unfold decOK
    rw [hall, ← hil, hr0, show decide (((6 * i % 8 : Nat) : Int) ≥ 6) = false from dF (by omega)]
    rfl
   exact cK (e_K (hK38 _ _ _ _ (Cq fun K41 hK41 => Cr (tW 3 rfl (Ln (e_K (hK41 _ _ _ _ (cR (ret2 rfl rfl rfl ⟨DecR.yes hD (O.same (by rw [hbl]) rfl) hbl (by simp only [ob, List.mem_singleton]; intro x hx; subst hx; exact Lgm), E⟩)))))))))
end Go.Proofs.YtknndpjacklkeaaGreatDoor.V
