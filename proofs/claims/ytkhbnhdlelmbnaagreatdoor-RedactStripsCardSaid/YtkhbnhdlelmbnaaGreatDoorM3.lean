/-
  A part of the proof: parts of own slices; copy into a part; append of zeros; the entry for slices.overlaps; truths held against one another; drawn operations that look at two slots of which something is known; an argument's reading opened: what its cells stand for, and how great it is; behind the call: true, and each argument reads as it did, where nothing that was there has turned; strings compared by the library's stand-in; values of several cells in a slot; rows of cells; a slice that is built in a region whose order is drawn; a guard on a truth that was not asked. No condition of its own.
-/
import Derived.Test.YtkhbnhdlelmbnaaGreatDoorM2
import Derived.Lib.Overlaps
import Derived.OpenShut
import Derived.DataReads
import Derived.ProofKit
import Derived.Carry
import Derived.WalkKit
import Derived.Lib.Bytealg
set_option linter.unusedVariables false
set_option linter.unusedSimpArgs false
namespace Go.Proofs.YtkhbnhdlelmbnaaGreatDoor.V
open Go
section
variable {P : Program} {ops : Array Oper} {Q : Exit → Act → World → Prop} {n : Nat} {ds : List Deferred} {l : List (Nat × Value)} {w w' : World} {a : Act}
variable {rest : List Oper} {d : Nat} {op : Op} {ty : TypeId} {pos : String} {af : Array Edge}
variable {dd : Option Nat} {gg : Option (Nat × Bool)} {x y z : Operand} {t t' : TypeId} {k k' : IntKind} {m m' r : Int}
/-! ## Operations whose value is told in other words -/
theorem Own.put {e sz c g : Nat} {v : Value} {vs : List Value} (h : Own w e sz v c vs) (k : Mod [g] w w') (D : ∀ x ∈ ob v, x ≠ g) : Own w' e sz v c vs := h.mod k fun x hx hg => D x hx (by simpa using hg)
theorem New.own_ne {e sz c g T : Nat} {cs : List Value} {v : Value} {vs : List Value} (N : New w w' g T cs) (h : Own w e sz v c vs) : ∀ x ∈ ob v, x ≠ g := fun x hx => Nat.ne_of_lt (N.at_ ▸ h.lt x hx)
theorem App.ne {e sz c g T : Nat} {cs : List Value} {v v' : Value} {vs : List Value} (h : App w w' e sz v v' c vs) (D : ∀ x ∈ ob v, x ≠ g) (B : Blk w g T cs) : ∀ x ∈ ob v', x ≠ g := fun x hx => by
  rcases h.ob_ x hx with h1 | h1
  · exact D x h1
  · have := B.lt; omega
theorem App.ge {e sz c : Nat} {w0 : World} {M : List Nat} {v v' : Value} {vs : List Value} (h : App w w' e sz v v' c vs) (L : ∀ x ∈ ob v, w0.heap.size ≤ x) (E : Mod M w0 w) : ∀ x ∈ ob v', w0.heap.size ≤ x := fun x hx => by
  rcases h.ob_ x hx with h1 | h1
  · exact L x h1
  · exact Nat.le_trans E.size h1
theorem Cs.mod0 {ad : Addr} {vs : List Value} (h : Cs w ad vs) (k : Mod [] w w') : Cs w' ad vs := h.mod k (by simp)
theorem oT {b : Bool} {u : Value} (hb : b = true) (hx : evO l x = some (.bool b)) (hy : evO l y = some u) : Runs P l ⟨dd, .pick x y z, ty, pos, af, gg⟩ w u w := fun ρ h => by
  subst hb
  simp [execOp, h _ _ hx, h _ _ hy, asBool]
theorem oF {b : Bool} {v : Value} (hb : b = false) (hx : evO l x = some (.bool b)) (hz : evO l z = some v) : Runs P l ⟨dd, .pick x y z, ty, pos, af, gg⟩ w v w := fun ρ h => by
  subst hb
  simp [execOp, h _ _ hx, h _ _ hz, asBool]
theorem Runs.to {o : Oper} {v v' : Value} (h : Runs P l o w v w') (e : v = v') : Runs P l o w v' w' := e ▸ h
theorem o_addE (hx : evO l x = some (.int k m)) (hy : evO l y = some (.int k m')) (hr : k.wrap (m + m') = r) : Runs P l ⟨dd, .binOp .add t x y t', ty, pos, af, gg⟩ w (.int k r) w := hr ▸ o_add hx hy
theorem o_subE (hx : evO l x = some (.int k m)) (hy : evO l y = some (.int k m')) (hr : k.wrap (m - m') = r) : Runs P l ⟨dd, .binOp .sub t x y t', ty, pos, af, gg⟩ w (.int k r) w := hr ▸ o_sub hx hy
theorem o_mulE (hx : evO l x = some (.int k m)) (hy : evO l y = some (.int k m')) (hr : k.wrap (m * m') = r) : Runs P l ⟨dd, .binOp .mul t x y t', ty, pos, af, gg⟩ w (.int k r) w := hr ▸ o_mul hx hy
theorem o_shrE (hx : evO l x = some (.int k m)) (hy : evO l y = some (.int k' m')) (h0 : 0 ≤ m') (hr : m.fdiv (2 ^ (min m'.toNat k.bits)) = r) : Runs P l ⟨dd, .binOp .shr t x y t', ty, pos, af, gg⟩ w (.int k r) w := hr ▸ o_shr hx hy h0
theorem o_convE {d0 : TypeDesc} (hs : P.underlying t = some d0) (ht : P.underlying t' = some (.int k')) (hx : evO l x = some (.int k m)) (hr : k'.wrap m = r) : Runs P l ⟨dd, .convert t t' x, ty, pos, af, gg⟩ w (.int k' r) w := hr ▸ o_conv hs ht hx
theorem wrapu64_in (z : Int) (h : 0 ≤ z ∧ z ≤ 18446744073709551615) : IntKind.u64.wrap z = z := by
  simp only [IntKind.wrap, IntKind.bits, IntKind.signed, Bool.false_and]
  exact Int.emod_eq_of_lt h.1 (by omega)
theorem wrapu8_in (z : Int) (h : 0 ≤ z ∧ z ≤ 255) : IntKind.u8.wrap z = z := by
  simp only [IntKind.wrap, IntKind.bits, IntKind.signed, Bool.false_and]
  exact Int.emod_eq_of_lt h.1 (by omega)
theorem fdiv_two (m : Int) : m.fdiv (2 ^ (min (1 : Int).toNat 64)) = m / 2 := by
  rw [show (2 : Int) ^ (min (1 : Int).toNat 64) = 2 from rfl]
  exact Int.fdiv_eq_ediv_of_nonneg _ (by omega)
/-- (i + j) / 2 of two places -/
theorem half_cast (i j : Nat) : ((i : Int) + j) / 2 = ((i + j) / 2 : Nat) := by omega
end
end Go.Proofs.YtkhbnhdlelmbnaaGreatDoor.V

set_option linter.unusedVariables false
set_option linter.unusedSimpArgs false
namespace Go.Proofs.YtkhbnhdlelmbnaaGreatDoor.V
open Go
abbrev Str := List UInt8
structure Slot where
  ty : Str
  key : Str
  id : Str
  deriving DecidableEq
structure Pair where
  ty : Str
  key : Str
  deriving DecidableEq
abbrev Slot.cells (s : Slot) : List Value := [S s.ty, S s.key, S s.id]
abbrev Pair.cells (p : Pair) : List Value := [S p.ty, S p.key]
abbrev Slot.agg (s : Slot) : Value := .agg s.cells.toArray
abbrev Pair.agg (p : Pair) : Value := .agg p.cells.toArray
abbrev Slot.pair (s : Slot) : Pair := ⟨s.ty, s.key⟩
abbrev slotsD (xs : List Slot) : D := flat 3 Slot.cells xs
abbrev pairsD (xs : List Pair) : D := flat 2 Pair.cells xs
abbrev strD (xs : List Str) : D := flat 1 (fun s => [S s]) xs
section
variable {w : World}
end
/-! ### comparing -/
def scmp (a b : Str) : Int := if bl a b then -1 else if a = b then 0 else 1
def pcmp (p q : Pair) : Int := if scmp p.ty q.ty ≠ 0 then scmp p.ty q.ty else scmp p.key q.key
theorem bl_irrefl : ∀ a : Str, bl a a = false
  | [] => rfl
  | c :: a => by simp [bl, Op.bytesLess, bl_irrefl a]
theorem bl_trans : ∀ {a b c : Str}, bl a b = true → bl b c = true → bl a c = true
  | [], [], _, h, _ => by simp [bl, Op.bytesLess] at h
  | _ :: _, [], _, h, _ => by simp [bl, Op.bytesLess] at h
  | _, _ :: _, [], _, h => by simp [bl, Op.bytesLess] at h
  | [], _ :: _, _ :: _, _, _ => by simp [bl, Op.bytesLess]
  | x :: a, y :: b, z :: c, h, h' => by
    simp only [bl, Op.bytesLess, Bool.or_eq_true, decide_eq_true_eq, Bool.and_eq_true, beq_iff_eq, UInt8.lt_iff_toNat_lt, ← UInt8.toNat_inj] at h h' ⊢
    rcases h with h | ⟨h1, h2⟩
    · rcases h' with h' | ⟨h3, h4⟩
      · exact .inl (by omega)
      · exact .inl (by omega)
    · rcases h' with h' | ⟨h3, h4⟩
      · exact .inl (by omega)
      · exact .inr ⟨by omega, bl_trans h2 h4⟩
theorem bl_asymm {a b : Str} (h : bl a b = true) : bl b a = false := by
  cases h' : bl b a with
  | false => rfl
  | true => have := bl_trans h h'; rw [bl_irrefl] at this; cases this
theorem bl_total : ∀ (a b : Str), bl a b = true ∨ a = b ∨ bl b a = true
  | [], [] => .inr (.inl rfl)
  | [], _ :: _ => .inl (by simp [bl, Op.bytesLess])
  | _ :: _, [] => .inr (.inr (by simp [bl, Op.bytesLess]))
  | x :: a, y :: b => by
    simp only [bl, Op.bytesLess, Bool.or_eq_true, decide_eq_true_eq, Bool.and_eq_true, beq_iff_eq, UInt8.lt_iff_toNat_lt, ← UInt8.toNat_inj, List.cons.injEq]
    rcases Nat.lt_trichotomy x.toNat y.toNat with h | h | h
    · exact .inl (.inl h)
    · rcases bl_total a b with h1 | h1 | h1
      · exact .inl (.inr ⟨h, h1⟩)
      · exact .inr (.inl ⟨h, h1⟩)
      · exact .inr (.inr (.inr ⟨h.symm, h1⟩))
    · exact .inr (.inr (.inl h))
theorem scmp_lt {a b : Str} : scmp a b < 0 ↔ bl a b = true := by
  unfold scmp
  by_cases h : bl a b = true
  · simp [h]
  · by_cases h' : a = b <;> simp [h, h', bl_irrefl]
theorem scmp_eq {a b : Str} : scmp a b = 0 ↔ a = b := by
  unfold scmp
  by_cases h : bl a b = true
  · rw [if_pos h]
    exact ⟨fun h' => by omega, fun h' => by subst h'; rw [bl_irrefl] at h; cases h⟩
  · by_cases h' : a = b <;> simp [h, h', bl_irrefl]
/-! ### pairs -/
def plt (p q : Pair) : Bool := if p.ty = q.ty then bl p.key q.key else bl p.ty q.ty
theorem plt_irrefl (p : Pair) : plt p p = false := by simp [plt, bl_irrefl]
theorem plt_trans {p q r : Pair} (h : plt p q = true) (h' : plt q r = true) : plt p r = true := by
  unfold plt at *
  by_cases h1 : p.ty = q.ty
  · rw [if_pos h1] at h
    by_cases h2 : q.ty = r.ty
    · rw [if_pos h2] at h'
      rw [if_pos (h1.trans h2)]
      exact bl_trans h h'
    · rw [if_neg h2] at h'
      rw [if_neg (fun e => h2 (h1 ▸ e)), h1]
      exact h'
  · rw [if_neg h1] at h
    by_cases h2 : q.ty = r.ty
    · rw [if_neg (fun e => h1 (h2 ▸ e)), ← h2]
      exact h
    · rw [if_neg h2] at h'
      have h3 := bl_trans h h'
      have : p.ty ≠ r.ty := fun e => by rw [e, bl_irrefl] at h3; cases h3
      rw [if_neg this]
      exact h3
theorem plt_asymm {p q : Pair} (h : plt p q = true) : plt q p = false := by
  cases h' : plt q p with
  | false => rfl
  | true => have := plt_trans h h'; rw [plt_irrefl] at this; cases this
theorem plt_total (p q : Pair) : plt p q = true ∨ p = q ∨ plt q p = true := by
  obtain ⟨a, b⟩ := p
  obtain ⟨c, d⟩ := q
  simp only [plt, Pair.mk.injEq]
  by_cases h : a = c
  · subst h
    simp only [if_true, true_and]
    exact bl_total b d
  · have h' : ¬ c = a := fun e => h e.symm
    simp only [h, h', if_false, false_and, false_or]
    rcases bl_total a c with h1 | h1 | h1
    · exact .inl h1
    · exact absurd h1 h
    · exact .inr h1
theorem pcmp_eq {p q : Pair} : pcmp p q = 0 ↔ p = q := by
  obtain ⟨a, b⟩ := p
  obtain ⟨c, d⟩ := q
  simp only [pcmp, Pair.mk.injEq]
  by_cases h : a = c
  · have h1 := scmp_eq.2 h
    rw [if_neg (by omega)]
    simp [h, scmp_eq]
  · have h1 : scmp a c ≠ 0 := fun e => h (scmp_eq.1 e)
    rw [if_pos h1]
    simp [h, h1]
/-- by rising pairs, each once -/
def asc : List Slot → Bool
  | a :: b :: r => plt a.pair b.pair && asc (b :: r)
  | _ => true
theorem asc_tail {a : Slot} {r : List Slot} (h : asc (a :: r) = true) : asc r = true := by
  cases r with
  | nil => rfl
  | cons b r => simp only [asc, Bool.and_eq_true] at h; exact h.2
theorem asc_head : ∀ {r : List Slot} {a b : Slot}, asc (a :: r) = true → b ∈ r → plt a.pair b.pair = true
  | c :: r, a, b, h, hb => by
    simp only [asc, Bool.and_eq_true] at h
    rcases List.mem_cons.1 hb with rfl | hb
    · exact h.1
    · exact plt_trans h.1 (asc_head h.2 hb)
theorem asc_lt : ∀ {xs : List Slot} {i j : Nat} {a b : Slot}, asc xs = true → xs[i]? = some a → xs[j]? = some b → i < j → plt a.pair b.pair = true
  | [], i, j, a, b, _, ha, _, _ => by simp at ha
  | x :: xs, i, j, a, b, h, ha, hb, hij => by
    cases j with
    | zero => omega
    | succ j =>
      cases i with
      | zero => simp at ha; subst ha; exact asc_head h (List.mem_of_getElem? (by simpa using hb))
      | succ i => exact asc_lt (asc_tail h) (by simpa using ha) (by simpa using hb) (by omega)
def getS (xs : List Slot) (p : Pair) : Option Str := (xs.find? fun x => decide (x.pair = p)).map (·.id)
theorem getS_hit : ∀ {xs : List Slot} {p : Pair} {k : Nat} {x : Slot}, (∀ (j : Nat) (y : Slot), j < k → xs[j]? = some y → y.pair ≠ p) → xs[k]? = some x → x.pair = p → getS xs p = some x.id
  | [], _, _, _, _, hx, _ => by simp at hx
  | a :: r, p, k, x, h, hx, hp => by
    cases k with
    | zero => simp at hx; subst hx; simp [getS, hp]
    | succ k =>
      have ha := h 0 a (by omega) rfl
      have := getS_hit (xs := r) (k := k) (fun j y hj hy => h (j + 1) y (by omega) (by simpa using hy)) (by simpa using hx) hp
      simpa [getS, ha] using this
theorem getS_miss {xs : List Slot} {p : Pair} (h : ∀ (j : Nat) (y : Slot), xs[j]? = some y → y.pair ≠ p) : getS xs p = none := by
  simp only [getS, Option.map_eq_none_iff, List.find?_eq_none, decide_eq_true_eq]
  intro x hx
  obtain ⟨j, hj⟩ := List.getElem?_of_mem hx
  exact h j x hj
/-- what the document's Put answers -/
def putS (xs : List Slot) (s : Slot) : List Slot := xs.filter (fun x => plt x.pair s.pair) ++ [s] ++ xs.filter (fun x => plt s.pair x.pair)
theorem filter_snoc {α : Type} (p : α → Bool) {xs : List α} {k : Nat} {x : α} (h : xs[k]? = some x) : (xs.take (k + 1)).filter p = (xs.take k).filter p ++ if p x then [x] else [] := by
  have hlt := (List.getElem?_eq_some_iff.1 h).1
  rw [List.take_succ_eq_append_getElem hlt, (List.getElem?_eq_some_iff.1 h).2, List.filter_append]
  congr 1
  by_cases hp : p x <;> simp [hp]
end Go.Proofs.YtkhbnhdlelmbnaaGreatDoor.V

set_option linter.unusedVariables false
set_option linter.unusedSimpArgs false
namespace Go.Proofs.YtkhbnhdlelmbnaaGreatDoor.V
open Go
section
variable {P : Program} {ops : Array Oper} {Q : Exit → Act → World → Prop} {n : Nat} {ds : List Deferred} {l : List (Nat × Value)} {w w' : World} {a : Act}
variable {rest : List Oper} {d : Nat} {op : Op} {ty : TypeId} {pos : String} {af : Array Edge}
variable {dd : Option Nat} {gg : Option (Nat × Bool)} {x y z : Operand} {t t' : TypeId} {k k' : IntKind} {m m' : Int} {b b' : Bool}

theorem Own.take {e sz n c m : Nat} {ad : Option Addr} {vs : List Value} (O : Own w e sz (.slice ad n c) n vs) (hm : m ≤ n) : Own w e sz (.slice ad m c) m (vs.take (m * sz)) := by
  have hle : m * sz ≤ n * sz := Nat.mul_le_mul_right _ hm
  have hl := O.1
  rcases O.2 with ⟨h0, h0'⟩ | ⟨g, o, cc, cs, hv, hB, hc1, hc2, hc3, hc4⟩
  · injection h0 with e1 e2 e3
    subst e1; subst e3; subst e2
    have : m = 0 := by omega
    subst this
    simpa using Own.nil w e sz
  · injection hv with e1 e2 e3
    subst e1; subst e3
    refine ⟨by rw [List.length_take]; omega, .inr ⟨g, o, c, cs, rfl, hB, by omega, hc2, hc3, ?_⟩⟩
    rw [← hc4, List.take_take]
    congr 1
    omega
theorem Own.extend {e sz n c m : Nat} {ad : Addr} {vs : List Value} (O : Own w e sz (.slice (some ad) n c) n vs) (hm : n ≤ m) (hc : m ≤ c) : ∃ vs', Own w e sz (.slice (some ad) m c) m vs' ∧ vs'.take (n * sz) = vs := by
  have hle : n * sz ≤ m * sz := Nat.mul_le_mul_right _ hm
  have hle2 : m * sz ≤ c * sz := Nat.mul_le_mul_right _ hc
  have hl := O.1
  rcases O.2 with ⟨h0, h0'⟩ | ⟨g, o, cc, cs, hv, hB, hc1, hc2, hc3, hc4⟩
  · cases h0
  · injection hv with e1 e2 e3
    injection e1 with e1
    subst e1; subst e3
    refine ⟨(cs.drop o).take (m * sz), ⟨by rw [List.length_take, List.length_drop]; omega, .inr ⟨g, o, c, cs, rfl, hB, hc, hc2, hc3, rfl⟩⟩, ?_⟩
    rw [← hc4, List.take_take]
    congr 1
    omega
/-- copy into a part of a slice of the call's own -/
theorem s_copyat {tx e sz by_ N c lo k c' : Nat} {ad : Addr} {u : Value} {vs news : List Value} (ht : slB P t e sz by_ = true) (O : Own w e sz (.slice (some ad) N c) N vs) (hx : evO l x = some (.slice (adS (some ad) c lo sz) (N - lo) (c - lo))) (hy : evO l y = some u)
    (hl : (Builtin.lenOf u).run P w = .ok c' w) (hk : Nat.min c' (N - lo) = k) (hcl : (Builtin.firstCells sz k u).run P w = .ok news.toArray w) (hnl : news.length = k * sz) (h1c : ∀ u ∈ news, u.oneCell' = true) (hlo : lo ≤ N) (hd : Nat.blt d n = true)
    (h : ∀ w', Own w' e sz (.slice (some ad) N c) N (vs.take (lo * sz) ++ news ++ vs.drop ((lo + k) * sz)) → Mod [ad.block] w w' → w'.heap.size = w.heap.size → WL P ops Q rest n ds ((d, .int .i64 k) :: l) w') :
    WL P ops Q (⟨some d, .call { callee := .builtin .copy, args := #[x, y], argTypes := #[t, tx] }, ty, pos, af, none⟩ :: rest) n ds l w := by
  obtain ⟨i, z, h1, h2, h3, h4, h5, h6⟩ := slB_spec ht
  rcases O.2 with ⟨h0, _⟩ | ⟨g, o, cap, cs, hv, hB, hc1, hc2, hc3, hc4⟩
  · cases h0
  injection hv with e1 e2 e3
  injection e1 with e1
  subst e1; subst e3
  have hkN : k ≤ N - lo := by rw [← hk]; exact Nat.min_le_right _ _
  have hle : (lo + k) * sz ≤ N * sz := Nat.mul_le_mul_right _ (by omega)
  have hle2 : N * sz ≤ c * sz := Nat.mul_le_mul_right _ hc1
  have hvl := O.1
  have hadd : (lo + k) * sz = lo * sz + k * sz := Nat.add_mul _ _ _
  obtain ⟨w1, hst, hp⟩ := storeCells_put (P := P) hB (o := o + lo * sz) (vs := news) (by rw [hnl]; omega) h1c
  have hrun : ∃ w1, (match adS (some ⟨g, o, none⟩) c lo sz with | some a => storeCells a news | none => pure ()).run P w = .ok () w1 ∧ Own w1 e sz (.slice (some ⟨g, o, none⟩) N c) N (vs.take (lo * sz) ++ news ++ vs.drop ((lo + k) * sz)) ∧ Mod [g] w w1 ∧ w1.heap.size = w.heap.size := by
    by_cases hlc : c = lo
    · have hk0 : k = 0 := by omega
      subst hk0
      have hne : news = [] := List.eq_nil_of_length_eq_zero (by simpa using hnl)
      subst hne
      refine ⟨w, ?_, ?_, Mod.refl _ w, rfl⟩
      · simp [adS, hlc, storeCells]
      · simpa using O
    · refine ⟨w1, ?_, ⟨?_, .inr ⟨g, o, c, _, rfl, hp.blk, hc1, hc2, by simp [splice]; omega, ?_⟩⟩, hp.mod, hp.size⟩
      · simpa [adS, hlc, Addr.add_lit] using hst
      · simp only [List.length_append, List.length_take, List.length_drop, hnl, hvl]
        omega
      · subst hc4
        apply List.ext_getElem?
        intro j
        simp only [splice, hnl]
        simp only [List.getElem?_take, List.getElem?_drop, List.getElem?_append, List.length_append, List.length_take, List.length_drop, hnl]
        repeat' split
        all_goals first
          | omega
          | rfl
          | (congr 1; omega)
          | skip
  obtain ⟨w1, hst, hO, hM, hs⟩ := hrun
  refine sv (v := .int .i64 k) (w' := w1) (fun ρ hρ => ?_) hd (h w1 hO hM hs)
  subst h3
  cases hA : adS (some (⟨g, o, none⟩ : Addr)) c lo i.size with
  | none =>
    rw [hA] at hst
    simp [execOp, resolve, invoke, builtin, hρ _ _ hx, hρ _ _ hy, Builtin.copy_, run_underlying h1, run_sizeOf_of h2, hl, hk, hcl, goInt, hA]
    simpa using hst
  | some a =>
    rw [hA] at hst
    simp [execOp, resolve, invoke, builtin, hρ _ _ hx, hρ _ _ hy, Builtin.copy_, run_underlying h1, run_sizeOf_of h2, hl, hk, hcl, goInt, hA]
    simp at hst
    simp [hst]
/-- append(s, make([]T, m)...): m zeros -/
theorem appendz_run {t tx e sz by_ c c' : Nat} {v : Value} {vs zs : List Value} (ht : slB P t e sz by_ = true) (hz : zvB P e zs) (hzl : zs.length = sz) (htx : P.underlying tx = some (.int .i64)) (O : Own w e sz v c vs) (hsz : 0 < sz) (h1c : ∀ u ∈ zs, u.oneCell' = true)
    (hb : (c + c') * by_ ≤ 140737488355328) (hb1 : c + c' ≤ 9223372036854775807) (ty : Nat) :
    ∃ v' w' news, (Builtin.append_ #[t, tx] ty #[v, .int .i64 c']).run P w = .ok v' w' ∧ App w w' e sz v v' (c + c') (vs ++ news) ∧ news.length = c' * sz ∧ (∀ u ∈ news, u.oneCell' = true) ∧ ((∀ ad cc, v = .slice ad c cc → cc < c + c') → (∀ x ∈ ob v', w.heap.size ≤ x) ∧ Mod [] w w') := by
  obtain ⟨i, z, h1, h2, h3, h4, h5, h6⟩ := slB_spec ht
  obtain ⟨i', z', h7, h8, h9⟩ := zvB_spec hz
  have hii : i' = i := Option.some.inj (h7.symm.trans h2)
  subst hii
  have hzz : z' = z := Option.some.inj (h8.symm.trans h5)
  subst hzz
  subst h3; subst h4
  have hnl : (Builtin.zeroCells z'.cells c').toList.length = c' * i'.size := by rw [Array.length_toList, size_zeroCells, h6]
  have hone : ∀ u ∈ (Builtin.zeroCells z'.cells c').toList, u.oneCell' = true := by
    intro u hu
    rw [h9] at hu
    simp only [Builtin.zeroCells, Array.toList_map, List.mem_map] at hu
    obtain ⟨j, _, rfl⟩ := hu
    have hlt : j % zs.toArray.size < zs.length := by
      simp only [List.size_toArray]
      exact Nat.mod_lt _ (by omega)
    have : zs.toArray[j % zs.toArray.size]! = zs[j % zs.toArray.size] := by
      simp only [List.size_toArray] at hlt ⊢
      simp [hlt]
    rw [this]
    exact h1c _ (List.getElem_mem hlt)
  have hlen : (vs ++ (Builtin.zeroCells z'.cells c').toList).length = (c + c') * i'.size := by rw [List.length_append, O.1, hnl, Nat.add_mul]
  have hw : IntKind.i64.wrap (c' : Int) = c' := wrap64_in _ (by omega)
  have hnn : ¬ ((c' : Int) < 0) := by omega
  have hmb : ¬ ((c' : Int) * (i'.bytes : Int) > 281474976710656) := by
    have : c' * i'.bytes ≤ (c + c') * i'.bytes := Nat.mul_le_mul_right _ (by omega)
    have h3 : (c' : Int) * (i'.bytes : Int) = ((c' * i'.bytes : Nat) : Int) := by simp
    rw [h3]
    omega
  have hz00 : c' * i'.size = 0 → Builtin.zeroCells z'.cells c' = #[] := fun h0 => Array.eq_empty_of_size_eq_zero (by rw [size_zeroCells, h6]; exact h0)
  have grow : ∀ (base : Option Addr) (cap : Nat), cap < c + c' → (Builtin.firstCells i'.size c (.slice base c cap)).run P w.drew = .ok vs.toArray w.drew →
      ∃ v' w', (Builtin.append_ #[t, tx] ty #[.slice base c cap, .int .i64 c']).run P w = .ok v' w' ∧ App w w' e i'.size (.slice base c cap) v' (c + c') (vs ++ (Builtin.zeroCells z'.cells c').toList) ∧ (∀ x ∈ ob v', w.heap.size ≤ x) ∧ Mod [] w w' := by
    intro base cap hcap hold
    have hfit := growslice_fits hcap hb
    have hn : ¬ (c + c' ≤ cap) := by omega
    have h63' : ¬ (9223372036854775807 < ((c : Int) + (c' : Int))) := by omega
    have h48' : ¬ (281474976710656 < Builtin.nextslicecap (c + c') cap * i'.bytes) := by omega
    have hr : (Builtin.append_ #[t, tx] ty #[.slice base c cap, .int .i64 c']).run P w =
      .ok (.slice (some ⟨w.heap.size, 0, none⟩) (c + c') (grownCap w (c + c') cap e))
        (w.drew.alloc (.cells ((vs ++ (Builtin.zeroCells z'.cells c').toList).toArray ++ Builtin.zeroCells z'.cells (grownCap w (c + c') cap e - (c + c'))) e)) := by
      by_cases h0 : c' * i'.size = 0
      · have hz0 := hz00 h0
        simp [Builtin.append_, run_underlying h1, run_underlying htx, sizeOf, typeInfo, zeroValue, h2, h5, asInt, asIntOf, hw, hnn, hmb, hn, h63', h48', Question.forced, hold, newRow, grownCap, h0, hz0]
      · simp [Builtin.append_, run_underlying h1, run_underlying htx, sizeOf, typeInfo, zeroValue, h2, h5, asInt, asIntOf, hw, hnn, hmb, hn, h63', h48', Question.forced, hold, newRow, grownCap, h0]
        congr 2
        apply Array.toList_inj.1
        simp
    have hge := grownCap_ge w (c + c') cap e
    generalize hN : (Builtin.zeroCells z'.cells c').toList = news at *
    have hB : Blk (w.drew.alloc (.cells ((vs ++ news).toArray ++ Builtin.zeroCells z'.cells (grownCap w (c + c') cap e - (c + c'))) e)) w.heap.size e ((vs ++ news) ++ (Builtin.zeroCells z'.cells (grownCap w (c + c') cap e - (c + c'))).toList) := by
      have := heap_alloc_new w.drew (.cells ((vs ++ news).toArray ++ Builtin.zeroCells z'.cells (grownCap w (c + c') cap e - (c + c'))) e)
      unfold Blk
      refine this.trans ?_
      congr 2
      apply Array.toList_inj.1
      simp
    refine ⟨_, _, hr, ⟨⟨hlen, .inr ⟨w.heap.size, 0, _, _, rfl, hB, hge, grownCap_le_maxLen w (c + c') cap e (by simp only [maxLen]; omega), ?_, ?_⟩⟩, ?_, ?_⟩, ?_, ?_⟩
    · have hzl : (Builtin.zeroCells z'.cells (grownCap w (c + c') cap e - (c + c'))).toList.length = (grownCap w (c + c') cap e - (c + c')) * i'.size := by
        rw [Array.length_toList, size_zeroCells, h6]
      rw [List.length_append, hlen, hzl, ← Nat.add_mul]
      have : c + c' + (grownCap w (c + c') cap e - (c + c')) = grownCap w (c + c') cap e := by omega
      rw [this]
      omega
    · rw [List.drop_zero, ← hlen]
      exact List.take_left
    · exact ⟨rfl, rfl, rfl, by simp, fun j hj _ => RowKit.Below.heap_alloc w.drew _ j hj⟩
    · intro x hx
      simp [ob] at hx
      exact .inr (by omega)
    · intro x hx
      simp [ob] at hx
      omega
    · exact ⟨rfl, rfl, rfl, by simp, fun j hj _ => RowKit.Below.heap_alloc w.drew _ j hj⟩
  rcases O.2 with ⟨rfl, h0⟩ | ⟨g, o, cap, cs, rfl, hB, hc1, hc2, hc3, hc4⟩
  · subst h0
    have hvs : vs = [] := List.eq_nil_of_length_eq_zero (by simpa using O.1)
    subst hvs
    rcases Nat.eq_zero_or_pos c' with h0 | h0
    · subst h0
      refine ⟨.slice none 0 0, w, [], ?_, ⟨by simpa using Own.nil w e i'.size, Mod.refl _ w, fun x hx => .inl hx⟩, by simp, by simp, fun hh => absurd (hh _ _ rfl) (by omega)⟩
      have hw0 : IntKind.i64.wrap 0 = 0 := by decide
      simp [Builtin.append_, run_underlying h1, run_underlying htx, sizeOf, typeInfo, h2, asInt, asIntOf, hw0]
    · obtain ⟨v', w', hr, hA, hG⟩ := grow none 0 (by omega) (run_firstCells_none w.drew i'.size 0 0 0)
      exact ⟨v', w', _, hr, hA, hnl, hone, fun _ => hG⟩
  · by_cases hroom : c + c' ≤ cap
    · have hle : (c + c') * i'.size ≤ cap * i'.size := Nat.mul_le_mul_right _ hroom
      generalize hN : (Builtin.zeroCells z'.cells c') = NW at *
      have hfit : o + c * i'.size + NW.toList.length ≤ cs.length := by rw [hnl]; rw [Nat.add_mul] at hle; omega
      obtain ⟨w1, hst, hp⟩ := storeCells_put (P := P) hB hfit hone
      refine ⟨.slice (some ⟨g, o, none⟩) (c + c') cap, w1, NW.toList, ?_, ⟨⟨hlen, .inr ⟨g, o, cap, _, rfl, hp.blk, hroom, hc2, ?_, ?_⟩⟩, ?_, fun x hx => .inl hx⟩, hnl, hone, fun hh => absurd (hh _ _ rfl) (by omega)⟩
      · by_cases h0 : c' * i'.size = 0
        · have hz0 := hz00 h0
          rw [hz0] at hst
          simp at hst
          simp [Builtin.append_, run_underlying h1, run_underlying htx, sizeOf, typeInfo, zeroValue, h2, h5, asInt, asIntOf, hw, hnn, hmb, hroom, Addr.add_lit, h0, hst]
        · simp [Builtin.append_, run_underlying h1, run_underlying htx, sizeOf, typeInfo, zeroValue, h2, h5, asInt, asIntOf, hw, hnn, hmb, hroom, Addr.add_lit, h0, hN, hst]
      · simp only [splice, List.length_append, List.length_take, List.length_drop]
        omega
      · have e1 : List.take (o + c * i'.size) cs = List.take o cs ++ vs := by rw [← hc4, List.take_add]
        have hol : (List.take o cs).length = o := by rw [List.length_take]; omega
        rw [splice, e1, List.append_assoc, List.append_assoc, List.drop_left' hol, ← List.append_assoc, ← hlen, List.take_left]
      · exact hp.mod
    · obtain ⟨v', w', hr, hA, hG⟩ := grow (some ⟨g, o, none⟩) cap (by omega) (run_firstCells_some w.drew i'.size c _ c cap vs O.1 (fun j x hx => by have := O.cs j x hx; simpa using this))
      exact ⟨v', w', _, hr, hA, hnl, hone, fun _ => hG⟩
theorem s_appendz {t tx e sz by_ c c' : Nat} {v : Value} {vs zs : List Value} (ht : slB P t e sz by_ = true) (hz : zvB P e zs) (hzl : zs.length = sz) (htx : P.underlying tx = some (.int .i64)) (hx : evO l x = some v) (hy : evO l y = some (.int .i64 c')) (O : Own w e sz v c vs) (hsz : 0 < sz) (h1c : ∀ u ∈ zs, u.oneCell' = true)
    (hb : (c + c') * by_ ≤ 140737488355328) (hb1 : c + c' ≤ 9223372036854775807) (hd : Nat.blt d n = true)
    (h : ∀ v' w' news, App w w' e sz v v' (c + c') (vs ++ news) → news.length = c' * sz → (∀ u ∈ news, u.oneCell' = true) → ((∀ ad cc, v = .slice ad c cc → cc < c + c') → (∀ x ∈ ob v', w.heap.size ≤ x) ∧ Mod [] w w') → WL P ops Q rest n ds ((d, v') :: l) w') :
    WL P ops Q (⟨some d, .call { callee := .builtin .append, args := #[x, y], argTypes := #[t, tx] }, ty, pos, af, none⟩ :: rest) n ds l w := by
  obtain ⟨v', w', news, hr, hA, h2, h3, h4⟩ := appendz_run (P := P) ht hz hzl htx O hsz h1c hb hb1 ty
  refine sv (v := v') (w' := w') (fun ρ hρ => ?_) hd (h v' w' news hA h2 h3 h4)
  simp [execOp, resolve, invoke, builtin, hρ _ _ hx, hρ _ _ hy, hr]
/-! ### slices.overlaps -/
def Ovl (P : Program) (f : FuncId) (tS tR : TypeId) : Prop := ∀ args w, (callFunc f args).run P w = ((Extern.SlicesOverlaps.overlaps #[tS, tS] #[tR] args).run P w).andThen fun v w' => .ok (.value v) w'
theorem o_overlaps {tS tR e sz by_ f i j c1 c2 : Nat} {a1 a2 : Addr} (hf : Ovl P f tS tR) (ht : slB P tS e sz by_ = true) (hx : evO l x = some (.slice (some a1) i c1)) (hy : evO l y = some (.slice (some a2) j c2))
    {g1 g2 : Nat} {o1 o2 : Nat} (ha1 : a1 = ⟨g1, o1, none⟩) (ha2 : a2 = ⟨g2, o2, none⟩) {T1 T2 : Nat} {cs1 cs2 : List Value} (B1 : Blk w g1 T1 cs1) (B2 : Blk w g2 T2 cs2) (hne : g1 ≠ g2) (h2 : cs2 ≠ []) {ts : Array TypeId} :
    Runs P l ⟨dd, .call { callee := .value (.func f), args := #[x, y], argTypes := ts }, ty, pos, af, gg⟩ w (.bool false) w := fun ρ hρ => by
  subst ha1; subst ha2
  obtain ⟨i', z, h1, h2', h3, h4, h5, h6⟩ := slB_spec ht
  have e2 : ρ (.func f) = .func (.func f) #[] #[] := hρ _ _ rfl
  have hov := Lib.run_overlaps_apart (P := P) w tS tR e h1 i'.size (fun w' => run_sizeOf_of h2') ⟨g1, o1, none⟩ ⟨g2, o2, none⟩ i c1 j c2 hne T1 T2 cs1.length cs2.length (by have := B1; unfold Blk at this; simp [World.shape?, this]) (by have := B2; unfold Blk at this; simp [World.shape?, this]) (by simpa using h2) (B1.frozen o1) (B1.frozen _)
  have := hf #[.slice (some ⟨g1, o1, none⟩) i c1, .slice (some ⟨g2, o2, none⟩) j c2] w
  rw [hov] at this
  simp [execOp, resolve, e2, hρ _ _ hx, hρ _ _ hy, Deferred.ofValue, invoke] at this ⊢
  simpa using this
theorem flat_take_ {α : Type} {sz : Nat} {cells : α → List Value} {xs : List α} (hl : ∀ x, (cells x).length = sz) (i : Nat) : ((xs.map cells).flatten).take (i * sz) = ((xs.take i).map cells).flatten := by
  induction xs generalizing i with
  | nil => simp
  | cons x xs ih =>
    cases i with
    | zero => simp
    | succ i =>
      simp only [List.map_cons, List.flatten_cons, List.take_succ_cons]
      rw [List.take_append, hl, Nat.add_mul, Nat.one_mul, List.take_of_length_le (by rw [hl]; omega), Nat.add_sub_cancel, ih]
theorem flat_drop_ {α : Type} {sz : Nat} {cells : α → List Value} {xs : List α} (hl : ∀ x, (cells x).length = sz) (i : Nat) : ((xs.map cells).flatten).drop (i * sz) = ((xs.drop i).map cells).flatten := by
  induction xs generalizing i with
  | nil => simp
  | cons x xs ih =>
    cases i with
    | zero => simp
    | succ i =>
      simp only [List.map_cons, List.flatten_cons, List.drop_succ_cons]
      rw [List.drop_append, hl, Nat.add_mul, Nat.one_mul, List.drop_eq_nil_of_le (by rw [hl]; omega), Nat.add_sub_cancel, ih, List.nil_append]
theorem flat_none {α : Type} {A : List Nat} {sz n c : Nat} {cells : α → List Value} {xs : List α} (h : Rep A w (flat sz cells xs) (.slice none n c)) : xs = [] := by
  cases xs with
  | nil => rfl
  | cons x xs =>
    obtain ⟨a, ha, _⟩ := flat_at (i := 0) h rfl
    cases ha
theorem adS_zero (ad : Option Addr) (c sz : Nat) : adS ad c 0 sz = ad := by
  unfold adS
  split
  · rfl
  · cases ad with
    | none => rfl
    | some a => simp [Addr.add_zero']
theorem adS_some (g o c lo sz : Nat) : ∃ o', adS (some (⟨g, o, none⟩ : Addr)) c lo sz = some ⟨g, o', none⟩ := by
  unfold adS
  split
  · exact ⟨o, rfl⟩
  · exact ⟨o + lo * sz, by simp [Addr.add_lit]⟩
theorem firstCells_any (sz k : Nat) (b : Option Addr) (i c i' c' : Nat) : Builtin.firstCells sz k (.slice b i c) = Builtin.firstCells sz k (.slice b i' c') := by cases b <;> rfl
theorem o_slto {ad : Option Addr} {c c' e sz by_ hi : Nat} {h : Operand} (ht : slB P t e sz by_ = true) (hx : evO l x = some (.slice ad c c')) (hh : evO l h = some (.int .i64 (hi : Int))) (hb : hi ≤ c') (hc : c ≤ c') :
    Runs P l ⟨dd, .slice t x none (some h) none, ty, pos, af, gg⟩ w (.slice ad hi c') w := by
  have := o_sl (P := P) (w := w) (dd := dd) (ty := ty) (pos := pos) (af := af) (gg := gg) ht hx (lo := none) (pl := none) (hi := some h) (ph := some (.i64, (hi : Int))) rfl (by simp [evS, hh]) (by simp only [loV, hiV]; omega) hc
  refine this.to ?_
  simp [loV, hiV, adS_zero]
theorem o_slfrom {ad : Option Addr} {c c' e sz by_ lo : Nat} {h : Operand} (ht : slB P t e sz by_ = true) (hx : evO l x = some (.slice ad c c')) (hh : evO l h = some (.int .i64 (lo : Int))) (hb : lo ≤ c) (hc : c ≤ c') :
    Runs P l ⟨dd, .slice t x (some h) none none, ty, pos, af, gg⟩ w (.slice (adS ad c' lo sz) (c - lo) (c' - lo)) w := by
  have := o_sl (P := P) (w := w) (dd := dd) (ty := ty) (pos := pos) (af := af) (gg := gg) ht hx (hi := none) (ph := none) (lo := some h) (pl := some (.i64, (lo : Int))) (by simp [evS, hh]) rfl (by simp only [loV, hiV]; omega) hc
  refine this.to ?_
  simp [loV, hiV]
end
end Go.Proofs.YtkhbnhdlelmbnaaGreatDoor.V

set_option linter.unusedVariables false
set_option linter.unusedSimpArgs false
namespace Go.Proofs.YtkhbnhdlelmbnaaGreatDoor.V
open Go
section
variable {P : Program} {ops : Array Oper} {Q : Exit → Act → World → Prop} {n : Nat} {ds : List Deferred} {l : List (Nat × Value)} {M : List (Nat × (Value → World → Prop))} {w w' : World} {a : Act}
variable {rest : List Oper} {d : Nat} {op : Op} {ty : TypeId} {pos : String} {af : Array Edge} {Fin : Kn → Prop} {j : Nat} {want b : Bool}
variable {dd : Option Nat} {gg : Option (Nat × Bool)} {x y z : Operand} {t t' : TypeId}
theorem o_bseq {b b' : Bool} (he : P.underlying t = some .bool) (hx : evO l x = some (.bool b)) (hy : evO l y = some (.bool b')) : Runs P l ⟨dd, .binOp .eql t x y t', ty, pos, af, gg⟩ w (.bool (b == b')) w := fun ρ h => by
  simp [execOp, eqGuard, h _ _ hx, h _ _ hy, binOp, run_equal_bool w t b b' he]
theorem o_bsne {b b' : Bool} (he : P.underlying t = some .bool) (hx : evO l x = some (.bool b)) (hy : evO l y = some (.bool b')) : Runs P l ⟨dd, .binOp .neq t x y t', ty, pos, af, gg⟩ w (.bool (b != b')) w := fun ρ h => by
  simp [execOp, eqGuard, h _ _ hx, h _ _ hy, binOp, run_equal_bool w t b b' he]
  cases b <;> cases b' <;> rfl
theorem J_of2 {V : Value → World → Prop} {t s : Nat} {U U' : Value → World → Prop} (ht : lk t l = none) (hM : lkM t M = some U) (hx : ∃ x ∈ op.operands.toList, x = .tmp t) (hs' : lk s l = none) (hM' : lkM s M = some U') (hx' : ∃ x ∈ op.operands.toList, x = .tmp s) (hV : ∀ v w1 w2, Mod [] w1 w2 → V v w1 → V v w2) (hd : Nat.blt d n = true) (hs : notSel op = true)
    (hr : ∀ (ρ : Operand → Value) w1 u u', Mod [] w w1 → U u w1 → U' u' w1 → (∀ x v, evO ((t, u) :: (s, u') :: l) x = some v → ρ x = v) → TameUpon P (Mod []) w1 V ((execOp ρ ⟨some d, op, ty, pos, af, none⟩).run P w1)) :
    J P ops (Mod []) (Mod [] w) n (kn l M) ⟨some d, op, ty, pos, af, none⟩ V := by
  refine J_of hV hd hs fun ρ w1 hC h1 h2 => hr ρ w1 (ρ (.tmp t)) (ρ (.tmp s)) hC (h2 t U ht hM hx) (h2 s U' hs' hM' hx') fun x v hv => ?_
  cases x with
  | tmp r =>
    simp only [evO, lk] at hv
    cases hb : Nat.beq t r with
    | true =>
      rw [hb] at hv
      have := Nat.eq_of_beq_eq_true hb
      subst this
      injection hv
    | false =>
      rw [hb] at hv
      cases hb' : Nat.beq s r with
      | true =>
        rw [hb'] at hv
        have := Nat.eq_of_beq_eq_true hb'
        subst this
        injection hv
      | false => rw [hb'] at hv; exact h1 _ _ hv
  | const c => exact h1 _ _ hv
  | global g => exact h1 _ _ hv
  | func f => exact h1 _ _ hv
theorem tc2 {f : FuncId} {args : Value → Value → Array Value} {v : Value} (t s : Nat) {U U' : Value → World → Prop} (ht : lk t l = none) (hM : lkM t M = some U) (hx : ∃ x ∈ op.operands.toList, x = .tmp t) (hs' : lk s l = none) (hM' : lkM s M = some U') (hx' : ∃ x ∈ op.operands.toList, x = .tmp s)
    (hr : ∀ w1 u u', Mod [] w w1 → U u w1 → U' u' w1 → RunsC P ((t, u) :: (s, u') :: l) ⟨some d, op, ty, pos, af, none⟩ w1 f (args u u')) (hc : ∀ w1 u u', Mod [] w w1 → U u w1 → U' u' w1 → Calls P f (args u u') w1 (Ret fun r w2 => r = v ∧ Mod [] w1 w2)) (hd : Nat.blt d n = true) (hs : notSel op = true) (h : TWL P ops w n Fin rest ((d, v) :: l) M) :
    TWL P ops w n Fin (⟨some d, op, ty, pos, af, none⟩ :: rest) l M := by
  refine ⟨fun u _ => u = v, J_of2 ht hM hx hs' hM' hx' (fun _ _ _ _ h => h) hd hs fun ρ w1 u u' hC hU hU' h1 => ?_, ?_⟩
  · rw [hr w1 u u' hC hU hU' ρ h1]
    exact ⟨rfl, (hc w1 u u' hC hU hU').mono fun e w2 he => by cases e <;> first | exact ⟨he.2, he.1⟩ | exact he⟩
  · rw [kn_put_v rfl]; exact h
theorem tc1g {f : FuncId} {args : Value → Array Value} {v : Value} (t : Nat) {U : Value → World → Prop} (hg : gv ops l j = some b) (hb : b = want) (ht : lk t l = none) (hM : lkM t M = some U) (hx : ∃ x ∈ op.operands.toList, x = .tmp t)
    (hr : ∀ w1 u, Mod [] w w1 → U u w1 → RunsC P ((t, u) :: l) ⟨some d, op, ty, pos, af, none⟩ w1 f (args u)) (hc : ∀ w1 u, Mod [] w w1 → U u w1 → Calls P f (args u) w1 (Ret fun r w2 => r = v ∧ Mod [] w1 w2)) (hd : Nat.blt d n = true) (hs : notSel op = true) (h : TWL P ops w n Fin rest ((d, v) :: l) M) :
    TWL P ops w n Fin (⟨some d, op, ty, pos, af, some (j, want)⟩ :: rest) l M := by
  refine ⟨fun u _ => u = v, J_g hg hb (J_of1 ht hM hx (fun _ _ _ _ h => h) hd hs fun ρ w1 u hC hU h1 => ?_), ?_⟩
  · rw [hr w1 u hC hU ρ h1]
    exact ⟨rfl, (hc w1 u hC hU).mono fun e w2 he => by cases e <;> first | exact ⟨he.2, he.1⟩ | exact he⟩
  · rw [kn_put_v rfl]; exact h
theorem Calls.imp {f : FuncId} {args : Array Value} {φ ψ : Value → World → Prop} (h : Calls P f args w (Ret φ)) (hi : ∀ u w', φ u w' → ψ u w') : Calls P f args w (Ret ψ) :=
  h.mono fun e w2 he => by cases e <;> first | exact hi _ _ he | exact he
/-- a byte of a text, whichever -/
theorem s_sidx {u : List UInt8} {k : IntKind} {m : Int} (ht : P.underlying t = some .string) (hx : evO l x = some (S u)) (hy : evO l y = some (.int k m)) (h0 : 0 ≤ m) (hb : m.toNat < u.length) (hd : Nat.blt d n = true)
    (h : ∀ c : UInt8, u[m.toNat]? = some c → WL P ops Q rest n ds ((d, .int .u8 c.toNat) :: l) w) : WL P ops Q (⟨some d, .index t x y, ty, pos, af, none⟩ :: rest) n ds l w :=
  sv (o_sidx ht hx hy h0 (List.getElem?_eq_getElem hb)) hd (h _ (List.getElem?_eq_getElem hb))
theorem Cs.first {ad : Addr} {v : Value} {vs : List Value} (h : Cs w ad (v :: vs)) : w.cell? ad = some v := by
  have := h 0 v rfl
  rwa [Addr.add_zero'] at this
end
end Go.Proofs.YtkhbnhdlelmbnaaGreatDoor.V

set_option linter.unusedVariables false
set_option linter.unusedSimpArgs false
namespace Go.Proofs.YtkhbnhdlelmbnaaGreatDoor.V
open Go
section
variable {H : Type} {enc : TypeId × Value → H} {P : Program} {w : World} {n : Nat} {t : TypeId}
/-- what is read at type 't' within 'n' steps stands for something: 'f a', and 'Q a' -/
def OpnN (enc : TypeId × Value → H) (P : Program) (w : World) (n : Nat) (t : TypeId) {α : Type} (f : α → List D) (Q : α → Prop) : Prop :=
  ∀ cs x, DataW.trod enc P w 0 (fun _ => true) true n t cs = some x → (∀ m ∈ x.1.weights P t, m ≤ reachBytes) → ∃ a, Reps [] w (f a) cs ∧ Q a
theorem OpnN.zero {α : Type} {f : α → List D} {Q : α → Prop} : OpnN enc P w 0 t f Q := fun cs x h => by simp [DataW.trod] at h
theorem OpnN.to {α β : Type} {f : α → List D} {Q : α → Prop} {f' : β → List D} {Q' : β → Prop} (h : OpnN enc P w n t f Q) (g : α → β) (hf : ∀ a, f' (g a) = f a) (hQ : ∀ a, Q a → Q' (g a)) : OpnN enc P w n t f' Q' := fun cs x hx hm => by
  obtain ⟨a, h1, h2⟩ := h cs x hx hm
  exact ⟨g a, by rw [hf]; exact h1, hQ a h2⟩
theorem opn_str (ht : P.underlying t = some .string) : OpnN enc P w n t (fun s => [.v (S s)]) (fun s : List UInt8 => s.length ≤ 140737488351232) := fun cs x hx hm => by
  obtain ⟨s, rfl, rfl, _⟩ := DataW.trod_string ht hx
  refine ⟨s.data.toList, Reps.cons_ (Rep.v_ rfl) Reps.nil_, ?_⟩
  have := hm s.data.toList.length (by simp [DataW.weights])
  simpa [reachBytes] using this
theorem opn_int {k : IntKind} (ht : P.underlying t = some (.int k)) : OpnN enc P w n t (fun m => [.v (.int k m)]) (fun m : Int => (Lit.int k m).wf = true) := fun cs x hx hm => by
  obtain ⟨m, rfl, rfl, h⟩ := DataW.trod_int ht hx
  exact ⟨m, Reps.cons_ (Rep.v_ rfl) Reps.nil_, h⟩
theorem opn_bool (ht : P.underlying t = some .bool) : OpnN enc P w n t (fun b => [.v (.bool b)]) (fun _ : Bool => True) := fun cs x hx hm => by
  obtain ⟨b, rfl, rfl⟩ := DataW.trod_bool ht hx
  exact ⟨b, Reps.cons_ (Rep.v_ rfl) Reps.nil_, trivial⟩
/-- fields, from the place 'off' on -/
def OpnFs (enc : TypeId × Value → H) (P : Program) (w : World) (n tot : Nat) (fs : List Field) (off : Nat) {α : Type} (f : α → List D) (Q : α → Prop) : Prop :=
  ∀ (cs : List Value) (xs : List (DataW H × List MemPlace)), cs.length = tot → xs.length = fs.length → (∀ (i : Nat) g, fs[i]? = some g → DataW.trod enc P w 0 (fun _ => true) true n g.type ((cs.drop g.offset).take (P.cellsOf g.type)) = xs[i]?) →
    (∀ m ∈ DataW.weightsEach P (fs.map (·.type)) (xs.map (·.1)), m ≤ reachBytes) → ∃ a, Reps [] w (f a) (cs.drop off) ∧ Q a
theorem opn_nil {tot : Nat} : OpnFs enc P w n tot [] tot (fun _ : Unit => []) (fun _ => True) := fun cs xs h _ _ _ => ⟨(), by rw [List.drop_eq_nil_of_le (by omega)]; exact Reps.nil_, trivial⟩
theorem opn_cons {tot off k : Nat} {fd : Field} {fs : List Field} {α β : Type} {f : α → List D} {Q : α → Prop} {f' : β → List D} {Q' : β → Prop} (ho : fd.offset = off) (hk : P.cellsOf fd.type = k) (h : OpnN enc P w n fd.type f Q) (h' : OpnFs enc P w n tot fs (off + k) f' Q') :
    OpnFs enc P w n tot (fd :: fs) off (fun p : α × β => f p.1 ++ f' p.2) (fun p => Q p.1 ∧ Q' p.2) := fun cs xs hl hx hr hm => by
  cases xs with
  | nil => simp at hx
  | cons x xs =>
    have h0 := hr 0 fd rfl
    simp only [List.getElem?_cons_zero] at h0
    simp only [List.map_cons, DataW.weightsEach, List.mem_append] at hm
    obtain ⟨a, ha, hQ⟩ := h _ x h0 (fun m hm' => hm m (.inl hm'))
    obtain ⟨b, hb, hQ'⟩ := h' cs xs hl (by simpa using hx) (fun i g hg => by simpa using hr (i + 1) g (by simpa using hg)) (fun m hm' => hm m (.inr hm'))
    refine ⟨(a, b), ?_, hQ, hQ'⟩
    have := ha.append hb
    rw [ho, hk] at this
    rwa [← List.drop_drop, List.take_append_drop] at this
theorem opn_struct {tot : Nat} {fs : Array Field} {α : Type} {f : α → List D} {Q : α → Prop} (ht : P.underlying t = some (.struct fs)) (hc : P.cellsOf t = tot) (h : OpnFs enc P w n tot fs.toList 0 f Q) : OpnN enc P w (n + 1) t f Q := fun cs x hx hm => by
  obtain ⟨xs, m, hn, rfl, hl, hlen, hf⟩ := DataW.trod_struct ht hx
  obtain rfl : n = m := by omega
  simp only [DataW.weights, ht] at hm
  have := h cs xs (hl.trans hc) (by simpa using hlen) (fun i g hg => hf i g (by simpa using hg)) hm
  simpa using this
theorem choose_list {α : Type} {R : Nat → α → Prop} : ∀ (k : Nat), (∀ i, i < k → ∃ a, R i a) → ∃ l : List α, l.length = k ∧ ∀ i a, l[i]? = some a → R i a
  | 0, _ => ⟨[], rfl, fun i a h => by simp at h⟩
  | k + 1, h => by
    obtain ⟨l, hl, hr⟩ := choose_list k fun i hi => h i (by omega)
    obtain ⟨a, ha⟩ := h k (by omega)
    refine ⟨l ++ [a], by simp [hl], fun i b hb => ?_⟩
    rcases Nat.lt_trichotomy i l.length with h1 | h1 | h1
    · rw [List.getElem?_append_left h1] at hb
      exact hr i b hb
    · subst h1
      simp at hb
      subst hb
      rw [hl]
      exact ha
    · rw [List.getElem?_eq_none (by simp; omega)] at hb
      cases hb
theorem weightsAll_mem {e : TypeId} : ∀ {ds : List (DataW H)} {d : DataW H}, d ∈ ds → ∀ m ∈ d.weights P e, m ∈ DataW.weightsAll P e ds
  | d' :: ds, d, h, m, hm => by
    simp only [DataW.weightsAll, List.mem_append]
    rcases List.mem_cons.1 h with rfl | h
    · exact .inl hm
    · exact .inr (weightsAll_mem h m hm)
theorem opn_slice {e sz by_ : Nat} {α : Type} {f : α → List D} {Q : α → Prop} (ht : P.underlying t = some (.slice e)) (hc : P.cellsOf e = sz) (hb : P.bytesOf e = by_) (hsz : 0 < sz) (h : OpnN enc P w n e f Q) :
    OpnN enc P w (n + 1) t (fun xs : List α => [.sl sz (xs.map f)]) (fun xs => (∀ x ∈ xs, Q x) ∧ xs.length * by_ ≤ 140737488351232) := fun cs x hx hm => by
  rcases DataW.trod_slice ht hx with ⟨rfl, rfl⟩ | ⟨a, len, cap, elems, rest, m, hn, rfl, rfl, _, hl, hcap, hlen, hel, hsp, _⟩
  · refine ⟨[], Reps.cons_ ?_ Reps.nil_, by simp, by simp⟩
    simp only [Rep, List.map_nil]
    exact ⟨none, 0, rfl, by simp, by simp, by simp⟩
  · obtain rfl : n = m := by omega
    simp only [DataW.weights, ht, List.mem_cons, List.mem_append] at hm
    have hw := hm _ (.inl rfl)
    rw [hb] at hw
    simp only [List.length_map, reachBytes] at hw
    have hwl : len * by_ ≤ (elems.length + rest.length) * by_ := Nat.mul_le_mul_right _ (by omega)
    have key : ∀ i, i < len → ∃ b, Q b ∧ a.block < w.heap.size ∧ ∃ us, us.length = sz ∧ Reps [] w (f b) us ∧ Cs w (a.add (i * sz)) us := fun i hi => by
      have h1 := hel i hi
      obtain ⟨y, hy⟩ : ∃ y, elems[i]? = some y := ⟨_, List.getElem?_eq_getElem (by omega)⟩
      rw [hy] at h1
      obtain ⟨us, h2, h3⟩ := Option.bind_eq_some_iff.1 h1
      rw [hc] at h2
      have h4 := World.cells?_some h2
      obtain ⟨b, hb1, hb2⟩ := h us y h3 (fun m hm' => hm m (.inr (.inl (weightsAll_mem (List.mem_map.2 ⟨y, List.mem_of_getElem? hy, rfl⟩) m hm'))))
      have hblk := World.cells?_block h2 hsz
      rw [add_block] at hblk
      have hulen : us.length = sz := h4.2.1
      exact ⟨b, hb2, hblk, us, hulen, hb1, fun j v hv => by
        have hj := (List.getElem?_eq_some_iff.1 hv).1
        have := h4.2.2 j (by omega)
        rw [this, hv]⟩
    obtain ⟨xs, hxl, hxs⟩ := choose_list len key
    refine ⟨xs, Reps.cons_ ?_ Reps.nil_, fun y hy => ?_, by rw [hxl]; omega⟩
    · rcases Nat.eq_zero_or_pos len with h0 | h0
      · subst h0
        obtain rfl : xs = [] := List.eq_nil_of_length_eq_zero hxl
        simp only [Rep, List.map_nil]
        exact ⟨some a, cap, rfl, hl, hcap, by simp⟩
      · obtain ⟨_, _, hblk, _⟩ := key 0 h0
        refine Rep.sl_mk (by simp [hxl]) hl hcap (by simp) hblk fun i r hi => ?_
        rw [List.getElem?_map] at hi
        obtain ⟨y, hy, rfl⟩ := Option.map_eq_some_iff.1 hi
        obtain ⟨_, _, us, h1, h2, h3⟩ := hxs i y hy
        exact ⟨by rw [← h2.length, h1], us, h2, h3⟩
    · obtain ⟨i, hi⟩ := List.getElem?_of_mem hy
      exact (hxs i y hi).1
end
end Go.Proofs.YtkhbnhdlelmbnaaGreatDoor.V

set_option linter.unusedVariables false
set_option linter.unusedSimpArgs false
namespace Go.Proofs.YtkhbnhdlelmbnaaGreatDoor.V
open Go Go.ChangeShapes Go.WideShapes Go.RowKit
section
variable {H : Type} {enc : TypeId × Value → H} {P : Program} {W W' : World}
theorem trodAll_later (hl : laidOutB P = true) (k : Mod [] W W') : ∀ {ts : List TypeId} {vs : List Value} {ds : List (DataW H)} {ps : List MemPlace}, (ts.all fun t => P.readableRec t && decide (t < P.types.size)) = true →
    DataW.TrodAll enc P W 0 (fun _ => true) true ts vs ds ps → (∀ p ∈ ps, p.block < W.heap.size) → DataW.TrodAll enc P W' 0 (fun b => decide (b < W.heap.size)) true ts vs ds ps
  | [], vs, ds, ps, _, h, _ => by
    obtain ⟨rfl, rfl, rfl⟩ := trodAll_nil h
    exact trodAll_mk0
  | t :: ts, vs, ds, ps, hr, h, hp => by
    obtain ⟨v, vs1, d, ds1, a, b, rfl, rfl, rfl, h1, h2⟩ := trodAll_cons h
    simp only [List.all_cons, Bool.and_eq_true, decide_eq_true_eq] at hr
    have ha : ∀ p ∈ a, p.block < W.heap.size := fun p hp' => hp p (List.mem_append_left _ hp')
    exact trodAll_cons_mk (Below.trod hl hr.1.1 hr.1.2 h1 k.below ha) (trodAll_later hl k hr.2 h2 fun p hp' => hp p (List.mem_append_right _ hp'))
theorem Mod.keptBut (k : Mod [] W W') (S : MemPlace → Prop) : W.keptBut W' S := by
  refine ⟨k.os, k.output, fun i hi => ?_⟩
  rw [k.block i hi (by simp)]
  cases h : W.heap[i]? with
  | none => rfl
  | some o => cases o <;> simp
/-- what a law's row asks behind the call -/
theorem post_true (hl : laidOutB P = true) {f : Func} {s : ChangeSpec} {t : TypeId} {args : Array Value} {ds : List (DataW H)} {before : List MemPlace} (hs : s.vars = []) (hr : f.resultTypes = #[t]) (ht : P.underlying t = some .bool)
    (hrow : (f.params.toList.all fun t => P.readableRec t && decide (t < P.types.size)) = true) (hspec : s.fn H ds = { results := [.lit (.bool true)], args := ds })
    (hW : DataW.Whole enc P f.params.toList s.vars false W args.toList ds [] before) (k : Mod [] W W') : s.post enc P f false true false false W args (.bool true) W' := by
  have hlt := hW.lt
  have hW0 := hW
  obtain ⟨p, q, hA, hV, rfl, hfz, hnd⟩ := hW
  rw [hs] at hV
  obtain ⟨_, rfl⟩ := trodVars_none hV
  have hlen : f.resultTypes.size = 1 := by rw [hr]; rfl
  refine ⟨ds, [], _, [], p, [], hW0, ?_, ?_, ?_, k.keptBut _, fun h => by cases h⟩
  · rw [List.append_nil, hspec, hlen, hr]
    exact trodAll_cons_mk (shut_bool ht true) trodAll_mk0
  · rw [List.append_nil, hspec]
    exact trodAll_later hl k hrow hA fun p hp => by simpa using hlt p (List.mem_append_left _ hp)
  · rw [List.append_nil, hspec, hs]
    exact rfl
end
end Go.Proofs.YtkhbnhdlelmbnaaGreatDoor.V

set_option linter.unusedVariables false
set_option linter.unusedSimpArgs false
namespace Go.Proofs.YtkhbnhdlelmbnaaGreatDoor.V
open Go
section
variable {P : Program} {l : List (Nat × Value)} {w : World} {ty : TypeId} {pos : String} {af : Array Edge}
variable {dd : Option Nat} {gg : Option (Nat × Bool)} {x y : Operand} {t t' : TypeId}
def CmpX (P : Program) (f : FuncId) : Prop := ∀ args w, (callFunc f args).run P w = ((Extern.BytealgCompare.compare args).run P w).andThen fun v w' => .ok (.value v) w'
theorem o_cmpstr {f : FuncId} {a b : List UInt8} (hf : CmpX P f) (hx : evO l x = some (S a)) (hy : evO l y = some (S b)) {ts : Array TypeId} :
    Runs P l ⟨dd, .call { callee := .value (.func f), args := #[x, y], argTypes := ts }, ty, pos, af, gg⟩ w (.int .i64 (Lib.compareBytes a b)) w := fun ρ hρ => by
  have e2 : ρ (.func f) = .func (.func f) #[] #[] := hρ _ _ rfl
  have hc := Lib.run_compareString (P := P) ⟨⟨a⟩⟩ ⟨⟨b⟩⟩ w
  have := hf #[S a, S b] w
  rw [show (#[S a, S b] : Array Value) = #[.string ⟨⟨a⟩⟩, .string ⟨⟨b⟩⟩] from rfl, hc] at this
  simp [execOp, resolve, e2, hρ _ _ hx, hρ _ _ hy, Deferred.ofValue, invoke] at this ⊢
  simpa using this
end
end Go.Proofs.YtkhbnhdlelmbnaaGreatDoor.V

set_option linter.unusedVariables false
set_option linter.unusedSimpArgs false
namespace Go.Proofs.YtkhbnhdlelmbnaaGreatDoor.V
open Go
section
variable {P : Program} {ops : Array Oper} {n : Nat} {l : List (Nat × Value)} {M : List (Nat × (Value → World → Prop))} {w : World} {Fin : Kn → Prop} {rest : List Oper} {d : Nat} {ty : TypeId} {pos : String} {af : Array Edge}
theorem t_bslice {t : TypeId} {ps : List (Nat × Operand)} {us : List (Nat × Value)} {e c sz by_ : Nat} {zs cs : List Value} (V : Value → World → Prop) (hV : ∀ v w1 w2, Mod [] w1 w2 → V v w1 → V v w2) (ht : slB P t e sz by_ = true) (hz : zvB P e zs) (hx : evP l ps = some us)
    (hf : fillF (fun i => some (i * sz, sz)) ((List.replicate c zs).flatten) us = some cs) (hzl : zs.length = sz) (hc : c * sz ≤ 16777216) (hv : ∀ w1 g w2, Mod [] w w1 → New w1 w2 g e cs → V (.slice (some ⟨g, 0, none⟩) c c) w2) (hd : Nat.blt d n = true) (hl : lk d l = none)
    (h : TWL P ops w n Fin rest l ((d, V) :: M)) : TWL P ops w n Fin (⟨some d, .buildSlice t c ps.toArray, ty, pos, af, none⟩ :: rest) l M :=
  tr V hV (fun w1 k => ⟨_, _, r_bslice ht hz hx hf hzl hc, (New.mk' w1 e cs).mod, hv _ _ _ k (New.mk' w1 e cs)⟩) hd rfl hl h
end
end Go.Proofs.YtkhbnhdlelmbnaaGreatDoor.V

set_option linter.unusedVariables false
set_option linter.unusedSimpArgs false
namespace Go.Proofs.YtkhbnhdlelmbnaaGreatDoor.V
open Go
section
variable {P : Program} {ops : Array Oper} {Q : Exit → Act → World → Prop} {n : Nat} {ds : List Deferred} {l : List (Nat × Value)} {M : List (Nat × (Value → World → Prop))} {w : World} {Fin : Kn → Prop} {rest : List Oper} {d j t : Nat} {want : Bool} {op : Op} {ty : TypeId} {pos : String} {af : Array Edge}
theorem snu (ht : (ops[j]?).bind (·.dst) = some t) (hl : lk t l = some undef) (hd : Nat.blt d n = true) (h : WL P ops Q rest n ds ((d, undef) :: l) w) :
    WL P ops Q (⟨some d, op, ty, pos, af, some (j, want)⟩ :: rest) n ds l w := by
  intro a ha
  refine wpList_step fun K hK => ?_
  have hy : yielded ops a.tmps j = none := by
    unfold yielded
    rw [ht]
    show (match a.tmps[t]? with | some (.bool b) => some b | _ => none) = none
    rw [ha.get t _ hl]
    rfl
  have hw : ¬ (Region.wanted ⟨some d, op, ty, pos, af, some (j, want)⟩ (yielded ops a.tmps) = true) := by
    simp [Region.wanted, hy]
  rw [if_neg hw]
  exact hK _ _ (h _ (ha.put hd undef))
theorem tnu (ht : (ops[j]?).bind (·.dst) = some t) (hl : lk t l = some undef) (hd : Nat.blt d n = true) (h : TWL P ops w n Fin rest ((d, undef) :: l) M) :
    TWL P ops w n Fin (⟨some d, op, ty, pos, af, some (j, want)⟩ :: rest) l M := by
  refine ⟨fun u _ => u = undef, ⟨fun _ _ _ _ h => h, fun d' hd' => by injection hd' with hd'; subst hd'; simpa [Nat.blt_eq] using hd, fun a w1 hC hN => ?_⟩, by rw [kn_put_v rfl]; exact h⟩
  have hlook : t ∈ Oper.looksAt ops ⟨some d, op, ty, pos, af, some (j, want)⟩ := by
    unfold Oper.looksAt
    refine List.mem_append_right _ ?_
    simp only
    rw [ht]
    simp
  have h1 := hN t (fun u' _ => u' = undef) hlook (by simp [kn, hl])
  have hy : yielded ops a.tmps j = none := by
    unfold yielded
    rw [ht]
    show (match a.tmps[t]? with | some (.bool b) => some b | _ => none) = none
    rw [Array.getD_eq_getD_getElem?] at h1
    cases hg : a.tmps[t]? with
    | none => rfl
    | some u =>
      rw [hg] at h1
      simp only [Option.getD_some] at h1
      subst h1
      rfl
  have hw : ¬ (Region.wanted ⟨some d, op, ty, pos, af, some (j, want)⟩ (yielded ops a.tmps) = true) := by
    simp [Region.wanted, hy]
  rw [if_neg hw]
end
end Go.Proofs.YtkhbnhdlelmbnaaGreatDoor.V

set_option linter.unusedVariables false
set_option linter.unusedSimpArgs false
namespace Go.Proofs.YtkhbnhdlelmbnaaGreatDoor.V
open Go
theorem Own.same {w : World} {e sz m n : Nat} {v : Value} {us vs : List Value} (h : Own w e sz v n vs) (hm : n = m) (hv : vs = us) : Own w e sz v m us := by
  subst hm; subst hv; exact h
section
variable {α : Type}
theorem filter_take {q : α → Bool} : ∀ {xs : List α} {i : Nat}, (∀ j y, j < i → xs[j]? = some y → q y = true) → (∀ j y, i ≤ j → xs[j]? = some y → q y = false) → xs.filter q = xs.take i
  | [], i, _, _ => by simp
  | x :: xs, 0, h, h' => by
    have := filter_take (xs := xs) (i := 0) (fun j y hj => by omega) (fun j y _ hy => h' (j + 1) y (by omega) (by simpa using hy))
    have hx := h' 0 x (by omega) rfl
    rw [List.filter_cons, hx, this]
    simp
  | x :: xs, i + 1, h, h' => by
    have := filter_take (xs := xs) (i := i) (fun j y hj hy => h (j + 1) y (by omega) (by simpa using hy)) (fun j y hj hy => h' (j + 1) y (by omega) (by simpa using hy))
    have hx := h 0 x (by omega) rfl
    rw [List.filter_cons, hx, this]
    simp
theorem filter_drop {q : α → Bool} : ∀ {xs : List α} {i : Nat}, (∀ j y, j < i → xs[j]? = some y → q y = false) → (∀ j y, i ≤ j → xs[j]? = some y → q y = true) → xs.filter q = xs.drop i
  | [], i, _, _ => by simp
  | x :: xs, 0, h, h' => by
    have := filter_drop (xs := xs) (i := 0) (fun j y hj => by omega) (fun j y _ hy => h' (j + 1) y (by omega) (by simpa using hy))
    have hx := h' 0 x (by omega) rfl
    rw [List.filter_cons, hx, this]
    simp
  | x :: xs, i + 1, h, h' => by
    have := filter_drop (xs := xs) (i := i) (fun j y hj hy => h (j + 1) y (by omega) (by simpa using hy)) (fun j y hj hy => h' (j + 1) y (by omega) (by simpa using hy))
    have hx := h 0 x (by omega) rfl
    rw [List.filter_cons, hx, this]
    simp
end
/-- where a pair is, or would be -/
def posS (xs : List Slot) (p : Pair) : Nat := (xs.filter fun x => plt x.pair p).length
theorem posS_eq {xs : List Slot} {p : Pair} {i : Nat} (hi : i ≤ xs.length) (h : ∀ (j : Nat) (y : Slot), j < i → xs[j]? = some y → plt y.pair p = true) (h' : ∀ (j : Nat) (y : Slot), i ≤ j → xs[j]? = some y → plt y.pair p = false) : posS xs p = i := by
  rw [posS, filter_take (i := i) h h', List.length_take]
  omega
theorem asc_pos : ∀ {xs : List Slot} {p : Pair}, asc xs = true → (∀ j y, j < posS xs p → xs[j]? = some y → plt y.pair p = true) ∧ (∀ j y, posS xs p ≤ j → xs[j]? = some y → plt y.pair p = false)
  | [], p, _ => by simp
  | x :: xs, p, h => by
    obtain ⟨h1, h2⟩ := asc_pos (p := p) (asc_tail h)
    by_cases hx : plt x.pair p = true
    · have hp : posS (x :: xs) p = posS xs p + 1 := by simp [posS, hx]
      rw [hp]
      refine ⟨fun j y hj hy => ?_, fun j y hj hy => ?_⟩
      · cases j with
        | zero => simp at hy; subst hy; exact hx
        | succ j => exact h1 j y (by omega) (by simpa using hy)
      · cases j with
        | zero => omega
        | succ j => exact h2 j y (by omega) (by simpa using hy)
    · have hall : ∀ (j : Nat) (y : Slot), (x :: xs)[j]? = some y → plt y.pair p = false := fun j y hy => by
        cases hpy : plt y.pair p with
        | false => rfl
        | true =>
          cases j with
          | zero => simp at hy; subst hy; exact absurd hpy hx
          | succ j => exact absurd (plt_trans (asc_lt h (i := 0) rfl hy (by omega)) hpy) hx
      have hp : posS (x :: xs) p = 0 := posS_eq (by omega) (fun j y hj => by omega) (fun j y _ hy => hall j y hy)
      rw [hp]
      exact ⟨fun j y hj => by omega, fun j y _ hy => hall j y hy⟩
/-- it is there -/
theorem asc_there {xs : List Slot} {p : Pair} {y : Slot} (h : asc xs = true) (hy : xs[posS xs p]? = some y) (hp : y.pair = p) : getS xs p = some y.id ∧ ∀ s : Slot, s.pair = p → putS xs s = xs.set (posS xs p) s := by
  obtain ⟨h1, h2⟩ := asc_pos (p := p) h
  have hlt := (List.getElem?_eq_some_iff.1 hy).1
  refine ⟨getS_hit (fun j z hj hz e => ?_) hy hp, fun s hs => ?_⟩
  · have := h1 j z hj hz
    rw [e, plt_irrefl] at this
    cases this
  · rw [putS, hs, filter_take h1 h2, filter_drop (i := posS xs p + 1), List.set_eq_take_append_cons_drop, if_pos hlt]
    · simp
    · intro j z hj hz
      rcases Nat.lt_succ_iff_lt_or_eq.1 hj with hj | hj
      · exact plt_asymm (h1 j z hj hz)
      · subst hj
        rw [hy] at hz
        injection hz with hz
        subst hz
        rw [hp, plt_irrefl]
    · intro j z hj hz
      rw [← hp]
      exact asc_lt h hy hz (by omega)
/-- it isn't -/
theorem asc_gone {xs : List Slot} {p : Pair} (h : asc xs = true) (hn : ∀ y : Slot, xs[posS xs p]? = some y → y.pair ≠ p) : getS xs p = none ∧ ∀ s : Slot, s.pair = p → putS xs s = xs.take (posS xs p) ++ [s] ++ xs.drop (posS xs p) := by
  obtain ⟨h1, h2⟩ := asc_pos (p := p) h
  have h3 : ∀ j z, posS xs p ≤ j → xs[j]? = some z → plt p z.pair = true := fun j z hj hz => by
    have hlt := (List.getElem?_eq_some_iff.1 hz).1
    obtain ⟨y, hy⟩ : ∃ y, xs[posS xs p]? = some y := ⟨_, List.getElem?_eq_getElem (by omega)⟩
    have hpy : plt p y.pair = true := by
      rcases plt_total p y.pair with h' | h' | h'
      · exact h'
      · exact absurd h'.symm (hn y hy)
      · rw [h2 _ y (Nat.le_refl _) hy] at h'; cases h'
    rcases Nat.lt_or_ge (posS xs p) j with hj' | hj'
    · exact plt_trans hpy (asc_lt h hy hz hj')
    · have : j = posS xs p := by omega
      subst this
      rw [hy] at hz
      injection hz with hz
      subst hz
      exact hpy
  refine ⟨getS_miss fun j z hz e => ?_, fun s hs => ?_⟩
  · rcases Nat.lt_or_ge j (posS xs p) with hj | hj
    · have := h1 j z hj hz
      rw [e, plt_irrefl] at this
      cases this
    · have := h3 j z hj hz
      rw [e, plt_irrefl] at this
      cases this
  · rw [putS, hs, filter_take h1 h2, filter_drop (fun j z hj hz => plt_asymm (h1 j z hj hz)) h3]
theorem isS {xs : List Slot} {p : Pair} {i : Nat} (h : asc xs = true) (hi : posS xs p = i) {y : Slot} (hy : xs[i]? = some y) : (getS xs p).isSome = decide (pcmp y.pair p = 0) := by
  subst hi
  by_cases hp : y.pair = p
  · rw [(asc_there h hy hp).1, decide_eq_true (pcmp_eq.2 hp)]
    rfl
  · rw [(asc_gone h fun z hz => by rw [hy] at hz; injection hz with hz; subst hz; exact hp).1, decide_eq_false (fun e => hp (pcmp_eq.1 e))]
    rfl
theorem slots_one {xs : List Slot} : ∀ x ∈ xs, ∀ c ∈ Slot.cells x, c.oneCell' = true := by
  intro x _ c hc
  simp at hc
  rcases hc with rfl | rfl | rfl <;> rfl
theorem Own.slots {w : World} {e : Nat} {v : Value} {xs : List Slot} (A : List Nat) (h : Own w e 3 v xs.length ((xs.map Slot.cells).flatten)) (hA : ∀ x ∈ ob v, x ∉ A) : Rep A w (slotsD xs) v := Own.flat h (fun _ _ => rfl) slots_one rfl hA
theorem Rep.nilf (A : List Nat) (w : World) {α : Type} {sz : Nat} {cells : α → List Value} : Rep A w (flat sz cells []) (.slice none 0 0) := by
  simp only [flat, Rep, List.map_nil]
  exact ⟨none, 0, rfl, by simp, by simp, by simp⟩
end Go.Proofs.YtkhbnhdlelmbnaaGreatDoor.V
