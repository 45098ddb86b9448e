/-
  A part of the proof: a deferred function that recovers; what a function with one leaves; names of servers, users, rooms and keys in plain Lean: the runes of a text of one kind, and its bytes; library functions that reading uses: the shelf's contracts, in the words of the own base; several plain operations taken in one computed step; truths made literal. No condition of its own.
-/
import Derived.Test.YtknndpjacklkeaaGreatDoorM3
import Derived.WideLaws
import Derived.Lib.IndexMore
import Derived.Lib.Strings
import Derived.Laws.Runes
import Derived.Scope
import Derived.Test.YtknndpjacklkeaaGreatDoorM2
import Derived.Shelf.Small.Wraps
import Derived.Shelf.Strings.Search1
import Derived.Shelf.Strings.Search2
import Derived.Shelf.Strings.Cut
import Derived.Shelf.Strings.Shaped
import Derived.Shelf.Strings.Runes
import Derived.Test.YtknndpjacklkeaaGreatDoorProg
import Derived.Lib.AtoiAll
import Derived.Shelf.Strings.SlTrimAscii
import Derived.Shelf.Strings.Trim
import Derived.Shelf.Small.Utf8
import Derived.Shelf.Small.Bits
import Derived.Shelf.Small.Strs
import Derived.Shelf.Utf8.AppendRune
import Derived.Shelf.Strconv.Atoi
import Derived.Shelf.Strconv.Itoa0
import Derived.Shelf.Strconv.Itoa1
import Derived.Shelf.LaysM
import Derived.Shelf.Strconv.Itoa2
import Derived.Shelf.Strconv.Itoa3
import Derived.Shelf.Strconv.AtoiErrFast
import Derived.Shelf.Strconv.ParseIntEmpty
import Derived.Shelf.Strconv.AtoiFail
import Derived.Shelf.Strconv.Clone
import Derived.Shelf.Strconv.SyntaxError
import Derived.Shelf.LaysC
import Derived.Shelf.Strconv.ToError
import Derived.Shelf.Strconv.Lower
import Derived.Shelf.Strconv.ParseUint10
import Derived.Shelf.Strconv.ParseUint10Empty
import Derived.Shelf.Strconv.ParseUint10Any
import Derived.Shelf.Strconv.ParseInt10
import Derived.Shelf.Strconv.AtoiLong
import Derived.Shelf.Strconv.AtoiInnerAll
import Derived.Shelf.Strconv.RangeError
import Derived.Shelf.Strconv.ToErrorRange
import Derived.Shelf.Strconv.AtoiAll
import Derived.Shelf.Strconv.ErrVarAll
import Derived.Shelf.Strings.Prefix
import Derived.Shelf.Strings.AsciiSet
import Derived.Shelf.Unicode.DecodeSlow
import Derived.Shelf.Unicode.DecodeAny
import Derived.Ground.Names2Prog
import Derived.Shelf.Slices.Clone
set_option linter.unusedVariables false
set_option linter.unusedSimpArgs false
namespace Go.Proofs.YtknndpjacklkeaaGreatDoor.V
open Go
section
variable {P : Program} {ops : Array Oper} {Q : Exit → Act → World → Prop} {n : Nat} {ds : List Deferred} {l : List (Nat × Value)} {w w' : World}
variable {rest : List Oper} {d : Nat} {op : Op} {ty : TypeId} {pos : String} {af : Array Edge} {x y : Operand} {t t' : TypeId} {dd : Option Nat} {gg : Option (Nat × Bool)}
theorem o_inn (hi : P.underlying t = some (.interface (P.methodsAt t))) (hx : evO l x = some .nilIface) : Runs P l ⟨dd, .binOp .eql t x (.const .nilIface) t', ty, pos, af, gg⟩ w (.bool true) w := fun ρ h => by
 have h1 : ρ (.const .nilIface) = .nilIface := h _ _ rfl
 have hg : eqGuard .eql t x (.const .nilIface) .nilIface .nilIface = pure () := by cases x <;> rfl
 simp [execOp, h _ _ hx, h1, binOp, hg, run_equal_nil_nil w t hi]
theorem o_ifn {T : TypeId} {v : Value} (hi : P.underlying t = some (.interface (P.methodsAt t))) (hx : evO l x = some (.iface T v)) : Runs P l ⟨dd, .binOp .eql t x (.const .nilIface) t', ty, pos, af, gg⟩ w (.bool false) w := fun ρ h => by
 have h1 : ρ (.const .nilIface) = .nilIface := h _ _ rfl
 have hg : eqGuard .eql t x (.const .nilIface) (.iface T v) .nilIface = pure () := by rfl
 simp [execOp, h _ _ hx, h1, binOp, hg, run_equal_held_nil w t _ _ hi]
theorem o_ta {T t0 : TypeId} {v : Value} {d0 : TypeDesc} (hT : P.underlying T = some d0) (hn : (match d0 with | .interface _ => false | _ => true) = true) (hx : evO l x = some (.iface T v)) : Runs P l ⟨dd, .typeAssert x t0 T true, ty, pos, af, gg⟩ w (.tuple #[v, .bool true]) w := fun ρ h => by
 cases d0 <;> first | (simp at hn; done) | simp [execOp, Instr.typeAssert, h _ _ hx, run_underlying hT]
theorem s_defer {fn : Fn} {us vs : Array Value} {ts : Array TypeId} (hx : evO l x = some (.func fn us vs)) (h : WL P ops Q rest n ({ target := .fn fn vs, args := us } :: ds) l w) :
  WL P ops Q (⟨none, .defer { callee := .value x, args := #[], argTypes := ts }, ty, pos, af, none⟩ :: rest) n ds l w := by
 intro a ha
 refine wpList_plain rfl fun K hK => ?_
 have hr : (execOp a.eval ⟨none, .defer { callee := .value x, args := #[], argTypes := ts }, ty, pos, af, none⟩).run P w = .ok (.defer { target := .fn fn vs, args := us }) w := by
  simp [execOp, resolve, ha.ev hx, Deferred.ofValue]
 simp only [Oper.wp, hr, Oper.upon]
 exact hK _ _ (h _ ⟨ha.size, by simp [Act.put, ha.defers], ha.get⟩)
theorem enterD {f : FuncId} {fn : Func} {c : Code} {vs : List Value} {R : Ending → World → Prop} (hf : P.funcs[f]? = some fn) (hb : fn.body = some c) (hn : fn.ntmps = n) (hle : Nat.ble vs.length n = true) (hs : Sub (argL 0 vs) l)
  (h : WC P c (bodyPostD P fn R) n [] l w) : Calls P f vs.toArray w R := by
 have hle' : vs.length ≤ n := by simpa using hle
 have ha : Has n [] (argL 0 vs) { tmps := vs.toArray ++ Array.replicate (fn.ntmps - vs.toArray.size) undef, defers := [] } := by
  refine ⟨by rw [Array.size_append, Array.size_replicate, List.size_toArray, hn]; omega, rfl, fun t v hv => ?_⟩
  obtain ⟨_, h2⟩ := argL_get vs 0 t v hv
  rw [Nat.sub_zero] at h2
  have hlt := (List.getElem?_eq_some_iff.1 h2).1
  dsimp only
  rw [Array.getElem?_append_left (by simpa using hlt)]
  simpa using h2
 exact calls_of_wp_defers hf hb (h _ (ha.sub hs))
theorem opsS_of_list {QS : Exit → Act → List Frame → World → Prop} {cs : List Frame} (hno : ¬ LetsOut Q) (hq : ∀ e a w, Q e a w → QS e a cs w) :
  ∀ (m : List Oper) (k : Nat), (∀ j, m[j]? = ops[k + j]?) → ∀ a w, wpList P ops Q m a w → wpOpsS P ops QS (List.range' k m.length) a cs w
 | [], k, _, a, w, h => hq _ _ _ h
 | o :: m, k, hj, a, w, h => by
  have ih := opsS_of_list hno hq m (k + 1) (fun j => by have := hj (j + 1); simpa [Nat.add_assoc, Nat.add_comm 1 j] using this)
  have h0 : ops[k]? = some o := by simpa using (hj 0).symm
  simp only [List.length_cons, List.range'_succ, wpOpsS, h0]
  simp only [wpList] at h
  by_cases hw : Region.wanted o (yielded ops a.tmps) = true
  ·simp only [hw, if_true] at h ⊢
   rcases h with h | h
   ·simp only [Oper.wp] at h
    generalize hr : (execOp a.eval o).run P w = r at h
    split
    ·rename_i w1 
     simp only [Oper.upon] at h
    ·rename_i r' hne
     match r, h with
     | .ok (.value v) w1, h => exact ih _ _ h
     | .ok .skip w1, h => exact ih _ _ h
     | .ok (.defer dd) w1, h => exact ih _ _ h
     | .ok (.enter f args) w1, h =>
      refine Calls.mono h fun e w2 he => ?_
      cases e with
      | returned v => exact ih _ _ he
      | panicked c => exact hq _ _ _ he
      | outgrown => exact absurd he hno
     | .ok (.row rw args) w1, h => exact Rows.mono h fun v w2 he => ih _ _ he
     | .halt (.panic v) w1, h => exact hq _ _ _ h
   ·exact absurd h.2 hno
  ·simp only [hw, if_false, Bool.false_eq_true] at h ⊢
   exact ih _ _ h
def RecOf (u : FrameMode) (v : Value) (u1 : FrameMode) : Prop :=
 (u = .returning ∧ v = .nilIface ∧ u1 = .returning) ∨ (u = .panicking [{ v := v, recovered := false }] ∧ u1 = .panicking [{ v := v, recovered := true }])
theorem rec_enter {f : FuncId} {fn : Func} {id : Nat} {y : Code} {vs : List Value} {u u1 : FrameMode} {v : Value} {R : Ending → FrameMode → World → Prop}
  (hf : P.funcs[f]? = some fn) (hb : fn.body = some (.seq (.region id ops false) y)) (hn : fn.ntmps = n) (hle : Nat.ble vs.length n = true) (hs : Sub (argL 0 vs) l)
  (ho : ops.toList = ⟨some d, .call { callee := .builtin .recover, args := #[], argTypes := #[] }, ty, pos, af, none⟩ :: rest) (hd : Nat.blt d n = true) (hu : RecOf u v u1) (hout : ∀ u w, ¬ R .outgrown u w)
  (h : ∀ K : Act → World → Prop, (∀ n ds l w, WC P y (bodyPost P fn fun e w => R e u1 w) n ds l w → ∀ a, Has n ds l a → K a w) → WL P ops (Exit.then K (bodyPost P fn fun e w => R e u1 w)) rest n [] ((d, v) :: l) w) : CallsD P f vs.toArray u w R := by
 have hle' : vs.length ≤ n := by simpa using hle
 have ha : Has n [] (argL 0 vs) { tmps := vs.toArray ++ Array.replicate (fn.ntmps - vs.toArray.size) undef, defers := [] } := by
  refine ⟨by rw [Array.size_append, Array.size_replicate, List.size_toArray, hn]; omega, rfl, fun t v hv => ?_⟩
  obtain ⟨_, h2⟩ := argL_get vs 0 t v hv
  rw [Nat.sub_zero] at h2
  have hlt := (List.getElem?_eq_some_iff.1 h2).1
  dsimp only
  rw [Array.getElem?_append_left (by simpa using hlt)]
  simpa using h2
 refine callsD_of_wpS hf hb fun c₀ cs hc => wpS_seq (wpS_region ?_)
 have hsz : ops.size = rest.length + 1 := by rw [← Array.length_toList, ho]; rfl
 have h0 : ops[0]? = some ⟨some d, .call { callee := .builtin .recover, args := #[], argTypes := #[] }, ty, pos, af, none⟩ := by rw [← Array.getElem?_toList, ho]; rfl
 have hm : ∃ cs', cs' = { c₀ with mode := u1 } :: cs ∧ ((recoverD (c₀ :: cs) = some (v, cs')) ∨ (recoverD (c₀ :: cs) = none ∧ v = .nilIface ∧ cs' = c₀ :: cs)) := by
  refine ⟨_, rfl, ?_⟩
  rcases hu with ⟨h1, h2, h3⟩ | ⟨h1, h2⟩
  ·refine .inr ⟨by simp [recoverD, hc, h1], h2, ?_⟩
   rw [h3, ← h1, ← hc]
  ·exact .inl (by subst h2; simp [recoverD, hc, h1])
 obtain ⟨cs', hcs, hm⟩ := hm
 have key := h (fun a w => y.wp P (bodyPost P fn fun e w => R e u1 w) a w) (fun n ds l w hy a ha => hy a ha) _ ((ha.sub hs).put hd v)
 have hno : ¬ LetsOut (Exit.then (fun a w => y.wp P (bodyPost P fn fun e w => R e u1 w) a w) (bodyPost P fn fun e w => R e u1 w)) := by
  rintro ⟨a, w, h⟩
  exact hout _ _ h
 have hQ : ∀ e a w, bodyPost P fn (fun e w => R e u1 w) e a w → bodyPostS P fn c₀ cs R e a cs' w := by
  intro e a w hq
  cases e with
  | normal => obtain ⟨h1, v, h2, h3⟩ := hq; exact ⟨h1, u1, hcs, v, h2, h3⟩
  | ret => obtain ⟨h1, v, h2, h3⟩ := hq; exact ⟨h1, u1, hcs, v, h2, h3⟩
  | panic c => obtain ⟨h1, h3⟩ := hq; exact ⟨h1, u1, hcs, h3⟩
  | outgrown => exact absurd hq (hout _ _)
  | exit i => exact hq.elim
  | goto i => exact hq.elim
 have hq2 : ∀ e a w, Exit.then (fun a w => y.wp P (bodyPost P fn fun e w => R e u1 w) a w) (bodyPost P fn fun e w => R e u1 w) e a w → Exit.thenS (y.wpS P (bodyPostS P fn c₀ cs R)) (bodyPostS P fn c₀ cs R) e a cs' w := by
  intro e a w hq
  cases e with
  | normal => exact wpS_of_wp (Code.wp_mono hQ hq)
  | ret => exact hQ .ret a w hq
  | panic c => exact hQ (.panic c) a w hq
  | outgrown => exact hQ .outgrown a w hq
  | exit i => exact hQ (.exit i) a w hq
  | goto i => exact hQ (.goto i) a w hq
 have hlist := opsS_of_list (ops := ops) hno hq2 rest 1 (fun j => by rw [← Array.getElem?_toList, ho, Nat.add_comm]; rfl) _ _ key
 rw [hsz, List.range_eq_range', List.range'_succ]
 simp only [wpOpsS, h0, Region.wanted, if_true]
 have hr : (execOp (Act.eval { tmps := vs.toArray ++ Array.replicate (fn.ntmps - vs.toArray.size) undef, defers := [] }) ⟨some d, .call { callee := .builtin .recover, args := #[], argTypes := #[] }, ty, pos, af, none⟩).run P w = .ok .recover w := by
  simp [execOp, resolve, invoke, builtin]
 simp only [hr]
 rcases hm with hm | ⟨hm, hv, hc'⟩
 ·rw [hm]
  exact hlist
 ·rw [hm]
  subst hv
  rw [← hc']
  exact hlist
variable {fn : Func} {R : Ending → World → Prop} {u : FrameMode}
theorem we_ret (h : ∀ a, Has n ds l a → Leaves P fn a.tmps R ds .returning w) : WE (bodyPostD P fn R) .ret n ds l w := fun a ha => by
 show Leaves P fn a.tmps R a.defers .returning w
 rw [ha.defers]
 exact h a ha
theorem we_panic {c : List PanicEntry} (h : ∀ a, Has n ds l a → Leaves P fn a.tmps R ds (.panicking c) w) : WE (bodyPostD P fn R) (.panic c) n ds l w := fun a ha => by
 show Leaves P fn a.tmps R a.defers (.panicking c) w
 rw [ha.defers]
 exact h a ha
theorem leavesD {k : FuncId} {cap tmps : Array Value} {R1 : Ending → FrameMode → World → Prop} (hu : u ≠ .run) (hE : Ent P k) (hc : CallsD P k cap u w R1)
  (h : ∀ e u' w', R1 e u' w' → ∃ v, e = .returned v ∧ settle u' = .returning ∧ ∃ r, (results fn tmps).run P w' = .ok r w' ∧ R (.returned r) w') : Leaves P fn tmps R [{ target := .fn (.func k) cap, args := #[] }] u w := by
 refine leaves_cons hu (f := k) (args := cap) ?_ (hc.mono fun e u' w' he => ?_)
 ·have := hE cap w
  simpa [invoke] using this
 ·obtain ⟨v, rfl, h2, r, h3, h4⟩ := h e u' w' he
  dsimp only
  rw [h2]
  exact ⟨r, h3, h4⟩
end
end Go.Proofs.YtknndpjacklkeaaGreatDoor.V

set_option linter.unusedVariables false
set_option linter.unusedSimpArgs false
namespace Go.Proofs.YtknndpjacklkeaaGreatDoor.V
open Go
theorem atL_at {s : Str} {p : Nat} {b : UInt8} (h : s[p]? = some b) : atL (s.drop p) 0 = b.toNat := by
 unfold atL
 rw [List.getD_eq_getElem?_getD, List.getElem?_drop, Nat.add_zero, h]
 rfl
theorem dec_lt {s : Str} {p : Nat} {b : UInt8} (h : s[p]? = some b) (hb : b.toNat < 128) : Utf8.decode ⟨⟨s⟩⟩ p = (b.toNat, 1) := by
 rw [decode_eq]
 unfold decL
 rw [atL_at h, if_pos (by omega)]
def allB (q : Nat → Bool) (s : Str) : Bool := decide (s ≠ []) && s.all (fun b => q b.toNat)
def kS (c : Nat) : Bool := decide (97 ≤ (c : Int)) && decide ((c : Int) ≤ 122)
def kG (c : Nat) : Bool := decide (65 ≤ (c : Int)) && decide ((c : Int) ≤ 90)
def kD (c : Nat) : Bool := decide (48 ≤ (c : Int)) && decide ((c : Int) ≤ 57)
abbrev userS : Str := [46, 95, 61, 45, 47, 43]
def qServer (c : Nat) : Bool := kS c || kD c || decide ((c : Int) = 46) || decide ((c : Int) = 45)
def qUser (c : Nat) : Bool := kS c || kD c || userS.any (fun b => decide (b.toNat = c))
def qRoom (c : Nat) : Bool := kS c || kG c || kD c || decide ((c : Int) = 95) || decide ((c : Int) = 45)
def qKey (c : Nat) : Bool := kS c || kG c || kD c || decide ((c : Int) = 95)
/-! ### the first colon -/
def colonAt (s : Str) : Nat := s.findIdx (fun b => b == 58)
def serverB (s : Str) : Bool :=
 allB qServer (s.take (colonAt s)) && decide (s.length ≤ 255) && (decide (colonAt s = s.length) || (decide (s.length - colonAt s ≤ 6) && allB kD (s.drop (colonAt s + 1))))
def namedB (sign : UInt8) (q : Nat → Bool) (s : Str) : Bool :=
 decide (s.length ≤ 255) && decide (colonAt s < s.length) && decide (s.head? = some sign) && allB q ((s.take (colonAt s)).drop 1) && serverB (s.drop (colonAt s + 1))
abbrev edS : Str := [101, 100, 50, 53, 53, 49, 57, 58]
def keyB (s : Str) : Bool := decide (s.length ≤ 255) && decide (s.take 8 = edS) && allB qKey (s.drop 8)
/-! ### control: a scope that is not jumped about in -/
section
variable {P : Program} {Q : Exit → Act → World → Prop} {n : Nat} {ds : List Deferred} {l : List (Nat × Value)} {w : World}
theorem c_scope {c : Code} (h : WC P c (Exit.noGoto Q) n ds l w) : WC P (.scope c) Q n ds l w := fun a ha => wp_scope_straight (h a ha)
theorem e_scope {e : Exit} (he : ∀ j, e ≠ .goto j) (h : WE Q e n ds l w) : WE (Exit.noGoto Q) e n ds l w := fun a ha => by
 have := h a ha
 cases e <;> first | exact this | exact absurd rfl (he _)
variable {t t' : TypeId} {ty : TypeId} {pos : String} {af : Array Edge} {dd : Option Nat} {gg : Option (Nat × Bool)} {x y : Operand} {ops : Array Oper} {rest : List Oper} {d : Nat}
theorem o_r2s {d0 : TypeDesc} {c : Nat} {k : IntKind} (hs : P.underlying t = some d0) (ht : P.underlying t' = some .string) (hx : evO l x = some (.int k (c : Int))) : Runs P l ⟨dd, .convert t t' x, ty, pos, af, gg⟩ w (.string (Utf8.encode c)) w := fun ρ h => by
 have h1 := run_convert_int_string (P := P) w t t' k (c : Int) (by rw [hs]; rfl) ht
 simp only [execOp, h _ _ hx, Sem.run_bind, h1, Result.andThen, Sem.run_pure]
end
theorem enc_last {c : Nat} (h1 : c ≤ 1114111) (h2 : ¬ (55296 ≤ c ∧ c ≤ 57343)) (h : 128 ≤ c) : ∃ rs : Str, Utf8.encode (c : Int) = ⟨⟨rs⟩⟩ ∧ 2 ≤ rs.length ∧ rs.length ≤ 4 ∧ ∃ b, rs[rs.length - 1]? = some b ∧ 128 ≤ b.toNat := by
 obtain ⟨f1, f2, f3⟩ := encode_facts (c : Int) (by rw [valid_nat]; simp; omega) (by omega)
 generalize Utf8.encode (c : Int) = e at f1 f2 f3 ⊢
 obtain ⟨⟨rs⟩⟩ := e
 have hs : (⟨⟨rs⟩⟩ : ByteArray).size = rs.length := rfl
 rw [hs] at f1 f2
 have hl : rs.length - 1 < rs.length := by omega
 exact ⟨rs, rfl, f1, f2, rs[rs.length - 1], List.getElem?_eq_getElem hl, f3 hl⟩
theorem indexByte_none {s : Str} {b : UInt8} (h : ∀ x ∈ s, x.toNat < 128) (hb : 128 ≤ b.toNat) : Lib.indexByte s b = -1 := by
 induction s with
 | nil => rfl
 | cons c s ih =>
  have hc := h c (by simp)
  have hne : (c == b) = false := by
   rw [beq_eq_false_iff_ne]
   intro e
   subst e
   omega
  unfold Lib.indexByte
  rw [hne, ih fun x hx => h x (by simp [hx])]
  rfl
end Go.Proofs.YtknndpjacklkeaaGreatDoor.V

namespace Go.Proofs
open Go.Shelf
def Tryz.lays137_ren : Go.Shelf.Ren := ⟨fun | 137 => 100 | 217 => 146 | 266 => 182 | n => n, fun | 9 => 9 | 5 => 5 | 3 => 3 | n => n, fun | n => n⟩
theorem Tryz.lays137 : Go.Proofs.Lays.n137 Tryz.prog Tryz.lays137_ren := {
 mixed := by kernel_rfl
 f137 := Tryz.func100.trans (congrArg some (by kernel_rfl))
 f217 := Tryz.func146.trans (congrArg some (by kernel_rfl))
 f266 := Tryz.func182.trans (congrArg some (by kernel_rfl))
 t3 := Tryz.underlying3
 a3 := Tryz.isAgg3
 z3 := Tryz.sizeOf3
 v3 := Tryz.zeroValue3
 t5 := Tryz.underlying5
 a5 := Tryz.isAgg5
 z5 := Tryz.sizeOf5
 v5 := Tryz.zeroValue5
 t9 := Tryz.underlying9
 a9 := Tryz.isAgg9
 z9 := Tryz.sizeOf9
 v9 := Tryz.zeroValue9 }
open Go.RowKit in
theorem Tryz.strings_IndexByte (s : ByteArray) (c : Int) (w : World) :
  Calls Tryz.prog 100 #[.string s, .int .u8 c] w fun e w' => e = .returned (.int .i64 (Lib.indexByte s.data.toList c.toNat.toUInt8)) ∧ w' = w := Any.strings_IndexByte Tryz.lays137 s c w
def Tryz.lays103_ren : Go.Shelf.Ren := ⟨fun | 103 => 196 | 210 => 231 | 206 => 201 | n => n, fun | 9 => 9 | 4 => 4 | 24 => 171 | 3 => 3 | n => n, fun | n => n⟩
theorem Tryz.lays103 : Go.Proofs.Lays.n103 Tryz.prog Tryz.lays103_ren := {
 mixed := by kernel_rfl
 f103 := Tryz.func196.trans (congrArg some (by kernel_rfl))
 f206 := Tryz.func201.trans (congrArg some (by kernel_rfl))
 f210 := Tryz.func231.trans (congrArg some (by kernel_rfl))
 t3 := Tryz.underlying3
 a3 := Tryz.isAgg3
 z3 := Tryz.sizeOf3
 v3 := Tryz.zeroValue3
 t4 := Tryz.underlying4
 a4 := Tryz.isAgg4
 z4 := Tryz.sizeOf4
 v4 := Tryz.zeroValue4
 t9 := Tryz.underlying9
 a9 := Tryz.isAgg9
 z9 := Tryz.sizeOf9
 v9 := Tryz.zeroValue9
 t24 := Tryz.underlying171
 a24 := Tryz.isAgg171
 z24 := Tryz.sizeOf171
 v24 := Tryz.zeroValue171 }
open Go.RowKit in
theorem Tryz.strings_CutPrefix (s p : ByteArray) (w : World) :
  Calls Tryz.prog 196 #[.string s, .string p] w fun e w' => e = .returned (.tuple #[.string ⟨(Lib.trimPrefix s.data.toList p.data.toList).toArray⟩, .bool (Lib.hasPrefix s.data.toList p.data.toList)]) ∧ w' = w := Any.strings_CutPrefix Tryz.lays103 s p w
end Go.Proofs

namespace Go.Proofs.YtknndpjacklkeaaGreatDoor.V
open Go Go.Proofs
def MaxL (w : World) : Prop := ∃ m, w.cell? ⟨1, 0, none⟩ = some (.int .i64 m)
theorem MaxL.mod0 {w w' : World} (h : MaxL w) (k : Mod [] w w') : MaxL w' := by
 obtain ⟨m, hm⟩ := h
 refine ⟨m, ?_⟩
 have hlt : 1 < w.heap.size := by
  rcases Nat.lt_or_ge 1 w.heap.size with hl | hl
  ·exact hl
  ·unfold World.cell? at hm
   rw [Array.getElem?_eq_none hl] at hm
   cases hm
 unfold World.cell? at hm ⊢
 rw [k.block 1 hlt (by simp)]
 exact hm
theorem c_cutp (w : World) (s p : Str) : Calls Tryz.prog 196 [S s, S p].toArray w (Ret fun u w' => u = .tuple #[S (Lib.trimPrefix s p), .bool (Lib.hasPrefix s p)] ∧ Mod [] w w') := by
 refine (Tryz.strings_CutPrefix ⟨⟨s⟩⟩ ⟨⟨p⟩⟩ w).mono fun e w' he => ?_
 obtain ⟨rfl, rfl⟩ := he
 exact ⟨rfl, Mod.refl _ _⟩
theorem c_ib (w : World) (s : Str) (b : UInt8) : Calls Tryz.prog 100 [S s, .int .u8 (b.toNat : Int)].toArray w (Ret fun u w' => u = .int .i64 (Lib.indexByte s b) ∧ Mod [] w w') := by
 refine (Tryz.strings_IndexByte ⟨⟨s⟩⟩ (b.toNat : Int) w).mono fun e w' he => ?_
 obtain ⟨rfl, rfl⟩ := he
 refine ⟨?_, Mod.refl _ _⟩
 have h1 : ((b.toNat : Int).toNat).toUInt8 = b := by rw [Int.toNat_natCast]; exact UInt8.ofNat_toNat
 rw [h1]
end Go.Proofs.YtknndpjacklkeaaGreatDoor.V

set_option linter.unusedVariables false
set_option linter.unusedSimpArgs false
namespace Go.Proofs
open Go.Shelf
def Tryz.lays161_ren : Go.Shelf.Ren := ⟨fun | 161 => 235 | 231 => 249 | 227 => 250 | 233 => 251 | 235 => 252 | 228 => 259 | 197 => 202 | 151 => 165 | 260 => 232 | 152 => 194 | 137 => 100 | 119 => 228 | 224 => 229 | 225 => 230 | 217 => 146 | 266 => 182 | n => n, fun | 9 => 9 | 4 => 4 | 3 => 3 | 5 => 5 | 117 => 254 | 116 => 253 | 0 => 0 | 124 => 257 | 105 => 205 | 21 => 21 | 119 => 247 | 46 => 144 | 139 => 250 | 138 => 249 | n => n, fun | 3 => 5 | 4 => 6 | n => n⟩
theorem Tryz.lays161 : Go.Proofs.Lays.n161 Tryz.prog Tryz.lays161_ren := {
 mixed := by kernel_rfl
 f119 := Tryz.func228.trans (congrArg some (by kernel_rfl))
 f137 := Tryz.func100.trans (congrArg some (by kernel_rfl))
 f151 := Tryz.func165.trans (congrArg some (by kernel_rfl))
 f152 := Tryz.func194.trans (congrArg some (by kernel_rfl))
 f161 := Tryz.func235.trans (congrArg some (by kernel_rfl))
 f197 := Tryz.func202.trans (congrArg some (by kernel_rfl))
 f217 := Tryz.func146.trans (congrArg some (by kernel_rfl))
 f224 := Tryz.func229.trans (congrArg some (by kernel_rfl))
 f225 := Tryz.func230.trans (congrArg some (by kernel_rfl))
 f227 := Tryz.func250.trans (congrArg some (by kernel_rfl))
 f228 := Tryz.func259.trans (congrArg some (by kernel_rfl))
 f231 := Tryz.func249.trans (congrArg some (by kernel_rfl))
 f233 := Tryz.func251.trans (congrArg some (by kernel_rfl))
 f235 := Tryz.func252.trans (congrArg some (by kernel_rfl))
 f260 := Tryz.func232.trans (congrArg some (by kernel_rfl))
 f266 := Tryz.func182.trans (congrArg some (by kernel_rfl))
 t0 := Tryz.underlying0
 a0 := Tryz.isAgg0
 z0 := Tryz.sizeOf0
 v0 := Tryz.zeroValue0
 t3 := Tryz.underlying3
 a3 := Tryz.isAgg3
 z3 := Tryz.sizeOf3
 v3 := Tryz.zeroValue3
 t4 := Tryz.underlying4
 a4 := Tryz.isAgg4
 z4 := Tryz.sizeOf4
 v4 := Tryz.zeroValue4
 t5 := Tryz.underlying5
 a5 := Tryz.isAgg5
 z5 := Tryz.sizeOf5
 v5 := Tryz.zeroValue5
 t9 := Tryz.underlying9
 a9 := Tryz.isAgg9
 z9 := Tryz.sizeOf9
 v9 := Tryz.zeroValue9
 t21 := Tryz.underlying21
 a21 := Tryz.isAgg21
 z21 := Tryz.sizeOf21
 v21 := Tryz.zeroValue21
 t46 := Tryz.underlying144
 a46 := Tryz.isAgg144
 z46 := Tryz.sizeOf144
 v46 := Tryz.zeroValue144
 t105 := Tryz.underlying205
 a105 := Tryz.isAgg205
 z105 := Tryz.sizeOf205
 v105 := Tryz.zeroValue205
 t116 := Tryz.underlying253
 a116 := Tryz.isAgg253
 z116 := Tryz.sizeOf253
 t117 := Tryz.underlying254
 a117 := Tryz.isAgg254
 z117 := Tryz.sizeOf254
 v117 := Tryz.zeroValue254
 t119 := Tryz.underlying247
 a119 := Tryz.isAgg247
 z119 := Tryz.sizeOf247
 t124 := Tryz.underlying257
 a124 := Tryz.isAgg257
 z124 := Tryz.sizeOf257
 v124 := Tryz.zeroValue257
 t138 := Tryz.underlying249
 a138 := Tryz.isAgg249
 z138 := Tryz.sizeOf249
 v138 := Tryz.zeroValue249
 t139 := Tryz.underlying250
 a139 := Tryz.isAgg250
 z139 := Tryz.sizeOf250
 v139 := Tryz.zeroValue250
 g3 := by kernel_rfl
 g4 := by kernel_rfl }

def Tryz.laysC172_ren : Go.Shelf.Ren := ⟨fun | 172 => 151 | 244 => 185 | 245 => 186 | 247 => 216 | 279 => 217 | 280 => 218 | 281 => 219 | 282 => 220 | 287 => 241 | 316 => 242 | 171 => 109 | 205 => 243 | 321 => 254 | 322 => 255 | 243 => 153 | 246 => 187 | 283 => 221 | 284 => 222 | 285 => 223 | 286 => 224 | 129 => 215 | 317 => 244 | 318 => 245 | 319 => 246 | 320 => 247 | 337 => 256 | 338 => 257 | n => n, fun | 9 => 9 | 3 => 3 | 75 => 168 | 76 => 169 | 4 => 4 | 5 => 5 | 167 => 219 | 37 => 74 | 0 => 0 | 85 => 220 | 2 => 2 | 168 => 222 | 53 => 182 | 175 => 238 | 46 => 144 | 210 => 242 | 127 => 261 | 145 => 264 | 143 => 262 | 21 => 21 | 171 => 225 | 173 => 227 | 212 => 245 | 51 => 147 | 20 => 20 | 213 => 246 | 232 => 103 | 233 => 265 | 80 => 153 | n => n, fun | 15 => 2 | 16 => 3 | 17 => 4 | 18 => 7 | 19 => 8 | n => n⟩
theorem Tryz.laysC172 : Go.Proofs.LaysC.n172 Tryz.prog Tryz.laysC172_ren := {
 mixed := by kernel_rfl
 f129 := Tryz.func215.trans (congrArg some (by kernel_rfl))
 f171 := Tryz.func109.trans (congrArg some (by kernel_rfl))
 f172 := Tryz.func151.trans (congrArg some (by kernel_rfl))
 f205 := Tryz.func243.trans (congrArg some (by kernel_rfl))
 f243 := Tryz.func153.trans (congrArg some (by kernel_rfl))
 f244 := Tryz.func185.trans (congrArg some (by kernel_rfl))
 f245 := Tryz.func186.trans (congrArg some (by kernel_rfl))
 f246 := Tryz.func187.trans (congrArg some (by kernel_rfl))
 f247 := Tryz.func216.trans (congrArg some (by kernel_rfl))
 f279 := Tryz.func217.trans (congrArg some (by kernel_rfl))
 f280 := Tryz.func218.trans (congrArg some (by kernel_rfl))
 f281 := Tryz.func219.trans (congrArg some (by kernel_rfl))
 f282 := Tryz.func220.trans (congrArg some (by kernel_rfl))
 f283 := Tryz.func221.trans (congrArg some (by kernel_rfl))
 f284 := Tryz.func222.trans (congrArg some (by kernel_rfl))
 f285 := Tryz.func223.trans (congrArg some (by kernel_rfl))
 f286 := Tryz.func224.trans (congrArg some (by kernel_rfl))
 f287 := Tryz.func241.trans (congrArg some (by kernel_rfl))
 f316 := Tryz.func242.trans (congrArg some (by kernel_rfl))
 f317 := Tryz.func244.trans (congrArg some (by kernel_rfl))
 f318 := Tryz.func245.trans (congrArg some (by kernel_rfl))
 f319 := Tryz.func246.trans (congrArg some (by kernel_rfl))
 f320 := Tryz.func247.trans (congrArg some (by kernel_rfl))
 f321 := Tryz.func254.trans (congrArg some (by kernel_rfl))
 f322 := Tryz.func255.trans (congrArg some (by kernel_rfl))
 f337 := Tryz.func256.trans (congrArg some (by kernel_rfl))
 f338 := Tryz.func257.trans (congrArg some (by kernel_rfl))
 t0 := Tryz.underlying0
 a0 := Tryz.isAgg0
 z0 := Tryz.sizeOf0
 v0 := Tryz.zeroValue0
 t2 := Tryz.underlying2
 a2 := Tryz.isAgg2
 z2 := Tryz.sizeOf2
 v2 := Tryz.zeroValue2
 t3 := Tryz.underlying3
 a3 := Tryz.isAgg3
 z3 := Tryz.sizeOf3
 v3 := Tryz.zeroValue3
 t4 := Tryz.underlying4
 a4 := Tryz.isAgg4
 z4 := Tryz.sizeOf4
 v4 := Tryz.zeroValue4
 t5 := Tryz.underlying5
 a5 := Tryz.isAgg5
 z5 := Tryz.sizeOf5
 v5 := Tryz.zeroValue5
 t9 := Tryz.underlying9
 a9 := Tryz.isAgg9
 z9 := Tryz.sizeOf9
 v9 := Tryz.zeroValue9
 t20 := Tryz.underlying20
 a20 := Tryz.isAgg20
 z20 := Tryz.sizeOf20
 v20 := Tryz.zeroValue20
 t21 := Tryz.underlying21
 a21 := Tryz.isAgg21
 z21 := Tryz.sizeOf21
 v21 := Tryz.zeroValue21
 t37 := Tryz.underlying74
 a37 := Tryz.isAgg74
 z37 := Tryz.sizeOf74
 v37 := Tryz.zeroValue74
 t46 := Tryz.underlying144
 a46 := Tryz.isAgg144
 z46 := Tryz.sizeOf144
 v46 := Tryz.zeroValue144
 t51 := Tryz.underlying147
 a51 := Tryz.isAgg147
 z51 := Tryz.sizeOf147
 v51 := Tryz.zeroValue147
 t53 := Tryz.underlying182
 a53 := Tryz.isAgg182
 z53 := Tryz.sizeOf182
 v53 := Tryz.zeroValue182
 t75 := Tryz.underlying168
 a75 := Tryz.isAgg168
 z75 := Tryz.sizeOf168
 v75 := Tryz.zeroValue168
 t76 := Tryz.underlying169
 a76 := Tryz.isAgg169
 z76 := Tryz.sizeOf169
 v76 := Tryz.zeroValue169
 t85 := Tryz.underlying220
 a85 := Tryz.isAgg220
 z85 := Tryz.sizeOf220
 v85 := Tryz.zeroValue220
 t127 := Tryz.underlying261
 a127 := Tryz.isAgg261
 z127 := Tryz.sizeOf261
 v127 := Tryz.zeroValue261
 t143 := Tryz.underlying262
 a143 := Tryz.isAgg262
 z143 := Tryz.sizeOf262
 v143 := Tryz.zeroValue262
 t145 := Tryz.underlying264
 a145 := Tryz.isAgg264
 z145 := Tryz.sizeOf264
 v145 := Tryz.zeroValue264
 t167 := Tryz.underlying219
 a167 := Tryz.isAgg219
 z167 := Tryz.sizeOf219
 v167 := Tryz.zeroValue219
 t168 := Tryz.underlying222
 a168 := Tryz.isAgg222
 z168 := Tryz.sizeOf222
 v168 := Tryz.zeroValue222
 t171 := Tryz.underlying225
 a171 := Tryz.isAgg225
 z171 := Tryz.sizeOf225
 v171 := Tryz.zeroValue225
 t173 := Tryz.underlying227
 a173 := Tryz.isAgg227
 z173 := Tryz.sizeOf227
 v173 := Tryz.zeroValue227
 t175 := Tryz.underlying238
 a175 := Tryz.isAgg238
 z175 := Tryz.sizeOf238
 v175 := Tryz.zeroValue238
 t210 := Tryz.underlying242
 a210 := Tryz.isAgg242
 z210 := Tryz.sizeOf242
 v210 := Tryz.zeroValue242
 t212 := Tryz.underlying245
 a212 := Tryz.isAgg245
 z212 := Tryz.sizeOf245
 v212 := Tryz.zeroValue245
 t213 := Tryz.underlying246
 a213 := Tryz.isAgg246
 z213 := Tryz.sizeOf246
 t232 := Tryz.underlying103
 a232 := Tryz.isAgg103
 z232 := Tryz.sizeOf103
 v232 := Tryz.zeroValue103
 t233 := Tryz.underlying265
 a233 := Tryz.isAgg265
 z233 := Tryz.sizeOf265
 v233 := Tryz.zeroValue265
 g15 := by kernel_rfl
 g16 := by kernel_rfl
 g17 := by kernel_rfl
 g18 := by kernel_rfl
 g19 := by kernel_rfl
 t80 := Tryz.underlying153
 a80 := Tryz.isAgg153
 z80 := Tryz.sizeOf153
 v80 := Tryz.zeroValue153
 i0 := by kernel_rfl
 i2 := by kernel_rfl
 i3 := by kernel_rfl
 i4 := by kernel_rfl
 i5 := by kernel_rfl
 i9 := by kernel_rfl
 i20 := by kernel_rfl
 i21 := by kernel_rfl
 i37 := by kernel_rfl
 i46 := by kernel_rfl
 i51 := by kernel_rfl
 i53 := by kernel_rfl
 i75 := by kernel_rfl
 i76 := by kernel_rfl
 i80 := by kernel_rfl
 i85 := by kernel_rfl
 i127 := by kernel_rfl
 i143 := by kernel_rfl
 i145 := by kernel_rfl
 i167 := by kernel_rfl
 i168 := by kernel_rfl
 i171 := by kernel_rfl
 i173 := by kernel_rfl
 i175 := by kernel_rfl
 i210 := by kernel_rfl
 i212 := by kernel_rfl
 i232 := by kernel_rfl
 i233 := by kernel_rfl
 m15 := by kernel_rfl
 m16 := by kernel_rfl
 m17 := by kernel_rfl
 m18 := by kernel_rfl
 m19 := by kernel_rfl
 c0 := by kernel_rfl
 c2 := by kernel_rfl
 c3 := by kernel_rfl
 c4 := by kernel_rfl
 c5 := by kernel_rfl
 c9 := by kernel_rfl
 c20 := by kernel_rfl
 c21 := by kernel_rfl
 c37 := by kernel_rfl
 c46 := by kernel_rfl
 c51 := by kernel_rfl
 c53 := by kernel_rfl
 c75 := by kernel_rfl
 c76 := by kernel_rfl
 c80 := by kernel_rfl
 c85 := by kernel_rfl
 c127 := by kernel_rfl
 c143 := by kernel_rfl
 c145 := by kernel_rfl
 c167 := by kernel_rfl
 c168 := by kernel_rfl
 c171 := by kernel_rfl
 c173 := by kernel_rfl
 c175 := by kernel_rfl
 c210 := by kernel_rfl
 c212 := by kernel_rfl
 c213 := by kernel_rfl
 c232 := by kernel_rfl
 c233 := by kernel_rfl }
open Go.RowKit in
theorem Tryz.strconv_Atoi_ok (s : ByteArray) (hmax : s.size ≤ 9223372036854775806) (v : Int) (h : Lib.atoiAll s.data.toList = .ok v) (w : World) :
  Calls Tryz.prog 151 #[.string s] w fun e w' => e = .returned (.tuple #[.int .i64 v, .nilIface]) ∧ (w' = w ∨ ∃ t, w' = Lib.bytesWorld w 5 t) := Any.strconv_Atoi_ok Tryz.laysC172 s hmax v h w
open Go.RowKit in
theorem Tryz.strconv_Atoi_syntax (s : ByteArray) (hlim : s.size ≤ 281474976710656) (h : Lib.atoiAll s.data.toList = .«syntax») (ev : Value) (w : World) (hv : w.cell? ⟨2, 0, none⟩ = some ev) (hev : ev = .nilIface ∨ ∃ te pe, ev = .iface te pe) :
  Calls Tryz.prog 151 #[.string s] w fun e w' => ∃ N, e = .returned (.tuple #[.int .i64 (0), .iface 222 (.pointer (some ⟨N, 0, none⟩))]) ∧ w.heap.size ≤ N ∧ w'.heap[N]? = some (.cells #[.string ⟨#[65, 116, 111, 105]⟩, .string s, ev] 242 (0, 0)) ∧ Below w.heap.size w w' := Any.strconv_Atoi_syntax Tryz.laysC172 s hlim h ev w hv hev
open Go.RowKit in
theorem Tryz.strconv_Atoi_range (s : ByteArray) (hlim : s.size ≤ 281474976710656) (h : Lib.atoiAll s.data.toList = .range) (ev : Value) (w : World) (hv : w.cell? ⟨3, 0, none⟩ = some ev) (hev : ev = .nilIface ∨ ∃ te pe, ev = .iface te pe) :
  Calls Tryz.prog 151 #[.string s] w fun e w' => ∃ N, e = .returned (.tuple #[.int .i64 (Lib.atoiSat s.data.toList), .iface 222 (.pointer (some ⟨N, 0, none⟩))]) ∧ w.heap.size ≤ N ∧ w'.heap[N]? = some (.cells #[.string ⟨#[65, 116, 111, 105]⟩, .string s, ev] 242 (0, 0)) ∧ Below w.heap.size w w' := Any.strconv_Atoi_range Tryz.laysC172 s hlim h ev w hv hev


def Tryz.lays101_ren : Go.Shelf.Ren := ⟨fun | 101 => 204 | 208 => 234 | 206 => 201 | n => n, fun | 9 => 9 | 4 => 4 | 3 => 3 | n => n, fun | n => n⟩
theorem Tryz.lays101 : Go.Proofs.Lays.n101 Tryz.prog Tryz.lays101_ren := {
 mixed := by kernel_rfl
 f101 := Tryz.func204.trans (congrArg some (by kernel_rfl))
 f206 := Tryz.func201.trans (congrArg some (by kernel_rfl))
 f208 := Tryz.func234.trans (congrArg some (by kernel_rfl))
 t3 := Tryz.underlying3
 a3 := Tryz.isAgg3
 z3 := Tryz.sizeOf3
 v3 := Tryz.zeroValue3
 t4 := Tryz.underlying4
 a4 := Tryz.isAgg4
 z4 := Tryz.sizeOf4
 v4 := Tryz.zeroValue4
 t9 := Tryz.underlying9
 a9 := Tryz.isAgg9
 z9 := Tryz.sizeOf9
 v9 := Tryz.zeroValue9 }
open Go.RowKit Go.Lib in
theorem Tryz.strings_TrimPrefix (s p : ByteArray) (w : World) :
  Calls Tryz.prog 204 #[.string s, .string p] w fun e w' => e = .returned (.string ⟨(Lib.trimPrefix s.data.toList p.data.toList).toArray⟩) ∧ w' = w := Any.strings_TrimPrefix Tryz.lays101 s p w
def Tryz.lays152_ren : Go.Shelf.Ren := ⟨fun | 152 => 194 | 137 => 100 | 119 => 228 | 224 => 229 | 225 => 230 | 217 => 146 | 266 => 182 | n => n, fun | 9 => 9 | 21 => 21 | 3 => 3 | 4 => 4 | 5 => 5 | 0 => 0 | 46 => 144 | n => n, fun | n => n⟩
theorem Tryz.lays152 : Go.Proofs.Lays.n152 Tryz.prog Tryz.lays152_ren := {
 mixed := by kernel_rfl
 f119 := Tryz.func228.trans (congrArg some (by kernel_rfl))
 f137 := Tryz.func100.trans (congrArg some (by kernel_rfl))
 f152 := Tryz.func194.trans (congrArg some (by kernel_rfl))
 f217 := Tryz.func146.trans (congrArg some (by kernel_rfl))
 f224 := Tryz.func229.trans (congrArg some (by kernel_rfl))
 f225 := Tryz.func230.trans (congrArg some (by kernel_rfl))
 f266 := Tryz.func182.trans (congrArg some (by kernel_rfl))
 t0 := Tryz.underlying0
 a0 := Tryz.isAgg0
 z0 := Tryz.sizeOf0
 v0 := Tryz.zeroValue0
 t3 := Tryz.underlying3
 a3 := Tryz.isAgg3
 z3 := Tryz.sizeOf3
 v3 := Tryz.zeroValue3
 t4 := Tryz.underlying4
 a4 := Tryz.isAgg4
 z4 := Tryz.sizeOf4
 v4 := Tryz.zeroValue4
 t5 := Tryz.underlying5
 a5 := Tryz.isAgg5
 z5 := Tryz.sizeOf5
 v5 := Tryz.zeroValue5
 t9 := Tryz.underlying9
 a9 := Tryz.isAgg9
 z9 := Tryz.sizeOf9
 v9 := Tryz.zeroValue9
 t21 := Tryz.underlying21
 a21 := Tryz.isAgg21
 z21 := Tryz.sizeOf21
 v21 := Tryz.zeroValue21
 t46 := Tryz.underlying144
 a46 := Tryz.isAgg144
 z46 := Tryz.sizeOf144
 v46 := Tryz.zeroValue144 }
open Go.RowKit Go.Lib in
theorem Tryz.strings_IndexRune_ascii (s : ByteArray) (r : Int) (w : World) (h0 : 0 ≤ r) (h1 : r < 128) :
  Calls Tryz.prog 194 #[.string s, .int .i32 r] w fun e w' => e = .returned (.int .i64 (Lib.indexByte s.data.toList r.toNat.toUInt8)) ∧ w' = w := Any.strings_IndexRune_ascii Tryz.lays152 s r w h0 h1
def Tryz.lays197_ren : Go.Shelf.Ren := ⟨fun | 197 => 202 | 260 => 232 | n => n, fun | 9 => 9 | 21 => 21 | 3 => 3 | 4 => 4 | 5 => 5 | 105 => 205 | 119 => 247 | 0 => 0 | 46 => 144 | 139 => 250 | 138 => 249 | n => n, fun | 3 => 5 | 4 => 6 | n => n⟩
theorem Tryz.lays197 : Go.Proofs.Lays.n197 Tryz.prog Tryz.lays197_ren := {
 mixed := by kernel_rfl
 f197 := Tryz.func202.trans (congrArg some (by kernel_rfl))
 f260 := Tryz.func232.trans (congrArg some (by kernel_rfl))
 t0 := Tryz.underlying0
 a0 := Tryz.isAgg0
 z0 := Tryz.sizeOf0
 v0 := Tryz.zeroValue0
 t3 := Tryz.underlying3
 a3 := Tryz.isAgg3
 z3 := Tryz.sizeOf3
 v3 := Tryz.zeroValue3
 t4 := Tryz.underlying4
 a4 := Tryz.isAgg4
 z4 := Tryz.sizeOf4
 v4 := Tryz.zeroValue4
 t5 := Tryz.underlying5
 a5 := Tryz.isAgg5
 z5 := Tryz.sizeOf5
 v5 := Tryz.zeroValue5
 t9 := Tryz.underlying9
 a9 := Tryz.isAgg9
 z9 := Tryz.sizeOf9
 v9 := Tryz.zeroValue9
 t21 := Tryz.underlying21
 a21 := Tryz.isAgg21
 z21 := Tryz.sizeOf21
 v21 := Tryz.zeroValue21
 t46 := Tryz.underlying144
 a46 := Tryz.isAgg144
 z46 := Tryz.sizeOf144
 v46 := Tryz.zeroValue144
 t105 := Tryz.underlying205
 a105 := Tryz.isAgg205
 z105 := Tryz.sizeOf205
 v105 := Tryz.zeroValue205
 t119 := Tryz.underlying247
 a119 := Tryz.isAgg247
 z119 := Tryz.sizeOf247
 t138 := Tryz.underlying249
 a138 := Tryz.isAgg249
 z138 := Tryz.sizeOf249
 v138 := Tryz.zeroValue249
 t139 := Tryz.underlying250
 a139 := Tryz.isAgg250
 z139 := Tryz.sizeOf250
 v139 := Tryz.zeroValue250
 g3 := by kernel_rfl
 g4 := by kernel_rfl }
open Go.RowKit Go.Lib in
theorem Tryz.utf8_DecodeRuneInString (s : ByteArray) (w : World) (hT : Lib.Utf8Tabs 5 6 w) :
  Calls Tryz.prog 202 #[.string s] w fun e w' => e = .returned (.tuple #[.int .i32 (Lib.decodeGo s).1, .int .i64 (Lib.decodeGo s).2]) ∧ Below w.heap.size w w' := Any.utf8_DecodeRuneInString Tryz.lays197 s w hT
end Go.Proofs

namespace Go.Proofs.YtknndpjacklkeaaGreatDoor.V
open Go Go.Proofs
theorem Mod.ofBelow {w w' : World} (h : RowKit.Below w.heap.size w w') : Mod [] w w' := ⟨h.os, h.tape, h.output, h.size, fun i hi _ => h.block i hi⟩
theorem bytesW_mod (w : World) (e : Nat) (s : ByteArray) : Mod [] w (Lib.bytesWorld w e s) := by
 refine ⟨?_, ?_, ?_, ?_, ?_⟩
 ·simp only [Lib.bytesWorld, World.freeze]; rfl
 ·simp only [Lib.bytesWorld, World.freeze]; rfl
 ·simp only [Lib.bytesWorld, World.freeze]; rfl
 ·rw [Lib.bytesWorld_size]; omega
 ·exact fun i hi _ => Lib.bytesWorld_at_old w e _ i hi
theorem cell_mod {w w' : World} {M : List Nat} {a : Nat} {v : Value} {g : Nat} (h : w.cell? ⟨g, a, none⟩ = some v) (k : Mod M w w') (hg : g ∉ M) : w'.cell? ⟨g, a, none⟩ = some v := by
 have hlt : g < w.heap.size := by
  rcases Nat.lt_or_ge g w.heap.size with hl | hl
  ·exact hl
  ·unfold World.cell? at h
   rw [Array.getElem?_eq_none hl] at h
   cases h
 unfold World.cell? at h ⊢
 rw [k.block g hlt hg]
 exact h
def UtT (w : World) : Prop := Lib.Utf8Tabs 5 6 w
theorem UtT.mod {w w' : World} {M : List Nat} (h : UtT w) (k : Mod M w w') (hM : ∀ x ∈ M, 6 < x) : UtT w' :=
 ⟨fun c hc => cell_mod (h.1 c hc) k (fun hx => by have := hM _ hx; omega), fun i hi => ⟨cell_mod (h.2 i hi).1 k (fun hx => by have := hM _ hx; omega), cell_mod (h.2 i hi).2 k (fun hx => by have := hM _ hx; omega)⟩⟩
theorem UtT.mod0 {w w' : World} (h : UtT w) (k : Mod [] w w') : UtT w' := h.mod k (by simp)
def ErrT (w : World) : Prop := (∃ ev, w.cell? ⟨2, 0, none⟩ = some ev ∧ (ev = .nilIface ∨ ∃ te pe, ev = .iface te pe)) ∧ ∃ ev, w.cell? ⟨3, 0, none⟩ = some ev ∧ (ev = .nilIface ∨ ∃ te pe, ev = .iface te pe)
theorem ErrT.mod {w w' : World} {M : List Nat} (h : ErrT w) (k : Mod M w w') (hM : ∀ x ∈ M, 6 < x) : ErrT w' := by
 obtain ⟨⟨e1, h1, h2⟩, ⟨e2, h3, h4⟩⟩ := h
 exact ⟨⟨e1, cell_mod h1 k (fun hx => by have := hM _ hx; omega), h2⟩, ⟨e2, cell_mod h3 k (fun hx => by have := hM _ hx; omega), h4⟩⟩
theorem c_irune_lo (w : World) (s : Str) (c : Nat) (hc : c < 128) : Calls Tryz.prog 194 [S s, .int .i32 (c : Int)].toArray w (Ret fun u w' => u = .int .i64 (Lib.indexByte s (UInt8.ofNat c)) ∧ Mod [] w w') := by
 refine (Tryz.strings_IndexRune_ascii ⟨⟨s⟩⟩ (c : Int) w (by omega) (by omega)).mono fun e w' he => ?_
 obtain ⟨rfl, rfl⟩ := he
 exact ⟨by rw [Int.toNat_natCast], Mod.refl _ _⟩
theorem c_trimP (w : World) (s p : Str) : Calls Tryz.prog 204 [S s, S p].toArray w (Ret fun u w' => u = S (Lib.trimPrefix s p) ∧ Mod [] w w') := by
 refine (Tryz.strings_TrimPrefix ⟨⟨s⟩⟩ ⟨⟨p⟩⟩ w).mono fun e w' he => ?_
 obtain ⟨rfl, rfl⟩ := he
 exact ⟨rfl, Mod.refl _ _⟩
theorem c_trimL (w : World) (s p : Str) (hp : p.length < 1000) (ha : ∀ b ∈ p, b.toNat < 128) : Calls Tryz.prog 235 [S s, S p].toArray w (Ret fun u w' => u = S (Lib.trimLeftS s p) ∧ Mod [] w w') := by
 refine (Any.strings_TrimLeft_laid Tryz.lays161 (by kernel_rfl) ⟨⟨s⟩⟩ ⟨⟨p⟩⟩ w (show p.length < 4294967281 by omega) (fun j b hb => ha b (List.mem_of_getElem? hb))).mono fun e w' he => ?_
 obtain ⟨rfl, k⟩ := he
 exact ⟨rfl, Mod.ofBelow k⟩
def decP (s : Str) : Nat × Nat := Lib.decodeGo ⟨⟨s⟩⟩
theorem decP_at {s : Str} {i : Nat} (h : i < s.length) : decP (s.drop i) = Utf8.decode ⟨⟨s.drop i⟩⟩ 0 := by
 unfold decP Lib.decodeGo
 rw [if_neg]
 show ¬ (s.drop i).length = 0
 rw [List.length_drop]
 omega
theorem c_decR (w : World) (s : Str) (hU : UtT w) : Calls Tryz.prog 202 [S s].toArray w (Ret fun u w' => u = .tuple #[.int .i32 ((decP s).1 : Int), .int .i64 ((decP s).2 : Int)] ∧ Mod [] w w') := by
 refine (Any.utf8_DecodeRuneInString Tryz.lays197 ⟨⟨s⟩⟩ w hU).mono fun e w' he => ?_
 obtain ⟨rfl, k⟩ := he
 exact ⟨rfl, Mod.ofBelow k⟩
def AtoiS (s : Str) (n : Int) (err : Value) : Prop := (Lib.atoiAll s = .ok n ∧ err = .nilIface) ∨ ((∀ v, Lib.atoiAll s ≠ .ok v) ∧ (∃ T p, err = .iface T p) ∧ (n = 0 ∨ n = -9223372036854775808 ∨ n = 9223372036854775807) ∧ (n = 0 → Lib.atoiAll s = .«syntax»))
theorem c_atoi (w : World) (s : Str) (hs : s.length ≤ 1000000) (hE : ErrT w) : Calls Tryz.prog 151 [S s].toArray w (Ret fun u w' => ∃ n err, u = .tuple #[.int .i64 n, err] ∧ AtoiS s n err ∧ Mod [] w w') := by
 obtain ⟨⟨e1, h1, h2⟩, ⟨e2, h3, h4⟩⟩ := hE
 cases hA : Lib.atoiAll s with
 | ok v =>
  refine (Tryz.strconv_Atoi_ok ⟨⟨s⟩⟩ (show s.length ≤ _ by omega) v hA w).mono fun e w' he => ?_
  obtain ⟨rfl, k⟩ := he
  refine ⟨v, _, rfl, .inl ⟨hA, rfl⟩, ?_⟩
  rcases k with rfl | ⟨t, rfl⟩
  ·exact Mod.refl _ _
  ·exact bytesW_mod _ _ _
 | «syntax» =>
  refine (Tryz.strconv_Atoi_syntax ⟨⟨s⟩⟩ (show s.length ≤ _ by omega) hA e1 w h1 h2).mono fun e w' he => ?_
  obtain ⟨N, rfl, _, _, k⟩ := he
  exact ⟨0, _, rfl, .inr ⟨fun v => (by rw [hA]; intro h; cases h), ⟨_, _, rfl⟩, .inl rfl, fun _ => hA⟩, Mod.ofBelow k⟩
 | range =>
  refine (Tryz.strconv_Atoi_range ⟨⟨s⟩⟩ (show s.length ≤ _ by omega) hA e2 w h3 h4).mono fun e w' he => ?_
  obtain ⟨N, rfl, _, _, k⟩ := he
  refine ⟨Lib.atoiSat s, _, rfl, .inr ⟨fun v => (by rw [hA]; intro h; cases h), ⟨_, _, rfl⟩, ?_, fun h => ?_⟩, Mod.ofBelow k⟩
  ·unfold Lib.atoiSat
   split
   ·exact .inr (.inl rfl)
   ·exact .inr (.inr rfl)
  ·unfold Lib.atoiSat at h
   split at h <;> cases h
end Go.Proofs.YtknndpjacklkeaaGreatDoor.V

set_option linter.unusedVariables false
set_option linter.unusedSimpArgs false
namespace Go.Proofs.YtknndpjacklkeaaGreatDoor.V
open Go
def ev1 (l : List (Nat × Value)) : Op → Option Value
 | .move x => evO l x
 | .assign x => evO l x
 | .pick x y z => match evO l x with
  | some (.bool true) => evO l y
  | some (.bool false) => evO l z
  | _ => none
 | .unOp .not _ x => match evO l x with
  | some (.bool b) => some (.bool (!b))
  | _ => none
 | .extract x i => match evO l x with
  | some (.tuple vs) => vs[i]?
  | _ => none
 | .nilCheck x => match evO l x with
  | some (.pointer (some ad)) => some (.pointer (some ad))
  | _ => none
 | .binOp .lss _ x y _ => match evO l x, evO l y with
  | some (.int k m), some (.int k' m') => if k = k' then some (.bool (decide (m < m'))) else none
  | _, _ => none
 | .binOp .leq _ x y _ => match evO l x, evO l y with
  | some (.int k m), some (.int k' m') => if k = k' then some (.bool (decide (m ≤ m'))) else none
  | _, _ => none
 | .binOp .gtr _ x y _ => match evO l x, evO l y with
  | some (.int k m), some (.int k' m') => if k = k' then some (.bool (decide (m' < m))) else none
  | _, _ => none
 | .binOp .eql _ x y _ => match evO l x, evO l y with
  | some (.int k m), some (.int k' m') => if k = k' then some (.bool (decide (m = m'))) else none
  | _, _ => none
 | .binOp .neq _ x y _ => match evO l x, evO l y with
  | some (.int k m), some (.int k' m') => if k = k' then some (.bool (decide (m ≠ m'))) else none
  | _, _ => none
 | _ => none
def tstep (ops : Array Oper) (n : Nat) (l : List (Nat × Value)) : Oper → Option (List (Nat × Value))
 | ⟨some d, op, _, _, _, g⟩ => match Nat.blt d n with
  | true => match g with
   | none => match ev1 l op with
    | some v => some ((d, v) :: l)
    | none => none
   | some (j, want) => match gv ops l j with
    | some b => match b, want with
     | true, true => match ev1 l op with
      | some v => some ((d, v) :: l)
      | none => none
     | false, false => match ev1 l op with
      | some v => some ((d, v) :: l)
      | none => none
     | true, false => some ((d, undef) :: l)
     | false, true => some ((d, undef) :: l)
    | none => match (ops[j]?).bind (·.dst) with
     | some t => match lk t l with
      | some (.tuple vs) => match vs.size with
       | 0 => some ((d, undef) :: l)
       | _ => none
      | _ => none
     | none => none
  | false => none
 | _ => none
def trun (ops : Array Oper) (n : Nat) : Nat → List Oper → List (Nat × Value) → Option (List Oper × List (Nat × Value))
 | 0, lo, l => some (lo, l)
 | k + 1, o :: lo, l => match tstep ops n l o with
  | some l' => trun ops n k lo l'
  | none => none
 | _ + 1, [], _ => none
section
variable {P : Program} {ops : Array Oper} {Q : Exit → Act → World → Prop} {n : Nat} {ds : List Deferred} {l l' : List (Nat × Value)} {M : List (Nat × (Value → World → Prop))} {w w' : World} {Fin : Kn → Prop}
variable {lo lo' : List Oper} {d : Nat} {op : Op} {ty : TypeId} {pos : String} {af : Array Edge} {gg : Option (Nat × Bool)}
theorem ev1_runs {v : Value} (h : ev1 l op = some v) : Runs P l ⟨some d, op, ty, pos, af, gg⟩ w v w := by
 unfold ev1 at h
 split at h
 ·exact oM h
 ·exact o_as h
 ·split at h
  ·rename_i hx; exact fun ρ hρ => by simp [execOp, hρ _ _ hx, hρ _ _ h, asBool, evO]
  ·rename_i hx; exact fun ρ hρ => by simp [execOp, hρ _ _ hx, hρ _ _ h, asBool]
  ·cases h
 ·split at h
  ·rename_i hx; injection h with h; subst h; exact o_not hx
  ·cases h
 ·split at h
  ·rename_i hx; exact o_ext hx h
  ·cases h
 ·split at h
  ·rename_i hx; injection h with h; subst h; exact o_nilc hx
  ·cases h
 ·split at h
  ·rename_i hx hy
   split at h
   ·rename_i hk; subst hk; injection h with h; subst h; exact o_lss hx hy
   ·cases h
  ·cases h
 ·split at h
  ·rename_i hx hy
   split at h
   ·rename_i hk; subst hk; injection h with h; subst h; exact o_leq hx hy
   ·cases h
  ·cases h
 ·split at h
  ·rename_i hx hy
   split at h
   ·rename_i hk; subst hk; injection h with h; subst h; exact o_gtr hx hy
   ·cases h
  ·cases h
 ·split at h
  ·rename_i hx hy
   split at h
   ·rename_i hk; subst hk; injection h with h; subst h; exact oE hx hy
   ·cases h
  ·cases h
 ·split at h
  ·rename_i hx hy
   split at h
   ·rename_i hk; subst hk; injection h with h; subst h; exact o_neq hx hy
   ·cases h
  ·cases h
 ·cases h
theorem tstep_wl {o : Oper} (h : tstep ops n l o = some l') (hW : WL P ops Q lo n ds l' w) : WL P ops Q (o :: lo) n ds l w := by
 obtain ⟨dst, op, ty, pos, af, g⟩ := o
 cases dst with
 | none => simp [tstep] at h
 | some d =>
  cases hd : Nat.blt d n with
  | false => simp [tstep, hd] at h
  | true =>
   cases g with
   | none =>
    cases he : ev1 l op with
    | none => simp [tstep, hd, he] at h
    | some v =>
     simp [tstep, hd, he] at h
     subst h
     exact sv (ev1_runs he) hd hW
   | some jw =>
    obtain ⟨j, want⟩ := jw
    cases hg : gv ops l j with
    | some b =>
     cases b <;> cases want <;> simp only [tstep, hd, hg] at h
     ·cases he : ev1 l op with
      | none => simp [he] at h
      | some v =>
       simp [he] at h
       subst h
       exact sg hg rfl (ev1_runs he) hd hW
     ·injection h with h
      subst h
      exact sn hg (by decide) hd hW
     ·injection h with h
      subst h
      exact sn hg (by decide) hd hW
     ·cases he : ev1 l op with
      | none => simp [he] at h
      | some v =>
       simp [he] at h
       subst h
       exact sg hg rfl (ev1_runs he) hd hW
    | none =>
     simp only [tstep, hd, hg] at h
     split at h
     ·rename_i t ht
      split at h
      ·rename_i vs hv
       split at h
       ·rename_i hs
        injection h with h
        subst h
        have : vs = #[] := Array.eq_empty_of_size_eq_zero hs
        subst this
        exact snu ht hv hd hW
       ·cases h
      ·cases h
     ·cases h
theorem tstep_twl {o : Oper} (h : tstep ops n l o = some l') (hs : notSel o.op = true) (hW : TWL P ops w n Fin lo l' M) : TWL P ops w n Fin (o :: lo) l M := by
 obtain ⟨dst, op, ty, pos, af, g⟩ := o
 cases dst with
 | none => simp [tstep] at h
 | some d =>
  cases hd : Nat.blt d n with
  | false => simp [tstep, hd] at h
  | true =>
   cases g with
   | none =>
    cases he : ev1 l op with
    | none => simp [tstep, hd, he] at h
    | some v =>
     simp [tstep, hd, he] at h
     subst h
     exact tv (fun _ _ => ev1_runs he) hd hs hW
   | some jw =>
    obtain ⟨j, want⟩ := jw
    cases hg : gv ops l j with
    | some b =>
     cases b <;> cases want <;> simp only [tstep, hd, hg] at h
     ·cases he : ev1 l op with
      | none => simp [he] at h
      | some v =>
       simp [he] at h
       subst h
       exact tvg hg rfl (fun _ _ => ev1_runs he) hd hs hW
     ·injection h with h
      subst h
      exact tn hg (by decide) hd hW
     ·injection h with h
      subst h
      exact tn hg (by decide) hd hW
     ·cases he : ev1 l op with
      | none => simp [he] at h
      | some v =>
       simp [he] at h
       subst h
       exact tvg hg rfl (fun _ _ => ev1_runs he) hd hs hW
    | none =>
     simp only [tstep, hd, hg] at h
     split at h
     ·rename_i t ht
      split at h
      ·rename_i vs hv
       split at h
       ·rename_i hz
        injection h with h
        subst h
        have : vs = #[] := Array.eq_empty_of_size_eq_zero hz
        subst this
        exact tnu ht hv hd hW
       ·cases h
      ·cases h
     ·cases h
theorem tW (k : Nat) (h : trun ops n k lo l = some (lo', l')) (hW : WL P ops Q lo' n ds l' w) : WL P ops Q lo n ds l w := by
 induction k generalizing lo l with
 | zero => injection h with h; injection h with h1 h2; subst h1; subst h2; exact hW
 | succ k ih =>
  cases lo with
  | nil => simp [trun] at h
  | cons o lo =>
   simp only [trun] at h
   split at h
   ·rename_i l1 h1
    exact tstep_wl h1 (ih h)
   ·cases h
def selN : Nat → List Oper → Bool
 | 0, _ => true
 | k + 1, o :: lo => notSel o.op && selN k lo
 | _ + 1, [] => false
theorem tU (k : Nat) (h : trun ops n k lo l = some (lo', l')) (hs : selN k lo = true) (hW : TWL P ops w n Fin lo' l' M) : TWL P ops w n Fin lo l M := by
 induction k generalizing lo l with
 | zero => injection h with h; injection h with h1 h2; subst h1; subst h2; exact hW
 | succ k ih =>
  cases lo with
  | nil => simp [trun] at h
  | cons o lo =>
   simp only [selN, Bool.and_eq_true] at hs
   simp only [trun] at h
   split at h
   ·rename_i l1 h1
    exact tstep_twl h1 hs.1 (ih h hs.2)
   ·cases h
/-! a truth made literal -/
variable {t : Nat} {p : Prop} {b b' : Bool}
theorem bD [Decidable p] (h1 : p → WL P ops Q lo n ds ((t, .bool true) :: l) w) (h2 : ¬ p → WL P ops Q lo n ds ((t, .bool false) :: l) w) : WL P ops Q lo n ds ((t, .bool (decide p)) :: l) w := by
 by_cases h : p
 ·rw [decide_eq_true h]; exact h1 h
 ·rw [decide_eq_false h]; exact h2 h
theorem bC (h1 : b = true → WL P ops Q lo n ds ((t, .bool true) :: l) w) (h2 : b = false → WL P ops Q lo n ds ((t, .bool false) :: l) w) : WL P ops Q lo n ds ((t, .bool b) :: l) w := by
 cases b
 ·exact h2 rfl
 ·exact h1 rfl
theorem bE (h : b = b') (hW : WL P ops Q lo n ds ((t, .bool b') :: l) w) : WL P ops Q lo n ds ((t, .bool b) :: l) w := h ▸ hW
end
end Go.Proofs.YtknndpjacklkeaaGreatDoor.V

set_option linter.unusedVariables false
set_option linter.unusedSimpArgs false
set_option maxRecDepth 10000
namespace Go.Proofs.YtknndpjacklkeaaGreatDoor.V
open Go Go.Proofs
theorem fd25_3 : fdB Tryz.prog 25 3 3 1 = true := by kernel_rfl
theorem sc9 : scB Tryz.prog 9 = true := by kernel_rfl
theorem fd25_4 : fdB Tryz.prog 25 4 4 1 = true := by kernel_rfl
theorem sc22 : scB Tryz.prog 22 = true := by kernel_rfl
theorem sl22 : slB Tryz.prog 22 25 6 88 = true := by kernel_rfl
theorem ag25 : agB Tryz.prog 25 6 = true := by kernel_rfl
theorem fd25_5 : fdB Tryz.prog 25 5 5 1 = true := by kernel_rfl
theorem sc23 : scB Tryz.prog 23 = true := by kernel_rfl
theorem wide : Tryz.prog.follows .mixedOrders = true := by kernel_rfl
theorem sl23 : slB Tryz.prog 23 44 7 104 = true := by kernel_rfl
theorem fd44_1 : fdB Tryz.prog 44 1 1 6 = true := by kernel_rfl
theorem fd44_0 : fdB Tryz.prog 44 0 0 1 = true := by kernel_rfl
end Go.Proofs.YtknndpjacklkeaaGreatDoor.V
