/-
  A part of the proof: a deferred function that recovers; what a function with one leaves; a slice that is read, as the source of an append, in every later world alike; names of servers, users, rooms and keys in plain Lean: the runes of a text of one kind, and its bytes. No condition of its own.
-/
import Derived.Test.YtkhbnhdlelmbnaaDoorM11
import Derived.WideLaws
import Derived.Test.YtkhbnhdlelmbnaaDoorM7
import Derived.Test.YtkhbnhdlelmbnaaDoorM3
import Derived.Lib.LaidTab
import Derived.Test.YtkhbnhdlelmbnaaDoorM4
import Derived.Lib.IndexMore
import Derived.Lib.Strings
import Derived.Laws.Runes
import Derived.Scope
import Derived.Shelf.Small.Wraps
import Derived.Shelf.Strings.Search1
import Derived.Shelf.Strings.Search2
import Derived.Shelf.Strings.Cut
import Derived.Shelf.Strings.Shaped
import Derived.Shelf.Strings.Runes
import Derived.Test.YtkhbnhdlelmbnaaDoorProg
set_option linter.unusedVariables false
set_option linter.unusedSimpArgs false
namespace Go.Proofs.YtkhbnhdlelmbnaaDoor.V
open Go
section
variable {P : Program} {ops : Array Oper} {Q : Exit → Act → World → Prop} {n : Nat} {ds : List Deferred} {l : List (Nat × Value)} {w w' : World}
variable {rest : List Oper} {d : Nat} {op : Op} {ty : TypeId} {pos : String} {af : Array Edge} {x y : Operand} {t t' : TypeId} {dd : Option Nat} {gg : Option (Nat × Bool)}
theorem o_inn (hi : P.underlying t = some (.interface (P.methodsAt t))) (hx : evO l x = some .nilIface) : Runs P l ⟨dd, .binOp .eql t x (.const .nilIface) t', ty, pos, af, gg⟩ w (.bool true) w := fun ρ h => by
  have h1 : ρ (.const .nilIface) = .nilIface := h _ _ rfl
  have hg : eqGuard .eql t x (.const .nilIface) .nilIface .nilIface = pure () := by cases x <;> rfl
  simp [execOp, h _ _ hx, h1, binOp, hg, run_equal_nil_nil w t hi]
theorem o_ifn {T : TypeId} {v : Value} (hi : P.underlying t = some (.interface (P.methodsAt t))) (hx : evO l x = some (.iface T v)) : Runs P l ⟨dd, .binOp .eql t x (.const .nilIface) t', ty, pos, af, gg⟩ w (.bool false) w := fun ρ h => by
  have h1 : ρ (.const .nilIface) = .nilIface := h _ _ rfl
  have hg : eqGuard .eql t x (.const .nilIface) (.iface T v) .nilIface = pure () := by rfl
  simp [execOp, h _ _ hx, h1, binOp, hg, run_equal_held_nil w t _ _ hi]
theorem o_ta {T t0 : TypeId} {v : Value} {d0 : TypeDesc} (hT : P.underlying T = some d0) (hn : (match d0 with | .interface _ => false | _ => true) = true) (hx : evO l x = some (.iface T v)) : Runs P l ⟨dd, .typeAssert x t0 T true, ty, pos, af, gg⟩ w (.tuple #[v, .bool true]) w := fun ρ h => by
  cases d0 <;> first | (simp at hn; done) | simp [execOp, Instr.typeAssert, h _ _ hx, run_underlying hT]
theorem s_defer {fn : Fn} {us vs : Array Value} {ts : Array TypeId} (hx : evO l x = some (.func fn us vs)) (h : WL P ops Q rest n ({ target := .fn fn vs, args := us } :: ds) l w) :
    WL P ops Q (⟨none, .defer { callee := .value x, args := #[], argTypes := ts }, ty, pos, af, none⟩ :: rest) n ds l w := by
  intro a ha
  refine wpList_plain rfl fun K hK => ?_
  have hr : (execOp a.eval ⟨none, .defer { callee := .value x, args := #[], argTypes := ts }, ty, pos, af, none⟩).run P w = .ok (.defer { target := .fn fn vs, args := us }) w := by
    simp [execOp, resolve, ha.ev hx, Deferred.ofValue]
  simp only [Oper.wp, hr, Oper.upon]
  exact hK _ _ (h _ ⟨ha.size, by simp [Act.put, ha.defers], ha.get⟩)
/-- as 'enter', where the body may leave deferred calls -/
theorem enterD {f : FuncId} {fn : Func} {c : Code} {vs : List Value} {R : Ending → World → Prop} (hf : P.funcs[f]? = some fn) (hb : fn.body = some c) (hn : fn.ntmps = n) (hle : Nat.ble vs.length n = true) (hs : Sub (argL 0 vs) l)
    (h : WC P c (bodyPostD P fn R) n [] l w) : Calls P f vs.toArray w R := by
  have hle' : vs.length ≤ n := by simpa using hle
  have ha : Has n [] (argL 0 vs) { tmps := vs.toArray ++ Array.replicate (fn.ntmps - vs.toArray.size) undef, defers := [] } := by
    refine ⟨by rw [Array.size_append, Array.size_replicate, List.size_toArray, hn]; omega, rfl, fun t v hv => ?_⟩
    obtain ⟨_, h2⟩ := argL_get vs 0 t v hv
    rw [Nat.sub_zero] at h2
    have hlt := (List.getElem?_eq_some_iff.1 h2).1
    dsimp only
    rw [Array.getElem?_append_left (by simpa using hlt)]
    simpa using h2
  exact calls_of_wp_defers hf hb (h _ (ha.sub hs))
theorem opsS_of_list {QS : Exit → Act → List Frame → World → Prop} {cs : List Frame} (hno : ¬ LetsOut Q) (hq : ∀ e a w, Q e a w → QS e a cs w) :
    ∀ (m : List Oper) (k : Nat), (∀ j, m[j]? = ops[k + j]?) → ∀ a w, wpList P ops Q m a w → wpOpsS P ops QS (List.range' k m.length) a cs w
  | [], k, _, a, w, h => hq _ _ _ h
  | o :: m, k, hj, a, w, h => by
    have ih := opsS_of_list hno hq m (k + 1) (fun j => by have := hj (j + 1); simpa [Nat.add_assoc, Nat.add_comm 1 j] using this)
    have h0 : ops[k]? = some o := by simpa using (hj 0).symm
    simp only [List.length_cons, List.range'_succ, wpOpsS, h0]
    simp only [wpList] at h
    by_cases hw : Region.wanted o (yielded ops a.tmps) = true
    · simp only [hw, if_true] at h ⊢
      rcases h with h | h
      · simp only [Oper.wp] at h
        generalize hr : (execOp a.eval o).run P w = r at h
        split
        · rename_i w1 
          simp only [Oper.upon] at h
        · rename_i r' hne
          match r, h with
          | .ok (.value v) w1, h => exact ih _ _ h
          | .ok .skip w1, h => exact ih _ _ h
          | .ok (.defer dd) w1, h => exact ih _ _ h
          | .ok (.enter f args) w1, h =>
            refine Calls.mono h fun e w2 he => ?_
            cases e with
            | returned v => exact ih _ _ he
            | panicked c => exact hq _ _ _ he
            | outgrown => exact absurd he hno
          | .ok (.row rw args) w1, h => exact Rows.mono h fun v w2 he => ih _ _ he
          | .halt (.panic v) w1, h => exact hq _ _ _ h
      · exact absurd h.2 hno
    · simp only [hw, if_false, Bool.false_eq_true] at h ⊢
      exact ih _ _ h
/-- how a caller stands ahead of 'recover', what that answers, and how it stands then -/
def RecOf (u : FrameMode) (v : Value) (u1 : FrameMode) : Prop :=
  (u = .returning ∧ v = .nilIface ∧ u1 = .returning) ∨ (u = .panicking [{ v := v, recovered := false }] ∧ u1 = .panicking [{ v := v, recovered := true }])
theorem rec_enter {f : FuncId} {fn : Func} {id : Nat} {y : Code} {vs : List Value} {u u1 : FrameMode} {v : Value} {R : Ending → FrameMode → World → Prop}
    (hf : P.funcs[f]? = some fn) (hb : fn.body = some (.seq (.region id ops false) y)) (hn : fn.ntmps = n) (hle : Nat.ble vs.length n = true) (hs : Sub (argL 0 vs) l)
    (ho : ops.toList = ⟨some d, .call { callee := .builtin .recover, args := #[], argTypes := #[] }, ty, pos, af, none⟩ :: rest) (hd : Nat.blt d n = true) (hu : RecOf u v u1) (hout : ∀ u w, ¬ R .outgrown u w)
    (h : ∀ K : Act → World → Prop, (∀ n ds l w, WC P y (bodyPost P fn fun e w => R e u1 w) n ds l w → ∀ a, Has n ds l a → K a w) → WL P ops (Exit.then K (bodyPost P fn fun e w => R e u1 w)) rest n [] ((d, v) :: l) w) : CallsD P f vs.toArray u w R := by
  have hle' : vs.length ≤ n := by simpa using hle
  have ha : Has n [] (argL 0 vs) { tmps := vs.toArray ++ Array.replicate (fn.ntmps - vs.toArray.size) undef, defers := [] } := by
    refine ⟨by rw [Array.size_append, Array.size_replicate, List.size_toArray, hn]; omega, rfl, fun t v hv => ?_⟩
    obtain ⟨_, h2⟩ := argL_get vs 0 t v hv
    rw [Nat.sub_zero] at h2
    have hlt := (List.getElem?_eq_some_iff.1 h2).1
    dsimp only
    rw [Array.getElem?_append_left (by simpa using hlt)]
    simpa using h2
  refine callsD_of_wpS hf hb fun c₀ cs hc => wpS_seq (wpS_region ?_)
  have hsz : ops.size = rest.length + 1 := by rw [← Array.length_toList, ho]; rfl
  have h0 : ops[0]? = some ⟨some d, .call { callee := .builtin .recover, args := #[], argTypes := #[] }, ty, pos, af, none⟩ := by rw [← Array.getElem?_toList, ho]; rfl
  have hm : ∃ cs', cs' = { c₀ with mode := u1 } :: cs ∧ ((recoverD (c₀ :: cs) = some (v, cs')) ∨ (recoverD (c₀ :: cs) = none ∧ v = .nilIface ∧ cs' = c₀ :: cs)) := by
    refine ⟨_, rfl, ?_⟩
    rcases hu with ⟨h1, h2, h3⟩ | ⟨h1, h2⟩
    · refine .inr ⟨by simp [recoverD, hc, h1], h2, ?_⟩
      rw [h3, ← h1, ← hc]
    · exact .inl (by subst h2; simp [recoverD, hc, h1])
  obtain ⟨cs', hcs, hm⟩ := hm
  have key := h (fun a w => y.wp P (bodyPost P fn fun e w => R e u1 w) a w) (fun n ds l w hy a ha => hy a ha) _ ((ha.sub hs).put hd v)
  have hno : ¬ LetsOut (Exit.then (fun a w => y.wp P (bodyPost P fn fun e w => R e u1 w) a w) (bodyPost P fn fun e w => R e u1 w)) := by
    rintro ⟨a, w, h⟩
    exact hout _ _ h
  have hQ : ∀ e a w, bodyPost P fn (fun e w => R e u1 w) e a w → bodyPostS P fn c₀ cs R e a cs' w := by
    intro e a w hq
    cases e with
    | normal => obtain ⟨h1, v, h2, h3⟩ := hq; exact ⟨h1, u1, hcs, v, h2, h3⟩
    | ret => obtain ⟨h1, v, h2, h3⟩ := hq; exact ⟨h1, u1, hcs, v, h2, h3⟩
    | panic c => obtain ⟨h1, h3⟩ := hq; exact ⟨h1, u1, hcs, h3⟩
    | outgrown => exact absurd hq (hout _ _)
    | exit i => exact hq.elim
    | goto i => exact hq.elim
  have hq2 : ∀ e a w, Exit.then (fun a w => y.wp P (bodyPost P fn fun e w => R e u1 w) a w) (bodyPost P fn fun e w => R e u1 w) e a w → Exit.thenS (y.wpS P (bodyPostS P fn c₀ cs R)) (bodyPostS P fn c₀ cs R) e a cs' w := by
    intro e a w hq
    cases e with
    | normal => exact wpS_of_wp (Code.wp_mono hQ hq)
    | ret => exact hQ .ret a w hq
    | panic c => exact hQ (.panic c) a w hq
    | outgrown => exact hQ .outgrown a w hq
    | exit i => exact hQ (.exit i) a w hq
    | goto i => exact hQ (.goto i) a w hq
  have hlist := opsS_of_list (ops := ops) hno hq2 rest 1 (fun j => by rw [← Array.getElem?_toList, ho, Nat.add_comm]; rfl) _ _ key
  rw [hsz, List.range_eq_range', List.range'_succ]
  simp only [wpOpsS, h0, Region.wanted, if_true]
  have hr : (execOp (Act.eval { tmps := vs.toArray ++ Array.replicate (fn.ntmps - vs.toArray.size) undef, defers := [] }) ⟨some d, .call { callee := .builtin .recover, args := #[], argTypes := #[] }, ty, pos, af, none⟩).run P w = .ok .recover w := by
    simp [execOp, resolve, invoke, builtin]
  simp only [hr]
  rcases hm with hm | ⟨hm, hv, hc'⟩
  · rw [hm]
    exact hlist
  · rw [hm]
    subst hv
    rw [← hc']
    exact hlist
variable {fn : Func} {R : Ending → World → Prop} {u : FrameMode}
theorem we_ret (h : ∀ a, Has n ds l a → Leaves P fn a.tmps R ds .returning w) : WE (bodyPostD P fn R) .ret n ds l w := fun a ha => by
  show Leaves P fn a.tmps R a.defers .returning w
  rw [ha.defers]
  exact h a ha
theorem we_panic {c : List PanicEntry} (h : ∀ a, Has n ds l a → Leaves P fn a.tmps R ds (.panicking c) w) : WE (bodyPostD P fn R) (.panic c) n ds l w := fun a ha => by
  show Leaves P fn a.tmps R a.defers (.panicking c) w
  rw [ha.defers]
  exact h a ha
theorem leavesD {k : FuncId} {cap tmps : Array Value} {R1 : Ending → FrameMode → World → Prop} (hu : u ≠ .run) (hE : Ent P k) (hc : CallsD P k cap u w R1)
    (h : ∀ e u' w', R1 e u' w' → ∃ v, e = .returned v ∧ settle u' = .returning ∧ ∃ r, (results fn tmps).run P w' = .ok r w' ∧ R (.returned r) w') : Leaves P fn tmps R [{ target := .fn (.func k) cap, args := #[] }] u w := by
  refine leaves_cons hu (f := k) (args := cap) ?_ (hc.mono fun e u' w' he => ?_)
  · have := hE cap w
    simpa [invoke] using this
  · obtain ⟨v, rfl, h2, r, h3, h4⟩ := h e u' w' he
    dsimp only
    rw [h2]
    exact ⟨r, h3, h4⟩
theorem results_cc {a : Act} {t t' T T' : Nat} {ad ad' : Addr} {v v' : Value} (ha : Has n ds l a) (hr : fn.results = #[.cell t T, .cell t' T']) (ht : scB P T = true) (ht' : scB P T' = true) (hv : lk t l = some (.pointer (some ad))) (hv' : lk t' l = some (.pointer (some ad')))
    (hc : w.cell? ad = some v) (hc' : w.cell? ad' = some v') : (results fn a.tmps).run P w = .ok (.tuple #[v, v']) w := by
  simp [results, hr, ha.get _ _ hv, ha.get _ _ hv', asAddr, run_loadVar_sc ht hc, run_loadVar_sc ht' hc']
end
end Go.Proofs.YtkhbnhdlelmbnaaDoor.V

set_option linter.unusedVariables false
set_option linter.unusedSimpArgs false
set_option maxRecDepth 10000
namespace Go.Proofs.YtkhbnhdlelmbnaaDoor.V
open Go Go.Proofs
theorem ifn20 : Tryd.prog.underlying 20 = some (.interface (Tryd.prog.methodsAt 20)) := by kernel_rfl
theorem ag66 : agB Tryd.prog 66 1 = true := by kernel_rfl
theorem fd66_0 : fdB Tryd.prog 66 0 0 1 = true := by kernel_rfl
theorem sc26 : scB Tryd.prog 26 = true := by kernel_rfl
theorem ent19 : Ent Tryd.prog 19 := Ent.of Tryd.func19 (by kernel_rfl) (by kernel_rfl)
theorem zv9 : zvB Tryd.prog 9 ([S []]) := by unfold zvB; kernel_rfl
theorem zv26 : zvB Tryd.prog 26 ([.int .i64 0]) := by unfold zvB; kernel_rfl
theorem pl47 : plB Tryd.prog 47 [(0, 1)] = true := by kernel_rfl
theorem zv47 : zvB Tryd.prog 47 ([.slice none 0 0]) := by unfold zvB; kernel_rfl
theorem ent18 : Ent Tryd.prog 18 := Ent.of Tryd.func18 (by kernel_rfl) (by kernel_rfl)
theorem c_caught0 (w : World) (p : Value) : Calls Tryd.prog 19 [.nilIface, p].toArray w (Ret fun u w' => True ∧ Mod [] w w') := by
  refine enter Tryd.func19 rfl rfl rfl (l := [(0, _), (1, _)]) ⟨rfl, rfl, trivial⟩ ?_
  have E := Mod.refl [] w
  refine c_seq fun K1 hK1 => ?_
  refine c_seq fun K2 hK2 => ?_
  refine c_region ?_
  refine sv (o_mv rfl) rfl ?_
  refine sv (o_inn ifn20 rfl) rfl ?_
  refine l_nil ?_
  refine e_K (hK2 _ _ _ _ ?_)
  refine c_true rfl ?_
  refine c_ret ?_
  refine e_then (by simp) ?_
  exact ret0 rfl ⟨trivial, E⟩

theorem c_caught1 (w : World) (ge : Nat) (z : Value) (e : Int) (B : Blk w ge 26 [z]) : Calls Tryd.prog 19 [.iface 66 (.agg #[.int .i64 e]), .pointer (some ⟨ge, 0, none⟩)].toArray w (Ret fun u w' => Blk w' ge 26 [.int .i64 e] ∧ Mod [ge] w w') := by
  refine enter Tryd.func19 rfl rfl rfl (l := [(0, _), (1, _)]) ⟨rfl, rfl, trivial⟩ ?_
  refine c_seq fun K1 hK1 => ?_
  refine c_seq fun K2 hK2 => ?_
  have E := Mod.refl [ge] w
  refine c_region ?_
  refine sv (o_mv rfl) rfl ?_
  refine sv (o_ifn ifn20 rfl) rfl ?_
  refine l_nil ?_
  refine e_K (hK2 _ _ _ _ ?_)
  refine c_false rfl ?_
  refine c_skip ?_
  refine e_K (hK1 _ _ _ _ ?_)
  refine c_seq fun K3 hK3 => ?_
  refine c_region ?_
  refine sv (o_mv rfl) rfl ?_
  refine sv (o_ta Tryd.underlying66 rfl rfl) rfl ?_
  refine sv (o_mv rfl) rfl ?_
  refine sv (o_ext rfl rfl) rfl ?_
  refine sv (o_ext rfl rfl) rfl ?_
  refine s_alloc zv66 rfl fun g1 w1 N1 => ?_
  have Lg1_E := N1.le E
  have Dge_g1 := N1.ne B
  replace B := B.mod0 N1.mod
  replace E := E.then N1.mod
  have Bg1 := N1.blk
  refine s_sta (vs := [_]) ag66 Bg1 rfl rfl rfl (by simp [Value.oneCell']) (by simp) fun w2 P2 => ?_
  replace B := B.ne P2.mod (Ne.symm (Ne.symm Dge_g1))
  replace E := E.own P2.mod Lg1_E
  replace Bg1 : Blk w2 g1 _ [_] := P2.blk
  refine sv (o_as rfl) rfl ?_
  refine l_nil ?_
  refine e_K (hK3 _ _ _ _ ?_)
  refine c_seq fun K4 hK4 => ?_
  refine c_seq fun K5 hK5 => ?_
  refine c_region ?_
  refine sv (o_mv rfl) rfl ?_
  refine sv (o_not rfl) rfl ?_
  refine l_nil ?_
  refine e_K (hK5 _ _ _ _ ?_)
  refine c_cond rfl (fun h14 => ?_) (fun h14 => ?_)
  · skip
    cases h14
  · skip
    refine c_skip ?_
    refine e_K (hK4 _ _ _ _ ?_)
    refine c_region ?_
    refine sv (o_mv rfl) rfl ?_
    refine sv (o_fa0 fd66_0 rfl) rfl ?_
    refine sv (o_ld sc26 rfl (Bg1.cell rfl)) rfl ?_
    refine sv (o_nilc rfl) rfl ?_
    refine s_st sc26 B rfl rfl rfl (by simp) fun w3 P3 => ?_
    replace Bg1 := Bg1.ne P3.mod (Ne.symm Dge_g1)
    replace E := E.trans P3.mod
    replace B : Blk w3 ge _ [_] := P3.blk
    refine l_nil ?_
    exact end0 rfl ⟨B, E⟩

theorem c_can1r (w : World) (ge gs : Nat) (B : Blk w ge 26 [.int .i64 0]) : CallsD Tryd.prog 18 [.pointer (some ⟨ge, 0, none⟩), .pointer (some ⟨gs, 0, none⟩)].toArray .returning w (fun e u' w' => (∃ v, e = .returned v) ∧ u' = .returning ∧ Mod [] w w') := by
  refine rec_enter Tryd.func18 rfl rfl rfl (l := [(0, _), (1, _)]) ⟨rfl, rfl, trivial⟩ rfl rfl (.inl ⟨rfl, rfl, rfl⟩) (by rintro u w ⟨⟨v, hv⟩, _⟩; cases hv) fun K1 hK1 => ?_
  have E := Mod.refl [] w
  refine sc (o_call ent19 rfl) (c_caught0 _ _) rfl fun v_ w1 h_ => ?_
  obtain ⟨_, E_⟩ := h_
  replace B := B.mod0 E_
  replace E := E.then E_
  refine l_nil ?_
  refine e_K (hK1 _ _ _ _ ?_)
  refine c_seq fun K2 hK2 => ?_
  refine c_region ?_
  refine sv (o_ld sc26 rfl (B.cell rfl)) rfl ?_
  refine sv (o_neq rfl rfl) rfl ?_
  refine l_nil ?_
  refine e_K (hK2 _ _ _ _ ?_)
  refine c_if rfl (fun h5 => ?_) (fun h5 => ?_)
  · skip
    exact absurd rfl h5
  · skip
    refine c_skip ?_
    exact end0R rfl ⟨⟨_, rfl⟩, rfl, E⟩

theorem c_can1p (w : World) (ge gs : Nat) (z z2 : Value) (e : Int) (B : Blk w ge 26 [z]) (B2 : Blk w gs 9 [z2]) (hne : ge ≠ gs) (he : e ≠ 0) : CallsD Tryd.prog 18 [.pointer (some ⟨ge, 0, none⟩), .pointer (some ⟨gs, 0, none⟩)].toArray (.panicking (pEnt 66 e)) w (fun en u' w' => (∃ v, en = .returned v) ∧ u' = .panicking [{ v := .iface 66 (.agg #[.int .i64 e]), recovered := true }] ∧ Blk w' ge 26 [.int .i64 e] ∧ Blk w' gs 9 [S []] ∧ Mod [ge, gs] w w') := by
  refine rec_enter Tryd.func18 rfl rfl rfl (l := [(0, _), (1, _)]) ⟨rfl, rfl, trivial⟩ rfl rfl (.inr ⟨rfl, rfl⟩) (by rintro u w ⟨⟨v, hv⟩, _⟩; cases hv) fun K1 hK1 => ?_
  have E := Mod.refl [ge, gs] w
  refine sc (o_call ent19 rfl) (c_caught1 _ ge z e B) rfl fun v_ w1 h_ => ?_
  obtain ⟨B9, E_⟩ := h_
  replace E := E.trans' E_ (fun x hx => .inl (by simp at hx; simp [hx]))
  replace B2 := B2.mod E_ (by simp; exact fun h => hne h.symm)
  clear B
  have B := B9
  refine l_nil ?_
  refine e_K (hK1 _ _ _ _ ?_)
  refine c_seq fun K2 hK2 => ?_
  refine c_region ?_
  refine sv (o_ld sc26 rfl (B.cell rfl)) rfl ?_
  refine sv (o_neq rfl rfl) rfl ?_
  refine l_nil ?_
  refine e_K (hK2 _ _ _ _ ?_)
  refine c_if rfl (fun h5 => ?_) (fun h5 => ?_)
  · skip
    refine c_region ?_
    refine s_st sc9 B2 rfl rfl rfl (by simp) fun w9 P9 => ?_
    replace E := E.trans' P9.mod (fun x hx => .inl (by simp at hx; simp [hx]))
    replace B := B.mod P9.mod (by simp; exact hne)
    replace B2 := P9.blk
    refine l_nil ?_
    exact end0R rfl ⟨⟨_, rfl⟩, rfl, B, B2, E⟩
  · skip
    exact absurd he h5

theorem c_canon (w : World) (v : JV) (us : List Value) (R : Reps [] w v.D us) (hT : Tab w) : Calls Tryd.prog 6 [.agg us.toArray].toArray w (Ret fun u w' => u = .tuple #[S (bts (v.wr 0 [])), .int .i64 (ern (v.wr 0 []))] ∧ Mod [] w w') := by
  refine enterD Tryd.func6 rfl rfl rfl (l := [(0, _)]) ⟨rfl, trivial⟩ ?_
  have E := Mod.refl [] w
  obtain ⟨al, cl, am, cm, rfl, Rl, Rm⟩ := JV.cells_ R
  refine c_seq fun K1 hK1 => ?_
  refine c_region ?_
  refine s_box rfl rfl rfl fun g1 w1 N1 => ?_
  have Lg1_E := N1.le E
  replace E := E.then N1.mod
  have Bg1 := N1.blk
  refine s_alloc zv9 rfl fun g2 w2 N2 => ?_
  have Lg2_E := N2.le E
  have Dg1_g2 := N2.ne Bg1
  replace Bg1 := Bg1.mod0 N2.mod
  replace E := E.then N2.mod
  have Bg2 := N2.blk
  refine s_alloc zv26 rfl fun g3 w3 N3 => ?_
  have Lg3_E := N3.le E
  have Dg1_g3 := N3.ne Bg1
  have Dg2_g3 := N3.ne Bg2
  replace Bg1 := Bg1.mod0 N3.mod
  replace Bg2 := Bg2.mod0 N3.mod
  replace E := E.then N3.mod
  have Bg3 := N3.blk
  refine l_nil ?_
  refine e_K (hK1 _ _ _ _ ?_)
  refine c_seq fun K2 hK2 => ?_
  refine c_region ?_
  refine sv (o_mkf rfl rfl) rfl ?_
  refine s_defer rfl ?_
  refine l_nil ?_
  refine e_K (hK2 _ _ _ _ ?_)
  refine c_seq fun K3 hK3 => ?_
  refine c_region ?_
  refine sv (o_build (cs := [_]) pl47 zv47 rfl rfl) rfl ?_
  refine s_box rfl rfl rfl fun g4 w4 N4 => ?_
  have Lg4_E := N4.le E
  have Dg1_g4 := N4.ne Bg1
  have Dg2_g4 := N4.ne Bg2
  have Dg3_g4 := N4.ne Bg3
  replace Bg1 := Bg1.mod0 N4.mod
  replace Bg2 := Bg2.mod0 N4.mod
  replace Bg3 := Bg3.mod0 N4.mod
  replace E := E.then N4.mod
  have Bg4 := N4.blk
  refine sv (o_as rfl) rfl ?_
  refine l_nil ?_
  refine e_K (hK3 _ _ _ _ ?_)
  refine c_seq fun K4 hK4 => ?_
  have HB : WrB w4 g4 47 (.slice none 0 0) [] := ⟨Bg4, Own.nil _ 5 1, by simp [ob], by simp⟩
  refine c_region ?_
  refine sv (o_mv rfl) rfl ?_
  refine sv (o_lda (vs := [_, _, _, _, _, _]) ag25 rfl rfl (Bg1.cs rfl)) rfl ?_
  refine scp (o_call ent20 rfl) (c_wval v.sz _ v _ 0 [] _ g4 (Nat.le_refl _) HB (Reps.to E (by simp) (fun x hx => .inr (by simp [ob] at hx; subst hx; exact Lg4_E)) _ _ R) (by omega) (hT.mod E (by simp)) (by simp [ob]; intro h; have := hT.lt; omega)) rfl (fun w_ h_ => h_.elim) (fun c_ w5 h_ => ?_) fun v_ w5 h_ => ?_
  · skip
    obtain ⟨e, hre, he0, rfl, hm⟩ := h_
    have hm9 : Mod [g4] w4 _ := hm
    replace Bg2 := Bg2.mod hm9 (by simp; exact fun h => Dg2_g4 h)
    replace Bg3 := Bg3.mod hm9 (by simp; exact fun h => Dg3_g4 h)
    replace E := E.own hm9 Lg4_E
    refine e_then (by simp) ?_
    refine we_panic fun a ha => leavesD (by simp) ent18 (c_can1p _ g3 g2 _ _ e Bg3 Bg2 (fun h => Dg2_g3 h.symm) he0) fun en u9 w9 h9 => ?_
    obtain ⟨⟨v9, rfl⟩, rfl, B3, B2, E9⟩ := h9
    exact ⟨v9, rfl, rfl, _, results_cc ha rfl sc9 sc26 rfl rfl (B2.cell rfl) (B3.cell rfl), ⟨by rw [hre]; simp [bts, ern, he0], E.trans' E9 (fun x hx => .inr (by simp at hx; rcases hx with rfl | rfl <;> first | exact Lg3_E | exact Lg2_E))⟩⟩
  obtain ⟨u1, b1, hb1, H1, hm1, ho1⟩ := h_
  have hm9 : Mod [g4] w4 _ := hm1
  replace Bg2 := Bg2.mod hm9 (by simp; exact fun h => Dg2_g4 h)
  replace Bg3 := Bg3.mod hm9 (by simp; exact fun h => Dg3_g4 h)
  replace E := E.own hm9 Lg4_E
  refine l_nil ?_
  refine e_K (hK4 _ _ _ _ ?_)
  refine c_seq fun K5 hK5 => ?_
  refine c_region ?_
  refine sv (o_mv rfl) rfl ?_
  refine sv (o_nilc rfl) rfl ?_
  refine sv (o_fa0 fd47_0 rfl) rfl ?_
  refine sv (o_ld sc45 rfl (H1.blk.cell rfl)) rfl ?_
  refine sv (o_b2s_own (u := b1) Tryd.underlying45 Tryd.underlying5 Tryd.underlying9 rfl (H1.own.same rfl (cells_b8 _))) rfl ?_
  refine s_st sc9 Bg2 rfl rfl rfl (by simp) fun w6 P6 => ?_
  replace Bg3 := Bg3.ne P6.mod (Ne.symm Dg2_g3)
  replace E := E.own P6.mod Lg2_E
  replace Bg2 : Blk w6 g2 _ [_] := P6.blk
  refine s_st sc26 Bg3 rfl rfl rfl (by simp) fun w7 P7 => ?_
  replace Bg2 := Bg2.ne P7.mod (Ne.symm (Ne.symm Dg2_g3))
  replace E := E.own P7.mod Lg3_E
  replace Bg3 : Blk w7 g3 _ [_] := P7.blk
  refine l_nil ?_
  refine e_K (hK5 _ _ _ _ ?_)
  refine c_ret ?_
  refine we_ret fun a ha => leavesD (by simp) ent18 (c_can1r _ g3 g2 Bg3) fun en u9 w9 h9 => ?_
  obtain ⟨⟨v9, rfl⟩, rfl, E9⟩ := h9
  exact ⟨v9, rfl, rfl, _, results_cc ha rfl sc9 sc26 rfl rfl ((Bg2.mod0 E9).cell rfl) ((Bg3.mod0 E9).cell rfl), ⟨by rw [hb1]; rfl, E.then E9⟩⟩
end Go.Proofs.YtkhbnhdlelmbnaaDoor.V

set_option linter.unusedVariables false
set_option linter.unusedSimpArgs false
set_option maxRecDepth 10000
namespace Go.Proofs.YtkhbnhdlelmbnaaDoor.V
open Go Go.Proofs
theorem ent6 : Ent Tryd.prog 6 := Ent.of Tryd.func6 (by kernel_rfl) (by kernel_rfl)
def JV.seven : JV := .mk 2 false 7 [] [] []
end Go.Proofs.YtkhbnhdlelmbnaaDoor.V

set_option linter.unusedVariables false
set_option linter.unusedSimpArgs false
set_option maxRecDepth 10000
namespace Go.Proofs.YtkhbnhdlelmbnaaDoor.V
open Go Go.Proofs

section
variable {H : Type} {enc : TypeId × Value → H} {w : World}
theorem opn_jv (n : Nat) : OpnN enc Tryd.prog w n 25 JV.D JV.ok := by
  induction n using Nat.strongRecOn with
  | ind n ih =>
    cases n with
    | zero => exact OpnN.zero
    | succ n =>
      have hl : OpnN enc Tryd.prog w n 22 (fun xs : List JV => [.sl 6 (xs.map JV.D)]) (fun xs => (∀ x ∈ xs, x.ok) ∧ xs.length * 88 ≤ 140737488351232) := by
        cases n with
        | zero => exact OpnN.zero
        | succ n => exact opn_slice Tryd.underlying22 (by kernel_rfl) (by kernel_rfl) (by decide) (ih n (by omega))
      have hm : OpnN enc Tryd.prog w n 23 (fun xs : List (List UInt8 × JV) => [.sl 7 (xs.map JV.Dp)]) (fun xs => (∀ x ∈ xs, x.1.length ≤ 140737488351232 ∧ x.2.ok) ∧ xs.length * 104 ≤ 140737488351232) := by
        cases n with
        | zero => exact OpnN.zero
        | succ n =>
          refine opn_slice Tryd.underlying23 (by kernel_rfl) (by kernel_rfl) (by decide) ?_
          cases n with
          | zero => exact OpnN.zero
          | succ n =>
            exact OpnN.to (opn_struct (tot := 7) Tryd.underlying62 (by kernel_rfl) (opn_cons (k := 1) rfl (by kernel_rfl) (opn_str Tryd.underlying9) (opn_cons (k := 6) rfl (by kernel_rfl) (ih n (by omega)) opn_nil))) (fun p => (p.1, p.2.1)) (fun p => by simp [JV.Dp]) (fun p h => ⟨h.1, h.2.1⟩)
      refine OpnN.to (opn_struct (tot := 6) Tryd.underlying25 (by kernel_rfl) (opn_cons (k := 1) rfl (by kernel_rfl) (opn_int Tryd.underlying3) (opn_cons (k := 1) rfl (by kernel_rfl) (opn_bool Tryd.underlying4) (opn_cons (k := 1) rfl (by kernel_rfl) (opn_int Tryd.underlying3) (opn_cons (k := 1) rfl (by kernel_rfl) (opn_str Tryd.underlying9) (opn_cons (k := 1) rfl (by kernel_rfl) hl (opn_cons (k := 1) rfl (by kernel_rfl) hm opn_nil))))))) (fun p => JV.mk p.1 p.2.1 p.2.2.1 p.2.2.2.1 p.2.2.2.2.1 p.2.2.2.2.2.1) (fun p => by rw [JV.D_eq]; rfl) (fun p h => ?_)
      obtain ⟨h1, h2, h3, h4, h5, h6, _⟩ := h
      rw [JV.ok_eq]
      refine ⟨h4, ?_, ?_, h5.1, h6.1⟩
      · have := h5.2; show p.2.2.2.2.1.length ≤ _; omega
      · have := h6.2; show p.2.2.2.2.2.1.length ≤ _; omega
theorem opn_strs (n : Nat) : OpnN enc Tryd.prog w n 30 (fun xs : List Str => [strD xs]) (fun xs => (∀ x ∈ xs, x.length ≤ 140737488351232) ∧ xs.length * 16 ≤ 140737488351232) := by
  cases n with
  | zero => exact OpnN.zero
  | succ n => exact opn_slice Tryd.underlying30 (by kernel_rfl) (by kernel_rfl) (by decide) (opn_str Tryd.underlying9)
theorem opn_sig (n : Nat) : OpnN enc Tryd.prog w n 58 (fun x : Sig3 => (Sig3.cells x).map D.v) (fun x => x.srv.length ≤ 140737488351232 ∧ x.key.length ≤ 140737488351232 ∧ x.sig.length ≤ 140737488351232) := by
  cases n with
  | zero => exact OpnN.zero
  | succ n => exact OpnN.to (opn_struct (tot := 3) Tryd.underlying58 (by kernel_rfl) (opn_cons (k := 1) rfl (by kernel_rfl) (opn_str Tryd.underlying9) (opn_cons (k := 1) rfl (by kernel_rfl) (opn_str Tryd.underlying9) (opn_cons (k := 1) rfl (by kernel_rfl) (opn_str Tryd.underlying9) opn_nil)))) (fun p => ⟨p.1, p.2.1, p.2.2.1⟩) (fun _ => rfl) (fun p h => ⟨h.1, h.2.1, h.2.2.1⟩)
theorem opn_sigs (n : Nat) : OpnN enc Tryd.prog w n 31 (fun xs : List Sig3 => [flat 3 Sig3.cells xs]) (fun xs => (∀ x ∈ xs, x.srv.length ≤ 140737488351232 ∧ x.key.length ≤ 140737488351232 ∧ x.sig.length ≤ 140737488351232) ∧ xs.length * 48 ≤ 140737488351232) := by
  cases n with
  | zero => exact OpnN.zero
  | succ n => exact opn_slice Tryd.underlying31 (by kernel_rfl) (by kernel_rfl) (by decide) (opn_sig n)
theorem opn_ev (n : Nat) : OpnN enc Tryd.prog w n 33 EV.D EV.ok := by
  cases n with
  | zero => exact OpnN.zero
  | succ n =>
    refine OpnN.to (opn_struct (tot := 17) Tryd.underlying33 (by kernel_rfl) (opn_cons (k := 1) rfl (by kernel_rfl) (opn_str Tryd.underlying9) (opn_cons (k := 1) rfl (by kernel_rfl) (opn_str Tryd.underlying9) (opn_cons (k := 1) rfl (by kernel_rfl) (opn_str Tryd.underlying9) (opn_cons (k := 1) rfl (by kernel_rfl) (opn_bool Tryd.underlying4) (opn_cons (k := 1) rfl (by kernel_rfl) (opn_str Tryd.underlying9) (opn_cons (k := 6) rfl (by kernel_rfl) (opn_jv n) (opn_cons (k := 1) rfl (by kernel_rfl) (opn_strs n) (opn_cons (k := 1) rfl (by kernel_rfl) (opn_strs n) (opn_cons (k := 1) rfl (by kernel_rfl) (opn_int Tryd.underlying3) (opn_cons (k := 1) rfl (by kernel_rfl) (opn_int Tryd.underlying3) (opn_cons (k := 1) rfl (by kernel_rfl) (opn_str Tryd.underlying9) (opn_cons (k := 1) rfl (by kernel_rfl) (opn_sigs n) opn_nil))))))))))))) (fun p => EV.mk p.1 p.2.1 p.2.2.1 p.2.2.2.1 p.2.2.2.2.1 p.2.2.2.2.2.1 p.2.2.2.2.2.2.1 p.2.2.2.2.2.2.2.1 p.2.2.2.2.2.2.2.2.1 p.2.2.2.2.2.2.2.2.2.1 p.2.2.2.2.2.2.2.2.2.2.1 p.2.2.2.2.2.2.2.2.2.2.2.1) (fun p => ?_) (fun p h => ?_)
    · simp only [EV.D, List.cons_append, List.nil_append, List.append_nil, List.append_assoc]
    · obtain ⟨h1, h2, h3, _, h5, h6, h7, h8, _, _, h11, h12, _⟩ := h
      exact ⟨h1, h2, h3, h5, h6, h7.1, by have := h7.2; dsimp only; omega, h8.1, by have := h8.2; dsimp only; omega, h11, h12.1, by have := h12.2; dsimp only; omega⟩

end
theorem tab_third {P : Program} {W : World} {name n1 n2 : String} {d1 d2 : DataW Unit} {k : IntKind} {zs : List Int} {rest : List (String × DataW Unit)} {g : Nat} {t e : TypeId} {n : Nat}
    (hg : P.globalNamed name = some g) (hty : (P.globals[g]?).map (·.type) = some t) (ht : P.underlying t = some (.array n e)) (he : P.underlying e = some (.int k)) (hce : P.cellsOf e = 1) (hct : P.cellsOf t = n)
    (h : laidMet P ((n1, d1) :: (n2, d2) :: (name, Lib.tabData k zs) :: rest) W) : Lib.TabIs P W name k zs := by
  obtain ⟨ps, ⟨_, _, _, _, _, _, _, _, _, _, ⟨_, _, _, _, _, _, _, _, _, _, ⟨g', t', cs, fuel, p, q, hg', ht', hvar, hd, _, _⟩, _⟩, _⟩, _⟩ := h
  obtain rfl := Option.some.inj (hg.symm.trans hg')
  obtain rfl := Option.some.inj (hty.symm.trans ht')
  unfold Lib.TabIs
  rw [hvar, ← Lib.cells_of_tab ht he hce hct hd]
theorem tabOf {W : World} {n1 n2 : String} {d1 d2 : DataW Unit} (h : laidMet Tryd.prog [(n1, d1), (n2, d2), ("internal/strconv.uint64pow10", Lib.tabData .u64 Lib.pow10Tab)] W) : Tab W :=
  tab_third (t := 126) (n := 20) (e := 119) gPow (by kernel_rfl) Tryd.underlying126 Tryd.underlying119 (by kernel_rfl) (by kernel_rfl) h
end Go.Proofs.YtkhbnhdlelmbnaaDoor.V

set_option linter.unusedVariables false
set_option linter.unusedSimpArgs false
namespace Go.Proofs.YtkhbnhdlelmbnaaDoor.V
open Go
section
variable {P : Program} {A : List Nat} {w : World}
theorem RepRows.cells_ {sz : Nat} {ad : Addr} : ∀ (i : Nat) (rws : List (List D)), RepRows A w sz ad i rws → ∃ vs, Reps A w rws.flatten vs ∧ vs.length = rws.length * sz ∧ ∀ j u, vs[j]? = some u → w.cell? (ad.add (i * sz + j)) = some u
  | _, [], _ => ⟨[], rfl, by simp, fun j u hu => by simp at hu⟩
  | i, r :: rs, hh => by
    simp only [RepRows] at hh
    obtain ⟨hl, hrow, hrest⟩ := hh
    obtain ⟨us, hu1, hu2⟩ := hrow.cells
    obtain ⟨vs, hv1, hv2, hv3⟩ := RepRows.cells_ (i + 1) rs hrest
    refine ⟨us ++ vs, by simp only [List.flatten_cons]; exact hu1.append hv1, by simp [hu1.length, hl, hv2, Nat.add_mul]; omega, fun j u hj => ?_⟩
    rw [List.getElem?_append] at hj
    have hul : us.length = sz := by rw [hu1.length, hl]
    split at hj
    · have := hu2 j u hj
      rwa [Nat.zero_add, Addr.add_add] at this
    · rename_i hge
      have := hv3 _ u hj
      rwa [show (i + 1) * sz + (j - us.length) = i * sz + j by rw [Nat.add_mul, hul]; rw [hul] at hge; omega] at this
theorem Src.rep0 {tx e' sz : Nat} {rows : List (List D)} {v : Value} (hk : P.underlying tx = some (.slice e')) (h : Rep A w (.sl sz rows) v) : ∃ vs, Reps A w rows.flatten vs ∧ vs.length = rows.length * sz ∧ ∀ w', Mod [] w w' → Src P sz tx v rows.length vs w' := by
  cases hrows : rows with
  | nil =>
    subst hrows
    simp only [Rep] at h
    obtain ⟨ad, c, rfl, h2, h3, h4⟩ := h
    refine ⟨[], rfl, by simp, fun w' _ => ?_⟩
    cases ad with
    | none => exact Src.ofNil w' hk c
    | some ad => exact Src.ofSlice w' hk ad 0 c [] (by simp) (fun j u hu => by simp at hu) (fun u hu => by cases hu)
  | cons r0 rs =>
    rw [← hrows]
    simp only [Rep] at h
    obtain ⟨ad, c, rfl, h2, h3, h4⟩ := h
    obtain ⟨ad, rfl, hA, hb, hr⟩ := h4 (by simp [hrows])
    obtain ⟨vs, hv1, hv2, hv3⟩ := RepRows.cells_ 0 rows hr
    have hC : Cs w ad vs := fun j u hu => by have := hv3 j u hu; rwa [Nat.zero_mul, Nat.zero_add] at this
    exact ⟨vs, hv1, hv2, fun w' k => Src.ofSlice w' hk ad _ c vs hv2 (hC.mod0 k) hv1.one⟩
end
end Go.Proofs.YtkhbnhdlelmbnaaDoor.V

set_option linter.unusedVariables false
set_option linter.unusedSimpArgs false
namespace Go.Proofs.YtkhbnhdlelmbnaaDoor.V
open Go
theorem atL_at {s : Str} {p : Nat} {b : UInt8} (h : s[p]? = some b) : atL (s.drop p) 0 = b.toNat := by
  unfold atL
  rw [List.getD_eq_getElem?_getD, List.getElem?_drop, Nat.add_zero, h]
  rfl
theorem dec_lt {s : Str} {p : Nat} {b : UInt8} (h : s[p]? = some b) (hb : b.toNat < 128) : Utf8.decode ⟨⟨s⟩⟩ p = (b.toNat, 1) := by
  rw [decode_eq]
  unfold decL
  rw [atL_at h, if_pos (by omega)]
theorem dec_ge {s : Str} {p : Nat} {b : UInt8} (h : s[p]? = some b) (hb : 128 ≤ b.toNat) : ∃ c m, Utf8.decode ⟨⟨s⟩⟩ p = (c, m) ∧ 128 ≤ c ∧ c ≤ 1114111 ∧ ¬ (55296 ≤ c ∧ c ≤ 57343) := by
  have hlt := (List.getElem?_eq_some_iff.1 h).1
  rw [decode_eq]
  rcases ok_all (dec_at hlt) with ⟨_, h2⟩ | ⟨h1, h2, h3, h4, h5, h6⟩
  · exact ⟨65533, 1, h2, by omega, by omega, by omega⟩
  · refine ⟨_, _, h2, ?_, h4, h5⟩
    rcases Nat.lt_or_ge (runeR (s.drop p)).1 128 with hc | hc
    · exfalso
      unfold encL at h3
      rw [if_pos hc] at h3
      have hl : s.drop p = b :: s.drop (p + 1) := by
        rw [List.drop_eq_getElem_cons hlt]
        congr 1
        exact (List.getElem?_eq_some_iff.1 h).2
      rw [hl] at h3 h1
      cases hm : (runeR (b :: s.drop (p + 1))).2 with
      | zero => exact h1 hm
      | succ m =>
        rw [hm, List.take_succ_cons] at h3
        simp only [List.map_cons, List.cons.injEq] at h3
        rw [hl] at hc
        omega
    · exact hc
/-- has a text a byte or more, all of a kind? -/
def allB (q : Nat → Bool) (s : Str) : Bool := decide (s ≠ []) && s.all (fun b => q b.toNat)
theorem all_succ {q : Nat → Bool} {s : Str} {p : Nat} {b : UInt8} (h : s[p]? = some b) (ha : (s.take p).all (fun b => q b.toNat) = true) (hb : q b.toNat = true) : (s.take (p + 1)).all (fun b => q b.toNat) = true := by
  have hlt := (List.getElem?_eq_some_iff.1 h).1
  rw [List.take_succ_eq_append_getElem hlt, (List.getElem?_eq_some_iff.1 h).2, List.all_append, ha]
  simp [hb]
theorem allB_no {q : Nat → Bool} {s : Str} {p : Nat} {b : UInt8} (h : s[p]? = some b) (hb : q b.toNat = false) : allB q s = false := by
  unfold allB
  have : s.all (fun b => q b.toNat) = false := by
    rw [List.all_eq_false]
    exact ⟨b, List.mem_of_getElem? h, by simp [hb]⟩
  rw [this, Bool.and_false]
theorem allB_yes {q : Nat → Bool} {s : Str} {p : Nat} (hp : s.length ≤ p) (ha : (s.take p).all (fun b => q b.toNat) = true) : allB q s = decide (s ≠ []) := by
  unfold allB
  rw [List.take_of_length_le hp] at ha
  rw [ha, Bool.and_true]
def kS (c : Nat) : Bool := decide (97 ≤ (c : Int)) && decide ((c : Int) ≤ 122)
def kG (c : Nat) : Bool := decide (65 ≤ (c : Int)) && decide ((c : Int) ≤ 90)
def kD (c : Nat) : Bool := decide (48 ≤ (c : Int)) && decide ((c : Int) ≤ 57)
abbrev userS : Str := [46, 95, 61, 45, 47, 43]
def qServer (c : Nat) : Bool := kS c || kD c || decide ((c : Int) = 46) || decide ((c : Int) = 45)
def qUser (c : Nat) : Bool := kS c || kD c || userS.any (fun b => decide (b.toNat = c))
def qRoom (c : Nat) : Bool := kS c || kG c || kD c || decide ((c : Int) = 95) || decide ((c : Int) = 45)
def qKey (c : Nat) : Bool := kS c || kG c || kD c || decide ((c : Int) = 95)
theorem qServer_lt (c : Nat) (h : qServer c = true) : c < 128 := by
  simp only [qServer, kS, kD, Bool.or_eq_true, Bool.and_eq_true, decide_eq_true_eq] at h
  omega
theorem kD_lt (c : Nat) (h : kD c = true) : c < 128 := by
  simp only [kD, Bool.and_eq_true, decide_eq_true_eq] at h
  omega
theorem qUser_lt (c : Nat) (h : qUser c = true) : c < 128 := by
  simp [qUser, kS, kD] at h
  omega
theorem qRoom_lt (c : Nat) (h : qRoom c = true) : c < 128 := by
  simp only [qRoom, kS, kG, kD, Bool.or_eq_true, Bool.and_eq_true, decide_eq_true_eq] at h
  omega
theorem qKey_lt (c : Nat) (h : qKey c = true) : c < 128 := by
  simp only [qKey, kS, kG, kD, Bool.or_eq_true, Bool.and_eq_true, decide_eq_true_eq] at h
  omega
/-! ### the first colon -/
def colonAt (s : Str) : Nat := s.findIdx (fun b => b == 58)
theorem colon_le (s : Str) : colonAt s ≤ s.length := List.findIdx_le_length
theorem index_colon (s : Str) : Lib.index s [58] = if colonAt s < s.length then (colonAt s : Int) else -1 := by
  induction s with
  | nil => rfl
  | cons b s ih =>
    unfold Lib.index
    rw [ih]
    have hp : ([58] : Str).isPrefixOf (b :: s) = (b == 58) := by
      simp only [List.isPrefixOf, Bool.and_true]
      rw [Bool.eq_iff_iff]
      simp only [beq_iff_eq]
      exact ⟨Eq.symm, Eq.symm⟩
    rw [hp]
    have hl := colon_le s
    cases hb : b == 58 with
    | true => simp [colonAt, List.findIdx_cons, hb]
    | false =>
      have : colonAt (b :: s) = colonAt s + 1 := by simp [colonAt, List.findIdx_cons, hb]
      rw [this]
      by_cases h : colonAt s < s.length
      · have e1 : ((colonAt s : Int) == -1) = false := by rw [beq_eq_false_iff_ne]; omega
        have e2 : colonAt s + 1 < (b :: s).length := by simp only [List.length_cons]; omega
        simp only [if_pos h, e1, if_pos e2, Bool.false_eq_true, if_false]
        omega
      · have e2 : ¬ colonAt s + 1 < (b :: s).length := by simp only [List.length_cons]; omega
        simp only [if_neg h, if_neg e2, Bool.false_eq_true, if_false]
        rfl
theorem cut_colon (s : Str) : Lib.cut s [58] = if colonAt s < s.length then (s.take (colonAt s), s.drop (colonAt s + 1), true) else (s, [], false) := by
  unfold Lib.cut
  rw [index_colon]
  by_cases h : colonAt s < s.length
  · rw [if_pos h, if_pos h, if_pos (by omega)]
    simp
  · rw [if_neg h, if_neg h, if_neg (by omega)]
def serverB (s : Str) : Bool :=
  allB qServer (s.take (colonAt s)) && decide (s.length ≤ 255) && (decide (colonAt s = s.length) || (decide (s.length - colonAt s ≤ 6) && allB kD (s.drop (colonAt s + 1))))
def namedB (sign : UInt8) (q : Nat → Bool) (s : Str) : Bool :=
  decide (s.length ≤ 255) && decide (colonAt s < s.length) && decide (s.head? = some sign) && allB q ((s.take (colonAt s)).drop 1) && serverB (s.drop (colonAt s + 1))
abbrev edS : Str := [101, 100, 50, 53, 53, 49, 57, 58]
def keyB (s : Str) : Bool := decide (s.length ≤ 255) && decide (s.take 8 = edS) && allB qKey (s.drop 8)
/-! ### control: a scope that is not jumped about in -/
section
variable {P : Program} {Q : Exit → Act → World → Prop} {n : Nat} {ds : List Deferred} {l : List (Nat × Value)} {w : World}
theorem c_scope {c : Code} (h : WC P c (Exit.noGoto Q) n ds l w) : WC P (.scope c) Q n ds l w := fun a ha => wp_scope_straight (h a ha)
theorem e_scope {e : Exit} (he : ∀ j, e ≠ .goto j) (h : WE Q e n ds l w) : WE (Exit.noGoto Q) e n ds l w := fun a ha => by
  have := h a ha
  cases e <;> first | exact this | exact absurd rfl (he _)
variable {t t' : TypeId} {ty : TypeId} {pos : String} {af : Array Edge} {dd : Option Nat} {gg : Option (Nat × Bool)} {x y : Operand} {ops : Array Oper} {rest : List Oper} {d : Nat}
theorem o_r2s {d0 : TypeDesc} {c : Nat} {k : IntKind} (hs : P.underlying t = some d0) (ht : P.underlying t' = some .string) (hx : evO l x = some (.int k (c : Int))) : Runs P l ⟨dd, .convert t t' x, ty, pos, af, gg⟩ w (.string (Utf8.encode c)) w := fun ρ h => by
  have h1 := run_convert_int_string (P := P) w t t' k (c : Int) (by rw [hs]; rfl) ht
  simp only [execOp, h _ _ hx, Sem.run_bind, h1, Result.andThen, Sem.run_pure]
end
/-- the bytes of a rune of 128 or more: two or more, the last of them 128 or more -/
theorem enc_last {c : Nat} (h1 : c ≤ 1114111) (h2 : ¬ (55296 ≤ c ∧ c ≤ 57343)) (h : 128 ≤ c) : ∃ rs : Str, Utf8.encode (c : Int) = ⟨⟨rs⟩⟩ ∧ 2 ≤ rs.length ∧ rs.length ≤ 4 ∧ ∃ b, rs[rs.length - 1]? = some b ∧ 128 ≤ b.toNat := by
  obtain ⟨f1, f2, f3⟩ := encode_facts (c : Int) (by rw [valid_nat]; simp; omega) (by omega)
  generalize Utf8.encode (c : Int) = e at f1 f2 f3 ⊢
  obtain ⟨⟨rs⟩⟩ := e
  have hs : (⟨⟨rs⟩⟩ : ByteArray).size = rs.length := rfl
  rw [hs] at f1 f2
  have hl : rs.length - 1 < rs.length := by omega
  exact ⟨rs, rfl, f1, f2, rs[rs.length - 1], List.getElem?_eq_getElem hl, f3 hl⟩
theorem indexByte_none {s : Str} {b : UInt8} (h : ∀ x ∈ s, x.toNat < 128) (hb : 128 ≤ b.toNat) : Lib.indexByte s b = -1 := by
  induction s with
  | nil => rfl
  | cons c s ih =>
    have hc := h c (by simp)
    have hne : (c == b) = false := by
      rw [beq_eq_false_iff_ne]
      intro e
      subst e
      omega
    unfold Lib.indexByte
    rw [hne, ih fun x hx => h x (by simp [hx])]
    rfl
theorem indexByte_mem (s : Str) (c : Nat) (hc : c < 128) : decide (0 ≤ Lib.indexByte s c.toUInt8) = s.any (fun b => decide (b.toNat = c)) := by
  induction s with
  | nil => rfl
  | cons b s ih =>
    unfold Lib.indexByte
    rw [List.any_cons, ← ih]
    have he : (b == c.toUInt8) = decide (b.toNat = c) := by
      rw [Bool.eq_iff_iff]
      simp only [beq_iff_eq, decide_eq_true_eq]
      have hn : c.toUInt8.toNat = c := by
        show (UInt8.ofNat c).toNat = c
        exact UInt8.toNat_ofNat_of_lt' (by have : c < 256 := by omega
                                           exact this)
      constructor
      · intro e; rw [e, hn]
      · intro e; exact UInt8.toNat_inj.1 (by rw [hn, e])
    rw [he]
    have hr : Lib.indexByte s c.toUInt8 = -1 ∨ 0 ≤ Lib.indexByte s c.toUInt8 := by
      clear ih he
      induction s with
      | nil => exact .inl rfl
      | cons x s ih =>
        unfold Lib.indexByte
        split
        · exact .inr (by omega)
        · split
          · exact .inl rfl
          · rename_i h
            rcases ih with h1 | h1
            · rw [h1] at h; simp at h
            · exact .inr (by omega)
    by_cases hb : b.toNat = c
    · simp [hb]
    · simp only [hb, decide_false, Bool.false_eq_true, if_false, Bool.false_or]
      rcases hr with h | h
      · rw [h]; rfl
      · have e1 : (Lib.indexByte s c.toUInt8 == -1) = false := by rw [beq_eq_false_iff_ne]; omega
        rw [e1, decide_eq_true h]
        simp only [Bool.false_eq_true, if_false]
        exact decide_eq_true (by omega)
end Go.Proofs.YtkhbnhdlelmbnaaDoor.V

namespace Go.Proofs
open Go.Shelf
def Tryd.lays137_ren : Go.Shelf.Ren := ⟨fun | 137 => 94 | 217 => 110 | 266 => 119 | n => n, fun | 9 => 9 | 5 => 5 | 3 => 3 | n => n, fun | n => n⟩
theorem Tryd.lays137 : Go.Proofs.Lays.n137 Tryd.prog Tryd.lays137_ren := {
  mixed := by kernel_rfl
  f137 := Tryd.func94.trans (congrArg some (by kernel_rfl))
  f217 := Tryd.func110.trans (congrArg some (by kernel_rfl))
  f266 := Tryd.func119.trans (congrArg some (by kernel_rfl))
  t3 := Tryd.underlying3
  a3 := Tryd.isAgg3
  z3 := Tryd.sizeOf3
  v3 := Tryd.zeroValue3
  t5 := Tryd.underlying5
  a5 := Tryd.isAgg5
  z5 := Tryd.sizeOf5
  v5 := Tryd.zeroValue5
  t9 := Tryd.underlying9
  a9 := Tryd.isAgg9
  z9 := Tryd.sizeOf9
  v9 := Tryd.zeroValue9 }
open Go.RowKit in
theorem Tryd.strings_IndexByte (s : ByteArray) (c : Int) (w : World) :
    Calls Tryd.prog 94 #[.string s, .int .u8 c] w fun e w' => e = .returned (.int .i64 (Lib.indexByte s.data.toList c.toNat.toUInt8)) ∧ w' = w := Any.strings_IndexByte Tryd.lays137 s c w
def Tryd.lays103_ren : Go.Shelf.Ren := ⟨fun | 103 => 82 | 210 => 99 | 206 => 98 | n => n, fun | 9 => 9 | 4 => 4 | 24 => 91 | 3 => 3 | n => n, fun | n => n⟩
theorem Tryd.lays103 : Go.Proofs.Lays.n103 Tryd.prog Tryd.lays103_ren := {
  mixed := by kernel_rfl
  f103 := Tryd.func82.trans (congrArg some (by kernel_rfl))
  f206 := Tryd.func98.trans (congrArg some (by kernel_rfl))
  f210 := Tryd.func99.trans (congrArg some (by kernel_rfl))
  t3 := Tryd.underlying3
  a3 := Tryd.isAgg3
  z3 := Tryd.sizeOf3
  v3 := Tryd.zeroValue3
  t4 := Tryd.underlying4
  a4 := Tryd.isAgg4
  z4 := Tryd.sizeOf4
  v4 := Tryd.zeroValue4
  t9 := Tryd.underlying9
  a9 := Tryd.isAgg9
  z9 := Tryd.sizeOf9
  v9 := Tryd.zeroValue9
  t24 := Tryd.underlying91
  a24 := Tryd.isAgg91
  z24 := Tryd.sizeOf91
  v24 := Tryd.zeroValue91 }
open Go.RowKit in
theorem Tryd.strings_CutPrefix (s p : ByteArray) (w : World) :
    Calls Tryd.prog 82 #[.string s, .string p] w fun e w' => e = .returned (.tuple #[.string ⟨(Lib.trimPrefix s.data.toList p.data.toList).toArray⟩, .bool (Lib.hasPrefix s.data.toList p.data.toList)]) ∧ w' = w := Any.strings_CutPrefix Tryd.lays103 s p w
def Tryd.lays145_ren : Go.Shelf.Ren := ⟨fun | 145 => 77 | 220 => 93 | 219 => 109 | 217 => 110 | 225 => 97 | 224 => 96 | 267 => 118 | 266 => 119 | 314 => 124 | n => n, fun | 9 => 9 | 4 => 4 | 59 => 75 | 3 => 3 | 5 => 5 | 46 => 96 | 146 => 131 | 51 => 124 | n => n, fun | 1 => 0 | n => n⟩
theorem Tryd.lays145 : Go.Proofs.Lays.n145 Tryd.prog Tryd.lays145_ren := {
  mixed := by kernel_rfl
  f145 := Tryd.func77.trans (congrArg some (by kernel_rfl))
  f217 := Tryd.func110.trans (congrArg some (by kernel_rfl))
  f219 := Tryd.func109.trans (congrArg some (by kernel_rfl))
  f220 := Tryd.func93.trans (congrArg some (by kernel_rfl))
  f224 := Tryd.func96.trans (congrArg some (by kernel_rfl))
  f225 := Tryd.func97.trans (congrArg some (by kernel_rfl))
  f266 := Tryd.func119.trans (congrArg some (by kernel_rfl))
  f267 := Tryd.func118.trans (congrArg some (by kernel_rfl))
  f314 := Tryd.func124.trans (congrArg some (by kernel_rfl))
  t3 := Tryd.underlying3
  a3 := Tryd.isAgg3
  z3 := Tryd.sizeOf3
  v3 := Tryd.zeroValue3
  t4 := Tryd.underlying4
  a4 := Tryd.isAgg4
  z4 := Tryd.sizeOf4
  v4 := Tryd.zeroValue4
  t5 := Tryd.underlying5
  a5 := Tryd.isAgg5
  z5 := Tryd.sizeOf5
  v5 := Tryd.zeroValue5
  t9 := Tryd.underlying9
  a9 := Tryd.isAgg9
  z9 := Tryd.sizeOf9
  v9 := Tryd.zeroValue9
  t46 := Tryd.underlying96
  a46 := Tryd.isAgg96
  z46 := Tryd.sizeOf96
  v46 := Tryd.zeroValue96
  t51 := Tryd.underlying124
  a51 := Tryd.isAgg124
  z51 := Tryd.sizeOf124
  v51 := Tryd.zeroValue124
  t59 := Tryd.underlying75
  a59 := Tryd.isAgg75
  z59 := Tryd.sizeOf75
  v59 := Tryd.zeroValue75
  t146 := Tryd.underlying131
  a146 := Tryd.isAgg131
  z146 := Tryd.sizeOf131
  v146 := Tryd.zeroValue131
  g1 := by kernel_rfl }
open Go.RowKit Go.Lib in
theorem Tryd.strings_Cut (s sep : ByteArray) (m : Int) (w : World) (hs : s.size < 4294967281) (hm : w.cell? ⟨0, 0, none⟩ = some (.int .i64 m)) :
    Calls Tryd.prog 77 #[.string s, .string sep] w fun e w' => e = .returned (.tuple #[.string ⟨(Lib.cut s.data.toList sep.data.toList).1.toArray⟩, .string ⟨(Lib.cut s.data.toList sep.data.toList).2.1.toArray⟩, .bool (Lib.cut s.data.toList sep.data.toList).2.2]) ∧ ∃ n, w' = w.drewN n := Any.strings_Cut Tryd.lays145 s sep m w hs hm
def Tryd.laysM145_ren : Go.Shelf.Ren := ⟨fun | 145 => 77 | 220 => 93 | 219 => 109 | 217 => 110 | 225 => 97 | 224 => 96 | 267 => 118 | 266 => 119 | 314 => 124 | n => n, fun | 9 => 9 | 4 => 4 | 59 => 75 | 3 => 3 | 5 => 5 | 46 => 96 | 146 => 131 | 51 => 124 | n => n, fun | 1 => 0 | n => n⟩
theorem Tryd.laysM145 : Go.Proofs.LaysM.n145 Tryd.prog Tryd.laysM145_ren := {
  mixed := by kernel_rfl
  f145 := Tryd.func77.trans (congrArg some (by kernel_rfl))
  f217 := Tryd.func110.trans (congrArg some (by kernel_rfl))
  f219 := Tryd.func109.trans (congrArg some (by kernel_rfl))
  f220 := Tryd.func93.trans (congrArg some (by kernel_rfl))
  f224 := Tryd.func96.trans (congrArg some (by kernel_rfl))
  f225 := Tryd.func97.trans (congrArg some (by kernel_rfl))
  f266 := Tryd.func119.trans (congrArg some (by kernel_rfl))
  f267 := Tryd.func118.trans (congrArg some (by kernel_rfl))
  f314 := Tryd.func124.trans (congrArg some (by kernel_rfl))
  t3 := Tryd.underlying3
  a3 := Tryd.isAgg3
  z3 := Tryd.sizeOf3
  v3 := Tryd.zeroValue3
  t4 := Tryd.underlying4
  a4 := Tryd.isAgg4
  z4 := Tryd.sizeOf4
  v4 := Tryd.zeroValue4
  t5 := Tryd.underlying5
  a5 := Tryd.isAgg5
  z5 := Tryd.sizeOf5
  v5 := Tryd.zeroValue5
  t9 := Tryd.underlying9
  a9 := Tryd.isAgg9
  z9 := Tryd.sizeOf9
  v9 := Tryd.zeroValue9
  t46 := Tryd.underlying96
  a46 := Tryd.isAgg96
  z46 := Tryd.sizeOf96
  v46 := Tryd.zeroValue96
  t51 := Tryd.underlying124
  a51 := Tryd.isAgg124
  z51 := Tryd.sizeOf124
  v51 := Tryd.zeroValue124
  t59 := Tryd.underlying75
  a59 := Tryd.isAgg75
  z59 := Tryd.sizeOf75
  v59 := Tryd.zeroValue75
  t146 := Tryd.underlying131
  a146 := Tryd.isAgg131
  z146 := Tryd.sizeOf131
  v146 := Tryd.zeroValue131
  g1 := by kernel_rfl
  i3 := by kernel_rfl
  i4 := by kernel_rfl
  i5 := by kernel_rfl
  i9 := by kernel_rfl
  i46 := by kernel_rfl
  i51 := by kernel_rfl
  i59 := by kernel_rfl
  i146 := by kernel_rfl
  m1 := by kernel_rfl
  s1_3 := fun w h => Go.Proofs.cell_of_shapedOpen_int (zero := #[.int .i64 0]) (t := 3) h (of_decide_eq_true (by kernel_rfl)) (by kernel_rfl) rfl (by kernel_rfl) (by kernel_rfl) Tryd.underlying3 }
def Tryd.lays151_ren : Go.Shelf.Ren := ⟨fun | 151 => 60 | 152 => 79 | 137 => 94 | 119 => 95 | 224 => 96 | 225 => 97 | 217 => 110 | 266 => 119 | n => n, fun | 9 => 9 | 21 => 21 | 4 => 4 | 3 => 3 | 5 => 5 | 0 => 0 | 46 => 96 | n => n, fun | n => n⟩
theorem Tryd.lays151 : Go.Proofs.Lays.n151 Tryd.prog Tryd.lays151_ren := {
  mixed := by kernel_rfl
  f119 := Tryd.func95.trans (congrArg some (by kernel_rfl))
  f137 := Tryd.func94.trans (congrArg some (by kernel_rfl))
  f151 := Tryd.func60.trans (congrArg some (by kernel_rfl))
  f152 := Tryd.func79.trans (congrArg some (by kernel_rfl))
  f217 := Tryd.func110.trans (congrArg some (by kernel_rfl))
  f224 := Tryd.func96.trans (congrArg some (by kernel_rfl))
  f225 := Tryd.func97.trans (congrArg some (by kernel_rfl))
  f266 := Tryd.func119.trans (congrArg some (by kernel_rfl))
  t0 := Tryd.underlying0
  a0 := Tryd.isAgg0
  z0 := Tryd.sizeOf0
  v0 := Tryd.zeroValue0
  t3 := Tryd.underlying3
  a3 := Tryd.isAgg3
  z3 := Tryd.sizeOf3
  v3 := Tryd.zeroValue3
  t4 := Tryd.underlying4
  a4 := Tryd.isAgg4
  z4 := Tryd.sizeOf4
  v4 := Tryd.zeroValue4
  t5 := Tryd.underlying5
  a5 := Tryd.isAgg5
  z5 := Tryd.sizeOf5
  v5 := Tryd.zeroValue5
  t9 := Tryd.underlying9
  a9 := Tryd.isAgg9
  z9 := Tryd.sizeOf9
  v9 := Tryd.zeroValue9
  t21 := Tryd.underlying21
  a21 := Tryd.isAgg21
  z21 := Tryd.sizeOf21
  v21 := Tryd.zeroValue21
  t46 := Tryd.underlying96
  a46 := Tryd.isAgg96
  z46 := Tryd.sizeOf96
  v46 := Tryd.zeroValue96 }
open Go.RowKit Go.Lib in
theorem Tryd.strings_ContainsRune_ascii (s : ByteArray) (r : Int) (w : World) (h0 : 0 ≤ r) (h1 : r < 128) :
    Calls Tryd.prog 60 #[.string s, .int .i32 r] w fun e w' => e = .returned (.bool (decide (0 ≤ Lib.indexByte s.data.toList r.toNat.toUInt8))) ∧ w' = w := Any.strings_ContainsRune_ascii Tryd.lays151 s r w h0 h1
end Go.Proofs

namespace Go.Proofs.YtkhbnhdlelmbnaaDoor.V
open Go Go.Proofs
/-- the variable that the search reads holds a number -/
def MaxL (w : World) : Prop := ∃ m, w.cell? ⟨0, 0, none⟩ = some (.int .i64 m)
theorem MaxL.of_ {W : World} (h : W.ShapedOpen Tryd.prog) : MaxL W := Tryd.laysM145.s1_3 W h
theorem MaxL.mod0 {w w' : World} (h : MaxL w) (k : Mod [] w w') : MaxL w' := by
  obtain ⟨m, hm⟩ := h
  refine ⟨m, ?_⟩
  have hlt : 0 < w.heap.size := by
    rcases Nat.lt_or_ge 0 w.heap.size with hl | hl
    · exact hl
    · unfold World.cell? at hm
      rw [Array.getElem?_eq_none hl] at hm
      cases hm
  unfold World.cell? at hm ⊢
  rw [k.block 0 hlt (by simp)]
  exact hm
theorem drewN_mod (w : World) (n : Nat) : Mod [] w (w.drewN n) := ⟨rfl, rfl, rfl, Nat.le_refl _, fun _ _ _ => rfl⟩
theorem c_cut (w : World) (s : Str) (hs : s.length < 4294967281) (hM : MaxL w) : Calls Tryd.prog 77 [S s, S [58]].toArray w (Ret fun u w' => u = .tuple #[S (Lib.cut s [58]).1, S (Lib.cut s [58]).2.1, .bool (Lib.cut s [58]).2.2] ∧ Mod [] w w') := by
  obtain ⟨m, hm⟩ := hM
  refine (Tryd.strings_Cut ⟨⟨s⟩⟩ ⟨⟨[58]⟩⟩ m w hs hm).mono fun e w' he => ?_
  obtain ⟨rfl, n, rfl⟩ := he
  exact ⟨rfl, drewN_mod w n⟩
theorem c_cutp (w : World) (s p : Str) : Calls Tryd.prog 82 [S s, S p].toArray w (Ret fun u w' => u = .tuple #[S (Lib.trimPrefix s p), .bool (Lib.hasPrefix s p)] ∧ Mod [] w w') := by
  refine (Tryd.strings_CutPrefix ⟨⟨s⟩⟩ ⟨⟨p⟩⟩ w).mono fun e w' he => ?_
  obtain ⟨rfl, rfl⟩ := he
  exact ⟨rfl, Mod.refl _ _⟩
theorem c_ib (w : World) (s : Str) (b : UInt8) : Calls Tryd.prog 94 [S s, .int .u8 (b.toNat : Int)].toArray w (Ret fun u w' => u = .int .i64 (Lib.indexByte s b) ∧ Mod [] w w') := by
  refine (Tryd.strings_IndexByte ⟨⟨s⟩⟩ (b.toNat : Int) w).mono fun e w' he => ?_
  obtain ⟨rfl, rfl⟩ := he
  refine ⟨?_, Mod.refl _ _⟩
  have h1 : ((b.toNat : Int).toNat).toUInt8 = b := by rw [Int.toNat_natCast]; exact UInt8.ofNat_toNat
  rw [h1]
theorem c_crune_lo (w : World) (s : Str) (c : Nat) (hc : c < 128) : Calls Tryd.prog 60 [S s, .int .i32 (c : Int)].toArray w (Ret fun u w' => u = .bool (s.any fun b => decide (b.toNat = c)) ∧ Mod [] w w') := by
  refine (Tryd.strings_ContainsRune_ascii ⟨⟨s⟩⟩ (c : Int) w (by omega) (by omega)).mono fun e w' he => ?_
  obtain ⟨rfl, rfl⟩ := he
  refine ⟨?_, Mod.refl _ _⟩
  rw [Int.toNat_natCast, indexByte_mem _ _ hc]
end Go.Proofs.YtkhbnhdlelmbnaaDoor.V
