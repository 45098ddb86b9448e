/-
  A part of the proof: parts of own slices; copy into a part; append of zeros; the entry for slices.overlaps; truths held against one another; drawn operations that look at two slots of which something is known; an argument's reading opened: what its cells stand for, and how great it is; behind the call: true, and each argument reads as it did, where nothing that was there has turned; strings compared by the library's stand-in; values of several cells in a slot; rows of cells; a slice that is built in a region whose order is drawn; a guard on a truth that was not asked; JSON values: what they stand for in memory, and what Same, rises, Get and Find say of them, in plain Lean; members by rising keys: found, put, in plain Lean. No condition of its own.
-/
import Derived.Test.YtknndpjacklkeaaGreatDoorM1
import Derived.Laws.StructEq
import Derived.Lib.Overlaps
import Derived.OpenShut
import Derived.DataReads
import Derived.ProofKit
import Derived.Carry
import Derived.WalkKit
import Derived.Lib.Bytealg
set_option linter.unusedVariables false
set_option linter.unusedSimpArgs false
namespace Go.Proofs.YtknndpjacklkeaaGreatDoor.V
open Go
section
variable {P : Program} {ops : Array Oper} {Q : Exit → Act → World → Prop} {n : Nat} {ds : List Deferred} {l : List (Nat × Value)} {M : List (Nat × (Value → World → Prop))} {w w' : World} {a : Act}
variable {rest : List Oper} {d : Nat} {op : Op} {ty : TypeId} {pos : String} {af : Array Edge} {Fin : Kn → Prop} {j : Nat} {want b : Bool}

/-! ## Guarded operations -/
def gv (ops : Array Oper) (l : List (Nat × Value)) (j : Nat) : Option Bool := match (ops[j]?).bind (·.dst) with
 | some t => match lk t l with
  | some (.bool b) => some b
  | _ => none
 | none => none
theorem gv_spec (h : gv ops l j = some b) : ∃ t, (ops[j]?).bind (·.dst) = some t ∧ lk t l = some (.bool b) := by
 unfold gv at h
 split at h
 ·rename_i t ht
  split at h
  ·rename_i b' hb
   injection h with h
   subst h
   exact ⟨t, ht, hb⟩
  ·cases h
 ·cases h
theorem yielded_of (ha : Has n ds l a) (h : gv ops l j = some b) : yielded ops a.tmps j = some b := by
 obtain ⟨t, h1, h2⟩ := gv_spec h
 unfold yielded
 rw [h1]
 simp [ha.get t _ h2]
theorem sg {v : Value} (hg : gv ops l j = some b) (hb : b = want) (hr : Runs P l ⟨some d, op, ty, pos, af, some (j, want)⟩ w v w') (hd : Nat.blt d n = true) (h : WL P ops Q rest n ds ((d, v) :: l) w') :
  WL P ops Q (⟨some d, op, ty, pos, af, some (j, want)⟩ :: rest) n ds l w := by
 intro a ha
 refine wpList_step fun K hK => ?_
 have hw : Region.wanted ⟨some d, op, ty, pos, af, some (j, want)⟩ (yielded ops a.tmps) = true := by
  simp [Region.wanted, yielded_of ha hg, hb]
 rw [if_pos hw]
 have := hr a.eval (fun x u hx => ha.ev hx)
 simp only [Oper.wp, this, Oper.upon]
 exact hK _ _ (h _ (ha.put hd v))
theorem sgc {f : FuncId} {args : Array Value} {φ : Value → World → Prop} (hg : gv ops l j = some b) (hb : b = want) (hr : RunsC P l ⟨some d, op, ty, pos, af, some (j, want)⟩ w f args) (hc : Calls P f args w (Ret φ)) (hd : Nat.blt d n = true) (h : ∀ v w', φ v w' → WL P ops Q rest n ds ((d, v) :: l) w') :
  WL P ops Q (⟨some d, op, ty, pos, af, some (j, want)⟩ :: rest) n ds l w := by
 intro a ha
 refine wpList_step fun K hK => ?_
 have hw : Region.wanted ⟨some d, op, ty, pos, af, some (j, want)⟩ (yielded ops a.tmps) = true := by
  simp [Region.wanted, yielded_of ha hg, hb]
 rw [if_pos hw]
 have := hr a.eval (fun x u hx => ha.ev hx)
 simp only [Oper.wp, this, Oper.upon]
 refine hc.mono fun e w' he => ?_
 cases e with
 | returned v => exact hK _ _ (h v w' he _ (ha.put hd v))
 | panicked c => exact he.elim
 | outgrown => exact he.elim
theorem sn (hg : gv ops l j = some b) (hb : b ≠ want) (hd : Nat.blt d n = true) (h : WL P ops Q rest n ds ((d, undef) :: l) w) :
  WL P ops Q (⟨some d, op, ty, pos, af, some (j, want)⟩ :: rest) n ds l w := by
 intro a ha
 refine wpList_step fun K hK => ?_
 have hw : ¬ (Region.wanted ⟨some d, op, ty, pos, af, some (j, want)⟩ (yielded ops a.tmps) = true) := by
  simp [Region.wanted, yielded_of ha hg, hb]
 rw [if_neg hw]
 exact hK _ _ (h _ (ha.put hd undef))

/-! .. in regions that draw -/
theorem wanted_at {a : Act} {w1 : World} {o : Oper} (ho : o.guard = some (j, want)) (hg : gv ops l j = some b) (hN : Kn.on ops (kn l M) o a w1) : Region.wanted o (yielded ops a.tmps) = (b == want) := by
 obtain ⟨t, h1, h2⟩ := gv_spec hg
 have hlook : t ∈ Oper.looksAt ops o := by
  unfold Oper.looksAt
  rw [ho]
  exact List.mem_append_right _ (by simp [h1])
 have := hN t (fun u _ => u = .bool b) hlook (by simp [kn, h2])
 have hlt : t < a.tmps.size := by
  rcases Nat.lt_or_ge t a.tmps.size with h | h
  ·exact h
  ·simp [Array.getElem?_eq_none h] at this
   cases this
 simp [hlt] at this
 have hy : yielded ops a.tmps j = some b := by
  unfold yielded
  rw [h1]
  simp [hlt, this]
 simp [Region.wanted, ho, hy]
theorem J_g {V : Value → World → Prop} (hg : gv ops l j = some b) (hb : b = want) (h : J P ops (Mod []) (Mod [] w) n (kn l M) ⟨some d, op, ty, pos, af, none⟩ V) : J P ops (Mod []) (Mod [] w) n (kn l M) ⟨some d, op, ty, pos, af, some (j, want)⟩ V := by
 refine ⟨h.lasts, h.fits, fun a w1 hC hN => ?_⟩
 have hw := wanted_at (o := ⟨some d, op, ty, pos, af, some (j, want)⟩) rfl hg hN
 rw [hw, hb]
 simp only [beq_self_eq_true, if_true]
 have := h.run a w1 hC (fun t U ht hU => hN t U (by
  unfold Oper.looksAt at ht ⊢
  simp only [List.append_nil] at ht
  exact List.mem_append_left _ ht) hU)
 rw [if_pos (by simp [Region.wanted])] at this
 exact this
theorem J_n (hg : gv ops l j = some b) (hb : b ≠ want) (hd : Nat.blt d n = true) : J P ops (Mod []) (Mod [] w) n (kn l M) ⟨some d, op, ty, pos, af, some (j, want)⟩ (fun u _ => u = undef) := by
 refine ⟨fun _ _ _ _ h => h, fun d' hd' => by injection hd' with hd'; subst hd'; simpa [Nat.blt_eq] using hd, fun a w1 hC hN => ?_⟩
 have hw := wanted_at (o := ⟨some d, op, ty, pos, af, some (j, want)⟩) rfl hg hN
 have : (b == want) = false := by simp [hb]
 rw [hw, this]
 simp
theorem tvg {v : Value} (hg : gv ops l j = some b) (hb : b = want) (hr : ∀ w1, Mod [] w w1 → Runs P l ⟨some d, op, ty, pos, af, none⟩ w1 v w1) (hd : Nat.blt d n = true) (hs : notSel op = true) (h : TWL P ops w n Fin rest ((d, v) :: l) M) :
  TWL P ops w n Fin (⟨some d, op, ty, pos, af, some (j, want)⟩ :: rest) l M := by
 refine ⟨fun u _ => u = v, J_g hg hb (J_of (fun _ _ _ _ h => h) hd hs fun ρ w1 hC h1 h2 => ?_), ?_⟩
 ·rw [hr w1 hC ρ h1]; exact ⟨Mod.refl [] w1, rfl⟩
 ·rw [kn_put_v rfl]; exact h
theorem tcg {f : FuncId} {args : Array Value} {v : Value} (hg : gv ops l j = some b) (hb : b = want) (hr : ∀ w1, Mod [] w w1 → RunsC P l ⟨some d, op, ty, pos, af, none⟩ w1 f args) (hc : ∀ w1, Mod [] w w1 → Calls P f args w1 (Ret fun u w2 => u = v ∧ Mod [] w1 w2)) (hd : Nat.blt d n = true) (hs : notSel op = true) (h : TWL P ops w n Fin rest ((d, v) :: l) M) :
  TWL P ops w n Fin (⟨some d, op, ty, pos, af, some (j, want)⟩ :: rest) l M := by
 refine ⟨fun u _ => u = v, J_g hg hb (J_of (fun _ _ _ _ h => h) hd hs fun ρ w1 hC h1 h2 => ?_), ?_⟩
 ·rw [hr w1 hC ρ h1]
  exact ⟨rfl, (hc w1 hC).mono fun e w2 he => by cases e <;> first | exact ⟨he.2, he.1⟩ | exact he⟩
 ·rw [kn_put_v rfl]; exact h
theorem tn (hg : gv ops l j = some b) (hb : b ≠ want) (hd : Nat.blt d n = true) (h : TWL P ops w n Fin rest ((d, undef) :: l) M) :
  TWL P ops w n Fin (⟨some d, op, ty, pos, af, some (j, want)⟩ :: rest) l M :=
 ⟨fun u _ => u = undef, J_n hg hb hd, by rw [kn_put_v rfl]; exact h⟩

/-! ## A call's begin and end -/
def argL (i : Nat) : List Value → List (Nat × Value)
 | [] => []
 | v :: r => (i, v) :: argL (i + 1) r
theorem argL_get : ∀ (vs : List Value) (i t : Nat) (v : Value), lk t (argL i vs) = some v → i ≤ t ∧ vs[t - i]? = some v
 | [], _, _, _, h => by simp [argL, lk] at h
 | u :: r, i, t, v, h => by
  simp only [argL, lk] at h
  cases hb : Nat.beq i t with
  | true =>
   rw [hb] at h
   have := Nat.eq_of_beq_eq_true hb
   subst this
   exact ⟨Nat.le_refl _, by simpa using h⟩
  | false =>
   rw [hb] at h
   obtain ⟨h1, h2⟩ := argL_get r (i + 1) t v h
   refine ⟨by omega, ?_⟩
   rw [show t - i = (t - (i + 1)) + 1 by omega]
   simpa using h2
theorem enter {f : FuncId} {fn : Func} {c : Code} {vs : List Value} {R : Ending → World → Prop} (hf : P.funcs[f]? = some fn) (hb : fn.body = some c) (hn : fn.ntmps = n) (hle : Nat.ble vs.length n = true) (hs : Sub (argL 0 vs) l)
  (h : WC P c (bodyPost P fn R) n [] l w) : Calls P f vs.toArray w R := by
 have hle' : vs.length ≤ n := by simpa using hle
 have ha : Has n [] (argL 0 vs) { tmps := vs.toArray ++ Array.replicate (fn.ntmps - vs.toArray.size) undef, defers := [] } := by
  refine ⟨by rw [Array.size_append, Array.size_replicate, List.size_toArray, hn]; omega, rfl, fun t v hv => ?_⟩
  obtain ⟨_, h2⟩ := argL_get vs 0 t v hv
  rw [Nat.sub_zero] at h2
  have hlt := (List.getElem?_eq_some_iff.1 h2).1
  dsimp only
  rw [Array.getElem?_append_left (by simpa using hlt)]
  simpa using h2
 exact calls_of_wp hf hb (h _ (ha.sub hs))
variable {fn : Func} {φ : Value → World → Prop} {t t' t'' : Nat} {v v' v'' : Value}
theorem getD_lk (ha : Has n ds l a) (h : lk t l = some v) : a.tmps.getD t undef = v := by simp [ha.get t v h]
theorem ret0 (hr : fn.results = #[]) (h : φ (.tuple #[]) w) : WE (bodyPost P fn (Ret φ)) .ret n [] l w := fun a ha => ⟨ha.defers, _, results_none hr _ _ _, h⟩
theorem end0 (hr : fn.results = #[]) (h : φ (.tuple #[]) w) : WE (bodyPost P fn (Ret φ)) .normal n [] l w := fun a ha => ⟨ha.defers, _, results_none hr _ _ _, h⟩
theorem ret1 (hr : fn.results = #[.tmp t]) (hv : lk t l = some v) (h : φ v w) : WE (bodyPost P fn (Ret φ)) .ret n [] l w := fun a ha => ⟨ha.defers, _, results_tmp hr _ _ _, by rw [getD_lk ha hv]; exact h⟩
theorem ret2 (hr : fn.results = #[.tmp t, .tmp t']) (hv : lk t l = some v) (hv' : lk t' l = some v') (h : φ (.tuple #[v, v']) w) : WE (bodyPost P fn (Ret φ)) .ret n [] l w := fun a ha => ⟨ha.defers, _, results_tmp2 hr _ _ _, by rw [getD_lk ha hv, getD_lk ha hv']; exact h⟩
theorem ret3 (hr : fn.results = #[.tmp t, .tmp t', .tmp t'']) (hv : lk t l = some v) (hv' : lk t' l = some v') (hv'' : lk t'' l = some v'') (h : φ (.tuple #[v, v', v'']) w) : WE (bodyPost P fn (Ret φ)) .ret n [] l w := fun a ha =>
 ⟨ha.defers, .tuple #[v, v', v''], by simp [results, hr, ha.get _ _ hv, ha.get _ _ hv', ha.get _ _ hv''], h⟩
theorem retc {ad : Addr} {vs : List Value} {T c : Nat} (hr : fn.results = #[.cell t T]) (ht : agB P T c = true) (hv : lk t l = some (.pointer (some ad))) (hc : vs.length = c) (hcs : Cs w ad vs) (h : φ (.agg vs.toArray) w) : WE (bodyPost P fn (Ret φ)) .ret n [] l w := fun a ha =>
 ⟨ha.defers, .agg vs.toArray, by simp [results, hr, ha.get _ _ hv, asAddr, run_loadVar_ag ht hc hcs], h⟩
theorem retct {ad : Addr} {vs : List Value} {T c : Nat} (hr : fn.results = #[.cell t T, .tmp t']) (ht : agB P T c = true) (hv : lk t l = some (.pointer (some ad))) (hc : vs.length = c) (hcs : Cs w ad vs) (hv' : lk t' l = some v') (h : φ (.tuple #[.agg vs.toArray, v']) w) : WE (bodyPost P fn (Ret φ)) .ret n [] l w := fun a ha =>
 ⟨ha.defers, .tuple #[.agg vs.toArray, v'], by simp [results, hr, ha.get _ _ hv, ha.get _ _ hv', asAddr, run_loadVar_ag ht hc hcs], h⟩
theorem retctt {ad : Addr} {vs : List Value} {T c : Nat} (hr : fn.results = #[.cell t T, .tmp t', .tmp t'']) (ht : agB P T c = true) (hv : lk t l = some (.pointer (some ad))) (hc : vs.length = c) (hcs : Cs w ad vs) (hv' : lk t' l = some v') (hv'' : lk t'' l = some v'') (h : φ (.tuple #[.agg vs.toArray, v', v'']) w) : WE (bodyPost P fn (Ret φ)) .ret n [] l w := fun a ha =>
 ⟨ha.defers, .tuple #[.agg vs.toArray, v', v''], by simp [results, hr, ha.get _ _ hv, ha.get _ _ hv', ha.get _ _ hv'', asAddr, run_loadVar_ag ht hc hcs], h⟩
end
section
variable {P : Program} {ops : Array Oper} {Q : Exit → Act → World → Prop} {n : Nat} {ds : List Deferred} {l : List (Nat × Value)} {M : List (Nat × (Value → World → Prop))} {w w' : World} {Fin : Kn → Prop} {rest : List Oper} {d : Nat} {op : Op} {ty : TypeId} {pos : String} {af : Array Edge} {j : Nat} {b c want : Bool} {v : Value} {x : Operand}
theorem Sx (hg : gv ops l j = some b) (hb : b = c) (h : WL P ops Q rest n ds ((d, undef) :: l) w) (hc : (c != want) = true := by exact rfl) (hd : Nat.blt d n = true := by exact rfl) : WL P ops Q (⟨some d, op, ty, pos, af, some (j, want)⟩ :: rest) n ds l w :=
 sn hg (fun e => by subst hb; subst e; simp at hc) hd h
theorem Tx (hg : gv ops l j = some b) (hb : b = c) (h : TWL P ops w n Fin rest ((d, undef) :: l) M) (hc : (c != want) = true := by exact rfl) (hd : Nat.blt d n = true := by exact rfl) : TWL P ops w n Fin (⟨some d, op, ty, pos, af, some (j, want)⟩ :: rest) l M :=
 tn hg (fun e => by subst hb; subst e; simp at hc) hd h
theorem Sv (hr : Runs P l ⟨some d, op, ty, pos, af, none⟩ w v w') (h : WL P ops Q rest n ds ((d, v) :: l) w') (hd : Nat.blt d n = true := by exact rfl) : WL P ops Q (⟨some d, op, ty, pos, af, none⟩ :: rest) n ds l w := sv hr hd h
theorem Sg (hg : gv ops l j = some b) (hb : b = want) (hr : Runs P l ⟨some d, op, ty, pos, af, some (j, want)⟩ w v w') (h : WL P ops Q rest n ds ((d, v) :: l) w') (hd : Nat.blt d n = true := by exact rfl) : WL P ops Q (⟨some d, op, ty, pos, af, some (j, want)⟩ :: rest) n ds l w := sg hg hb hr hd h
theorem Zm (hx : evO l x = some v) (h : WL P ops Q rest n ds ((d, v) :: l) w) (hd : Nat.blt d n = true := by exact rfl) : WL P ops Q (⟨some d, .move x, ty, pos, af, none⟩ :: rest) n ds l w := sv (oM hx) hd h
theorem Za (hx : evO l x = some v) (h : WL P ops Q rest n ds ((d, v) :: l) w) (hd : Nat.blt d n = true := by exact rfl) : WL P ops Q (⟨some d, .assign x, ty, pos, af, none⟩ :: rest) n ds l w := sv (o_as hx) hd h
theorem dT {p : Prop} [h : Decidable p] (hp : p) : decide p = true := decide_eq_true hp
theorem dF {p : Prop} [h : Decidable p] (hp : ¬ p) : decide p = false := decide_eq_false hp
theorem bF {a : Bool} (h : ¬ a = true) : a = false := Bool.eq_false_iff.2 h
end
end Go.Proofs.YtknndpjacklkeaaGreatDoor.V

set_option linter.unusedVariables false
set_option linter.unusedSimpArgs false
namespace Go.Proofs.YtknndpjacklkeaaGreatDoor.V
open Go
section
variable {A A' M : List Nat} {w w' : World}
theorem Rep.to0 {d : D} {u : Value} (h : Rep A w d u) (k : Mod [] w w') : Rep A w' d u := Rep.to k (by simp) (fun x hx => .inl hx) d u h
theorem Rep.toM {d : D} {u : Value} (h : Rep A w d u) (k : Mod M w w') (hM : ∀ x ∈ M, x ∈ A) : Rep A w' d u := Rep.to k hM (fun x hx => .inl hx) d u h
theorem Rep.anti {d : D} {u : Value} (h : Rep A w d u) (hA : ∀ x ∈ A', x ∈ A) : Rep A' w d u := Rep.to (Mod.refl [] w) (by simp) (fun x hx => .inl (hA x hx)) d u h
theorem Rep.more {d : D} {u : Value} (h : Rep A w d u) (hA : ∀ x ∈ A', x ∈ A ∨ w.heap.size ≤ x) : Rep A' w d u := Rep.to (Mod.refl [] w) (by simp) hA d u h
theorem Reps.to0 {ds : List D} {us : List Value} (h : Reps A w ds us) (k : Mod [] w w') : Reps A w' ds us := Reps.to k (by simp) (fun x hx => .inl hx) ds us h
theorem Reps.toM {ds : List D} {us : List Value} (h : Reps A w ds us) (k : Mod M w w') (hM : ∀ x ∈ M, x ∈ A) : Reps A w' ds us := Reps.to k hM (fun x hx => .inl hx) ds us h
theorem Reps.anti {ds : List D} {us : List Value} (h : Reps A w ds us) (hA : ∀ x ∈ A', x ∈ A) : Reps A' w ds us := Reps.to (Mod.refl [] w) (by simp) (fun x hx => .inl (hA x hx)) ds us h
theorem Reps.more {ds : List D} {us : List Value} (h : Reps A w ds us) (hA : ∀ x ∈ A', x ∈ A ∨ w.heap.size ≤ x) : Reps A' w ds us := Reps.to (Mod.refl [] w) (by simp) hA ds us h

/-! ### rows of values that are their own reading -/
variable {α : Type}
def flat (sz : Nat) (cells : α → List Value) (xs : List α) : D := .sl sz (xs.map fun x => (cells x).map D.v)
theorem reps_v : ∀ {cs us : List Value}, Reps A w (cs.map D.v) us → us = cs
 | [], us, h => by simpa [Reps] using h
 | c :: cs, us, h => by
  simp only [List.map_cons, Reps] at h
  obtain ⟨u, us', rfl, h1, h2⟩ := h
  rw [h1.v_eq, reps_v h2]
theorem reps_v_mk : ∀ {cs : List Value}, (∀ c ∈ cs, c.oneCell' = true) → Reps A w (cs.map D.v) cs
 | [], _ => rfl
 | c :: cs, h => Reps.cons_ (Rep.v_ (h c (by simp))) (reps_v_mk fun x hx => h x (by simp [hx]))
theorem flat_len {sz : Nat} {cells : α → List Value} {xs : List α} {u : Value} (h : Rep A w (flat sz cells xs) u) : ∃ ad c, u = .slice ad xs.length c ∧ xs.length ≤ c ∧ c ≤ 9223372036854775807 := by
 obtain ⟨ad, c, h1, h2, h3⟩ := h.sl_
 simp only [List.length_map] at h1 h2
 exact ⟨ad, c, h1, h2, h3⟩
theorem flat_flatten (cells : α → List Value) (xs : List α) : (xs.map fun x => (cells x).map D.v).flatten = ((xs.map cells).flatten).map D.v := by
 induction xs with
 | nil => rfl
 | cons x xs ih => simp [ih]
theorem Own.flat {e sz n : Nat} {v : Value} {cells : α → List Value} {xs : List α} (h : Own w e sz v n ((xs.map cells).flatten)) (hl : ∀ x ∈ xs, (cells x).length = sz) (h1 : ∀ x ∈ xs, ∀ c ∈ cells x, c.oneCell' = true) (hn : xs.length = n) (hA : ∀ x ∈ ob v, x ∉ A) : Rep A w (flat sz cells xs) v := by
 refine h.rep ?_ ?_ (by simpa using hn) hA
 ·rw [flat_flatten]
  exact reps_v_mk fun c hc => by
   obtain ⟨cs, h2, h3⟩ := List.mem_flatten.1 hc
   obtain ⟨x, h4, rfl⟩ := List.mem_map.1 h2
   exact h1 x h4 c h3
 ·intro r hr
  obtain ⟨x, h4, rfl⟩ := List.mem_map.1 hr
  simp [hl x h4]
theorem Src.flat {P : Program} {tx e' sz : Nat} {cells : α → List Value} {xs : List α} {v : Value} (hk : P.underlying tx = some (.slice e')) (h : Rep A w (flat sz cells xs) v) : Src P sz tx v xs.length ((xs.map cells).flatten) w := by
 obtain ⟨vs, h1, h2, h3⟩ := Src.rep (P := P) hk h
 rw [flat_flatten] at h1
 have := reps_v h1
 subst this
 simpa using h3
end

/-! ## Structs held against each other -/
section
variable {P : Program} {n : Nat} {l : List (Nat × Value)} {w w' : World}
variable {d : Nat} {ty : TypeId} {pos : String} {af : Array Edge}
variable {dd : Option Nat} {gg : Option (Nat × Bool)} {x y z : Operand} {t t' : TypeId}
end
end Go.Proofs.YtknndpjacklkeaaGreatDoor.V

set_option linter.unusedVariables false
set_option linter.unusedSimpArgs false
namespace Go.Proofs.YtknndpjacklkeaaGreatDoor.V
open Go
/-! ## Regions that draw: some operations first, a head in whatever order, a tail one behind the other

'ps': operations that touch no memory (their value is the same in all worlds): they may be taken first. 'hs': the head. 'ts': the tail: each waits for the one ahead of it, the first for the head. -/
section
variable {P : Program} {ops : Array Oper} {md : Region.Mode} {R : World → World → Prop} {C : World → Prop} {n : Nat} {ds : List Deferred} {Q : Exit → Act → World → Prop} {w w' : World} {l : List (Nat × Value)} {a : Act}

def setL (listed : Array Bool) : List Nat → Array Bool
 | [] => listed
 | i :: r => setL (listed.setIfInBounds i true) r
def seqL (md : Region.Mode) (ops : Array Oper) : List Nat → Array Bool → Bool
 | [], listed => (Region.ready md ops listed).isEmpty
 | t :: ts, listed => decide (Region.ready md ops listed = [t]) && seqL md ops ts (listed.setIfInBounds t true)
def pureL (md : Region.Mode) (ops : Array Oper) : List Nat → Array Bool → Bool
 | [], _ => true
 | i :: ps, listed => (Region.ready md ops listed).contains i && Region.free md ops listed i && pureL md ops ps (listed.setIfInBounds i true)
def lateL (md : Region.Mode) (ops : Array Oper) (t0 : Nat) : List Nat → Bool
 | [] => true
 | i :: hs => (hs ++ [t0]).any (fun j => Region.waitsFor md ops j i) && lateL md ops t0 hs
def closedB (md : Region.Mode) (ops : Array Oper) (listed : Array Bool) : Bool :=
 (List.range ops.size).all fun j => !listed.getD j false || match ops[j]? with
  | some oj => oj.after.all fun e => !Region.binds md e || listed.getD e.on false
  | none => true

structure HInv (md : Region.Mode) (ops : Array Oper) (hs : List Nat) (ts : List Nat) (listed : Array Bool) : Prop where
 size : listed.size = ops.size
 closed : ∀ j oj, ops[j]? = some oj → listed.getD j false = true → ∀ e ∈ oj.after, Region.binds md e = true → listed.getD e.on false = true
 tail : ∀ t ∈ ts, listed.getD t true = false

theorem HInv.set {hs ts : List Nat} {i : Nat} {listed : Array Bool} (inv : HInv md ops hs ts listed) (hi : i ∈ Region.ready md ops listed) (hin : i ∉ ts) : HInv md ops hs ts (listed.setIfInBounds i true) := by
 obtain ⟨_, oi, hoi, hall⟩ := mem_ready.1 hi
 refine ⟨by simp [inv.size], fun j oj hj hl e he hb => ?_, fun t ht => by rw [getD_set_ne true (fun e => by subst e; exact hin ht)]; exact inv.tail t ht⟩
 by_cases hij : i = j
 ·subst hij
  have : oj = oi := Option.some.inj (hj.symm.trans hoi)
  subst this
  exact getD_set_true (hall e he hb)
 ·rw [getD_set_ne false hij] at hl
  exact getD_set_true (inv.closed j oj hj hl e he hb)

theorem head_waits {t0 : Nat} {listed : Array Bool} (hsz : listed.size = ops.size) (hcl : ∀ j oj, ops[j]? = some oj → listed.getD j false = true → ∀ e ∈ oj.after, Region.binds md e = true → listed.getD e.on false = true) :
  ∀ (hs : List Nat), lateL md ops t0 hs = true → ∀ i ∈ hs, listed.getD i true = false → t0 ∉ Region.ready md ops listed
 | [], _, i, hi, _ => by cases hi
 | h0 :: hs, hl, i, hi, hun => by
  simp only [lateL, Bool.and_eq_true] at hl
  rcases List.mem_cons.1 hi with rfl | hi'
  ·obtain ⟨j, hj, hw⟩ := List.any_eq_true.1 hl.1
   obtain ⟨oj, hoj, e, he, hb, hon⟩ := Region.waitsFor_spec hw
   rcases List.mem_append.1 hj with hj' | hj'
   ·cases hlj : listed.getD j false with
    | true =>
     have h2 := hcl j oj hoj hlj e he hb
     rw [hon, getD_both hun] at h2
     cases h2
    | false =>
     have hjs : j < listed.size := by rw [hsz]; exact (Array.getElem?_eq_some_iff.1 hoj).1
     exact head_waits hsz hcl hs hl.2 j hj' (getD_in hjs hlj)
   ·simp only [List.mem_singleton] at hj'
    subst hj'
    intro hr
    obtain ⟨_, ot, hot, hall⟩ := mem_ready.1 hr
    have : oj = ot := Option.some.inj (hoj.symm.trans hot)
    subst this
    have h2 := hall e he hb
    rw [hon, getD_both hun] at h2
    cases h2
  ·exact head_waits hsz hcl hs hl.2 i hi' hun

def AnyH (P : Program) (md : Region.Mode) (ops : Array Oper) (R : World → World → Prop) (C : World → Prop) (n : Nat) (ts : List Nat) (L : Array Bool → Kn → Prop) : Nat → Array Bool → Kn → Prop
 | 0, listed, N => L listed N
 | f + 1, listed, N => Region.ready md ops listed ≠ [] ∧
  ∀ i ∈ Region.ready md ops listed, i ∉ ts ∧ ∀ o, ops[i]? = some o → ∃ V, J P ops R C n N o V ∧ AnyH P md ops R C n ts L f (listed.setIfInBounds i true) (N.put o V)

theorem wpAny_of_H {L : Array Bool → Kn → Prop} {w0 : World} {ds : List Deferred} {ts : List Nat} {g : Nat} (hL : Later R C)
  (hFin : ∀ listed N a w, N.lasts R → a.defers = ds → C w → R w0 w → N.all n a w → L listed N → wpAny P md ops Q g listed a w) : ∀ (f : Nat) (listed : Array Bool) (N : Kn) (a : Act) (w : World), N.lasts R → a.defers = ds → C w → R w0 w → N.all n a w →
  AnyH P md ops R C n ts L f listed N → wpAny P md ops Q (f + g) listed a w
 | 0, listed, N, a, w, h0, h1, h2, h3, h4, h => by rw [Nat.zero_add]; exact hFin listed N a w h0 h1 h2 h3 h4 h
 | f + 1, listed, N, a, w, h0, h1, h2, h3, h4, h => by
  rw [show f + 1 + g = (f + g) + 1 by omega]
  refine ⟨fun hr => absurd hr h.1, fun i hi => ?_⟩
  obtain ⟨_, o, ho, _⟩ := mem_ready.1 hi
  obtain ⟨V, hJ, hrest⟩ := (h.2 i hi).2 o ho
  exact wpOp_of_J hL h0 ho hJ h2 h4 fun a' w' hd hC hR hN => wpAny_of_H hL hFin f _ _ a' w' (h0.put hJ.lasts) (hd.trans h1) hC (hL.trans _ _ _ h3 hR) hN hrest

theorem AnyH_first {i : Nat} {oi : Oper} {V : Value → World → Prop} {L : Array Bool → Kn → Prop} {hs0 ts : List Nat} (hi : ops[i]? = some oi) (hin : i ∉ ts)
  (hw : ∀ listed, HInv md ops hs0 ts listed → listed.getD i true = false → ∀ t ∈ ts, t ∉ Region.ready md ops listed)
  (hdone : ∀ listed N, L listed N → ∀ j ∈ Region.ready md ops listed, j ∈ ts) :
  ∀ (f : Nat) (listed : Array Bool) (N : Kn), HInv md ops hs0 ts listed →
   (∀ j oj, ops[j]? = some oj → j ≠ i → listed.getD j true = false → (∀ e ∈ oj.after, Region.binds md e = true → e.on ≠ i) → oi.apart ops oj = true) →
   i ∈ Region.ready md ops listed → J P ops R C n N oi V →
   AnyH P md ops R C n ts L f (listed.setIfInBounds i true) (N.put oi V) → AnyH P md ops R C n ts L (f + 1) listed N := by
 intro f
 induction f with
 | zero =>
  intro listed N inv _ hr hJ H
  have hun := (mem_ready.1 hr).1
  refine ⟨fun h => (by rw [h] at hr; cases hr), fun j hj => ?_⟩
  have hjn : j ∉ ts := fun ht => hw listed inv hun j ht hj
  refine ⟨hjn, fun o ho => ?_⟩
  by_cases hji : j = i
  ·subst hji
   have : o = oi := Option.some.inj (ho.symm.trans hi)
   subst this
   exact ⟨V, hJ, H⟩
  ·exact absurd (hdone _ _ H j (ready_mono hj hji)) hjn
 | succ f ih =>
  intro listed N inv hfree hr hJ H
  have hun := (mem_ready.1 hr).1
  refine ⟨fun h => (by rw [h] at hr; cases hr), fun j hj => ?_⟩
  have hjn : j ∉ ts := fun ht => hw listed inv hun j ht hj
  refine ⟨hjn, fun o ho => ?_⟩
  by_cases hji : j = i
  ·subst hji
   have : o = oi := Option.some.inj (ho.symm.trans hi)
   subst this
   exact ⟨V, hJ, H⟩
  ·obtain ⟨Vj, hJj, hrest⟩ := (H.2 j (ready_mono hj hji)).2 o ho
   obtain ⟨hjun, oj, hoj, hall⟩ := mem_ready.1 hj
   have : o = oj := Option.some.inj (ho.symm.trans hoj)
   subst this
   have hnot : ∀ e ∈ o.after, Region.binds md e = true → e.on ≠ i := fun e he hb heq => by
    have h1 := hall e he hb
    rw [heq, getD_both hun] at h1
    cases h1
   obtain ⟨a1, a2, a3⟩ := Oper.apart_spec (hfree j o hoj hji hjun hnot)
   refine ⟨Vj, hJj.past a1, ih (listed.setIfInBounds j true) (N.put o Vj) (inv.set hj hjn) (fun k ok hk hki hun hno => ?_) (ready_mono hr (Ne.symm hji)) (hJ.ahead a3) ?_⟩
   ·refine hfree k ok hk hki ?_ hno
    by_cases hjk : j = k
    ·subst hjk; exact hjun
    ·rw [getD_set_ne true hjk] at hun; exact hun
   ·rw [Array.setIfInBounds_comm _ _ hji, ← Kn.put_comm N V Vj a2]
    exact hrest

def pick (ops : Array Oper) (is : List Nat) : List Oper := is.filterMap (ops[·]?)
theorem wpAny_of_seqL : ∀ (ts : List Nat) (listed : Array Bool) (a : Act) (w : World), seqL md ops ts listed = true → wpList P ops Q (pick ops ts) a w → wpAny P md ops Q ts.length listed a w
 | [], listed, a, w, hB, h => ⟨by simpa [seqL] using hB, h⟩
 | t :: ts, listed, a, w, hB, h => by
  simp only [seqL, Bool.and_eq_true, decide_eq_true_eq] at hB
  have hr : t ∈ Region.ready md ops listed := by rw [hB.1]; simp
  obtain ⟨_, o, ho, _⟩ := mem_ready.1 hr
  have hp : pick ops (t :: ts) = o :: pick ops ts := by simp [pick, List.filterMap_cons, ho]
  rw [hp] at h
  refine ⟨fun h1 => (by rw [hB.1] at h1; cases h1), fun i hi => ?_⟩
  rw [hB.1] at hi
  have hik : i = t := by simpa using hi
  subst hik
  have hw : wpOp P ops Q i (wpList P ops Q (pick ops ts)) a w := by unfold wpOp; simp only [ho]; exact h
  exact wpOp_mono (fun a' w' h' => wpAny_of_seqL ts _ a' w' hB.2 h') hw

def PW (P : Program) (n : Nat) (K : List (Nat × Value) → Prop) : List Oper → List (Nat × Value) → Prop
 | [], l => K l
 | o :: rest, l => ∃ d v, o.dst = some d ∧ o.guard = none ∧ notSel o.op = true ∧ Nat.blt d n = true ∧ (∀ w, Runs P l o w v w) ∧ PW P n K rest ((d, v) :: l)
theorem pw_nil {K : List (Nat × Value) → Prop} (h : K l) : PW P n K [] l := h
theorem pw {K : List (Nat × Value) → Prop} {rest : List Oper} {d : Nat} {op : Op} {ty : TypeId} {pos : String} {af : Array Edge} {v : Value} (hr : ∀ w, Runs P l ⟨some d, op, ty, pos, af, none⟩ w v w) (hd : Nat.blt d n = true) (hs : notSel op = true) (h : PW P n K rest ((d, v) :: l)) :
  PW P n K (⟨some d, op, ty, pos, af, none⟩ :: rest) l := ⟨d, v, rfl, rfl, hs, hd, hr, h⟩

theorem wpAny_pure (hQ : ∀ c a w, ¬ Q (.panic c) a w) (hsel : ∀ (j : Nat) (o : Oper) cs b, ops[j]? = some o → o.op ≠ .select cs b) {K : List (Nat × Value) → Prop} {g : Nat} : ∀ (ps : List Nat) (listed : Array Bool) (l : List (Nat × Value)) (a : Act), Has n ds l a → pureL md ops ps listed = true → PW P n K (pick ops ps) l →
  (∀ l a, Has n ds l a → K l → wpAny P md ops Q g (setL listed ps) a w) → wpAny P md ops Q (ps.length + g) listed a w
 | [], listed, l, a, ha, _, h, hK => by
  have : ([] : List Nat).length + g = g := by simp
  rw [this]
  exact hK l a ha h
 | i :: ps, listed, l, a, ha, hB, h, hK => by
  simp only [pureL, Bool.and_eq_true] at hB
  obtain ⟨⟨hr, hf⟩, hB'⟩ := hB
  have hr' : i ∈ Region.ready md ops listed := by simpa using hr
  obtain ⟨_, o, ho, _⟩ := mem_ready.1 hr'
  have hp : pick ops (i :: ps) = o :: pick ops ps := by simp [pick, List.filterMap_cons, ho]
  rw [hp] at h
  obtain ⟨d, v, h1, h2, h3, h4, h5, h6⟩ := h
  have hlen : (i :: ps).length + g = (ps.length + g) + 1 := by simp; omega
  rw [hlen]
  have hy : Yields P ops o v a := .inl ⟨by simp [Region.wanted, h2], fun w => h5 w a.eval (fun x u hx => ha.ev hx)⟩
  have ha' : Has n ds ((d, v) :: l) (a.put o.dst v) := by rw [h1]; exact ha.put h4 v
  exact wpAny_first ho hsel (fun c a w hq => absurd hq (hQ c _ w)) (ps.length + g) listed a w (Region.free_spec ho hf) hr' hy
   (wpAny_pure hQ hsel ps (listed.setIfInBounds i true) ((d, v) :: l) (a.put o.dst v) ha' hB' h6 hK)

theorem setL_size : ∀ (ps : List Nat) (listed : Array Bool), (setL listed ps).size = listed.size
 | [], _ => rfl
 | i :: ps, listed => by simp [setL, setL_size ps]
end
end Go.Proofs.YtknndpjacklkeaaGreatDoor.V

set_option linter.unusedVariables false
set_option linter.unusedSimpArgs false
namespace Go.Proofs.YtknndpjacklkeaaGreatDoor.V
open Go
section
variable {P : Program} {ops : Array Oper} {Q : Exit → Act → World → Prop} {n : Nat} {ds : List Deferred} {l : List (Nat × Value)} {w w' : World} {a : Act}
variable {rest : List Oper} {d : Nat} {op : Op} {ty : TypeId} {pos : String} {af : Array Edge}
variable {dd : Option Nat} {gg : Option (Nat × Bool)} {x y z : Operand} {t t' : TypeId} {k k' : IntKind} {m m' r : Int}
/-! ## Operations whose value is told in other words -/
theorem Own.put {e sz c g : Nat} {v : Value} {vs : List Value} (h : Own w e sz v c vs) (k : Mod [g] w w') (D : ∀ x ∈ ob v, x ≠ g) : Own w' e sz v c vs := h.mod k fun x hx hg => D x hx (by simpa using hg)
theorem New.own_ne {e sz c g T : Nat} {cs : List Value} {v : Value} {vs : List Value} (N : New w w' g T cs) (h : Own w e sz v c vs) : ∀ x ∈ ob v, x ≠ g := fun x hx => Nat.ne_of_lt (N.at_ ▸ h.lt x hx)
theorem App.ne {e sz c g T : Nat} {cs : List Value} {v v' : Value} {vs : List Value} (h : App w w' e sz v v' c vs) (D : ∀ x ∈ ob v, x ≠ g) (B : Blk w g T cs) : ∀ x ∈ ob v', x ≠ g := fun x hx => by
 rcases h.ob_ x hx with h1 | h1
 ·exact D x h1
 ·have := B.lt; omega
theorem App.ge {e sz c : Nat} {w0 : World} {M : List Nat} {v v' : Value} {vs : List Value} (h : App w w' e sz v v' c vs) (L : ∀ x ∈ ob v, w0.heap.size ≤ x) (E : Mod M w0 w) : ∀ x ∈ ob v', w0.heap.size ≤ x := fun x hx => by
 rcases h.ob_ x hx with h1 | h1
 ·exact L x h1
 ·exact Nat.le_trans E.size h1
theorem Cs.mod0 {ad : Addr} {vs : List Value} (h : Cs w ad vs) (k : Mod [] w w') : Cs w' ad vs := h.mod k (by simp)
theorem oT {b : Bool} {u : Value} (hb : b = true) (hx : evO l x = some (.bool b)) (hy : evO l y = some u) : Runs P l ⟨dd, .pick x y z, ty, pos, af, gg⟩ w u w := fun ρ h => by
 subst hb
 simp [execOp, h _ _ hx, h _ _ hy, asBool]
theorem oF {b : Bool} {v : Value} (hb : b = false) (hx : evO l x = some (.bool b)) (hz : evO l z = some v) : Runs P l ⟨dd, .pick x y z, ty, pos, af, gg⟩ w v w := fun ρ h => by
 subst hb
 simp [execOp, h _ _ hx, h _ _ hz, asBool]
theorem Runs.to {o : Oper} {v v' : Value} (h : Runs P l o w v w') (e : v = v') : Runs P l o w v' w' := e ▸ h
theorem o_addE (hx : evO l x = some (.int k m)) (hy : evO l y = some (.int k m')) (hr : k.wrap (m + m') = r) : Runs P l ⟨dd, .binOp .add t x y t', ty, pos, af, gg⟩ w (.int k r) w := hr ▸ o_add hx hy
theorem o_subE (hx : evO l x = some (.int k m)) (hy : evO l y = some (.int k m')) (hr : k.wrap (m - m') = r) : Runs P l ⟨dd, .binOp .sub t x y t', ty, pos, af, gg⟩ w (.int k r) w := hr ▸ o_sub hx hy
theorem o_mulE (hx : evO l x = some (.int k m)) (hy : evO l y = some (.int k m')) (hr : k.wrap (m * m') = r) : Runs P l ⟨dd, .binOp .mul t x y t', ty, pos, af, gg⟩ w (.int k r) w := hr ▸ o_mul hx hy
theorem o_convE {d0 : TypeDesc} (hs : P.underlying t = some d0) (ht : P.underlying t' = some (.int k')) (hx : evO l x = some (.int k m)) (hr : k'.wrap m = r) : Runs P l ⟨dd, .convert t t' x, ty, pos, af, gg⟩ w (.int k' r) w := hr ▸ o_conv hs ht hx
theorem wrapu8_in (z : Int) (h : 0 ≤ z ∧ z ≤ 255) : IntKind.u8.wrap z = z := by
 simp only [IntKind.wrap, IntKind.bits, IntKind.signed, Bool.false_and]
 exact Int.emod_eq_of_lt h.1 (by omega)
end
end Go.Proofs.YtknndpjacklkeaaGreatDoor.V

set_option linter.unusedVariables false
set_option linter.unusedSimpArgs false
namespace Go.Proofs.YtknndpjacklkeaaGreatDoor.V
open Go
section
variable {P : Program} {ops : Array Oper} {Q : Exit → Act → World → Prop} {n : Nat} {ds : List Deferred} {l : List (Nat × Value)} {w w' : World} {a : Act}
variable {rest : List Oper} {d : Nat} {op : Op} {ty : TypeId} {pos : String} {af : Array Edge}
variable {dd : Option Nat} {gg : Option (Nat × Bool)} {x y z : Operand} {t t' : TypeId} {k k' : IntKind} {m m' : Int} {b b' : Bool}

theorem Own.take {e sz n c m : Nat} {ad : Option Addr} {vs : List Value} (O : Own w e sz (.slice ad n c) n vs) (hm : m ≤ n) : Own w e sz (.slice ad m c) m (vs.take (m * sz)) := by
 have hle : m * sz ≤ n * sz := Nat.mul_le_mul_right _ hm
 have hl := O.1
 rcases O.2 with ⟨h0, h0'⟩ | ⟨g, o, cc, cs, hv, hB, hc1, hc2, hc3, hc4⟩
 ·injection h0 with e1 e2 e3
  subst e1; subst e3; subst e2
  have : m = 0 := by omega
  subst this
  simpa using Own.nil w e sz
 ·injection hv with e1 e2 e3
  subst e1; subst e3
  refine ⟨by rw [List.length_take]; omega, .inr ⟨g, o, c, cs, rfl, hB, by omega, hc2, hc3, ?_⟩⟩
  rw [← hc4, List.take_take]
  congr 1
  omega
/-! ### slices.overlaps -/
theorem s_stown {e sz N c i : Nat} {ad : Addr} {vs us : List Value} {T : TypeId} (ht : agB P T sz = true) (O : Own w e sz (.slice (some ad) N c) N vs) (hx : evO l x = some (.pointer (some (ad.add (i * sz))))) (hy : evO l y = some (.agg us.toArray)) (hl : us.length = sz) (h1c : ∀ u ∈ us, u.oneCell' = true) (hi : i < N)
  (h : ∀ w', Own w' e sz (.slice (some ad) N c) N (vs.take (i * sz) ++ us ++ vs.drop ((i + 1) * sz)) → Mod [ad.block] w w' → w'.heap.size = w.heap.size → WL P ops Q rest n ds l w') :
  WL P ops Q (⟨none, .store T x y, ty, pos, af, none⟩ :: rest) n ds l w := by
 rcases O.2 with ⟨h0, _⟩ | ⟨g, o, cap, cs, hv, hB, hc1, hc2, hc3, hc4⟩
 ·cases h0
 injection hv with e1 e2 e3
 injection e1 with e1
 subst e1; subst e3
 have hle : (i + 1) * sz ≤ N * sz := Nat.mul_le_mul_right _ (by omega)
 have hle2 : N * sz ≤ c * sz := Nat.mul_le_mul_right _ hc1
 have hvl := O.1
 have hadd : (i + 1) * sz = i * sz + sz := by rw [Nat.add_mul]; omega
 rw [Addr.add_lit] at hx
 refine s_sta (vs := us) ht hB hx hy hl h1c (by omega) fun w' hp => ?_
 refine h w' ⟨?_, .inr ⟨g, o, c, _, rfl, hp.blk, hc1, hc2, by simp [splice]; omega, ?_⟩⟩ hp.mod hp.size
 ·simp only [List.length_append, List.length_take, List.length_drop, hl, hvl]
  omega
 ·subst hc4
  apply List.ext_getElem?
  intro j
  simp only [splice, hl]
  simp only [List.getElem?_take, List.getElem?_drop, List.getElem?_append, List.length_append, List.length_take, List.length_drop, hl]
  repeat' split
  all_goals first
   | omega
   | rfl
   | (congr 1; omega)
   | skip
theorem flat_take_ {α : Type} {sz : Nat} {cells : α → List Value} {xs : List α} (hl : ∀ x, (cells x).length = sz) (i : Nat) : ((xs.map cells).flatten).take (i * sz) = ((xs.take i).map cells).flatten := by
 induction xs generalizing i with
 | nil => simp
 | cons x xs ih =>
  cases i with
  | zero => simp
  | succ i =>
   simp only [List.map_cons, List.flatten_cons, List.take_succ_cons]
   rw [List.take_append, hl, Nat.add_mul, Nat.one_mul, List.take_of_length_le (by rw [hl]; omega), Nat.add_sub_cancel, ih]
theorem flat_drop_ {α : Type} {sz : Nat} {cells : α → List Value} {xs : List α} (hl : ∀ x, (cells x).length = sz) (i : Nat) : ((xs.map cells).flatten).drop (i * sz) = ((xs.drop i).map cells).flatten := by
 induction xs generalizing i with
 | nil => simp
 | cons x xs ih =>
  cases i with
  | zero => simp
  | succ i =>
   simp only [List.map_cons, List.flatten_cons, List.drop_succ_cons]
   rw [List.drop_append, hl, Nat.add_mul, Nat.one_mul, List.drop_eq_nil_of_le (by rw [hl]; omega), Nat.add_sub_cancel, ih, List.nil_append]
theorem adS_zero (ad : Option Addr) (c sz : Nat) : adS ad c 0 sz = ad := by
 unfold adS
 split
 ·rfl
 ·cases ad with
  | none => rfl
  | some a => simp [Addr.add_zero']
end
end Go.Proofs.YtknndpjacklkeaaGreatDoor.V

set_option linter.unusedVariables false
set_option linter.unusedSimpArgs false
namespace Go.Proofs.YtknndpjacklkeaaGreatDoor.V
open Go
section
variable {P : Program} {ops : Array Oper} {Q : Exit → Act → World → Prop} {n : Nat} {ds : List Deferred} {l : List (Nat × Value)} {M : List (Nat × (Value → World → Prop))} {w w' : World} {a : Act}
variable {rest : List Oper} {d : Nat} {op : Op} {ty : TypeId} {pos : String} {af : Array Edge} {Fin : Kn → Prop} {j : Nat} {want b : Bool}
variable {dd : Option Nat} {gg : Option (Nat × Bool)} {x y z : Operand} {t t' : TypeId}
theorem o_bsne {b b' : Bool} (he : P.underlying t = some .bool) (hx : evO l x = some (.bool b)) (hy : evO l y = some (.bool b')) : Runs P l ⟨dd, .binOp .neq t x y t', ty, pos, af, gg⟩ w (.bool (b != b')) w := fun ρ h => by
 simp [execOp, eqGuard, h _ _ hx, h _ _ hy, binOp, run_equal_bool w t b b' he]
 cases b <;> cases b' <;> rfl
theorem Calls.imp {f : FuncId} {args : Array Value} {φ ψ : Value → World → Prop} (h : Calls P f args w (Ret φ)) (hi : ∀ u w', φ u w' → ψ u w') : Calls P f args w (Ret ψ) :=
 h.mono fun e w2 he => by cases e <;> first | exact hi _ _ he | exact he
theorem s_sidx {u : List UInt8} {k : IntKind} {m : Int} (ht : P.underlying t = some .string) (hx : evO l x = some (S u)) (hy : evO l y = some (.int k m)) (h0 : 0 ≤ m) (hb : m.toNat < u.length) (hd : Nat.blt d n = true)
  (h : ∀ c : UInt8, u[m.toNat]? = some c → WL P ops Q rest n ds ((d, .int .u8 c.toNat) :: l) w) : WL P ops Q (⟨some d, .index t x y, ty, pos, af, none⟩ :: rest) n ds l w :=
 sv (o_sidx ht hx hy h0 (List.getElem?_eq_getElem hb)) hd (h _ (List.getElem?_eq_getElem hb))
theorem Cs.first {ad : Addr} {v : Value} {vs : List Value} (h : Cs w ad (v :: vs)) : w.cell? ad = some v := by
 have := h 0 v rfl
 rwa [Addr.add_zero'] at this
end
end Go.Proofs.YtknndpjacklkeaaGreatDoor.V

set_option linter.unusedVariables false
set_option linter.unusedSimpArgs false
namespace Go.Proofs.YtknndpjacklkeaaGreatDoor.V
open Go
section
variable {H : Type} {enc : TypeId × Value → H} {P : Program} {w : World} {n : Nat} {t : TypeId}
def OpnN (enc : TypeId × Value → H) (P : Program) (w : World) (n : Nat) (t : TypeId) {α : Type} (f : α → List D) (Q : α → Prop) : Prop :=
 ∀ cs x, DataW.trod enc P w 0 (fun _ => true) true n t cs = some x → (∀ m ∈ x.1.weights P t, m ≤ reachBytes) → ∃ a, Reps [] w (f a) cs ∧ Q a
theorem OpnN.zero {α : Type} {f : α → List D} {Q : α → Prop} : OpnN enc P w 0 t f Q := fun cs x h => by simp [DataW.trod] at h
theorem OpnN.to {α β : Type} {f : α → List D} {Q : α → Prop} {f' : β → List D} {Q' : β → Prop} (h : OpnN enc P w n t f Q) (g : α → β) (hf : ∀ a, f' (g a) = f a) (hQ : ∀ a, Q a → Q' (g a)) : OpnN enc P w n t f' Q' := fun cs x hx hm => by
 obtain ⟨a, h1, h2⟩ := h cs x hx hm
 exact ⟨g a, by rw [hf]; exact h1, hQ a h2⟩
theorem opn_str (ht : P.underlying t = some .string) : OpnN enc P w n t (fun s => [.v (S s)]) (fun s : List UInt8 => s.length ≤ 140737488351232) := fun cs x hx hm => by
 obtain ⟨s, rfl, rfl, _⟩ := DataW.trod_string ht hx
 refine ⟨s.data.toList, Reps.cons_ (Rep.v_ rfl) Reps.nil_, ?_⟩
 have := hm s.data.toList.length (by simp [DataW.weights])
 simpa [reachBytes] using this
end
end Go.Proofs.YtknndpjacklkeaaGreatDoor.V

set_option linter.unusedVariables false
set_option linter.unusedSimpArgs false
namespace Go.Proofs.YtknndpjacklkeaaGreatDoor.V
open Go Go.ChangeShapes Go.WideShapes Go.RowKit
section
variable {H : Type} {enc : TypeId × Value → H} {P : Program} {W W' : World}
theorem trodAll_later (hl : laidOutB P = true) (k : Mod [] W W') : ∀ {ts : List TypeId} {vs : List Value} {ds : List (DataW H)} {ps : List MemPlace}, (ts.all fun t => P.readableRec t && decide (t < P.types.size)) = true →
  DataW.TrodAll enc P W 0 (fun _ => true) true ts vs ds ps → (∀ p ∈ ps, p.block < W.heap.size) → DataW.TrodAll enc P W' 0 (fun b => decide (b < W.heap.size)) true ts vs ds ps
 | [], vs, ds, ps, _, h, _ => by
  obtain ⟨rfl, rfl, rfl⟩ := trodAll_nil h
  exact trodAll_mk0
 | t :: ts, vs, ds, ps, hr, h, hp => by
  obtain ⟨v, vs1, d, ds1, a, b, rfl, rfl, rfl, h1, h2⟩ := trodAll_cons h
  simp only [List.all_cons, Bool.and_eq_true, decide_eq_true_eq] at hr
  have ha : ∀ p ∈ a, p.block < W.heap.size := fun p hp' => hp p (List.mem_append_left _ hp')
  exact trodAll_cons_mk (Below.trod hl hr.1.1 hr.1.2 h1 k.below ha) (trodAll_later hl k hr.2 h2 fun p hp' => hp p (List.mem_append_right _ hp'))
theorem Mod.keptBut (k : Mod [] W W') (S : MemPlace → Prop) : W.keptBut W' S := by
 refine ⟨k.os, k.output, fun i hi => ?_⟩
 rw [k.block i hi (by simp)]
 cases h : W.heap[i]? with
 | none => rfl
 | some o => cases o <;> simp
theorem post_true (hl : laidOutB P = true) {f : Func} {s : ChangeSpec} {t : TypeId} {args : Array Value} {ds : List (DataW H)} {before : List MemPlace} (hs : s.vars = []) (hr : f.resultTypes = #[t]) (ht : P.underlying t = some .bool)
  (hrow : (f.params.toList.all fun t => P.readableRec t && decide (t < P.types.size)) = true) (hspec : s.fn H ds = { results := [.lit (.bool true)], args := ds })
  (hW : DataW.Whole enc P f.params.toList s.vars false W args.toList ds [] before) (k : Mod [] W W') : s.post enc P f false true false false W args (.bool true) W' := by
 have hlt := hW.lt
 have hW0 := hW
 obtain ⟨p, q, hA, hV, rfl, hfz, hnd⟩ := hW
 rw [hs] at hV
 obtain ⟨_, rfl⟩ := trodVars_none hV
 have hlen : f.resultTypes.size = 1 := by rw [hr]; rfl
 refine ⟨ds, [], _, [], p, [], hW0, ?_, ?_, ?_, k.keptBut _, fun h => by cases h⟩
 ·rw [List.append_nil, hspec, hlen, hr]
  exact trodAll_cons_mk (shut_bool ht true) trodAll_mk0
 ·rw [List.append_nil, hspec]
  exact trodAll_later hl k hrow hA fun p hp => by simpa using hlt p (List.mem_append_left _ hp)
 ·rw [List.append_nil, hspec, hs]
  exact rfl
end
end Go.Proofs.YtknndpjacklkeaaGreatDoor.V

set_option linter.unusedVariables false
set_option linter.unusedSimpArgs false
namespace Go.Proofs.YtknndpjacklkeaaGreatDoor.V
open Go
abbrev Str := List UInt8
structure Slot where
 ty : Str
 key : Str
 id : Str
 deriving DecidableEq
structure Pair where
 ty : Str
 key : Str
 deriving DecidableEq
abbrev Slot.cells (s : Slot) : List Value := [S s.ty, S s.key, S s.id]
abbrev Pair.cells (p : Pair) : List Value := [S p.ty, S p.key]
abbrev Slot.agg (s : Slot) : Value := .agg s.cells.toArray
abbrev Pair.agg (p : Pair) : Value := .agg p.cells.toArray
abbrev Slot.pair (s : Slot) : Pair := ⟨s.ty, s.key⟩
abbrev slotsD (xs : List Slot) : D := flat 3 Slot.cells xs
abbrev pairsD (xs : List Pair) : D := flat 2 Pair.cells xs
abbrev strD (xs : List Str) : D := flat 1 (fun s => [S s]) xs
section
variable {w : World}
theorem Cs.c0 {a : Addr} {v : Value} {vs : List Value} (h : Cs w a (v :: vs)) : w.cell? a = some v := by
 have := h 0 v rfl
 rwa [Addr.add_zero'] at this
end
/-! ### comparing -/
def scmp (a b : Str) : Int := if bl a b then -1 else if a = b then 0 else 1
theorem bl_irrefl : ∀ a : Str, bl a a = false
 | [] => rfl
 | c :: a => by simp [bl, Op.bytesLess, bl_irrefl a]
theorem bl_trans : ∀ {a b c : Str}, bl a b = true → bl b c = true → bl a c = true
 | [], [], _, h, _ => by simp [bl, Op.bytesLess] at h
 | _ :: _, [], _, h, _ => by simp [bl, Op.bytesLess] at h
 | _, _ :: _, [], _, h => by simp [bl, Op.bytesLess] at h
 | [], _ :: _, _ :: _, _, _ => by simp [bl, Op.bytesLess]
 | x :: a, y :: b, z :: c, h, h' => by
  simp only [bl, Op.bytesLess, Bool.or_eq_true, decide_eq_true_eq, Bool.and_eq_true, beq_iff_eq, UInt8.lt_iff_toNat_lt, ← UInt8.toNat_inj] at h h' ⊢
  rcases h with h | ⟨h1, h2⟩
  ·rcases h' with h' | ⟨h3, h4⟩
   ·exact .inl (by omega)
   ·exact .inl (by omega)
  ·rcases h' with h' | ⟨h3, h4⟩
   ·exact .inl (by omega)
   ·exact .inr ⟨by omega, bl_trans h2 h4⟩
theorem bl_asymm {a b : Str} (h : bl a b = true) : bl b a = false := by
 cases h' : bl b a with
 | false => rfl
 | true => have := bl_trans h h'; rw [bl_irrefl] at this; cases this
theorem bl_total : ∀ (a b : Str), bl a b = true ∨ a = b ∨ bl b a = true
 | [], [] => .inr (.inl rfl)
 | [], _ :: _ => .inl (by simp [bl, Op.bytesLess])
 | _ :: _, [] => .inr (.inr (by simp [bl, Op.bytesLess]))
 | x :: a, y :: b => by
  simp only [bl, Op.bytesLess, Bool.or_eq_true, decide_eq_true_eq, Bool.and_eq_true, beq_iff_eq, UInt8.lt_iff_toNat_lt, ← UInt8.toNat_inj, List.cons.injEq]
  rcases Nat.lt_trichotomy x.toNat y.toNat with h | h | h
  ·exact .inl (.inl h)
  ·rcases bl_total a b with h1 | h1 | h1
   ·exact .inl (.inr ⟨h, h1⟩)
   ·exact .inr (.inl ⟨h, h1⟩)
   ·exact .inr (.inr (.inr ⟨h.symm, h1⟩))
  ·exact .inr (.inr (.inl h))
theorem scmp_lt {a b : Str} : scmp a b < 0 ↔ bl a b = true := by
 unfold scmp
 by_cases h : bl a b = true
 ·simp [h]
 ·by_cases h' : a = b <;> simp [h, h', bl_irrefl]
/-! ### pairs -/
def plt (p q : Pair) : Bool := if p.ty = q.ty then bl p.key q.key else bl p.ty q.ty
def asc : List Slot → Bool
 | a :: b :: r => plt a.pair b.pair && asc (b :: r)
 | _ => true
theorem filter_snoc {α : Type} (p : α → Bool) {xs : List α} {k : Nat} {x : α} (h : xs[k]? = some x) : (xs.take (k + 1)).filter p = (xs.take k).filter p ++ if p x then [x] else [] := by
 have hlt := (List.getElem?_eq_some_iff.1 h).1
 rw [List.take_succ_eq_append_getElem hlt, (List.getElem?_eq_some_iff.1 h).2, List.filter_append]
 congr 1
 by_cases hp : p x <;> simp [hp]
end Go.Proofs.YtknndpjacklkeaaGreatDoor.V

set_option linter.unusedVariables false
set_option linter.unusedSimpArgs false
namespace Go.Proofs.YtknndpjacklkeaaGreatDoor.V
open Go
section
variable {P : Program} {l : List (Nat × Value)} {w : World} {ty : TypeId} {pos : String} {af : Array Edge}
variable {dd : Option Nat} {gg : Option (Nat × Bool)} {x y : Operand} {t t' : TypeId}
end
end Go.Proofs.YtknndpjacklkeaaGreatDoor.V

set_option linter.unusedVariables false
set_option linter.unusedSimpArgs false
namespace Go.Proofs.YtknndpjacklkeaaGreatDoor.V
open Go
section
variable {P : Program} {ops : Array Oper} {n : Nat} {l : List (Nat × Value)} {M : List (Nat × (Value → World → Prop))} {w : World} {Fin : Kn → Prop} {rest : List Oper} {d : Nat} {ty : TypeId} {pos : String} {af : Array Edge}
end
end Go.Proofs.YtknndpjacklkeaaGreatDoor.V

set_option linter.unusedVariables false
set_option linter.unusedSimpArgs false
namespace Go.Proofs.YtknndpjacklkeaaGreatDoor.V
open Go
section
variable {P : Program} {ops : Array Oper} {Q : Exit → Act → World → Prop} {n : Nat} {ds : List Deferred} {l : List (Nat × Value)} {M : List (Nat × (Value → World → Prop))} {w : World} {Fin : Kn → Prop} {rest : List Oper} {d j t : Nat} {want : Bool} {op : Op} {ty : TypeId} {pos : String} {af : Array Edge}
theorem snu (ht : (ops[j]?).bind (·.dst) = some t) (hl : lk t l = some undef) (hd : Nat.blt d n = true) (h : WL P ops Q rest n ds ((d, undef) :: l) w) :
  WL P ops Q (⟨some d, op, ty, pos, af, some (j, want)⟩ :: rest) n ds l w := by
 intro a ha
 refine wpList_step fun K hK => ?_
 have hy : yielded ops a.tmps j = none := by
  unfold yielded
  rw [ht]
  show (match a.tmps[t]? with | some (.bool b) => some b | _ => none) = none
  rw [ha.get t _ hl]
  rfl
 have hw : ¬ (Region.wanted ⟨some d, op, ty, pos, af, some (j, want)⟩ (yielded ops a.tmps) = true) := by
  simp [Region.wanted, hy]
 rw [if_neg hw]
 exact hK _ _ (h _ (ha.put hd undef))
theorem tnu (ht : (ops[j]?).bind (·.dst) = some t) (hl : lk t l = some undef) (hd : Nat.blt d n = true) (h : TWL P ops w n Fin rest ((d, undef) :: l) M) :
  TWL P ops w n Fin (⟨some d, op, ty, pos, af, some (j, want)⟩ :: rest) l M := by
 refine ⟨fun u _ => u = undef, ⟨fun _ _ _ _ h => h, fun d' hd' => by injection hd' with hd'; subst hd'; simpa [Nat.blt_eq] using hd, fun a w1 hC hN => ?_⟩, by rw [kn_put_v rfl]; exact h⟩
 have hlook : t ∈ Oper.looksAt ops ⟨some d, op, ty, pos, af, some (j, want)⟩ := by
  unfold Oper.looksAt
  refine List.mem_append_right _ ?_
  simp only
  rw [ht]
  simp
 have h1 := hN t (fun u' _ => u' = undef) hlook (by simp [kn, hl])
 have hy : yielded ops a.tmps j = none := by
  unfold yielded
  rw [ht]
  show (match a.tmps[t]? with | some (.bool b) => some b | _ => none) = none
  rw [Array.getD_eq_getD_getElem?] at h1
  cases hg : a.tmps[t]? with
  | none => rfl
  | some u =>
   rw [hg] at h1
   simp only [Option.getD_some] at h1
   subst h1
   rfl
 have hw : ¬ (Region.wanted ⟨some d, op, ty, pos, af, some (j, want)⟩ (yielded ops a.tmps) = true) := by
  simp [Region.wanted, hy]
 rw [if_neg hw]
end
end Go.Proofs.YtknndpjacklkeaaGreatDoor.V

set_option linter.unusedVariables false
set_option linter.unusedSimpArgs false
namespace Go.Proofs.YtknndpjacklkeaaGreatDoor.V
open Go
theorem Own.same {w : World} {e sz m n : Nat} {v : Value} {us vs : List Value} (h : Own w e sz v n vs) (hm : n = m) (hv : vs = us) : Own w e sz v m us := by
 subst hm; subst hv; exact h
section
variable {α : Type}
end
theorem slots_one {xs : List Slot} : ∀ x ∈ xs, ∀ c ∈ Slot.cells x, c.oneCell' = true := by
 intro x _ c hc
 simp at hc
 rcases hc with rfl | rfl | rfl <;> rfl
theorem Own.slots {w : World} {e : Nat} {v : Value} {xs : List Slot} (A : List Nat) (h : Own w e 3 v xs.length ((xs.map Slot.cells).flatten)) (hA : ∀ x ∈ ob v, x ∉ A) : Rep A w (slotsD xs) v := Own.flat h (fun _ _ => rfl) slots_one rfl hA
end Go.Proofs.YtknndpjacklkeaaGreatDoor.V

set_option linter.unusedVariables false
set_option linter.unusedSimpArgs false
namespace Go.Proofs.YtknndpjacklkeaaGreatDoor.V
open Go
inductive JV where
 | mk (k : Int) (b : Bool) (n : Int) (s : List UInt8) (l : List JV) (m : List (List UInt8 × JV))
namespace JV
def kind : JV → Int | .mk k _ _ _ _ _ => k
def is : JV → Bool | .mk _ b _ _ _ _ => b
def num : JV → Int | .mk _ _ n _ _ _ => n
def str : JV → List UInt8 | .mk _ _ _ s _ _ => s
def list : JV → List JV | .mk _ _ _ _ l _ => l
def map : JV → List (List UInt8 × JV) | .mk _ _ _ _ _ m => m
theorem eta (v : JV) : v = .mk v.kind v.is v.num v.str v.list v.map := by cases v; rfl
mutual
def D : JV → List Go.Proofs.YtknndpjacklkeaaGreatDoor.V.D
 | .mk k b n s l m => [.v (.int .i64 k), .v (.bool b), .v (.int .i64 n), .v (S s), .sl 6 (Dl l), .sl 7 (Dm m)]
def Dl : List JV → List (List Go.Proofs.YtknndpjacklkeaaGreatDoor.V.D)
 | [] => []
 | v :: r => v.D :: Dl r
def Dm : List (List UInt8 × JV) → List (List Go.Proofs.YtknndpjacklkeaaGreatDoor.V.D)
 | [] => []
 | p :: r => (.v (S p.1) :: p.2.D) :: Dm r
end
abbrev Dp (p : List UInt8 × JV) : List Go.Proofs.YtknndpjacklkeaaGreatDoor.V.D := .v (S p.1) :: p.2.D
theorem Dl_eq : ∀ l : List JV, Dl l = l.map D
 | [] => rfl
 | v :: r => by simp [Dl, Dl_eq r]
theorem Dm_eq : ∀ m : List (List UInt8 × JV), Dm m = m.map Dp
 | [] => rfl
 | v :: r => by simp [Dm, Dm_eq r]
theorem D_eq (v : JV) : v.D = [.v (.int .i64 v.kind), .v (.bool v.is), .v (.int .i64 v.num), .v (S v.str), .sl 6 (v.list.map D), .sl 7 (v.map.map Dp)] := by
 cases v
 simp [D, kind, is, num, str, list, map, Dl_eq, Dm_eq]
theorem D_len (v : JV) : v.D.length = 6 := by rw [D_eq]; rfl
theorem Dp_len (p : List UInt8 × JV) : (Dp p).length = 7 := by simp [D_len]
mutual
def sz : JV → Nat
 | .mk _ _ _ _ l m => 1 + szl l + szm m
def szl : List JV → Nat
 | [] => 0
 | v :: r => v.sz + szl r
def szm : List (List UInt8 × JV) → Nat
 | [] => 0
 | p :: r => p.2.sz + szm r
end
theorem sz_list {l : List JV} {v : JV} (h : v ∈ l) : v.sz ≤ szl l := by
 induction l with
 | nil => cases h
 | cons a r ih =>
  simp only [szl]
  rcases List.mem_cons.1 h with rfl | h
  ·omega
  ·have := ih h; omega
theorem sz_map {l : List (List UInt8 × JV)} {p : List UInt8 × JV} (h : p ∈ l) : p.2.sz ≤ szm l := by
 induction l with
 | nil => cases h
 | cons a r ih =>
  simp only [szm]
  rcases List.mem_cons.1 h with rfl | h
  ·omega
  ·have := ih h; omega
theorem sz_eq (v : JV) : v.sz = 1 + szl v.list + szm v.map := by cases v; simp [sz, list, map]
theorem sz_in_list {v x : JV} (h : x ∈ v.list) : x.sz < v.sz := by have := sz_list h; rw [sz_eq v]; omega
theorem sz_in_map {v : JV} {p : List UInt8 × JV} (h : p ∈ v.map) : p.2.sz < v.sz := by have := sz_map h; rw [sz_eq v]; omega
mutual
def ok : JV → Prop
 | .mk k b n s l m => s.length ≤ 140737488351232 ∧ l.length ≤ 1599289640400 ∧ m.length ≤ 1353245080300 ∧ okl l ∧ okm m
def okl : List JV → Prop
 | [] => True
 | v :: r => v.ok ∧ okl r
def okm : List (List UInt8 × JV) → Prop
 | [] => True
 | p :: r => (p.1.length ≤ 140737488351232 ∧ p.2.ok) ∧ okm r
end
end JV
end Go.Proofs.YtknndpjacklkeaaGreatDoor.V

set_option linter.unusedVariables false
set_option linter.unusedSimpArgs false
namespace Go.Proofs.YtknndpjacklkeaaGreatDoor.V
open Go
theorem cmp_scmp : ∀ a b : Str, Lib.compareBytes a b = scmp a b
 | [], [] => rfl
 | [], _ :: _ => by simp [Lib.compareBytes, scmp, bl, Op.bytesLess]
 | _ :: _, [] => by simp [Lib.compareBytes, scmp, bl, Op.bytesLess]
 | x :: a, y :: b => by
  have ih := cmp_scmp a b
  simp only [Lib.compareBytes]
  unfold scmp at ih ⊢
  by_cases h : x < y
  ·simp [h, bl, Op.bytesLess]
  ·by_cases h' : y < x
   ·have hne : x ≠ y := fun e => by subst e; exact h h'
    simp [h, h', bl, Op.bytesLess, hne]
   ·have hxy : x = y := UInt8.le_antisymm (UInt8.not_lt.1 h') (UInt8.not_lt.1 h)
    subst hxy
    simp [bl, Op.bytesLess]
    rw [ih]
section
variable {β : Type}
def ascM (m : List (Str × β)) : Prop := m.Pairwise fun a b => bl a.1 b.1 = true
def look : List (Str × β) → Str → Option β
 | [], _ => none
 | p :: r, k => if p.1 = k then some p.2 else look r k
def putM (m : List (Str × β)) (k : Str) (x : β) : List (Str × β) := m.filter (fun p => bl p.1 k) ++ [(k, x)] ++ m.filter (fun p => bl k p.1)
variable {m m' : List (Str × β)} {k : Str} {x : β}
theorem look_none_of (h : ∀ (j : Nat) (y : Str × β), m[j]? = some y → y.1 ≠ k) : look m k = none := by
 induction m with
 | nil => rfl
 | cons p r ih =>
  rw [look, if_neg (h 0 p rfl)]
  exact ih fun j y hy => h (j + 1) y (by simpa using hy)
theorem look_hit {i : Nat} {y : Str × β} (h : ∀ (j : Nat) (z : Str × β), j < i → m[j]? = some z → z.1 ≠ k) (hy : m[i]? = some y) (hk : y.1 = k) : look m k = some y.2 := by
 induction m generalizing i with
 | nil => simp at hy
 | cons p r ih =>
  cases i with
  | zero => simp at hy; subst hy; rw [look, if_pos hk]
  | succ i =>
   rw [look, if_neg (h 0 p (by omega) rfl)]
   exact ih (i := i) (fun j z hj hz => h (j + 1) z (by omega) (by simpa using hz)) (by simpa using hy)
theorem look_some : ∀ {m : List (Str × β)} {x : β}, look m k = some x → (k, x) ∈ m
 | p :: r, x, h => by
  rw [look] at h
  by_cases hp : p.1 = k
  ·rw [if_pos hp] at h
   injection h with h
   subst hp; subst h
   exact List.mem_cons_self ..
  ·rw [if_neg hp] at h
   exact List.mem_cons_of_mem _ (look_some h)
theorem look_mem : ∀ {m : List (Str × β)} {p : Str × β}, ascM m → p ∈ m → look m p.1 = some p.2
 | q :: r, p, h, hp => by
  rcases List.mem_cons.1 hp with rfl | hp
  ·rw [look, if_pos rfl]
  ·have := List.rel_of_pairwise_cons h hp
   rw [look, if_neg (fun e => by rw [e, bl_irrefl] at this; cases this)]
   exact look_mem (List.Pairwise.of_cons h) hp
theorem look_none : ∀ {m : List (Str × β)}, look m k = none → ∀ p ∈ m, p.1 ≠ k
 | q :: r, h, p, hp => by
  rw [look] at h
  by_cases hq : q.1 = k
  ·rw [if_pos hq] at h; cases h
  ·rw [if_neg hq] at h
   rcases List.mem_cons.1 hp with rfl | hp
   ·exact hq
   ·exact look_none h p hp
theorem ascM_ext : ∀ {m m' : List (Str × β)}, ascM m → ascM m' → (∀ k, look m k = look m' k) → m = m'
 | [], [], _, _, _ => rfl
 | [], p :: r, _, h', e => by have := e p.1; rw [look_mem h' (List.mem_cons_self ..)] at this; cases this
 | p :: r, [], h, _, e => by have := e p.1; rw [look_mem h (List.mem_cons_self ..)] at this; cases this
 | p :: r, p' :: r', h, h', e => by
  have h1 := look_some ((e p.1).symm.trans (look_mem h (List.mem_cons_self ..)))
  have h2 := look_some ((e p'.1).trans (look_mem h' (List.mem_cons_self ..)))
  have hk : p.1 = p'.1 := by
   rcases List.mem_cons.1 h1 with h3 | h3
   ·rw [← h3]
   ·rcases List.mem_cons.1 h2 with h4 | h4
    ·rw [← h4]
    ·have a := List.rel_of_pairwise_cons h' h3
     have b := List.rel_of_pairwise_cons h h4
     have := bl_trans a b
     rw [bl_irrefl] at this
     cases this
  have hpe : p = p' := by
   have e0 := e p.1
   rw [look, if_pos rfl, look, if_pos hk.symm] at e0
   injection e0 with e0
   exact Prod.ext hk e0
  subst hpe
  congr 1
  refine ascM_ext (List.Pairwise.of_cons h) (List.Pairwise.of_cons h') fun k => ?_
  by_cases hkk : p.1 = k
  ·subst hkk
   have n1 : ∀ {r : List (Str × β)}, ascM (p :: r) → look r p.1 = none := fun hr => look_none_of fun j y hy e => by
    have := List.rel_of_pairwise_cons hr (List.mem_of_getElem? hy)
    rw [e, bl_irrefl] at this
    cases this
   rw [n1 h, n1 h']
  ·have e0 := e k
   rwa [look, if_neg hkk, look, if_neg hkk] at e0
theorem ascM_filter {q : Str × β → Bool} (h : ascM m) : ascM (m.filter q) := List.Pairwise.filter q h
theorem ascM_put (h : ascM m) : ascM (putM m k x) := by
 unfold putM ascM
 rw [List.append_assoc, List.pairwise_append]
 refine ⟨ascM_filter h, ?_, ?_⟩
 ·rw [List.pairwise_append]
  refine ⟨by simp, ascM_filter h, ?_⟩
  intro a ha b hb
  simp at ha
  subst ha
  simpa using (List.mem_filter.1 hb).2
 ·intro a ha b hb
  have h1 : bl a.1 k = true := by simpa using (List.mem_filter.1 ha).2
  rcases List.mem_append.1 hb with hb | hb
  ·simp at hb; subst hb; exact h1
  ·exact bl_trans h1 (by simpa using (List.mem_filter.1 hb).2)
theorem look_append : ∀ {a b : List (Str × β)}, look (a ++ b) k = (look a k).or (look b k)
 | [], b => by simp [look]
 | p :: r, b => by
  simp only [List.cons_append, look]
  by_cases hp : p.1 = k
  ·simp [hp]
  ·simp [hp, look_append (a := r) (b := b)]
theorem look_filter {q : Str × β → Bool} {b : Bool} (hq : ∀ p ∈ m, p.1 = k → q p = b) : look (m.filter q) k = if b then look m k else none := by
 induction m with
 | nil => simp [look]
 | cons p r ih =>
  have ih := ih fun p' hp' => hq p' (List.mem_cons_of_mem _ hp')
  have hp := hq p (List.mem_cons_self ..)
  by_cases hk : p.1 = k
  ·have := hp hk
   cases b
   ·rw [List.filter_cons_of_neg (by simp [this]), ih]; rfl
   ·rw [List.filter_cons_of_pos this, look, if_pos hk, if_pos rfl, look, if_pos hk]
  ·by_cases hqp : q p = true
   ·rw [List.filter_cons_of_pos hqp, look, if_neg hk, ih, look, if_neg hk]
   ·rw [List.filter_cons_of_neg hqp, ih, look, if_neg hk]
theorem look_put {k' : Str} : look (putM m k x) k' = if k' = k then some x else look m k' := by
 unfold putM
 rw [look_append, look_append]
 by_cases h : k' = k
 ·subst h
  rw [look_filter (b := false) (fun p _ e => by rw [e, bl_irrefl])]
  simp [look]
 ·rw [if_neg h]
  have h1 : look [(k, x)] k' = none := by simp [look, Ne.symm h]
  rw [h1, Option.or_none]
  rcases bl_total k' k with h2 | h2 | h2
  ·rw [look_filter (b := true) (fun p _ e => by rw [e]; exact h2), look_filter (b := false) (fun p _ e => by rw [e]; exact bl_asymm h2)]
   simp
  ·exact absurd h2 h
  ·rw [look_filter (b := false) (fun p _ e => by rw [e]; exact bl_asymm h2), look_filter (b := true) (fun p _ e => by rw [e]; exact h2)]
   simp
end
end Go.Proofs.YtknndpjacklkeaaGreatDoor.V
