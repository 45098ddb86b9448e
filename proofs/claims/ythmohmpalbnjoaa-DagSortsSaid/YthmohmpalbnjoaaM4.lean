/-
  A part of the proof: an argument's reading opened: what its cells stand for, and how great it is; behind the call: true, and each argument reads as it did, where nothing that was there has turned; strings compared by the library's stand-in; values of several cells in a slot; rows of cells; a slice that is built in a region whose order is drawn; a guard on a truth that was not asked; the rest of a slice of the call's own is cleared; a drawn region's end with two slots of which something is known; JSON values: what they stand for in memory, and what Same, rises, Get and Find say of them, in plain Lean; members by rising keys: found, put, in plain Lean. No condition of its own.
-/
import Derived.Test.YthmohmpalbnjoaaM3
import Derived.OpenShut
import Derived.DataReads
import Derived.ProofKit
import Derived.Carry
import Derived.WalkKit
import Derived.Lib.Bytealg
set_option linter.unusedVariables false
set_option linter.unusedSimpArgs false
namespace Go.Proofs.Ythmohmpalbnjoaa.V
open Go
section
variable {H : Type} {enc : TypeId × Value → H} {P : Program} {w : World} {n : Nat} {t : TypeId}
/-- what is read at type 't' within 'n' steps stands for something: 'f a', and 'Q a' -/
def OpnN (enc : TypeId × Value → H) (P : Program) (w : World) (n : Nat) (t : TypeId) {α : Type} (f : α → List D) (Q : α → Prop) : Prop :=
  ∀ cs x, DataW.trod enc P w 0 (fun _ => true) true n t cs = some x → (∀ m ∈ x.1.weights P t, m ≤ reachBytes) → ∃ a, Reps [] w (f a) cs ∧ Q a
theorem OpnN.zero {α : Type} {f : α → List D} {Q : α → Prop} : OpnN enc P w 0 t f Q := fun cs x h => by simp [DataW.trod] at h
theorem OpnN.to {α β : Type} {f : α → List D} {Q : α → Prop} {f' : β → List D} {Q' : β → Prop} (h : OpnN enc P w n t f Q) (g : α → β) (hf : ∀ a, f' (g a) = f a) (hQ : ∀ a, Q a → Q' (g a)) : OpnN enc P w n t f' Q' := fun cs x hx hm => by
  obtain ⟨a, h1, h2⟩ := h cs x hx hm
  exact ⟨g a, by rw [hf]; exact h1, hQ a h2⟩
theorem opn_str (ht : P.underlying t = some .string) : OpnN enc P w n t (fun s => [.v (S s)]) (fun s : List UInt8 => s.length ≤ 140737488351232) := fun cs x hx hm => by
  obtain ⟨s, rfl, rfl, _⟩ := DataW.trod_string ht hx
  refine ⟨s.data.toList, Reps.cons_ (Rep.v_ rfl) Reps.nil_, ?_⟩
  have := hm s.data.toList.length (by simp [DataW.weights])
  simpa [reachBytes] using this
theorem opn_int {k : IntKind} (ht : P.underlying t = some (.int k)) : OpnN enc P w n t (fun m => [.v (.int k m)]) (fun m : Int => (Lit.int k m).wf = true) := fun cs x hx hm => by
  obtain ⟨m, rfl, rfl, h⟩ := DataW.trod_int ht hx
  exact ⟨m, Reps.cons_ (Rep.v_ rfl) Reps.nil_, h⟩
theorem opn_bool (ht : P.underlying t = some .bool) : OpnN enc P w n t (fun b => [.v (.bool b)]) (fun _ : Bool => True) := fun cs x hx hm => by
  obtain ⟨b, rfl, rfl⟩ := DataW.trod_bool ht hx
  exact ⟨b, Reps.cons_ (Rep.v_ rfl) Reps.nil_, trivial⟩
/-- fields, from the place 'off' on -/
def OpnFs (enc : TypeId × Value → H) (P : Program) (w : World) (n tot : Nat) (fs : List Field) (off : Nat) {α : Type} (f : α → List D) (Q : α → Prop) : Prop :=
  ∀ (cs : List Value) (xs : List (DataW H × List MemPlace)), cs.length = tot → xs.length = fs.length → (∀ (i : Nat) g, fs[i]? = some g → DataW.trod enc P w 0 (fun _ => true) true n g.type ((cs.drop g.offset).take (P.cellsOf g.type)) = xs[i]?) →
    (∀ m ∈ DataW.weightsEach P (fs.map (·.type)) (xs.map (·.1)), m ≤ reachBytes) → ∃ a, Reps [] w (f a) (cs.drop off) ∧ Q a
theorem opn_nil {tot : Nat} : OpnFs enc P w n tot [] tot (fun _ : Unit => []) (fun _ => True) := fun cs xs h _ _ _ => ⟨(), by rw [List.drop_eq_nil_of_le (by omega)]; exact Reps.nil_, trivial⟩
theorem opn_cons {tot off k : Nat} {fd : Field} {fs : List Field} {α β : Type} {f : α → List D} {Q : α → Prop} {f' : β → List D} {Q' : β → Prop} (ho : fd.offset = off) (hk : P.cellsOf fd.type = k) (h : OpnN enc P w n fd.type f Q) (h' : OpnFs enc P w n tot fs (off + k) f' Q') :
    OpnFs enc P w n tot (fd :: fs) off (fun p : α × β => f p.1 ++ f' p.2) (fun p => Q p.1 ∧ Q' p.2) := fun cs xs hl hx hr hm => by
  cases xs with
  | nil => simp at hx
  | cons x xs =>
    have h0 := hr 0 fd rfl
    simp only [List.getElem?_cons_zero] at h0
    simp only [List.map_cons, DataW.weightsEach, List.mem_append] at hm
    obtain ⟨a, ha, hQ⟩ := h _ x h0 (fun m hm' => hm m (.inl hm'))
    obtain ⟨b, hb, hQ'⟩ := h' cs xs hl (by simpa using hx) (fun i g hg => by simpa using hr (i + 1) g (by simpa using hg)) (fun m hm' => hm m (.inr hm'))
    refine ⟨(a, b), ?_, hQ, hQ'⟩
    have := ha.append hb
    rw [ho, hk] at this
    rwa [← List.drop_drop, List.take_append_drop] at this
theorem opn_struct {tot : Nat} {fs : Array Field} {α : Type} {f : α → List D} {Q : α → Prop} (ht : P.underlying t = some (.struct fs)) (hc : P.cellsOf t = tot) (h : OpnFs enc P w n tot fs.toList 0 f Q) : OpnN enc P w (n + 1) t f Q := fun cs x hx hm => by
  obtain ⟨xs, m, hn, rfl, hl, hlen, hf⟩ := DataW.trod_struct ht hx
  obtain rfl : n = m := by omega
  simp only [DataW.weights, ht] at hm
  have := h cs xs (hl.trans hc) (by simpa using hlen) (fun i g hg => hf i g (by simpa using hg)) hm
  simpa using this
theorem choose_list {α : Type} {R : Nat → α → Prop} : ∀ (k : Nat), (∀ i, i < k → ∃ a, R i a) → ∃ l : List α, l.length = k ∧ ∀ i a, l[i]? = some a → R i a
  | 0, _ => ⟨[], rfl, fun i a h => by simp at h⟩
  | k + 1, h => by
    obtain ⟨l, hl, hr⟩ := choose_list k fun i hi => h i (by omega)
    obtain ⟨a, ha⟩ := h k (by omega)
    refine ⟨l ++ [a], by simp [hl], fun i b hb => ?_⟩
    rcases Nat.lt_trichotomy i l.length with h1 | h1 | h1
    · rw [List.getElem?_append_left h1] at hb
      exact hr i b hb
    · subst h1
      simp at hb
      subst hb
      rw [hl]
      exact ha
    · rw [List.getElem?_eq_none (by simp; omega)] at hb
      cases hb
theorem weightsAll_mem {e : TypeId} : ∀ {ds : List (DataW H)} {d : DataW H}, d ∈ ds → ∀ m ∈ d.weights P e, m ∈ DataW.weightsAll P e ds
  | d' :: ds, d, h, m, hm => by
    simp only [DataW.weightsAll, List.mem_append]
    rcases List.mem_cons.1 h with rfl | h
    · exact .inl hm
    · exact .inr (weightsAll_mem h m hm)
theorem opn_slice {e sz by_ : Nat} {α : Type} {f : α → List D} {Q : α → Prop} (ht : P.underlying t = some (.slice e)) (hc : P.cellsOf e = sz) (hb : P.bytesOf e = by_) (hsz : 0 < sz) (h : OpnN enc P w n e f Q) :
    OpnN enc P w (n + 1) t (fun xs : List α => [.sl sz (xs.map f)]) (fun xs => (∀ x ∈ xs, Q x) ∧ xs.length * by_ ≤ 140737488351232) := fun cs x hx hm => by
  rcases DataW.trod_slice ht hx with ⟨rfl, rfl⟩ | ⟨a, len, cap, elems, rest, m, hn, rfl, rfl, _, hl, hcap, hlen, hel, hsp, _⟩
  · refine ⟨[], Reps.cons_ ?_ Reps.nil_, by simp, by simp⟩
    simp only [Rep, List.map_nil]
    exact ⟨none, 0, rfl, by simp, by simp, by simp⟩
  · obtain rfl : n = m := by omega
    simp only [DataW.weights, ht, List.mem_cons, List.mem_append] at hm
    have hw := hm _ (.inl rfl)
    rw [hb] at hw
    simp only [List.length_map, reachBytes] at hw
    have hwl : len * by_ ≤ (elems.length + rest.length) * by_ := Nat.mul_le_mul_right _ (by omega)
    have key : ∀ i, i < len → ∃ b, Q b ∧ a.block < w.heap.size ∧ ∃ us, us.length = sz ∧ Reps [] w (f b) us ∧ Cs w (a.add (i * sz)) us := fun i hi => by
      have h1 := hel i hi
      obtain ⟨y, hy⟩ : ∃ y, elems[i]? = some y := ⟨_, List.getElem?_eq_getElem (by omega)⟩
      rw [hy] at h1
      obtain ⟨us, h2, h3⟩ := Option.bind_eq_some_iff.1 h1
      rw [hc] at h2
      have h4 := World.cells?_some h2
      obtain ⟨b, hb1, hb2⟩ := h us y h3 (fun m hm' => hm m (.inr (.inl (weightsAll_mem (List.mem_map.2 ⟨y, List.mem_of_getElem? hy, rfl⟩) m hm'))))
      have hblk := World.cells?_block h2 hsz
      rw [add_block] at hblk
      have hulen : us.length = sz := h4.2.1
      exact ⟨b, hb2, hblk, us, hulen, hb1, fun j v hv => by
        have hj := (List.getElem?_eq_some_iff.1 hv).1
        have := h4.2.2 j (by omega)
        rw [this, hv]⟩
    obtain ⟨xs, hxl, hxs⟩ := choose_list len key
    refine ⟨xs, Reps.cons_ ?_ Reps.nil_, fun y hy => ?_, by rw [hxl]; omega⟩
    · rcases Nat.eq_zero_or_pos len with h0 | h0
      · subst h0
        obtain rfl : xs = [] := List.eq_nil_of_length_eq_zero hxl
        simp only [Rep, List.map_nil]
        exact ⟨some a, cap, rfl, hl, hcap, by simp⟩
      · obtain ⟨_, _, hblk, _⟩ := key 0 h0
        refine Rep.sl_mk (by simp [hxl]) hl hcap (by simp) hblk fun i r hi => ?_
        rw [List.getElem?_map] at hi
        obtain ⟨y, hy, rfl⟩ := Option.map_eq_some_iff.1 hi
        obtain ⟨_, _, us, h1, h2, h3⟩ := hxs i y hy
        exact ⟨by rw [← h2.length, h1], us, h2, h3⟩
    · obtain ⟨i, hi⟩ := List.getElem?_of_mem hy
      exact (hxs i y hi).1
end
end Go.Proofs.Ythmohmpalbnjoaa.V

set_option linter.unusedVariables false
set_option linter.unusedSimpArgs false
namespace Go.Proofs.Ythmohmpalbnjoaa.V
open Go Go.ChangeShapes Go.WideShapes Go.RowKit
section
variable {H : Type} {enc : TypeId × Value → H} {P : Program} {W W' : World}
theorem trodAll_later (hl : laidOutB P = true) (k : Mod [] W W') : ∀ {ts : List TypeId} {vs : List Value} {ds : List (DataW H)} {ps : List MemPlace}, (ts.all fun t => P.readableRec t && decide (t < P.types.size)) = true →
    DataW.TrodAll enc P W 0 (fun _ => true) true ts vs ds ps → (∀ p ∈ ps, p.block < W.heap.size) → DataW.TrodAll enc P W' 0 (fun b => decide (b < W.heap.size)) true ts vs ds ps
  | [], vs, ds, ps, _, h, _ => by
    obtain ⟨rfl, rfl, rfl⟩ := trodAll_nil h
    exact trodAll_mk0
  | t :: ts, vs, ds, ps, hr, h, hp => by
    obtain ⟨v, vs1, d, ds1, a, b, rfl, rfl, rfl, h1, h2⟩ := trodAll_cons h
    simp only [List.all_cons, Bool.and_eq_true, decide_eq_true_eq] at hr
    have ha : ∀ p ∈ a, p.block < W.heap.size := fun p hp' => hp p (List.mem_append_left _ hp')
    exact trodAll_cons_mk (Below.trod hl hr.1.1 hr.1.2 h1 k.below ha) (trodAll_later hl k hr.2 h2 fun p hp' => hp p (List.mem_append_right _ hp'))
theorem Mod.keptBut (k : Mod [] W W') (S : MemPlace → Prop) : W.keptBut W' S := by
  refine ⟨k.os, k.output, fun i hi => ?_⟩
  rw [k.block i hi (by simp)]
  cases h : W.heap[i]? with
  | none => rfl
  | some o => cases o <;> simp
/-- what a law's row asks behind the call -/
theorem post_true (hl : laidOutB P = true) {f : Func} {s : ChangeSpec} {t : TypeId} {args : Array Value} {ds : List (DataW H)} {before : List MemPlace} (hs : s.vars = []) (hr : f.resultTypes = #[t]) (ht : P.underlying t = some .bool)
    (hrow : (f.params.toList.all fun t => P.readableRec t && decide (t < P.types.size)) = true) (hspec : s.fn H ds = { results := [.lit (.bool true)], args := ds })
    (hW : DataW.Whole enc P f.params.toList s.vars false W args.toList ds [] before) (k : Mod [] W W') : s.post enc P f false true false false W args (.bool true) W' := by
  have hlt := hW.lt
  have hW0 := hW
  obtain ⟨p, q, hA, hV, rfl, hfz, hnd⟩ := hW
  rw [hs] at hV
  obtain ⟨_, rfl⟩ := trodVars_none hV
  have hlen : f.resultTypes.size = 1 := by rw [hr]; rfl
  refine ⟨ds, [], _, [], p, [], hW0, ?_, ?_, ?_, k.keptBut _, fun h => by cases h⟩
  · rw [List.append_nil, hspec, hlen, hr]
    exact trodAll_cons_mk (shut_bool ht true) trodAll_mk0
  · rw [List.append_nil, hspec]
    exact trodAll_later hl k hrow hA fun p hp => by simpa using hlt p (List.mem_append_left _ hp)
  · rw [List.append_nil, hspec, hs]
    exact rfl
end
end Go.Proofs.Ythmohmpalbnjoaa.V

set_option linter.unusedVariables false
set_option linter.unusedSimpArgs false
namespace Go.Proofs.Ythmohmpalbnjoaa.V
open Go
section
variable {P : Program} {l : List (Nat × Value)} {w : World} {ty : TypeId} {pos : String} {af : Array Edge}
variable {dd : Option Nat} {gg : Option (Nat × Bool)} {x y : Operand} {t t' : TypeId}
def CmpX (P : Program) (f : FuncId) : Prop := ∀ args w, (callFunc f args).run P w = ((Extern.BytealgCompare.compare args).run P w).andThen fun v w' => .ok (.value v) w'
theorem o_cmpstr {f : FuncId} {a b : List UInt8} (hf : CmpX P f) (hx : evO l x = some (S a)) (hy : evO l y = some (S b)) {ts : Array TypeId} :
    Runs P l ⟨dd, .call { callee := .value (.func f), args := #[x, y], argTypes := ts }, ty, pos, af, gg⟩ w (.int .i64 (Lib.compareBytes a b)) w := fun ρ hρ => by
  have e2 : ρ (.func f) = .func (.func f) #[] #[] := hρ _ _ rfl
  have hc := Lib.run_compareString (P := P) ⟨⟨a⟩⟩ ⟨⟨b⟩⟩ w
  have := hf #[S a, S b] w
  rw [show (#[S a, S b] : Array Value) = #[.string ⟨⟨a⟩⟩, .string ⟨⟨b⟩⟩] from rfl, hc] at this
  simp [execOp, resolve, e2, hρ _ _ hx, hρ _ _ hy, Deferred.ofValue, invoke] at this ⊢
  simpa using this
end
end Go.Proofs.Ythmohmpalbnjoaa.V

set_option linter.unusedVariables false
set_option linter.unusedSimpArgs false
namespace Go.Proofs.Ythmohmpalbnjoaa.V
open Go
section
variable {P : Program} {ops : Array Oper} {n : Nat} {l : List (Nat × Value)} {M : List (Nat × (Value → World → Prop))} {w : World} {Fin : Kn → Prop} {rest : List Oper} {d : Nat} {ty : TypeId} {pos : String} {af : Array Edge}
theorem t_bslice {t : TypeId} {ps : List (Nat × Operand)} {us : List (Nat × Value)} {e c sz by_ : Nat} {zs cs : List Value} (V : Value → World → Prop) (hV : ∀ v w1 w2, Mod [] w1 w2 → V v w1 → V v w2) (ht : slB P t e sz by_ = true) (hz : zvB P e zs) (hx : evP l ps = some us)
    (hf : fillF (fun i => some (i * sz, sz)) ((List.replicate c zs).flatten) us = some cs) (hzl : zs.length = sz) (hc : c * sz ≤ 16777216) (hv : ∀ w1 g w2, Mod [] w w1 → New w1 w2 g e cs → V (.slice (some ⟨g, 0, none⟩) c c) w2) (hd : Nat.blt d n = true) (hl : lk d l = none)
    (h : TWL P ops w n Fin rest l ((d, V) :: M)) : TWL P ops w n Fin (⟨some d, .buildSlice t c ps.toArray, ty, pos, af, none⟩ :: rest) l M :=
  tr V hV (fun w1 k => ⟨_, _, r_bslice ht hz hx hf hzl hc, (New.mk' w1 e cs).mod, hv _ _ _ k (New.mk' w1 e cs)⟩) hd rfl hl h
end
end Go.Proofs.Ythmohmpalbnjoaa.V

set_option linter.unusedVariables false
set_option linter.unusedSimpArgs false
namespace Go.Proofs.Ythmohmpalbnjoaa.V
open Go
section
variable {P : Program} {ops : Array Oper} {Q : Exit → Act → World → Prop} {n : Nat} {ds : List Deferred} {l : List (Nat × Value)} {M : List (Nat × (Value → World → Prop))} {w : World} {Fin : Kn → Prop} {rest : List Oper} {d j t : Nat} {want : Bool} {op : Op} {ty : TypeId} {pos : String} {af : Array Edge}
theorem snu (ht : (ops[j]?).bind (·.dst) = some t) (hl : lk t l = some undef) (hd : Nat.blt d n = true) (h : WL P ops Q rest n ds ((d, undef) :: l) w) :
    WL P ops Q (⟨some d, op, ty, pos, af, some (j, want)⟩ :: rest) n ds l w := by
  intro a ha
  refine wpList_step fun K hK => ?_
  have hy : yielded ops a.tmps j = none := by
    unfold yielded
    rw [ht]
    show (match a.tmps[t]? with | some (.bool b) => some b | _ => none) = none
    rw [ha.get t _ hl]
    rfl
  have hw : ¬ (Region.wanted ⟨some d, op, ty, pos, af, some (j, want)⟩ (yielded ops a.tmps) = true) := by
    simp [Region.wanted, hy]
  rw [if_neg hw]
  exact hK _ _ (h _ (ha.put hd undef))
theorem tnu (ht : (ops[j]?).bind (·.dst) = some t) (hl : lk t l = some undef) (hd : Nat.blt d n = true) (h : TWL P ops w n Fin rest ((d, undef) :: l) M) :
    TWL P ops w n Fin (⟨some d, op, ty, pos, af, some (j, want)⟩ :: rest) l M := by
  refine ⟨fun u _ => u = undef, ⟨fun _ _ _ _ h => h, fun d' hd' => by injection hd' with hd'; subst hd'; simpa [Nat.blt_eq] using hd, fun a w1 hC hN => ?_⟩, by rw [kn_put_v rfl]; exact h⟩
  have hlook : t ∈ Oper.looksAt ops ⟨some d, op, ty, pos, af, some (j, want)⟩ := by
    unfold Oper.looksAt
    refine List.mem_append_right _ ?_
    simp only
    rw [ht]
    simp
  have h1 := hN t (fun u' _ => u' = undef) hlook (by simp [kn, hl])
  have hy : yielded ops a.tmps j = none := by
    unfold yielded
    rw [ht]
    show (match a.tmps[t]? with | some (.bool b) => some b | _ => none) = none
    rw [Array.getD_eq_getD_getElem?] at h1
    cases hg : a.tmps[t]? with
    | none => rfl
    | some u =>
      rw [hg] at h1
      simp only [Option.getD_some] at h1
      subst h1
      rfl
  have hw : ¬ (Region.wanted ⟨some d, op, ty, pos, af, some (j, want)⟩ (yielded ops a.tmps) = true) := by
    simp [Region.wanted, hy]
  rw [if_neg hw]
end
end Go.Proofs.Ythmohmpalbnjoaa.V

set_option linter.unusedVariables false
set_option linter.unusedSimpArgs false
namespace Go.Proofs.Ythmohmpalbnjoaa.V
open Go
section
variable {P : Program} {ops : Array Oper} {Q : Exit → Act → World → Prop} {n' : Nat} {ds : List Deferred} {l : List (Nat × Value)} {w w' : World}
variable {rest : List Oper} {ty : TypeId} {pos : String} {af : Array Edge} {x y : Operand} {t : TypeId}
theorem zero_one {zs : Array Value} {n : Nat} (h : ∀ u ∈ zs, u.oneCell' = true) (hs : 0 < zs.size) : ∀ u ∈ (Builtin.zeroCells zs n).toList, u.oneCell' = true := by
  intro u hu
  unfold Builtin.zeroCells at hu
  rw [Array.toList_map] at hu
  obtain ⟨i, _, rfl⟩ := List.mem_map.1 hu
  have : i % zs.size < zs.size := Nat.mod_lt _ hs
  rw [getElem!_pos zs _ this]
  exact h _ (Array.getElem_mem this)
theorem suv {op : Op} {v : Value} (hr : Runs P l ⟨none, op, ty, pos, af, none⟩ w v w') (h : WL P ops Q rest n' ds l w') :
    WL P ops Q (⟨none, op, ty, pos, af, none⟩ :: rest) n' ds l w := by
  intro a ha
  refine wpList_plain rfl fun K hK => ?_
  have := hr a.eval (fun x u hx => ha.ev hx)
  simp only [Oper.wp, this, Oper.upon]
  exact hK _ _ (h _ (by simpa [Act.put] using ha))
theorem s_clear {e sz by_ n c k : Nat} {ad : Addr} {vs zs : List Value} (ht : slB P t e sz by_ = true) (hz : zvB P e zs) (hzl : zs.length = sz) (hsz : 0 < sz) (h1c : ∀ u ∈ zs, u.oneCell' = true) (O : Own w e sz (.slice (some ad) n c) n vs) (hk : k ≤ n)
    (hx : evO l x = some (.slice (adS (some ad) c k sz) (n - k) (c - k)))
    (h : ∀ w', Own w' e sz (.slice (some ad) k c) k (vs.take (k * sz)) → Mod [ad.block] w w' → w'.heap.size = w.heap.size → WL P ops Q rest n' ds l w') :
    WL P ops Q (⟨none, .call { callee := .builtin .clear, args := #[x], argTypes := #[t] }, ty, pos, af, none⟩ :: rest) n' ds l w := by
  obtain ⟨i, z, h1, h2, h3, h4, h5, h6⟩ := slB_spec ht
  obtain ⟨i', z', h7, h8, h9⟩ := zvB_spec hz
  rcases Nat.eq_or_lt_of_le hk with rfl | hlt
  · have hr : Runs P l ⟨none, .call { callee := .builtin .clear, args := #[x], argTypes := #[t] }, ty, pos, af, none⟩ w (.tuple #[]) w := fun ρ hρ => by
      have hv := hρ _ _ hx
      rw [Nat.sub_self] at hv
      simp only [execOp, resolve, invoke, builtin, Builtin.clear_]
      cases hc : adS (some ad) c k sz <;> rw [hc] at hv <;> simp [hv, run_underlying h1]
    exact suv hr (h w (O.take (Nat.le_refl _)) (Mod.refl _ w) rfl)
  · rcases O.2 with ⟨h0, _⟩ | ⟨g, o, cap, cs, hv, hB, hc1, hc2, hc3, hc4⟩
    · cases h0
    injection hv with e1 e2 e3
    injection e1 with e1
    subst e1; subst e3
    have hcz : (Builtin.zeroCells z'.cells (n - k)).size = (n - k) * sz := by
      simp [Builtin.zeroCells, h9, hzl]
    have hvl := O.1
    have hle : k * sz + (n - k) * sz = n * sz := by rw [← Nat.add_mul]; congr 1; omega
    have hle2 : n * sz ≤ c * sz := Nat.mul_le_mul_right _ hc1
    obtain ⟨w1, hst, hp⟩ := storeCells_put (P := P) hB (o := o + k * sz) (vs := (Builtin.zeroCells z'.cells (n - k)).toList) (by rw [Array.length_toList, hcz]; omega)
      (zero_one (by rw [h9]; simpa using h1c) (by rw [h9]; simp [hzl]; omega))
    have had : adS (some ⟨g, o, none⟩) c k sz = some ⟨g, o + k * sz, none⟩ := by
      unfold adS
      rw [if_neg (by omega)]
      simp [Addr.add_lit]
    rw [had] at hx
    have hr : Runs P l ⟨none, .call { callee := .builtin .clear, args := #[x], argTypes := #[t] }, ty, pos, af, none⟩ w (.tuple #[]) w1 := fun ρ hρ => by
      have hnk : ¬ n - k = 0 := by omega
      obtain ⟨m, hm⟩ : ∃ m, n - k = m + 1 := ⟨n - k - 1, by omega⟩
      have hv := hρ _ _ hx
      rw [hm] at hv hst
      simp [execOp, resolve, invoke, builtin, Builtin.clear_, hv, run_underlying h1, zeroValue, typeInfo, h7, h8, hst]
    refine suv hr (h w1 ⟨by rw [List.length_take, hvl]; omega, .inr ⟨g, o, c, _, rfl, hp.blk, by omega, hc2, by simp [splice, hcz]; omega, ?_⟩⟩ hp.mod hp.size)
    subst hc4
    apply List.ext_getElem?
    intro j
    simp only [splice]
    simp only [List.getElem?_take, List.getElem?_drop, List.getElem?_append, List.length_append, List.length_take, List.length_drop, Array.length_toList, hcz]
    repeat' split
    all_goals first
      | omega
      | rfl
      | (congr 1; omega)
      | skip
end
end Go.Proofs.Ythmohmpalbnjoaa.V

set_option linter.unusedVariables false
set_option linter.unusedSimpArgs false
namespace Go.Proofs.Ythmohmpalbnjoaa.V
open Go
section
variable {P : Program} {ops : Array Oper} {Q : Exit → Act → World → Prop} {n : Nat} {ds : List Deferred} {l : List (Nat × Value)} {M : List (Nat × (Value → World → Prop))} {w : World}
theorem tw_nil2 {t r : Nat} {V U : Value → World → Prop} (hf : fitB n l = true) (ht : lk t l = none) (hM : lkM t M = some V) (hr : lk r l = none) (hN : lkM r M = some U) (htn : Nat.blt t n = true) (hrn : Nat.blt r n = true)
    (h : ∀ w' v u, Mod [] w w' → V v w' → U u w' → WE Q .normal n ds ((t, v) :: (r, u) :: l) w') : TWL P ops w n (FinW Q n ds w) [] l M := by
  intro a w' hd hC hN'
  have h1 := kn_has hd hN'
  rw [fitB_filter hf] at h1
  have htn' : t < a.tmps.size := by rw [hN'.1]; simpa [Nat.blt_eq] using htn
  have hrn' : r < a.tmps.size := by rw [hN'.1]; simpa [Nat.blt_eq] using hrn
  have h2 := hN'.2 t V (by simp [kn, ht, hM])
  have h4 := hN'.2 r U (by simp [kn, hr, hN])
  have h3 : a.tmps.getD t undef = a.tmps[t] := by simp [htn']
  have h5 : a.tmps.getD r undef = a.tmps[r] := by simp [hrn']
  rw [h3] at h2
  rw [h5] at h4
  refine h w' _ _ hC h2 h4 a ⟨h1.size, h1.defers, fun s v hv => ?_⟩
  simp only [lk] at hv
  cases hb : Nat.beq t s with
  | true =>
    rw [hb] at hv
    have := Nat.eq_of_beq_eq_true hb
    subst this
    injection hv with hv
    subst hv
    simp [htn']
  | false =>
    rw [hb] at hv
    cases hb2 : Nat.beq r s with
    | true =>
      rw [hb2] at hv
      have := Nat.eq_of_beq_eq_true hb2
      subst this
      injection hv with hv
      subst hv
      simp [hrn']
    | false => rw [hb2] at hv; exact h1.get s v hv
end
end Go.Proofs.Ythmohmpalbnjoaa.V

set_option linter.unusedVariables false
set_option linter.unusedSimpArgs false
namespace Go.Proofs.Ythmohmpalbnjoaa.V
open Go
abbrev Str := List UInt8
structure Slot where
  ty : Str
  key : Str
  id : Str
  deriving DecidableEq
structure Pair where
  ty : Str
  key : Str
  deriving DecidableEq
abbrev Slot.cells (s : Slot) : List Value := [S s.ty, S s.key, S s.id]
abbrev Pair.cells (p : Pair) : List Value := [S p.ty, S p.key]
abbrev Slot.agg (s : Slot) : Value := .agg s.cells.toArray
abbrev Pair.agg (p : Pair) : Value := .agg p.cells.toArray
abbrev Slot.pair (s : Slot) : Pair := ⟨s.ty, s.key⟩
abbrev slotsD (xs : List Slot) : D := flat 3 Slot.cells xs
abbrev pairsD (xs : List Pair) : D := flat 2 Pair.cells xs
abbrev ic (m : Int) : List Value := [.int .i64 m]
abbrev strD (xs : List Str) : D := flat 1 (fun s => [S s]) xs
section
variable {w : World}
theorem Cs.c0 {a : Addr} {v : Value} {vs : List Value} (h : Cs w a (v :: vs)) : w.cell? a = some v := by
  have := h 0 v rfl
  rwa [Addr.add_zero'] at this
end
/-! ### comparing -/
def scmp (a b : Str) : Int := if bl a b then -1 else if a = b then 0 else 1
def orI : List Int → Int
  | [] => 0
  | x :: r => if x ≠ 0 then x else orI r
def pcmp (p q : Pair) : Int := if scmp p.ty q.ty ≠ 0 then scmp p.ty q.ty else scmp p.key q.key
theorem bl_irrefl : ∀ a : Str, bl a a = false
  | [] => rfl
  | c :: a => by simp [bl, Op.bytesLess, bl_irrefl a]
theorem bl_trans : ∀ {a b c : Str}, bl a b = true → bl b c = true → bl a c = true
  | [], [], _, h, _ => by simp [bl, Op.bytesLess] at h
  | _ :: _, [], _, h, _ => by simp [bl, Op.bytesLess] at h
  | _, _ :: _, [], _, h => by simp [bl, Op.bytesLess] at h
  | [], _ :: _, _ :: _, _, _ => by simp [bl, Op.bytesLess]
  | x :: a, y :: b, z :: c, h, h' => by
    simp only [bl, Op.bytesLess, Bool.or_eq_true, decide_eq_true_eq, Bool.and_eq_true, beq_iff_eq, UInt8.lt_iff_toNat_lt, ← UInt8.toNat_inj] at h h' ⊢
    rcases h with h | ⟨h1, h2⟩
    · rcases h' with h' | ⟨h3, h4⟩
      · exact .inl (by omega)
      · exact .inl (by omega)
    · rcases h' with h' | ⟨h3, h4⟩
      · exact .inl (by omega)
      · exact .inr ⟨by omega, bl_trans h2 h4⟩
theorem bl_asymm {a b : Str} (h : bl a b = true) : bl b a = false := by
  cases h' : bl b a with
  | false => rfl
  | true => have := bl_trans h h'; rw [bl_irrefl] at this; cases this
theorem bl_total : ∀ (a b : Str), bl a b = true ∨ a = b ∨ bl b a = true
  | [], [] => .inr (.inl rfl)
  | [], _ :: _ => .inl (by simp [bl, Op.bytesLess])
  | _ :: _, [] => .inr (.inr (by simp [bl, Op.bytesLess]))
  | x :: a, y :: b => by
    simp only [bl, Op.bytesLess, Bool.or_eq_true, decide_eq_true_eq, Bool.and_eq_true, beq_iff_eq, UInt8.lt_iff_toNat_lt, ← UInt8.toNat_inj, List.cons.injEq]
    rcases Nat.lt_trichotomy x.toNat y.toNat with h | h | h
    · exact .inl (.inl h)
    · rcases bl_total a b with h1 | h1 | h1
      · exact .inl (.inr ⟨h, h1⟩)
      · exact .inr (.inl ⟨h, h1⟩)
      · exact .inr (.inr (.inr ⟨h.symm, h1⟩))
    · exact .inr (.inr (.inl h))
theorem scmp_lt {a b : Str} : scmp a b < 0 ↔ bl a b = true := by
  unfold scmp
  by_cases h : bl a b = true
  · simp [h]
  · by_cases h' : a = b <;> simp [h, h', bl_irrefl]
theorem scmp_eq {a b : Str} : scmp a b = 0 ↔ a = b := by
  unfold scmp
  by_cases h : bl a b = true
  · rw [if_pos h]
    exact ⟨fun h' => by omega, fun h' => by subst h'; rw [bl_irrefl] at h; cases h⟩
  · by_cases h' : a = b <;> simp [h, h', bl_irrefl]
theorem orI_two (a b : Int) : orI [a, b] = if a ≠ 0 then a else b := by
  simp only [orI]
  by_cases h : a = 0 <;> by_cases h' : b = 0 <;> simp [h, h']

/-! ### pairs -/
def plt (p q : Pair) : Bool := if p.ty = q.ty then bl p.key q.key else bl p.ty q.ty
theorem plt_irrefl (p : Pair) : plt p p = false := by simp [plt, bl_irrefl]
theorem plt_trans {p q r : Pair} (h : plt p q = true) (h' : plt q r = true) : plt p r = true := by
  unfold plt at *
  by_cases h1 : p.ty = q.ty
  · rw [if_pos h1] at h
    by_cases h2 : q.ty = r.ty
    · rw [if_pos h2] at h'
      rw [if_pos (h1.trans h2)]
      exact bl_trans h h'
    · rw [if_neg h2] at h'
      rw [if_neg (fun e => h2 (h1 ▸ e)), h1]
      exact h'
  · rw [if_neg h1] at h
    by_cases h2 : q.ty = r.ty
    · rw [if_neg (fun e => h1 (h2 ▸ e)), ← h2]
      exact h
    · rw [if_neg h2] at h'
      have h3 := bl_trans h h'
      have : p.ty ≠ r.ty := fun e => by rw [e, bl_irrefl] at h3; cases h3
      rw [if_neg this]
      exact h3
theorem plt_asymm {p q : Pair} (h : plt p q = true) : plt q p = false := by
  cases h' : plt q p with
  | false => rfl
  | true => have := plt_trans h h'; rw [plt_irrefl] at this; cases this
theorem plt_total (p q : Pair) : plt p q = true ∨ p = q ∨ plt q p = true := by
  obtain ⟨a, b⟩ := p
  obtain ⟨c, d⟩ := q
  simp only [plt, Pair.mk.injEq]
  by_cases h : a = c
  · subst h
    simp only [if_true, true_and]
    exact bl_total b d
  · have h' : ¬ c = a := fun e => h e.symm
    simp only [h, h', if_false, false_and, false_or]
    rcases bl_total a c with h1 | h1 | h1
    · exact .inl h1
    · exact absurd h1 h
    · exact .inr h1
theorem pcmp_lt {p q : Pair} : pcmp p q < 0 ↔ plt p q = true := by
  unfold pcmp plt
  by_cases h : p.ty = q.ty
  · have h1 := scmp_eq.2 h
    rw [if_neg (by omega), if_pos h]
    exact scmp_lt
  · have h1 : scmp p.ty q.ty ≠ 0 := fun e => h (scmp_eq.1 e)
    rw [if_pos h1, if_neg h]
    exact scmp_lt
theorem pcmp_eq {p q : Pair} : pcmp p q = 0 ↔ p = q := by
  obtain ⟨a, b⟩ := p
  obtain ⟨c, d⟩ := q
  simp only [pcmp, Pair.mk.injEq]
  by_cases h : a = c
  · have h1 := scmp_eq.2 h
    rw [if_neg (by omega)]
    simp [h, scmp_eq]
  · have h1 : scmp a c ≠ 0 := fun e => h (scmp_eq.1 e)
    rw [if_pos h1]
    simp [h, h1]
/-- by rising pairs, each once -/
def asc : List Slot → Bool
  | a :: b :: r => plt a.pair b.pair && asc (b :: r)
  | _ => true
theorem asc_tail {a : Slot} {r : List Slot} (h : asc (a :: r) = true) : asc r = true := by
  cases r with
  | nil => rfl
  | cons b r => simp only [asc, Bool.and_eq_true] at h; exact h.2
theorem asc_head : ∀ {r : List Slot} {a b : Slot}, asc (a :: r) = true → b ∈ r → plt a.pair b.pair = true
  | c :: r, a, b, h, hb => by
    simp only [asc, Bool.and_eq_true] at h
    rcases List.mem_cons.1 hb with rfl | hb
    · exact h.1
    · exact plt_trans h.1 (asc_head h.2 hb)
theorem asc_lt : ∀ {xs : List Slot} {i j : Nat} {a b : Slot}, asc xs = true → xs[i]? = some a → xs[j]? = some b → i < j → plt a.pair b.pair = true
  | [], i, j, a, b, _, ha, _, _ => by simp at ha
  | x :: xs, i, j, a, b, h, ha, hb, hij => by
    cases j with
    | zero => omega
    | succ j =>
      cases i with
      | zero => simp at ha; subst ha; exact asc_head h (List.mem_of_getElem? (by simpa using hb))
      | succ i => exact asc_lt (asc_tail h) (by simpa using ha) (by simpa using hb) (by omega)
theorem asc_of : ∀ {xs : List Slot}, (∀ i a b, xs[i]? = some a → xs[i + 1]? = some b → plt a.pair b.pair = true) → asc xs = true
  | [], _ => rfl
  | [_], _ => rfl
  | a :: b :: r, h => by
    simp only [asc, Bool.and_eq_true]
    exact ⟨h 0 a b rfl rfl, asc_of fun i x y hx hy => h (i + 1) x y (by simpa using hx) (by simpa using hy)⟩
theorem asc_drop {xs : List Slot} {k : Nat} {a b : Slot} (ha : xs[k]? = some a) (hb : xs[k + 1]? = some b) : asc (xs.drop k) = (plt a.pair b.pair && asc (xs.drop (k + 1))) := by
  have h1 : xs.drop k = a :: xs.drop (k + 1) := by
    rw [List.drop_eq_getElem_cons (List.getElem?_eq_some_iff.1 ha).1, (List.getElem?_eq_some_iff.1 ha).2]
  have h2 : xs.drop (k + 1) = b :: xs.drop (k + 1 + 1) := by
    rw [List.drop_eq_getElem_cons (List.getElem?_eq_some_iff.1 hb).1, (List.getElem?_eq_some_iff.1 hb).2]
  rw [h1, h2]
  simp [asc]
theorem asc_last {xs : List Slot} {k : Nat} (h : xs.length ≤ k + 1) : asc (xs.drop k) = true := by
  have : (xs.drop k).length ≤ 1 := by simp; omega
  match xs.drop k, this with
  | [], _ => rfl
  | [_], _ => rfl
  | _ :: _ :: _, h => simp at h
def getS (xs : List Slot) (p : Pair) : Option Str := (xs.find? fun x => decide (x.pair = p)).map (·.id)
theorem getS_hit : ∀ {xs : List Slot} {p : Pair} {k : Nat} {x : Slot}, (∀ (j : Nat) (y : Slot), j < k → xs[j]? = some y → y.pair ≠ p) → xs[k]? = some x → x.pair = p → getS xs p = some x.id
  | [], _, _, _, _, hx, _ => by simp at hx
  | a :: r, p, k, x, h, hx, hp => by
    cases k with
    | zero => simp at hx; subst hx; simp [getS, hp]
    | succ k =>
      have ha := h 0 a (by omega) rfl
      have := getS_hit (xs := r) (k := k) (fun j y hj hy => h (j + 1) y (by omega) (by simpa using hy)) (by simpa using hx) hp
      simpa [getS, ha] using this
theorem getS_miss {xs : List Slot} {p : Pair} (h : ∀ (j : Nat) (y : Slot), xs[j]? = some y → y.pair ≠ p) : getS xs p = none := by
  simp only [getS, Option.map_eq_none_iff, List.find?_eq_none, decide_eq_true_eq]
  intro x hx
  obtain ⟨j, hj⟩ := List.getElem?_of_mem hx
  exact h j x hj
theorem asc_uniq {xs : List Slot} {i j : Nat} {a b : Slot} (h : asc xs = true) (ha : xs[i]? = some a) (hb : xs[j]? = some b) (hp : a.pair = b.pair) : i = j := by
  rcases Nat.lt_trichotomy i j with h1 | h1 | h1
  · have := asc_lt h ha hb h1; rw [hp, plt_irrefl] at this; cases this
  · exact h1
  · have := asc_lt h hb ha h1; rw [hp, plt_irrefl] at this; cases this
/-- what the document's Put answers -/
def putS (xs : List Slot) (s : Slot) : List Slot := xs.filter (fun x => plt x.pair s.pair) ++ [s] ++ xs.filter (fun x => plt s.pair x.pair)
theorem filter_snoc {α : Type} (p : α → Bool) {xs : List α} {k : Nat} {x : α} (h : xs[k]? = some x) : (xs.take (k + 1)).filter p = (xs.take k).filter p ++ if p x then [x] else [] := by
  have hlt := (List.getElem?_eq_some_iff.1 h).1
  rw [List.take_succ_eq_append_getElem hlt, (List.getElem?_eq_some_iff.1 h).2, List.filter_append]
  congr 1
  by_cases hp : p x <;> simp [hp]
end Go.Proofs.Ythmohmpalbnjoaa.V

set_option linter.unusedVariables false
set_option linter.unusedSimpArgs false
namespace Go.Proofs.Ythmohmpalbnjoaa.V
open Go
theorem Own.snoc {α : Type} {w : World} {e sz : Nat} {v : Value} {cells : α → List Value} {xs ys : List α} {x : α} {vs : List Value} (h : Own w e sz v (xs.length + 1) ((xs.map cells).flatten ++ vs)) (hv : vs = cells x) (hy : ys = xs ++ [x]) : Own w e sz v ys.length ((ys.map cells).flatten) := by
  subst hy; subst hv
  simpa using h
theorem Own.same {w : World} {e sz m n : Nat} {v : Value} {us vs : List Value} (h : Own w e sz v n vs) (hm : n = m) (hv : vs = us) : Own w e sz v m us := by
  subst hm; subst hv; exact h
section
variable {α : Type}
theorem filter_take {q : α → Bool} : ∀ {xs : List α} {i : Nat}, (∀ j y, j < i → xs[j]? = some y → q y = true) → (∀ j y, i ≤ j → xs[j]? = some y → q y = false) → xs.filter q = xs.take i
  | [], i, _, _ => by simp
  | x :: xs, 0, h, h' => by
    have := filter_take (xs := xs) (i := 0) (fun j y hj => by omega) (fun j y _ hy => h' (j + 1) y (by omega) (by simpa using hy))
    have hx := h' 0 x (by omega) rfl
    rw [List.filter_cons, hx, this]
    simp
  | x :: xs, i + 1, h, h' => by
    have := filter_take (xs := xs) (i := i) (fun j y hj hy => h (j + 1) y (by omega) (by simpa using hy)) (fun j y hj hy => h' (j + 1) y (by omega) (by simpa using hy))
    have hx := h 0 x (by omega) rfl
    rw [List.filter_cons, hx, this]
    simp
theorem filter_drop {q : α → Bool} : ∀ {xs : List α} {i : Nat}, (∀ j y, j < i → xs[j]? = some y → q y = false) → (∀ j y, i ≤ j → xs[j]? = some y → q y = true) → xs.filter q = xs.drop i
  | [], i, _, _ => by simp
  | x :: xs, 0, h, h' => by
    have := filter_drop (xs := xs) (i := 0) (fun j y hj => by omega) (fun j y _ hy => h' (j + 1) y (by omega) (by simpa using hy))
    have hx := h' 0 x (by omega) rfl
    rw [List.filter_cons, hx, this]
    simp
  | x :: xs, i + 1, h, h' => by
    have := filter_drop (xs := xs) (i := i) (fun j y hj hy => h (j + 1) y (by omega) (by simpa using hy)) (fun j y hj hy => h' (j + 1) y (by omega) (by simpa using hy))
    have hx := h 0 x (by omega) rfl
    rw [List.filter_cons, hx, this]
    simp
end
/-- where a pair is, or would be -/
def posS (xs : List Slot) (p : Pair) : Nat := (xs.filter fun x => plt x.pair p).length
theorem posS_le (xs : List Slot) (p : Pair) : posS xs p ≤ xs.length := List.length_filter_le _ _
theorem posS_eq {xs : List Slot} {p : Pair} {i : Nat} (hi : i ≤ xs.length) (h : ∀ (j : Nat) (y : Slot), j < i → xs[j]? = some y → plt y.pair p = true) (h' : ∀ (j : Nat) (y : Slot), i ≤ j → xs[j]? = some y → plt y.pair p = false) : posS xs p = i := by
  rw [posS, filter_take (i := i) h h', List.length_take]
  omega
theorem asc_pos : ∀ {xs : List Slot} {p : Pair}, asc xs = true → (∀ j y, j < posS xs p → xs[j]? = some y → plt y.pair p = true) ∧ (∀ j y, posS xs p ≤ j → xs[j]? = some y → plt y.pair p = false)
  | [], p, _ => by simp
  | x :: xs, p, h => by
    obtain ⟨h1, h2⟩ := asc_pos (p := p) (asc_tail h)
    by_cases hx : plt x.pair p = true
    · have hp : posS (x :: xs) p = posS xs p + 1 := by simp [posS, hx]
      rw [hp]
      refine ⟨fun j y hj hy => ?_, fun j y hj hy => ?_⟩
      · cases j with
        | zero => simp at hy; subst hy; exact hx
        | succ j => exact h1 j y (by omega) (by simpa using hy)
      · cases j with
        | zero => omega
        | succ j => exact h2 j y (by omega) (by simpa using hy)
    · have hall : ∀ (j : Nat) (y : Slot), (x :: xs)[j]? = some y → plt y.pair p = false := fun j y hy => by
        cases hpy : plt y.pair p with
        | false => rfl
        | true =>
          cases j with
          | zero => simp at hy; subst hy; exact absurd hpy hx
          | succ j => exact absurd (plt_trans (asc_lt h (i := 0) rfl hy (by omega)) hpy) hx
      have hp : posS (x :: xs) p = 0 := posS_eq (by omega) (fun j y hj => by omega) (fun j y _ hy => hall j y hy)
      rw [hp]
      exact ⟨fun j y hj => by omega, fun j y _ hy => hall j y hy⟩
/-- it is there -/
theorem asc_there {xs : List Slot} {p : Pair} {y : Slot} (h : asc xs = true) (hy : xs[posS xs p]? = some y) (hp : y.pair = p) : getS xs p = some y.id ∧ ∀ s : Slot, s.pair = p → putS xs s = xs.set (posS xs p) s := by
  obtain ⟨h1, h2⟩ := asc_pos (p := p) h
  have hlt := (List.getElem?_eq_some_iff.1 hy).1
  refine ⟨getS_hit (fun j z hj hz e => ?_) hy hp, fun s hs => ?_⟩
  · have := h1 j z hj hz
    rw [e, plt_irrefl] at this
    cases this
  · rw [putS, hs, filter_take h1 h2, filter_drop (i := posS xs p + 1), List.set_eq_take_append_cons_drop, if_pos hlt]
    · simp
    · intro j z hj hz
      rcases Nat.lt_succ_iff_lt_or_eq.1 hj with hj | hj
      · exact plt_asymm (h1 j z hj hz)
      · subst hj
        rw [hy] at hz
        injection hz with hz
        subst hz
        rw [hp, plt_irrefl]
    · intro j z hj hz
      rw [← hp]
      exact asc_lt h hy hz (by omega)
/-- it isn't -/
theorem asc_gone {xs : List Slot} {p : Pair} (h : asc xs = true) (hn : ∀ y : Slot, xs[posS xs p]? = some y → y.pair ≠ p) : getS xs p = none ∧ ∀ s : Slot, s.pair = p → putS xs s = xs.take (posS xs p) ++ [s] ++ xs.drop (posS xs p) := by
  obtain ⟨h1, h2⟩ := asc_pos (p := p) h
  have h3 : ∀ j z, posS xs p ≤ j → xs[j]? = some z → plt p z.pair = true := fun j z hj hz => by
    have hlt := (List.getElem?_eq_some_iff.1 hz).1
    obtain ⟨y, hy⟩ : ∃ y, xs[posS xs p]? = some y := ⟨_, List.getElem?_eq_getElem (by omega)⟩
    have hpy : plt p y.pair = true := by
      rcases plt_total p y.pair with h' | h' | h'
      · exact h'
      · exact absurd h'.symm (hn y hy)
      · rw [h2 _ y (Nat.le_refl _) hy] at h'; cases h'
    rcases Nat.lt_or_ge (posS xs p) j with hj' | hj'
    · exact plt_trans hpy (asc_lt h hy hz hj')
    · have : j = posS xs p := by omega
      subst this
      rw [hy] at hz
      injection hz with hz
      subst hz
      exact hpy
  refine ⟨getS_miss fun j z hz e => ?_, fun s hs => ?_⟩
  · rcases Nat.lt_or_ge j (posS xs p) with hj | hj
    · have := h1 j z hj hz
      rw [e, plt_irrefl] at this
      cases this
    · have := h3 j z hj hz
      rw [e, plt_irrefl] at this
      cases this
  · rw [putS, hs, filter_take h1 h2, filter_drop (fun j z hj hz => plt_asymm (h1 j z hj hz)) h3]
theorem isS {xs : List Slot} {p : Pair} {i : Nat} (h : asc xs = true) (hi : posS xs p = i) {y : Slot} (hy : xs[i]? = some y) : (getS xs p).isSome = decide (pcmp y.pair p = 0) := by
  subst hi
  by_cases hp : y.pair = p
  · rw [(asc_there h hy hp).1, decide_eq_true (pcmp_eq.2 hp)]
    rfl
  · rw [(asc_gone h fun z hz => by rw [hy] at hz; injection hz with hz; subst hz; exact hp).1, decide_eq_false (fun e => hp (pcmp_eq.1 e))]
    rfl
theorem isS_end {xs : List Slot} {p : Pair} (h : asc xs = true) (hi : xs.length ≤ posS xs p) : (getS xs p).isSome = false := by
  rw [(asc_gone h fun z hz => by rw [List.getElem?_eq_none hi] at hz; cases hz).1]
  rfl
theorem isS_some {xs : List Slot} {p : Pair} (h : asc xs = true) (hs : (getS xs p).isSome = true) : ∃ y : Slot, xs[posS xs p]? = some y ∧ y.pair = p ∧ getS xs p = some y.id := by
  rcases Nat.lt_or_ge (posS xs p) xs.length with hlt | hge
  · obtain ⟨y, hy⟩ : ∃ y, xs[posS xs p]? = some y := ⟨_, List.getElem?_eq_getElem hlt⟩
    rw [isS h rfl hy] at hs
    have hp := pcmp_eq.1 (of_decide_eq_true hs)
    exact ⟨y, hy, hp, (asc_there h hy hp).1⟩
  · rw [isS_end h hge] at hs; cases hs
theorem isS_none {xs : List Slot} {p : Pair} (h : asc xs = true) (hs : (getS xs p).isSome = false) : ∀ y : Slot, xs[posS xs p]? = some y → y.pair ≠ p := fun y hy hp => by
  rw [(asc_there h hy hp).1] at hs; cases hs
/-- what a slot weighs -/
def wt (x : Slot) : Nat := 1 + x.ty.length + x.key.length + x.id.length
def sumT (xs : List Slot) (k : Nat) : Nat := ((xs.take k).map wt).sum
theorem sumT_succ {xs : List Slot} {k : Nat} {x : Slot} (h : xs[k]? = some x) : sumT xs (k + 1) = sumT xs k + (1 + x.ty.length + x.key.length + x.id.length) := by
  have hlt := (List.getElem?_eq_some_iff.1 h).1
  rw [sumT, sumT, List.take_succ_eq_append_getElem hlt, (List.getElem?_eq_some_iff.1 h).2]
  simp [wt]
theorem sum_ge {xs : List Slot} : xs.length ≤ (xs.map wt).sum := by
  induction xs with
  | nil => simp
  | cons x xs ih => simp only [List.map_cons, List.sum_cons, List.length_cons, wt]; omega
theorem sumT_mono {xs : List Slot} {k : Nat} : sumT xs k ≤ (xs.map wt).sum := by
  conv => rhs; rw [← List.take_append_drop k xs, List.map_append, List.sum_append]
  unfold sumT
  omega
theorem sumT_all {xs : List Slot} {k : Nat} (h : xs.length ≤ k) : sumT xs k = (xs.map wt).sum := by
  rw [sumT, List.take_of_length_le h]
/-- a slot's texts take what the machine can bear -/
def Slot.small (x : Slot) : Prop := x.ty.length ≤ 140737488355328 ∧ x.key.length ≤ 140737488355328 ∧ x.id.length ≤ 140737488355328
theorem Own.fresh_ne {w0 w : World} {v : Value} {g : Nat} (h : ∀ x ∈ ob v, w0.heap.size ≤ x) (hg : g < w0.heap.size) : ∀ x ∈ ob v, x ≠ g := fun x hx e => by have := h x hx; omega
theorem flat_set {xs : List Slot} {i : Nat} {s : Slot} (hi : i < xs.length) : ((xs.map Slot.cells).flatten).take (i * 3) ++ s.cells ++ ((xs.map Slot.cells).flatten).drop ((i + 1) * 3) = ((xs.set i s).map Slot.cells).flatten := by
  have hlen3 : ∀ x : Slot, (Slot.cells x).length = 3 := fun _ => rfl
  rw [flat_take_ hlen3, flat_drop_ hlen3, List.set_eq_take_append_cons_drop, if_pos hi]
  simp
theorem slots_one {xs : List Slot} : ∀ x ∈ xs, ∀ c ∈ Slot.cells x, c.oneCell' = true := by
  intro x _ c hc
  simp at hc
  rcases hc with rfl | rfl | rfl <;> rfl
theorem Own.slots {w : World} {e : Nat} {v : Value} {xs : List Slot} (A : List Nat) (h : Own w e 3 v xs.length ((xs.map Slot.cells).flatten)) (hA : ∀ x ∈ ob v, x ∉ A) : Rep A w (slotsD xs) v := Own.flat h (fun _ _ => rfl) slots_one rfl hA
theorem Rep.nilf (A : List Nat) (w : World) {α : Type} {sz : Nat} {cells : α → List Value} : Rep A w (flat sz cells []) (.slice none 0 0) := by
  simp only [flat, Rep, List.map_nil]
  exact ⟨none, 0, rfl, by simp, by simp, by simp⟩
end Go.Proofs.Ythmohmpalbnjoaa.V

set_option linter.unusedVariables false
set_option linter.unusedSimpArgs false
namespace Go.Proofs.Ythmohmpalbnjoaa.V
open Go
inductive JV where
  | mk (k : Int) (b : Bool) (n : Int) (s : List UInt8) (l : List JV) (m : List (List UInt8 × JV))
namespace JV
def kind : JV → Int | .mk k _ _ _ _ _ => k
def is : JV → Bool | .mk _ b _ _ _ _ => b
def num : JV → Int | .mk _ _ n _ _ _ => n
def str : JV → List UInt8 | .mk _ _ _ s _ _ => s
def list : JV → List JV | .mk _ _ _ _ l _ => l
def map : JV → List (List UInt8 × JV) | .mk _ _ _ _ _ m => m
theorem eta (v : JV) : v = .mk v.kind v.is v.num v.str v.list v.map := by cases v; rfl
mutual
def D : JV → List Go.Proofs.Ythmohmpalbnjoaa.V.D
  | .mk k b n s l m => [.v (.int .i64 k), .v (.bool b), .v (.int .i64 n), .v (S s), .sl 6 (Dl l), .sl 7 (Dm m)]
def Dl : List JV → List (List Go.Proofs.Ythmohmpalbnjoaa.V.D)
  | [] => []
  | v :: r => v.D :: Dl r
def Dm : List (List UInt8 × JV) → List (List Go.Proofs.Ythmohmpalbnjoaa.V.D)
  | [] => []
  | p :: r => (.v (S p.1) :: p.2.D) :: Dm r
end
abbrev Dp (p : List UInt8 × JV) : List Go.Proofs.Ythmohmpalbnjoaa.V.D := .v (S p.1) :: p.2.D
theorem Dl_eq : ∀ l : List JV, Dl l = l.map D
  | [] => rfl
  | v :: r => by simp [Dl, Dl_eq r]
theorem Dm_eq : ∀ m : List (List UInt8 × JV), Dm m = m.map Dp
  | [] => rfl
  | v :: r => by simp [Dm, Dm_eq r]
theorem D_eq (v : JV) : v.D = [.v (.int .i64 v.kind), .v (.bool v.is), .v (.int .i64 v.num), .v (S v.str), .sl 6 (v.list.map D), .sl 7 (v.map.map Dp)] := by
  cases v
  simp [D, kind, is, num, str, list, map, Dl_eq, Dm_eq]
theorem D_len (v : JV) : v.D.length = 6 := by rw [D_eq]; rfl
theorem Dp_len (p : List UInt8 × JV) : (Dp p).length = 7 := by simp [D_len]
mutual
/-- how many values stand in it -/
def sz : JV → Nat
  | .mk _ _ _ _ l m => 1 + szl l + szm m
def szl : List JV → Nat
  | [] => 0
  | v :: r => v.sz + szl r
def szm : List (List UInt8 × JV) → Nat
  | [] => 0
  | p :: r => p.2.sz + szm r
end
theorem sz_list {l : List JV} {v : JV} (h : v ∈ l) : v.sz ≤ szl l := by
  induction l with
  | nil => cases h
  | cons a r ih =>
    simp only [szl]
    rcases List.mem_cons.1 h with rfl | h
    · omega
    · have := ih h; omega
theorem sz_map {l : List (List UInt8 × JV)} {p : List UInt8 × JV} (h : p ∈ l) : p.2.sz ≤ szm l := by
  induction l with
  | nil => cases h
  | cons a r ih =>
    simp only [szm]
    rcases List.mem_cons.1 h with rfl | h
    · omega
    · have := ih h; omega
theorem sz_eq (v : JV) : v.sz = 1 + szl v.list + szm v.map := by cases v; simp [sz, list, map]
theorem sz_in_list {v x : JV} (h : x ∈ v.list) : x.sz < v.sz := by have := sz_list h; rw [sz_eq v]; omega
theorem sz_in_map {v : JV} {p : List UInt8 × JV} (h : p ∈ v.map) : p.2.sz < v.sz := by have := sz_map h; rw [sz_eq v]; omega
mutual
/-- all lists and texts in it are no longer than memory -/
def ok : JV → Prop
  | .mk k b n s l m => s.length ≤ 140737488351232 ∧ l.length ≤ 1599289640400 ∧ m.length ≤ 1353245080300 ∧ okl l ∧ okm m
def okl : List JV → Prop
  | [] => True
  | v :: r => v.ok ∧ okl r
def okm : List (List UInt8 × JV) → Prop
  | [] => True
  | p :: r => (p.1.length ≤ 140737488351232 ∧ p.2.ok) ∧ okm r
end
theorem okl_mem : ∀ {l : List JV}, okl l ↔ ∀ v ∈ l, v.ok
  | [] => by simp [okl]
  | v :: r => by simp [okl, okl_mem (l := r)]
theorem okm_mem : ∀ {l : List (List UInt8 × JV)}, okm l ↔ ∀ p ∈ l, p.1.length ≤ 140737488351232 ∧ p.2.ok
  | [] => by simp [okm]
  | v :: r => by simp [okm, okm_mem (l := r)]
theorem ok_eq (v : JV) : v.ok ↔ v.str.length ≤ 140737488351232 ∧ v.list.length ≤ 1599289640400 ∧ v.map.length ≤ 1353245080300 ∧ (∀ x ∈ v.list, x.ok) ∧ ∀ p ∈ v.map, p.1.length ≤ 140737488351232 ∧ p.2.ok := by
  cases v
  simp [ok, str, list, map, okl_mem, okm_mem]
end JV
end Go.Proofs.Ythmohmpalbnjoaa.V

set_option linter.unusedVariables false
set_option linter.unusedSimpArgs false
namespace Go.Proofs.Ythmohmpalbnjoaa.V
open Go
theorem cmp_scmp : ∀ a b : Str, Lib.compareBytes a b = scmp a b
  | [], [] => rfl
  | [], _ :: _ => by simp [Lib.compareBytes, scmp, bl, Op.bytesLess]
  | _ :: _, [] => by simp [Lib.compareBytes, scmp, bl, Op.bytesLess]
  | x :: a, y :: b => by
    have ih := cmp_scmp a b
    simp only [Lib.compareBytes]
    unfold scmp at ih ⊢
    by_cases h : x < y
    · simp [h, bl, Op.bytesLess]
    · by_cases h' : y < x
      · have hne : x ≠ y := fun e => by subst e; exact h h'
        simp [h, h', bl, Op.bytesLess, hne]
      · have hxy : x = y := UInt8.le_antisymm (UInt8.not_lt.1 h') (UInt8.not_lt.1 h)
        subst hxy
        simp [bl, Op.bytesLess]
        rw [ih]
section
variable {β : Type}
def ascM (m : List (Str × β)) : Prop := m.Pairwise fun a b => bl a.1 b.1 = true
def look : List (Str × β) → Str → Option β
  | [], _ => none
  | p :: r, k => if p.1 = k then some p.2 else look r k
def posM (m : List (Str × β)) (k : Str) : Nat := (m.filter fun p => bl p.1 k).length
def putM (m : List (Str × β)) (k : Str) (x : β) : List (Str × β) := m.filter (fun p => bl p.1 k) ++ [(k, x)] ++ m.filter (fun p => bl k p.1)
variable {m m' : List (Str × β)} {k : Str} {x : β}
theorem posM_le : posM m k ≤ m.length := List.length_filter_le _ _
theorem posM_eq {i : Nat} (hi : i ≤ m.length) (h : ∀ (j : Nat) (y : Str × β), j < i → m[j]? = some y → bl y.1 k = true) (h' : ∀ (j : Nat) (y : Str × β), i ≤ j → m[j]? = some y → bl y.1 k = false) : posM m k = i := by
  rw [posM, filter_take (i := i) h h', List.length_take]
  omega
theorem ascM_lt {i j : Nat} {a b : Str × β} (h : ascM m) (ha : m[i]? = some a) (hb : m[j]? = some b) (hij : i < j) : bl a.1 b.1 = true := by
  obtain ⟨h1, rfl⟩ := List.getElem?_eq_some_iff.1 ha
  obtain ⟨h2, rfl⟩ := List.getElem?_eq_some_iff.1 hb
  exact List.pairwise_iff_getElem.1 h i j h1 h2 hij
theorem ascM_of (h : ∀ (i : Nat) (a b : Str × β), m[i]? = some a → m[i + 1]? = some b → bl a.1 b.1 = true) : ascM m := by
  induction m with
  | nil => exact List.Pairwise.nil
  | cons p r ih =>
    have ih := ih fun i a b ha hb => h (i + 1) a b (by simpa using ha) (by simpa using hb)
    refine List.Pairwise.cons (fun q hq => ?_) ih
    cases r with
    | nil => cases hq
    | cons q0 r =>
      have h0 := h 0 p q0 rfl rfl
      rcases List.mem_cons.1 hq with rfl | hq
      · exact h0
      · exact bl_trans h0 (List.rel_of_pairwise_cons ih hq)
theorem look_none_of (h : ∀ (j : Nat) (y : Str × β), m[j]? = some y → y.1 ≠ k) : look m k = none := by
  induction m with
  | nil => rfl
  | cons p r ih =>
    rw [look, if_neg (h 0 p rfl)]
    exact ih fun j y hy => h (j + 1) y (by simpa using hy)
theorem look_hit {i : Nat} {y : Str × β} (h : ∀ (j : Nat) (z : Str × β), j < i → m[j]? = some z → z.1 ≠ k) (hy : m[i]? = some y) (hk : y.1 = k) : look m k = some y.2 := by
  induction m generalizing i with
  | nil => simp at hy
  | cons p r ih =>
    cases i with
    | zero => simp at hy; subst hy; rw [look, if_pos hk]
    | succ i =>
      rw [look, if_neg (h 0 p (by omega) rfl)]
      exact ih (i := i) (fun j z hj hz => h (j + 1) z (by omega) (by simpa using hz)) (by simpa using hy)
theorem asc_posM (h : ascM m) : (∀ j y, j < posM m k → m[j]? = some y → bl y.1 k = true) ∧ (∀ j y, posM m k ≤ j → m[j]? = some y → bl y.1 k = false) := by
  induction m with
  | nil => simp
  | cons p r ih =>
    obtain ⟨h1, h2⟩ := ih (List.Pairwise.of_cons h)
    by_cases hx : bl p.1 k = true
    · have hp : posM (p :: r) k = posM r k + 1 := by simp [posM, hx]
      rw [hp]
      refine ⟨fun j y hj hy => ?_, fun j y hj hy => ?_⟩
      · cases j with
        | zero => simp at hy; subst hy; exact hx
        | succ j => exact h1 j y (by omega) (by simpa using hy)
      · cases j with
        | zero => omega
        | succ j => exact h2 j y (by omega) (by simpa using hy)
    · have hall : ∀ (j : Nat) (y : Str × β), (p :: r)[j]? = some y → bl y.1 k = false := fun j y hy => by
        cases hpy : bl y.1 k with
        | false => rfl
        | true =>
          cases j with
          | zero => simp at hy; subst hy; exact absurd hpy hx
          | succ j => exact absurd (bl_trans (ascM_lt h (i := 0) rfl hy (by omega)) hpy) hx
      have hp : posM (p :: r) k = 0 := posM_eq (by omega) (fun j y hj => by omega) (fun j y _ hy => hall j y hy)
      rw [hp]
      exact ⟨fun j y hj => by omega, fun j y _ hy => hall j y hy⟩
theorem thereM {y : Str × β} (h : ascM m) (hy : m[posM m k]? = some y) (hp : y.1 = k) : look m k = some y.2 ∧ ∀ x, putM m k x = m.set (posM m k) (k, x) := by
  obtain ⟨h1, h2⟩ := asc_posM (k := k) h
  have hlt := (List.getElem?_eq_some_iff.1 hy).1
  refine ⟨look_hit (fun j z hj hz e => ?_) hy hp, fun x => ?_⟩
  · have := h1 j z hj hz
    rw [e, bl_irrefl] at this
    cases this
  · rw [putM, filter_take h1 h2, filter_drop (i := posM m k + 1), List.set_eq_take_append_cons_drop, if_pos hlt]
    · simp
    · intro j z hj hz
      rcases Nat.lt_succ_iff_lt_or_eq.1 hj with hj | hj
      · exact bl_asymm (h1 j z hj hz)
      · subst hj
        rw [hy] at hz
        injection hz with hz
        subst hz
        rw [hp, bl_irrefl]
    · intro j z hj hz
      rw [← hp]
      exact ascM_lt h hy hz (by omega)
theorem goneM (h : ascM m) (hn : ∀ y : Str × β, m[posM m k]? = some y → y.1 ≠ k) : look m k = none ∧ ∀ x, putM m k x = m.take (posM m k) ++ [(k, x)] ++ m.drop (posM m k) := by
  obtain ⟨h1, h2⟩ := asc_posM (k := k) h
  have h3 : ∀ j z, posM m k ≤ j → m[j]? = some z → bl k z.1 = true := fun j z hj hz => by
    have hlt := (List.getElem?_eq_some_iff.1 hz).1
    obtain ⟨y, hy⟩ : ∃ y, m[posM m k]? = some y := ⟨_, List.getElem?_eq_getElem (by omega)⟩
    have hpy : bl k y.1 = true := by
      rcases bl_total k y.1 with h' | h' | h'
      · exact h'
      · exact absurd h'.symm (hn y hy)
      · rw [h2 _ y (Nat.le_refl _) hy] at h'; cases h'
    rcases Nat.lt_or_ge (posM m k) j with hj' | hj'
    · exact bl_trans hpy (ascM_lt h hy hz hj')
    · have : j = posM m k := by omega
      subst this
      rw [hy] at hz
      injection hz with hz
      subst hz
      exact hpy
  refine ⟨look_none_of fun j z hz e => ?_, fun x => ?_⟩
  · rcases Nat.lt_or_ge j (posM m k) with hj | hj
    · have := h1 j z hj hz
      rw [e, bl_irrefl] at this
      cases this
    · have := h3 j z hj hz
      rw [e, bl_irrefl] at this
      cases this
  · rw [putM, filter_take h1 h2, filter_drop (fun j z hj hz => bl_asymm (h1 j z hj hz)) h3]
theorem isM {i : Nat} (h : ascM m) (hi : posM m k = i) {y : Str × β} (hy : m[i]? = some y) : (look m k).isSome = decide (scmp y.1 k = 0) := by
  subst hi
  by_cases hp : y.1 = k
  · rw [(thereM h hy hp).1, decide_eq_true (scmp_eq.2 hp)]
    rfl
  · rw [(goneM h fun z hz => by rw [hy] at hz; injection hz with hz; subst hz; exact hp).1, decide_eq_false (fun e => hp (scmp_eq.1 e))]
    rfl
theorem isM_end (h : ascM m) (hi : m.length ≤ posM m k) : (look m k).isSome = false := by
  rw [(goneM h fun z hz => by rw [List.getElem?_eq_none hi] at hz; cases hz).1]
  rfl
theorem isM_some (h : ascM m) (hs : (look m k).isSome = true) : ∃ y : Str × β, m[posM m k]? = some y ∧ y.1 = k ∧ look m k = some y.2 := by
  rcases Nat.lt_or_ge (posM m k) m.length with hlt | hge
  · obtain ⟨y, hy⟩ : ∃ y, m[posM m k]? = some y := ⟨_, List.getElem?_eq_getElem hlt⟩
    rw [isM h rfl hy] at hs
    have hp := scmp_eq.1 (of_decide_eq_true hs)
    exact ⟨y, hy, hp, (thereM h hy hp).1⟩
  · rw [isM_end h hge] at hs; cases hs
theorem isM_none (h : ascM m) (hs : (look m k).isSome = false) : ∀ y : Str × β, m[posM m k]? = some y → y.1 ≠ k := fun y hy hp => by
  rw [(thereM h hy hp).1] at hs; cases hs
theorem look_some : ∀ {m : List (Str × β)} {x : β}, look m k = some x → (k, x) ∈ m
  | p :: r, x, h => by
    rw [look] at h
    by_cases hp : p.1 = k
    · rw [if_pos hp] at h
      injection h with h
      subst hp; subst h
      exact List.mem_cons_self ..
    · rw [if_neg hp] at h
      exact List.mem_cons_of_mem _ (look_some h)
theorem look_mem : ∀ {m : List (Str × β)} {p : Str × β}, ascM m → p ∈ m → look m p.1 = some p.2
  | q :: r, p, h, hp => by
    rcases List.mem_cons.1 hp with rfl | hp
    · rw [look, if_pos rfl]
    · have := List.rel_of_pairwise_cons h hp
      rw [look, if_neg (fun e => by rw [e, bl_irrefl] at this; cases this)]
      exact look_mem (List.Pairwise.of_cons h) hp
theorem look_none : ∀ {m : List (Str × β)}, look m k = none → ∀ p ∈ m, p.1 ≠ k
  | q :: r, h, p, hp => by
    rw [look] at h
    by_cases hq : q.1 = k
    · rw [if_pos hq] at h; cases h
    · rw [if_neg hq] at h
      rcases List.mem_cons.1 hp with rfl | hp
      · exact hq
      · exact look_none h p hp
/-- two rising lists of the same members are the same -/
theorem ascM_ext : ∀ {m m' : List (Str × β)}, ascM m → ascM m' → (∀ k, look m k = look m' k) → m = m'
  | [], [], _, _, _ => rfl
  | [], p :: r, _, h', e => by have := e p.1; rw [look_mem h' (List.mem_cons_self ..)] at this; cases this
  | p :: r, [], h, _, e => by have := e p.1; rw [look_mem h (List.mem_cons_self ..)] at this; cases this
  | p :: r, p' :: r', h, h', e => by
    have h1 := look_some ((e p.1).symm.trans (look_mem h (List.mem_cons_self ..)))
    have h2 := look_some ((e p'.1).trans (look_mem h' (List.mem_cons_self ..)))
    have hk : p.1 = p'.1 := by
      rcases List.mem_cons.1 h1 with h3 | h3
      · rw [← h3]
      · rcases List.mem_cons.1 h2 with h4 | h4
        · rw [← h4]
        · have a := List.rel_of_pairwise_cons h' h3
          have b := List.rel_of_pairwise_cons h h4
          have := bl_trans a b
          rw [bl_irrefl] at this
          cases this
    have hpe : p = p' := by
      have e0 := e p.1
      rw [look, if_pos rfl, look, if_pos hk.symm] at e0
      injection e0 with e0
      exact Prod.ext hk e0
    subst hpe
    congr 1
    refine ascM_ext (List.Pairwise.of_cons h) (List.Pairwise.of_cons h') fun k => ?_
    by_cases hkk : p.1 = k
    · subst hkk
      have n1 : ∀ {r : List (Str × β)}, ascM (p :: r) → look r p.1 = none := fun hr => look_none_of fun j y hy e => by
        have := List.rel_of_pairwise_cons hr (List.mem_of_getElem? hy)
        rw [e, bl_irrefl] at this
        cases this
      rw [n1 h, n1 h']
    · have e0 := e k
      rwa [look, if_neg hkk, look, if_neg hkk] at e0
theorem ascM_filter {q : Str × β → Bool} (h : ascM m) : ascM (m.filter q) := List.Pairwise.filter q h
theorem ascM_put (h : ascM m) : ascM (putM m k x) := by
  unfold putM ascM
  rw [List.append_assoc, List.pairwise_append]
  refine ⟨ascM_filter h, ?_, ?_⟩
  · rw [List.pairwise_append]
    refine ⟨by simp, ascM_filter h, ?_⟩
    intro a ha b hb
    simp at ha
    subst ha
    simpa using (List.mem_filter.1 hb).2
  · intro a ha b hb
    have h1 : bl a.1 k = true := by simpa using (List.mem_filter.1 ha).2
    rcases List.mem_append.1 hb with hb | hb
    · simp at hb; subst hb; exact h1
    · exact bl_trans h1 (by simpa using (List.mem_filter.1 hb).2)
theorem look_append : ∀ {a b : List (Str × β)}, look (a ++ b) k = (look a k).or (look b k)
  | [], b => by simp [look]
  | p :: r, b => by
    simp only [List.cons_append, look]
    by_cases hp : p.1 = k
    · simp [hp]
    · simp [hp, look_append (a := r) (b := b)]
theorem look_filter {q : Str × β → Bool} {b : Bool} (hq : ∀ p ∈ m, p.1 = k → q p = b) : look (m.filter q) k = if b then look m k else none := by
  induction m with
  | nil => simp [look]
  | cons p r ih =>
    have ih := ih fun p' hp' => hq p' (List.mem_cons_of_mem _ hp')
    have hp := hq p (List.mem_cons_self ..)
    by_cases hk : p.1 = k
    · have := hp hk
      cases b
      · rw [List.filter_cons_of_neg (by simp [this]), ih]; rfl
      · rw [List.filter_cons_of_pos this, look, if_pos hk, if_pos rfl, look, if_pos hk]
    · by_cases hqp : q p = true
      · rw [List.filter_cons_of_pos hqp, look, if_neg hk, ih, look, if_neg hk]
      · rw [List.filter_cons_of_neg hqp, ih, look, if_neg hk]
theorem look_put {k' : Str} : look (putM m k x) k' = if k' = k then some x else look m k' := by
  unfold putM
  rw [look_append, look_append]
  by_cases h : k' = k
  · subst h
    rw [look_filter (b := false) (fun p _ e => by rw [e, bl_irrefl])]
    simp [look]
  · rw [if_neg h]
    have h1 : look [(k, x)] k' = none := by simp [look, Ne.symm h]
    rw [h1, Option.or_none]
    rcases bl_total k' k with h2 | h2 | h2
    · rw [look_filter (b := true) (fun p _ e => by rw [e]; exact h2), look_filter (b := false) (fun p _ e => by rw [e]; exact bl_asymm h2)]
      simp
    · exact absurd h2 h
    · rw [look_filter (b := false) (fun p _ e => by rw [e]; exact bl_asymm h2), look_filter (b := true) (fun p _ e => by rw [e]; exact h2)]
      simp
end
end Go.Proofs.Ythmohmpalbnjoaa.V
