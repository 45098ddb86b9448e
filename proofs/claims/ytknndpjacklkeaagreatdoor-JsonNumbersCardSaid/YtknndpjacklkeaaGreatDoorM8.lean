/-
  A part of the proof: maps with texts as keys: what a block that is one holds, and the operations on it; a map made, written, counted; its entries one by one; a reader in memory: its place, its stack of lists and maps under way; a reader in memory: a map's frame on top; a frame more; a number's text, read. No condition of its own.
-/
import Derived.Test.YtknndpjacklkeaaGreatDoorM7
import Derived.Test.YtknndpjacklkeaaGreatDoorM3
import Derived.Maps.RangeRun
import Derived.Test.YtknndpjacklkeaaGreatDoorM4
import Derived.Lib.AtoiAll
set_option linter.unusedVariables false
set_option linter.unusedSimpArgs false
namespace Go.Proofs.YtknndpjacklkeaaGreatDoor.V
open Go
def ents (es : Array MapEntry) : List (Value × Value) := es.toList.map fun e => (e.key, e.val)
def rows (m : List (Str × Value)) : List (Value × Value) := m.map fun p => (S p.1, p.2)
structure MapB (w : World) (b : Nat) (m : List (Str × Value)) : Prop where
 at_ : ∃ es clock, w.heap[b]? = some (.map es clock) ∧ ents es = rows m ∧ (∀ e ∈ es.toList, e.born < clock) ∧ (es.toList.map (·.born)).Nodup
 keys : (m.map (·.1)).Nodup
variable {P : Program} {w w' : World} {b : Nat} {m : List (Str × Value)} {k : Str} {M : List Nat}
theorem MapB.lt (h : MapB w b m) : b < w.heap.size := by
 obtain ⟨es, c, h1, _⟩ := h.at_
 exact (Array.getElem?_eq_some_iff.1 h1).1
theorem MapB.mod (h : MapB w b m) (k : Mod M w w') (hb : b ∉ M) : MapB w' b m := by
 have hlt := h.lt
 obtain ⟨es, c, h1, h2⟩ := h.at_
 exact ⟨⟨es, c, (k.block b hlt hb).trans h1, h2⟩, h.keys⟩
theorem MapB.mod0 (h : MapB w b m) (k : Mod [] w w') : MapB w' b m := h.mod k (by simp)
theorem ba_beq (k l : Str) : ((⟨⟨k⟩⟩ : ByteArray) == ⟨⟨l⟩⟩) = decide (k = l) := by
 by_cases h : k = l
 ·subst h
  rw [decide_eq_true rfl]
  exact (MapKept.bytes_beq _ _).2 rfl
 ·rw [decide_eq_false h]
  cases hb : ((⟨⟨k⟩⟩ : ByteArray) == ⟨⟨l⟩⟩) with
  | false => rfl
  | true =>
   have := (MapKept.bytes_beq _ _).1 hb
   injection this with this
   injection this with this
   exact absurd this h
theorem sameNow_S (k l : Str) : Instr.sameNow .string (S k) (S l) = some (decide (k = l)) := by
 unfold S
 simp only [Instr.sameNow, ba_beq]
theorem findNow_rows {l : List MapEntry} {m : List (Str × Value)} (h : l.map (fun e => (e.key, e.val)) = rows m) (k : Str) (i : Nat) :
  ∃ j, Instr.findNow .string (S k) l i = some ((look m k).map fun v => (j, v)) ∧ (∀ v, look m k = some v → i ≤ j ∧ ∃ p, m[j - i]? = some p ∧ p.1 = k ∧ p.2 = v ∧ ∀ q, q < j - i → ∀ p', m[q]? = some p' → p'.1 ≠ k) := by
 induction l generalizing m i with
 | nil =>
  cases m with
  | nil => exact ⟨0, rfl, fun v hv => by simp [look] at hv⟩
  | cons p r => simp [rows] at h
 | cons e r ih =>
  cases m with
  | nil => simp [rows] at h
  | cons p s =>
   simp only [rows, List.map_cons, List.cons.injEq, Prod.mk.injEq] at h
   obtain ⟨⟨h1, h2⟩, h3⟩ := h
   rw [Instr.findNow, h1]
   by_cases hp : p.1 = k
   ·refine ⟨i, ?_, fun v hv => ?_⟩
    ·have : Instr.sameNow .string (S k) (S p.1) = some true := by rw [sameNow_S, decide_eq_true hp.symm]
     rw [this]
     simp only [look, if_pos hp, Option.map_some]
     rw [h2]
    ·simp only [look, if_pos hp, Option.some.injEq] at hv
     exact ⟨Nat.le_refl _, p, by simp, hp, hv, fun q hq => by omega⟩
   ·have : Instr.sameNow .string (S k) (S p.1) = some false := by rw [sameNow_S, decide_eq_false (fun e => hp e.symm)]
    rw [this]
    obtain ⟨j, h4, h5⟩ := ih (m := s) (by simpa [rows] using h3) (i + 1)
    refine ⟨j, ?_, fun v hv => ?_⟩
    ·simp only [h4, look, if_neg hp]
    ·simp only [look, if_neg hp] at hv
     obtain ⟨h6, p', h7, h8, h9, h10⟩ := h5 v hv
     refine ⟨by omega, p', ?_, h8, h9, fun q hq p2 hp2 => ?_⟩
     ·rw [show j - i = (j - (i + 1)) + 1 by omega]
      simpa using h7
     ·cases q with
      | zero => simp at hp2; subst hp2; exact hp
      | succ q => exact h10 q (by omega) p2 (by simpa using hp2)
section
variable {ops : Array Oper} {Q : Exit → Act → World → Prop} {n : Nat} {ds : List Deferred} {l : List (Nat × Value)} {rest : List Oper} {d : Nat} {ty : TypeId} {pos : String} {af : Array Edge} {dd : Option Nat} {gg : Option (Nat × Bool)} {x y : Operand} {t kt et : TypeId} {z v : Value}
def MapV (w : World) (u : Value) (m : List (Str × Value)) : Prop := (u = .map none ∧ m = []) ∨ ∃ b, u = .map (some b) ∧ MapB w b m
theorem run_check (hk : P.underlying kt = some .string) (e : Bool) (k : Str) : (Instr.checkKey e 10000 kt (S k)).run P w = .ok () w := by
 unfold Instr.checkKey
 simp [underlying, hk, S]
theorem run_findKey (hk : P.underlying kt = some .string) {l : List MapEntry} {m : List (Str × Value)} (h : l.map (fun e => (e.key, e.val)) = rows m) (k : Str) :
  ∃ j, (Instr.findKey kt (S k) l).run P w = .ok ((look m k).map fun v => (j, v)) w ∧ (∀ v, look m k = some v → ∃ p, m[j]? = some p ∧ p.1 = k ∧ p.2 = v ∧ ∀ q, q < j → ∀ p', m[q]? = some p' → p'.1 ≠ k) := by
 obtain ⟨j, h1, h2⟩ := findNow_rows h k 0
 refine ⟨j, ?_, fun v hv => ?_⟩
 ·unfold Instr.findKey
  simp [underlying, hk, h1]
 ·obtain ⟨_, p, h3, h4, h5, h6⟩ := h2 v hv
  exact ⟨p, h3, h4, h5, h6⟩
theorem run_zero (hz : (P.info? et).bind (·.zero) = some z) (w : World) : (zeroValue et).run P w = .ok z w := by
 obtain ⟨i, h2, h3⟩ := Option.bind_eq_some_iff.1 hz
 simp [zeroValue, typeInfo, h2, h3]
theorem o_lk (ht : P.underlying t = some (.map kt et)) (hk : P.underlying kt = some .string) (hz0 : (P.info? et).bind (·.zero) = some z) (hx : evO l x = some v) (hm : MapV w v m) (hy : evO l y = some (S k)) :
  Runs P l ⟨dd, .lookup t x y false, ty, pos, af, gg⟩ w ((look m k).getD z) w := fun ρ h => by
 have hz := run_zero hz0
 rcases hm with ⟨rfl, rfl⟩ | ⟨b, rfl, hm⟩
 ·simp [execOp, h _ _ hx, h _ _ hy, Instr.lookup, underlying, ht, run_check hk, Instr.findKey, hk, Instr.findNow, hz, look]
 ·obtain ⟨es, c, h1, h2, _⟩ := hm.at_
  obtain ⟨j, h3, h4⟩ := run_findKey (P := P) (w := w) hk h2 k
  cases hl : look m k with
  | none => simp [execOp, h _ _ hx, h _ _ hy, Instr.lookup, underlying, ht, getObj, Sem.run, Result.andThen, h1, run_check hk, h3, hl, hz]
  | some u => simp [execOp, h _ _ hx, h _ _ hy, Instr.lookup, underlying, ht, getObj, Sem.run, Result.andThen, h1, run_check hk, h3, hl]
def setM {β : Type} (m : List (Str × β)) (k : Str) (v : β) : List (Str × β) := if (look m k).isSome then m.map (fun p => if p.1 = k then (p.1, v) else p) else m ++ [(k, v)]
theorem setM_keys {β : Type} {m : List (Str × β)} {k : Str} {v : β} (h : (m.map (·.1)).Nodup) : ((setM m k v).map (·.1)).Nodup := by
 unfold setM
 split
 ·have : (m.map fun p => if p.1 = k then (p.1, v) else p).map (·.1) = m.map (·.1) := by
   rw [List.map_map]
   apply List.map_congr_left
   intro p _
   simp only [Function.comp]
   split <;> rfl
  rw [this]
  exact h
 ·rename_i hn
  rw [List.map_append, List.nodup_append]
  refine ⟨h, by simp, fun a ha b hb => ?_⟩
  simp only [List.map_cons, List.map_nil, List.mem_singleton] at hb
  subst hb
  intro e
  subst e
  obtain ⟨p, hp, hpk⟩ := List.mem_map.1 ha
  have hl : look m a = none := by simpa using hn
  exact look_none hl p hp hpk
end
end Go.Proofs.YtknndpjacklkeaaGreatDoor.V

set_option linter.unusedVariables false
set_option linter.unusedSimpArgs false
namespace Go.Proofs.YtknndpjacklkeaaGreatDoor.V
open Go
open Go.ChangeMaps (setBlock)
section
variable {P : Program} {w w' : World} {b : Nat} {m : List (Str × Value)} {k : Str} {M : List Nat}
variable {ops : Array Oper} {Q : Exit → Act → World → Prop} {n : Nat} {ds : List Deferred} {l : List (Nat × Value)} {rest : List Oper} {d : Nat} {ty : TypeId} {pos : String} {af : Array Edge} {dd : Option Nat} {gg : Option (Nat × Bool)} {x y z : Operand} {t kt et : TypeId} {v : Value}
theorem MapB.nil (w : World) : MapB (w.alloc (.map #[] 0)) w.heap.size [] :=
 ⟨⟨#[], 0, heap_alloc_new w _, rfl, by simp, by simp⟩, by simp⟩
theorem s_mmap (hd : Nat.blt d n = true) (h : ∀ b w', MapB w' b [] → b = w.heap.size → Mod [] w w' → WL P ops Q rest n ds ((d, .map (some b)) :: l) w') : WL P ops Q (⟨some d, .makeMap t none, ty, pos, af, none⟩ :: rest) n ds l w :=
 sv (v := .map (some w.heap.size)) (w' := w.alloc (.map #[] 0)) (fun ρ hρ => by simp [execOp, Instr.makeMap, newObj, Sem.run, Result.andThen]) hd (h _ _ (MapB.nil w) rfl (Mod.alloc w _))
theorem setBlock_at {o o' : Obj} {g : Nat} (hg : w.heap[g]? = some o) : (setBlock w g o').heap[g]? = some o' := by
 have hlt := (Array.getElem?_eq_some_iff.1 hg).1
 simp [setBlock, Array.getElem?_setIfInBounds, hlt]
theorem setBlock_mod {o o' : Obj} {g : Nat} (hg : w.heap[g]? = some o) : Mod [g] w (setBlock w g o') := by
 refine ⟨rfl, rfl, rfl, by simp [setBlock], fun i hi hn => ?_⟩
 have : i ≠ g := fun e => hn (by simp [e])
 simp [setBlock, Array.getElem?_setIfInBounds, Ne.symm this]
theorem run_set {o' : Obj} {g : Nat} {es : Array MapEntry} {c : Nat} (hg : w.heap[g]? = some (.map es c)) : (setObj g o').run P w = .ok () (setBlock w g o') := by
 simp [setObj, Sem.run, hg, setBlock]
theorem ents_push {es : Array MapEntry} {e : MapEntry} : ents (es.push e) = ents es ++ [(e.key, e.val)] := by simp [ents]
theorem ents_modify {es : Array MapEntry} {j : Nat} {p : Str × Value} (h : ents es = rows m) (hk : (m.map (·.1)).Nodup) (hj : m[j]? = some p) (hp : p.1 = k) : ents (es.modify j fun e => { e with key := S k, val := v }) = rows (m.map fun q => if q.1 = k then (q.1, v) else q) := by
 unfold ents rows at h ⊢
 apply List.ext_getElem?
 intro i
 have hi := congrArg (fun z => z[i]?) h
 simp only [List.getElem?_map] at hi
 simp only [List.getElem?_map, Array.getElem?_toList, Array.getElem?_modify] at hi ⊢
 by_cases hij : j = i
 ·subst hij
  rw [if_pos rfl]
  rw [hj] at hi ⊢
  cases he : es[j]? with
  | none => rw [he] at hi; simp at hi
  | some e => simp [hp]
 ·rw [if_neg hij]
  cases hq : m[i]? with
  | none => rw [hq] at hi; simp at hi ⊢; exact hi
  | some q =>
   rw [hq] at hi
   have hne : ¬ q.1 = k := fun e => by
    have h1 := (List.getElem?_eq_some_iff.1 hj)
    have h2 := (List.getElem?_eq_some_iff.1 hq)
    obtain ⟨h1a, h1b⟩ := h1
    obtain ⟨h2a, h2b⟩ := h2
    have hpw := List.pairwise_iff_getElem.1 hk
    rcases Nat.lt_or_gt_of_ne hij with hlt | hlt
    ·exact hpw j i (by simpa using h1a) (by simpa using h2a) hlt (by simp [h1b, h2b, hp, e])
    ·exact hpw i j (by simpa using h2a) (by simpa using h1a) hlt (by simp [h1b, h2b, hp, e])
   rw [hi]
   simp [hne]
theorem born_modify {es : Array MapEntry} {j : Nat} {f : MapEntry → MapEntry} (hf : ∀ e, (f e).born = e.born) : (es.modify j f).toList.map (·.born) = es.toList.map (·.born) := by
 apply List.ext_getElem?
 intro i
 simp only [List.getElem?_map, Array.getElem?_toList, Array.getElem?_modify]
 split
 ·cases es[i]? <;> simp [hf]
 ·rfl
theorem s_mset (ht : P.underlying t = some (.map kt et)) (hk : P.underlying kt = some .string) (hx : evO l x = some (.map (some b))) (hm : MapB w b m) (hy : evO l y = some (S k)) (hz : evO l z = some v)
  (h : ∀ w', MapB w' b (setM m k v) → Mod [b] w w' → WL P ops Q rest n ds l w') : WL P ops Q (⟨none, .mapUpdate t x y z, ty, pos, af, none⟩ :: rest) n ds l w := by
 obtain ⟨es, c, h1, h2, h3, h4⟩ := hm.at_
 obtain ⟨j, h5, h6⟩ := run_findKey (P := P) (w := w) hk h2 k
 cases hl : look m k with
 | none =>
  rw [hl] at h5
  have hB : MapB (setBlock w b (.map (es.push { key := S k, val := v, born := c }) (c + 1))) b (setM m k v) := by
   refine ⟨⟨_, _, setBlock_at h1, ?_, fun e he => ?_, ?_⟩, setM_keys hm.keys⟩
   ·rw [ents_push, h2]
    unfold setM
    rw [hl]
    simp [rows]
   ·simp only [Array.toList_push, List.mem_append, List.mem_singleton] at he
    rcases he with he | rfl
    ·have := h3 e he; omega
    ·exact Nat.lt_succ_self _
   ·simp only [Array.toList_push, List.map_append, List.map_cons, List.map_nil, List.nodup_append]
    refine ⟨h4, by simp, fun a ha q hq => ?_⟩
    simp only [List.mem_singleton] at hq
    subst hq
    obtain ⟨e, he, rfl⟩ := List.mem_map.1 ha
    have := h3 e he
    omega
  intro a ha
  refine wpList_plain rfl fun K hK => ?_
  have hr : (execOp a.eval ⟨none, .mapUpdate t x y z, ty, pos, af, none⟩).run P w = .ok .skip (setBlock w b (.map (es.push { key := S k, val := v, born := c }) (c + 1))) := by
   simp [execOp, ha.ev hx, ha.ev hy, ha.ev hz, Instr.mapUpdate, underlying, ht, getObj, Sem.run, Result.andThen, h1, run_check hk, h5, run_set h1]
  simp only [Oper.wp, hr, Oper.upon]
  exact hK _ _ (h _ hB (setBlock_mod h1) _ (by simpa [Act.put] using ha))
 | some u =>
  rw [hl] at h5
  obtain ⟨p, h7, h8, h9, h10⟩ := h6 u hl
  have hB : MapB (setBlock w b (.map (es.modify j fun e => { e with key := S k, val := v }) c)) b (setM m k v) := by
   refine ⟨⟨_, _, setBlock_at h1, ?_, fun e he => ?_, ?_⟩, setM_keys hm.keys⟩
   ·rw [ents_modify h2 hm.keys h7 h8]
    unfold setM
    rw [hl]
    rfl
   ·have hb := born_modify (es := es) (j := j) (f := fun e => { e with key := S k, val := v }) (fun _ => rfl)
    have : e.born ∈ es.toList.map (·.born) := by rw [← hb]; exact List.mem_map_of_mem he
    obtain ⟨e', he', hbe⟩ := List.mem_map.1 this
    have := h3 e' he'
    omega
   ·rw [born_modify (f := fun e => { e with key := S k, val := v }) (fun _ => rfl)]
    exact h4
  have hkey : ((es[j]?).map (·.key)).getD (S k) = S k := by
   have hi := congrArg (fun z => z[j]?) h2
   simp only [ents, rows, List.getElem?_map, h7, Array.getElem?_toList] at hi
   cases he : es[j]? with
   | none => rfl
   | some e =>
    rw [he] at hi
    simp only [Option.map_some, Option.some.injEq, Prod.mk.injEq] at hi
    simp [hi.1, h8]
  have hstay : (Instr.keyThatStays (S k) (S k)).run P w = .ok (S k) w := by
   have : Instr.sameBits 10000 (S k) (S k) = true := by
    unfold S
    simp only [Instr.sameBits, ba_beq]
    simp
   simp [Instr.keyThatStays, this]
  intro a ha
  refine wpList_plain rfl fun K hK => ?_
  have hr : (execOp a.eval ⟨none, .mapUpdate t x y z, ty, pos, af, none⟩).run P w = .ok .skip (setBlock w b (.map (es.modify j fun e => { e with key := S k, val := v }) c)) := by
   simp [execOp, ha.ev hx, ha.ev hy, ha.ev hz, Instr.mapUpdate, underlying, ht, getObj, Sem.run, Result.andThen, h1, run_check hk, h5, hkey, hstay, run_set h1]
  simp only [Oper.wp, hr, Oper.upon]
  exact hK _ _ (h _ hB (setBlock_mod h1) _ (by simpa [Act.put] using ha))
end
end Go.Proofs.YtknndpjacklkeaaGreatDoor.V

set_option linter.unusedVariables false
set_option linter.unusedSimpArgs false
namespace Go.Proofs.YtknndpjacklkeaaGreatDoor.V
open Go
structure PT where
 rd : Nat
 any : Nat
 pi : Nat
 pm : Nat
 it : Nat
 mt : Nat
 v : Nat
 mb : Nat
 z : List Nat
def PnP (T : TypeId) (M : List Nat) (w : World) {α : Type} (r : Except Int α) (Q : α → Value → World → Prop) : Ending → World → Prop
 | .returned u, w' => ∃ a, r = .ok a ∧ Q a u w' ∧ Mod M w w'
 | .panicked c, w' => ∃ e, r = .error e ∧ e ≠ 0 ∧ c = pEnt T e ∧ Mod M w w'
 | .outgrown, _ => False
def seenV (K : List Str) : List (Str × Value) := K.map fun k => (k, .bool true)
theorem look_seen (k : Str) : ∀ K : List Str, look (seenV K) k = if k ∈ K then some (.bool true) else none
 | [] => rfl
 | x :: K => by
  show (if x = k then some (Value.bool true) else look (seenV K) k) = _
  rw [look_seen k K]
  by_cases h : x = k
  ·rw [if_pos h, if_pos (by simp [h])]
  ·rw [if_neg h]
   by_cases h2 : k ∈ K
   ·rw [if_pos h2, if_pos (by simp [h2])]
   ·rw [if_neg h2, if_neg (by simp [h2]; exact fun e => h e.symm)]
theorem seen_set {K : List Str} {k : Str} (h : k ∉ K) : setM (seenV K) k (.bool true) = seenV (K ++ [k]) := by
 unfold setM
 rw [look_seen, if_neg h]
 simp [seenV]
theorem look_sort (k : Str) : ∀ acc : List (Str × JV), (look (sortM acc) k).isSome = decide (k ∈ acc.map (·.1)) := by
 intro acc
 rw [← List.reverse_reverse acc]
 generalize acc.reverse = l
 induction l with
 | nil => rfl
 | cons p l ih =>
  rw [List.reverse_cons, sortM_snoc, look_put]
  by_cases h : k = p.1
  ·rw [if_pos h]
   simp [h]
  ·rw [if_neg h, ih]
   rw [Bool.eq_iff_iff, decide_eq_true_eq, decide_eq_true_eq]
   simp only [List.map_append, List.mem_append, List.map_cons, List.map_nil, List.mem_singleton, h, or_false]
structure LF (T : PT) (A : List Nat) (w : World) (g : Nat) (acc : List JV) (wv : Value) : Prop where
 blk : Blk w g T.it [wv]
 own : ∃ vs, Own w T.v 6 wv acc.length vs ∧ Reps A w (acc.map JV.D).flatten vs
 gw : g ∉ ob wv
structure MF (T : PT) (A : List Nat) (w : World) (g b : Nat) (acc : List (Str × JV)) (K : List Str) (t : Str) (wv : Value) : Prop where
 blk : Blk w g T.mt [wv, .map (some b), S t]
 map : MapB w b (seenV K)
 own : ∃ vs, Own w T.mb 7 wv acc.length vs ∧ Reps A w (acc.map JV.Dp).flatten vs
 gb : g ≠ b
 gw : g ∉ ob wv
 bw : b ∉ ob wv
section
variable {T : PT} {A A' M : List Nat} {w0 w w' : World} {g : Nat} {s : Str} {k : Nat}
theorem LF.to {acc : List JV} {wv : Value} (H : LF T A w g acc wv) (h : Mod M w w') (hM : ∀ x ∈ M, x ∈ A) (hm : ∀ x ∈ g :: ob wv, x ∉ M) (hA : ∀ x ∈ A', x ∈ A ∨ w.heap.size ≤ x) : LF T A' w' g acc wv := by
 obtain ⟨vs, h1, h2⟩ := H.own
 exact ⟨H.blk.mod h (hm g (by simp)), ⟨vs, h1.mod h (fun x hx => hm x (by simp [hx])), Reps.to h hM hA _ _ h2⟩, H.gw⟩
theorem MF.to {acc : List (Str × JV)} {K : List Str} {t : Str} {b : Nat} {wv : Value} (H : MF T A w g b acc K t wv) (h : Mod M w w') (hM : ∀ x ∈ M, x ∈ A) (hm : ∀ x ∈ g :: b :: ob wv, x ∉ M) (hA : ∀ x ∈ A', x ∈ A ∨ w.heap.size ≤ x) : MF T A' w' g b acc K t wv := by
 obtain ⟨vs, h1, h2⟩ := H.own
 exact ⟨H.blk.mod h (hm g (by simp)), H.map.mod h (hm b (by simp)), ⟨vs, h1.mod h (fun x hx => hm x (by simp [hx])), Reps.to h hM hA _ _ h2⟩, H.gb, H.gw, H.bw⟩
def FrI (T : PT) (A : List Nat) (w : World) : Fm → Value → List Nat → Prop
 | .L acc, c, m => ∃ g wv, c = .iface T.pi (.pointer (some ⟨g, 0, none⟩)) ∧ LF T A w g acc wv ∧ m = g :: ob wv
 | .M acc t, c, m => ∃ g b wv, c = .iface T.pm (.pointer (some ⟨g, 0, none⟩)) ∧ MF T A w g b acc (acc.map (·.1) ++ [t]) t wv ∧ m = g :: b :: ob wv
 | .A acc t, c, m => ∃ g b wv, c = .iface T.pm (.pointer (some ⟨g, 0, none⟩)) ∧ MF T A w g b acc (acc.map (·.1)) t wv ∧ m = g :: b :: ob wv
theorem FrI.to {fm : Fm} {c : Value} {m : List Nat} (H : FrI T A w fm c m) (h : Mod M w w') (hM : ∀ x ∈ M, x ∈ A) (hm : ∀ x ∈ m, x ∉ M) (hA : ∀ x ∈ A', x ∈ A ∨ w.heap.size ≤ x) : FrI T A' w' fm c m := by
 cases fm with
 | L acc => obtain ⟨g, wv, h1, h2, rfl⟩ := H; exact ⟨g, wv, h1, h2.to h hM hm hA, rfl⟩
 | M acc t => obtain ⟨g, b, wv, h1, h2, rfl⟩ := H; exact ⟨g, b, wv, h1, h2.to h hM hm hA, rfl⟩
 | A acc t => obtain ⟨g, b, wv, h1, h2, rfl⟩ := H; exact ⟨g, b, wv, h1, h2.to h hM hm hA, rfl⟩
theorem FrI.lt {fm : Fm} {c : Value} {m : List Nat} (H : FrI T A w fm c m) : ∀ x ∈ m, x < w.heap.size := by
 cases fm with
 | L acc =>
  obtain ⟨g, wv, _, h2, rfl⟩ := H
  obtain ⟨vs, h3, _⟩ := h2.own
  intro x hx
  rcases List.mem_cons.1 hx with rfl | hx
  ·exact h2.blk.lt
  ·exact h3.lt x hx
 | M acc t =>
  obtain ⟨g, b, wv, _, h2, rfl⟩ := H
  obtain ⟨vs, h3, _⟩ := h2.own
  intro x hx
  rcases List.mem_cons.1 hx with rfl | hx
  ·exact h2.blk.lt
  rcases List.mem_cons.1 hx with rfl | hx
  ·exact h2.map.lt
  ·exact h3.lt x hx
 | A acc t =>
  obtain ⟨g, b, wv, _, h2, rfl⟩ := H
  obtain ⟨vs, h3, _⟩ := h2.own
  intro x hx
  rcases List.mem_cons.1 hx with rfl | hx
  ·exact h2.blk.lt
  rcases List.mem_cons.1 hx with rfl | hx
  ·exact h2.map.lt
  ·exact h3.lt x hx
def StkI (T : PT) (A : List Nat) (w : World) : List Fm → List Value → List Nat → Prop
 | [], cs, fp => cs = [] ∧ fp = T.z ∧ ∀ x ∈ T.z, x < w.heap.size
 | fm :: st, cs, fp => ∃ c cs' m fp', cs = c :: cs' ∧ fp = m ++ fp' ∧ FrI T A w fm c m ∧ StkI T A w st cs' fp' ∧ ∀ x ∈ m, x ∉ fp'
theorem StkI.to (h : Mod M w w') (hM : ∀ x ∈ M, x ∈ A) (hA : ∀ x ∈ A', x ∈ A ∨ w.heap.size ≤ x) : ∀ {st : List Fm} {cs : List Value} {fp : List Nat}, StkI T A w st cs fp → (∀ x ∈ fp, x ∉ M) → StkI T A' w' st cs fp
 | [], _, _, H, _ => ⟨H.1, H.2.1, fun x hx => Nat.lt_of_lt_of_le (H.2.2 x hx) h.size⟩
 | fm :: st, _, _, H, hm => by
  obtain ⟨c, cs', m, fp', rfl, rfl, h1, h2, h3⟩ := H
  exact ⟨c, cs', m, fp', rfl, rfl, h1.to h hM (fun x hx => hm x (by simp [hx])) hA, h2.to h hM hA (fun x hx => hm x (by simp [hx])), h3⟩
theorem StkI.len : ∀ {st : List Fm} {cs : List Value} {fp : List Nat}, StkI T A w st cs fp → cs.length = st.length
 | [], _, _, H => by rw [H.1]; rfl
 | fm :: st, _, _, H => by
  obtain ⟨c, cs', m, fp', rfl, rfl, h1, h2, h3⟩ := H
  simp [h2.len]
theorem StkI.lt : ∀ {st : List Fm} {cs : List Value} {fp : List Nat}, StkI T A w st cs fp → ∀ x ∈ fp, x < w.heap.size
 | [], _, _, H => by rw [H.2.1]; exact H.2.2
 | fm :: st, _, _, H => by
  obtain ⟨c, cs', m, fp', rfl, rfl, h1, h2, h3⟩ := H
  intro x hx
  rcases List.mem_append.1 hx with hx | hx
  ·exact h1.lt x hx
  ·exact h2.lt x hx
theorem StkI.z : ∀ {st : List Fm} {cs : List Value} {fp : List Nat}, StkI T A w st cs fp → ∀ x ∈ T.z, x ∈ fp
 | [], _, _, H => by rw [H.2.1]; exact fun x hx => hx
 | fm :: st, _, _, H => by
  obtain ⟨c, cs', m, fp', rfl, rfl, h1, h2, h3⟩ := H
  exact fun x hx => List.mem_append_right _ (h2.z x hx)
structure PS (T : PT) (w0 w : World) (g : Nat) (s : Str) (k : Nat) (st : List Fm) (sv : Value) (cs : List Value) (fp : List Nat) : Prop where
 rd : Blk w g T.rd [S s, .int .i64 (k : Int), sv]
 own : Own w T.any 1 sv cs.length cs.reverse
 stk : StkI T (g :: (ob sv ++ fp)) w st cs fp
 gn : g ∉ ob sv ++ fp
 dj : ∀ x ∈ ob sv, x ∉ fp
 fr : ∀ x ∈ ob sv ++ fp, w0.heap.size ≤ x
 mod : Mod [g] w0 w
structure Stp (w w' : World) (g : Nat) (sv : Value) (fp : List Nat) (sv' : Value) (fp' : List Nat) : Prop where
 mod : Mod (g :: (ob sv ++ fp)) w w'
 new : ∀ x ∈ ob sv' ++ fp', x ∈ ob sv ++ fp ∨ w.heap.size ≤ x
variable {st : List Fm} {sv sv' : Value} {cs cs' : List Value} {fp fp' : List Nat} {k' : Nat}
theorem PS.init (B : Blk w g T.rd [S s, .int .i64 (0 : Int), .slice none 0 0]) (hm : Mod [g] w0 w) (hz : ∀ x ∈ T.z, w0.heap.size ≤ x ∧ x < w.heap.size ∧ x ≠ g) : PS T w0 w g s 0 [] (.slice none 0 0) [] T.z :=
 ⟨B, Own.nil _ _ _, ⟨rfl, rfl, fun x hx => (hz x hx).2.1⟩, fun h => (hz g (by simpa [ob] using h)).2.2 rfl, by simp [ob], fun x hx => (hz x (by simpa [ob] using hx)).1, hm⟩
theorem PS.len (H : PS T w0 w g s k st sv cs fp) : cs.length = st.length := H.stk.len
theorem PS.lt (H : PS T w0 w g s k st sv cs fp) : ∀ x ∈ g :: (ob sv ++ fp), x < w.heap.size := fun x hx => by
 rcases List.mem_cons.1 hx with rfl | hx
 ·exact H.rd.lt
 rcases List.mem_append.1 hx with hx | hx
 ·exact H.own.lt x hx
 ·exact H.stk.lt x hx
theorem Stp.of (h : Mod [g] w w') : Stp w w' g sv fp sv fp := ⟨h.mono (by simp), fun x hx => .inl hx⟩
theorem Stp.refl (w : World) (g : Nat) (sv : Value) (fp : List Nat) : Stp w w g sv fp sv fp := ⟨Mod.refl _ _, fun x hx => .inl hx⟩
theorem Stp.trans {w2 : World} {sv2 : Value} {fp2 : List Nat} (h : Stp w w' g sv fp sv' fp') (h' : Stp w' w2 g sv' fp' sv2 fp2) : Stp w w2 g sv fp sv2 fp2 :=
 ⟨h.mod.trans' h'.mod fun x hx => by
  rcases List.mem_cons.1 hx with rfl | hx
  ·exact .inl (by simp)
  ·exact (h.new x hx).imp (fun h => by simp only [List.mem_cons]; exact .inr h) id, fun x hx => (h'.new x hx).elim (h.new x) fun hx => .inr (Nat.le_trans h.mod.size hx)⟩
theorem Stp.blk {h : Nat} {U : TypeId} {us : List Value} (S : Stp w w' g sv fp sv' fp') (B : Blk w h U us) (hn : h ∉ g :: (ob sv ++ fp)) : Blk w' h U us ∧ h ∉ g :: (ob sv' ++ fp') := by
 have hlt := B.lt
 refine ⟨B.mod S.mod hn, fun hx => ?_⟩
 rcases List.mem_cons.1 hx with rfl | hx
 ·exact hn (by simp)
 ·rcases S.new h hx with h1 | h1
  ·exact hn (by simp only [List.mem_cons]; exact .inr h1)
  ·omega
theorem PS.rstep (H : PS T w0 w g s k st sv cs fp) (B : Blk w' g T.rd [S s, .int .i64 (k' : Int), sv]) (h : Mod [g] w w') : PS T w0 w' g s k' st sv cs fp :=
 ⟨B, H.own.mod h (fun x hx e => H.gn (by simp only [List.mem_singleton] at e; subst e; simp [hx])), H.stk.to h (by simp) (fun x hx => .inl hx) (fun x hx e => H.gn (by simp only [List.mem_singleton] at e; subst e; simp [hx])), H.gn, H.dj, H.fr, H.mod.trans h⟩
theorem PS.mod0 (H : PS T w0 w g s k st sv cs fp) (h : Mod [] w w') : PS T w0 w' g s k st sv cs fp := H.rstep (H.rd.mod0 h) (h.mono (by simp))
theorem PS.topL {acc : List JV} (H : PS T w0 w g s k (.L acc :: st) sv cs fp) : ∃ g1 wv vs cs1 fp1, cs = .iface T.pi (.pointer (some ⟨g1, 0, none⟩)) :: cs1 ∧ fp = g1 :: (ob wv ++ fp1) ∧ Blk w g1 T.it [wv] ∧ Own w T.v 6 wv acc.length vs ∧ Reps (g :: (ob sv ++ fp)) w (acc.map JV.D).flatten vs ∧ g1 ∉ ob wv ∧ g1 ≠ g ∧ (∀ x ∈ T.z, x ∉ g1 :: ob wv) ∧
  (∀ (w' : World) (wv' : Value) (us : List Value) (v : JV), Mod (g1 :: ob wv) w w' → Blk w' g1 T.it [wv'] → Own w' T.v 6 wv' (acc.length + 1) (vs ++ us) → (∀ x ∈ ob wv', x ∈ ob wv ∨ w.heap.size ≤ x) → Reps (g :: (ob sv ++ fp)) w v.D us →
   PS T w0 w' g s k (.L (acc ++ [v]) :: st) sv cs (g1 :: (ob wv' ++ fp1)) ∧ Stp w w' g sv fp sv (g1 :: (ob wv' ++ fp1))) ∧
  (∀ (w' : World) (sv' : Value), Mod [g] w w' → Blk w' g T.rd [S s, .int .i64 (k : Int), sv'] → Own w' T.any 1 sv' cs1.length cs1.reverse → ob sv' = ob sv →
   PS T w0 w' g s k st sv' cs1 fp1 ∧ Stp w w' g sv fp sv' fp1 ∧ Blk w' g1 T.it [wv] ∧ Rep (g :: (ob sv' ++ fp1)) w' (.sl 6 (acc.map JV.D)) wv) := by
 obtain ⟨c, cs1, m, fp1, rfl, rfl, ⟨g1, wv, rfl, h2, rfl⟩, h3, h4⟩ := H.stk
 obtain ⟨vs, h5, h6⟩ := h2.own
 have hlt := H.lt
 have hg1 : g1 ≠ g := fun e => H.gn (by subst e; simp)
 have hw1 : ∀ x ∈ g1 :: ob wv, x ≠ g := fun x hx e => H.gn (by subst e; simp only [List.mem_append]; exact .inr (.inl hx))
 have hw2 : ∀ x ∈ g1 :: ob wv, x ∉ ob sv := fun x hx e => H.dj x e (by simp only [List.mem_append]; exact .inl hx)
 refine ⟨g1, wv, vs, cs1, fp1, rfl, rfl, h2.blk, h5, h6, h2.gw, hg1, fun x hx h => h4 x h (h3.z x hx), fun w' wv' us v hm hb ho hn hr => ?_, fun w' sv' hm hb ho hob => ?_⟩
 ·have hsub : ∀ x ∈ g1 :: ob wv, x ∈ g :: (ob sv ++ ((g1 :: ob wv) ++ fp1)) := fun x hx => by simp only [List.mem_cons, List.mem_append] at hx ⊢; exact .inr (.inr (.inl hx))
  have hA : ∀ x ∈ g :: (ob sv ++ (g1 :: (ob wv' ++ fp1))), x ∈ g :: (ob sv ++ ((g1 :: ob wv) ++ fp1)) ∨ w.heap.size ≤ x := fun x hx => by
   simp only [List.mem_cons, List.mem_append] at hx ⊢
   rcases hx with rfl | hx | rfl | hx | hx
   ·simp
   ·simp [hx]
   ·simp
   ·exact (hn x hx).imp (fun h => by simp [h]) id
   ·simp [hx]
  have hnot : ∀ x ∈ ob wv', ∀ y, y ∈ g :: (ob sv ++ fp1) → x ≠ y := fun x hx y hy e => by
   subst e
   rcases hn x hx with h1 | h1
   ·simp only [List.mem_cons, List.mem_append] at hy
    rcases hy with rfl | hy | hy
    ·exact hw1 x (by simp [h1]) rfl
    ·exact hw2 x (by simp [h1]) hy
    ·exact h4 x (by simp [h1]) hy
   ·have := hlt x (by simp only [List.mem_cons, List.mem_append] at hy ⊢; rcases hy with rfl | hy | hy; exact .inl rfl; exact .inr (.inl hy); exact .inr (.inr (.inr hy)))
    omega
  have hg1n : g1 ∉ ob wv' := fun hx => by
   rcases hn g1 hx with h1 | h1
   ·exact h2.gw h1
   ·have := h2.blk.lt; omega
  refine ⟨⟨H.rd.mod hm (fun h => hw1 g h rfl), H.own.mod hm (fun x hx h => hw2 x h hx), ⟨_, cs1, g1 :: ob wv', fp1, rfl, rfl, ⟨g1, wv', rfl, ⟨hb, ⟨vs ++ us, by simpa using ho, ?_⟩, hg1n⟩, rfl⟩, h3.to hm hsub hA (fun x hx h => h4 x h hx), fun x hx h => ?_⟩, fun h => ?_, fun x hx h => ?_, fun x hx => ?_, H.mod.trans' hm fun x hx => .inr ?_⟩, ⟨hm.mono fun x hx => hsub x hx, fun x hx => ?_⟩⟩
  ·rw [List.map_append, List.flatten_append]
   refine Reps.to hm hsub hA _ _ (Reps.append h6 ?_)
   simpa using hr
  ·rcases List.mem_cons.1 hx with rfl | hx
   ·exact h4 x (by simp) h
   ·exact hnot x hx x (by simp [h]) rfl
  ·simp only [List.mem_append, List.mem_cons] at h
   rcases h with h | rfl | h | h
   ·exact H.gn (by simp [h])
   ·exact hg1 rfl
   ·exact hnot g h g (by simp) rfl
   ·exact H.gn (by simp [h])
  ·simp only [List.mem_cons, List.mem_append] at h
   rcases h with rfl | h | h
   ·exact hw2 x (by simp) hx
   ·exact hnot x h x (by simp [hx]) rfl
   ·exact H.dj x hx (by simp [h])
  ·simp only [List.mem_cons, List.mem_append] at hx
   rcases hx with hx | rfl | hx | hx
   ·exact H.fr x (by simp [hx])
   ·exact H.fr x (by simp)
   ·rcases hn x hx with h1 | h1
    ·exact H.fr x (by simp [h1])
    ·exact Nat.le_trans H.mod.size h1
   ·exact H.fr x (by simp [hx])
  ·exact H.fr x (by simp only [List.mem_cons, List.mem_append] at hx ⊢; exact .inr (.inl hx))
  ·simp only [List.mem_cons, List.mem_append] at hx ⊢
   rcases hx with hx | rfl | hx | hx
   ·simp [hx]
   ·simp
   ·exact (hn x hx).imp (fun h => by simp [h]) id
   ·simp [hx]
 ·have hA : ∀ x ∈ g :: (ob sv' ++ fp1), x ∈ g :: (ob sv ++ ((g1 :: ob wv) ++ fp1)) ∨ w.heap.size ≤ x := fun x hx => by
   rw [hob] at hx
   simp only [List.mem_cons, List.mem_append] at hx ⊢
   rcases hx with rfl | hx | hx <;> simp [*]
  have hgf : ∀ x ∈ g1 :: ob wv, x ∉ [g] := fun x hx e => hw1 x hx (by simpa using e)
  refine ⟨⟨hb, ho, h3.to hm (by simp) hA (fun x hx e => H.gn (by simp only [List.mem_singleton] at e; subst e; simp [hx])), fun h => ?_, fun x hx h => ?_, fun x hx => ?_, H.mod.trans hm⟩, ⟨hm.mono (by simp), fun x hx => ?_⟩, h2.blk.mod hm (hgf g1 (by simp)), Own.rep (h5.mod hm (fun x hx => hgf x (by simp [hx]))) (Reps.to hm (by simp) hA _ _ h6) (fun r hr => ?_) (by simp) (fun x hx h => ?_)⟩
  ·rw [hob] at h; simp only [List.mem_append] at h; exact H.gn (by rcases h with h | h <;> simp [h])
  ·rw [hob] at hx; exact H.dj x hx (by simp [h])
  ·rw [hob] at hx; simp only [List.mem_append] at hx; exact H.fr x (by rcases hx with h | h <;> simp [h])
  ·rw [hob] at hx; simp only [List.mem_append] at hx ⊢; rcases hx with h | h <;> simp [h]
  ·obtain ⟨y, _, rfl⟩ := List.mem_map.1 hr; exact JV.D_len y
  ·rw [hob] at h
   simp only [List.mem_cons, List.mem_append] at h
   rcases h with rfl | h | h
   ·exact hw1 x (by simp [hx]) rfl
   ·exact hw2 x (by simp [hx]) h
   ·exact h4 x (by simp [hx]) h
end
end Go.Proofs.YtknndpjacklkeaaGreatDoor.V

set_option linter.unusedVariables false
set_option linter.unusedSimpArgs false
namespace Go.Proofs.YtknndpjacklkeaaGreatDoor.V
open Go
section
variable {T : PT} {A A' M : List Nat} {w0 w w' : World} {g : Nat} {s : Str} {k : Nat}
variable {st : List Fm} {sv sv' : Value} {cs cs' : List Value} {fp fp' : List Nat} {k' : Nat}
theorem PS.topG {fm : Fm} {acc : List (Str × JV)} {K : List Str} {t : Str} (H : PS T w0 w g s k (fm :: st) sv cs fp)
  (hf : ∀ (A : List Nat) (w : World) (c : Value) (m : List Nat), FrI T A w fm c m → ∃ g b wv, c = .iface T.pm (.pointer (some ⟨g, 0, none⟩)) ∧ MF T A w g b acc K t wv ∧ m = g :: b :: ob wv) :
  ∃ g1 b wv vs cs1 fp1, cs = .iface T.pm (.pointer (some ⟨g1, 0, none⟩)) :: cs1 ∧ fp = g1 :: b :: (ob wv ++ fp1) ∧ Blk w g1 T.mt [wv, .map (some b), S t] ∧ MapB w b (seenV K) ∧ Own w T.mb 7 wv acc.length vs ∧ Reps (g :: (ob sv ++ fp)) w (acc.map JV.Dp).flatten vs ∧ g1 ∉ ob wv ∧ g1 ≠ g ∧ b ≠ g ∧ g1 ≠ b ∧ b ∉ ob wv ∧ (∀ x ∈ ob wv, x ≠ g) ∧ (∀ x ∈ T.z, x ∉ g1 :: b :: ob wv) ∧
  (∀ (w' : World) (wv' : Value) (vs' : List Value) (k' : Nat) (fm' : Fm) (acc' : List (Str × JV)) (K' : List Str) (t' : Str), Mod (g :: g1 :: b :: ob wv) w w' → Blk w' g T.rd [S s, .int .i64 (k' : Int), sv] → Blk w' g1 T.mt [wv', .map (some b), S t'] → MapB w' b (seenV K') → Own w' T.mb 7 wv' acc'.length vs' → (∀ x ∈ ob wv', x ∈ ob wv ∨ w.heap.size ≤ x) → Reps (g :: (ob sv ++ fp)) w (acc'.map JV.Dp).flatten vs' →
   (∀ (A : List Nat) (w : World) (c : Value) (m : List Nat), (∃ g b wv, c = .iface T.pm (.pointer (some ⟨g, 0, none⟩)) ∧ MF T A w g b acc' K' t' wv ∧ m = g :: b :: ob wv) → FrI T A w fm' c m) →
   PS T w0 w' g s k' (fm' :: st) sv cs (g1 :: b :: (ob wv' ++ fp1)) ∧ Stp w w' g sv fp sv (g1 :: b :: (ob wv' ++ fp1))) ∧
  (∀ (w' : World) (sv' : Value) (vs' : List Value) (m' : List (Str × JV)), Mod (g :: ob wv) w w' → Blk w' g T.rd [S s, .int .i64 (k : Int), sv'] → Own w' T.any 1 sv' cs1.length cs1.reverse → ob sv' = ob sv → Own w' T.mb 7 wv m'.length vs' → Reps (g :: (ob sv ++ fp)) w (m'.map JV.Dp).flatten vs' →
   PS T w0 w' g s k st sv' cs1 fp1 ∧ Stp w w' g sv fp sv' fp1 ∧ Rep (g :: (ob sv' ++ fp1)) w' (.sl 7 (m'.map JV.Dp)) wv) := by
 obtain ⟨c, cs1, m, fp1, rfl, rfl, hfr, h3, h4⟩ := H.stk
 obtain ⟨g1, b, wv, rfl, h2, rfl⟩ := hf _ _ _ _ hfr
 clear hfr
 obtain ⟨vs, h5, h6⟩ := h2.own
 have hlt := H.lt
 have hw1 : ∀ x ∈ g1 :: b :: ob wv, x ≠ g := fun x hx e => H.gn (by subst e; simp only [List.mem_append]; exact .inr (.inl hx))
 have hw2 : ∀ x ∈ g1 :: b :: ob wv, x ∉ ob sv := fun x hx e => H.dj x e (by simp only [List.mem_append]; exact .inl hx)
 have hsub : ∀ x ∈ g :: g1 :: b :: ob wv, x ∈ g :: (ob sv ++ ((g1 :: b :: ob wv) ++ fp1)) := fun x hx => by
  rcases List.mem_cons.1 hx with rfl | hx
  ·simp
  ·simp only [List.mem_cons, List.mem_append] at hx ⊢
   rcases hx with rfl | rfl | hx <;> simp [*]
 refine ⟨g1, b, wv, vs, cs1, fp1, rfl, rfl, h2.blk, h2.map, h5, h6, h2.gw, hw1 g1 (by simp), hw1 b (by simp), h2.gb, h2.bw, fun x hx => hw1 x (by simp [hx]), fun x hx h => h4 x h (h3.z x hx), fun w' wv' vs' k' fm' acc' K' t' hm hB hb hM ho hn hr hf' => ?_, fun w' sv' vs' m' hm hb ho hob hown hr => ?_⟩
 ·have hA : ∀ x ∈ g :: (ob sv ++ (g1 :: b :: (ob wv' ++ fp1))), x ∈ g :: (ob sv ++ ((g1 :: b :: ob wv) ++ fp1)) ∨ w.heap.size ≤ x := fun x hx => by
   simp only [List.mem_cons, List.mem_append] at hx ⊢
   rcases hx with hx | hx | hx | hx | hx | hx
   ·exact .inl (.inl hx)
   ·exact .inl (.inr (.inl hx))
   ·exact .inl (.inr (.inr (.inl (.inl hx))))
   ·exact .inl (.inr (.inr (.inl (.inr (.inl hx)))))
   ·exact (hn x hx).imp (fun h => .inr (.inr (.inl (.inr (.inr h))))) id
   ·exact .inl (.inr (.inr (.inr hx)))
  have hnot : ∀ x ∈ ob wv', ∀ y, y ∈ g :: (ob sv ++ fp1) → x ≠ y := fun x hx y hy e => by
   subst e
   rcases hn x hx with h1 | h1
   ·simp only [List.mem_cons, List.mem_append] at hy
    rcases hy with rfl | hy | hy
    ·exact hw1 x (by simp [h1]) rfl
    ·exact hw2 x (by simp [h1]) hy
    ·exact h4 x (by simp [h1]) hy
   ·have := hlt x (by simp only [List.mem_cons, List.mem_append] at hy ⊢; rcases hy with rfl | hy | hy; exact .inl rfl; exact .inr (.inl hy); exact .inr (.inr (.inr hy)))
    omega
  have hg1n : g1 ∉ ob wv' := fun hx => by
   rcases hn g1 hx with h1 | h1
   ·exact h2.gw h1
   ·have := h2.blk.lt; omega
  have hbn : b ∉ ob wv' := fun hx => by
   rcases hn b hx with h1 | h1
   ·exact h2.bw h1
   ·have := h2.map.lt; omega
  have hmo : ∀ x ∈ ob sv, x ∉ g :: g1 :: b :: ob wv := fun x hx h => by
   rcases List.mem_cons.1 h with rfl | h
   ·exact H.gn (by simp [hx])
   ·exact hw2 x h hx
  have hmf : ∀ x ∈ fp1, x ∉ g :: g1 :: b :: ob wv := fun x hx h => by
   rcases List.mem_cons.1 h with rfl | h
   ·exact H.gn (by simp [hx])
   ·exact h4 x h hx
  refine ⟨⟨hB, H.own.mod hm hmo, ⟨_, cs1, g1 :: b :: ob wv', fp1, rfl, rfl, hf' _ _ _ _ ⟨g1, b, wv', rfl, ⟨hb, hM, ⟨vs', ho, Reps.to hm hsub hA _ _ hr⟩, h2.gb, hg1n, hbn⟩, rfl⟩, h3.to hm hsub hA hmf, fun x hx h => ?_⟩, fun h => ?_, fun x hx h => ?_, fun x hx => ?_, H.mod.trans' hm fun x hx => ?_⟩, ⟨hm.mono fun x hx => hsub x hx, fun x hx => ?_⟩⟩
  ·rcases List.mem_cons.1 hx with rfl | hx
   ·exact h4 x (by simp) h
   rcases List.mem_cons.1 hx with rfl | hx
   ·exact h4 x (by simp) h
   ·exact hnot x hx x (by simp [h]) rfl
  ·simp only [List.mem_append, List.mem_cons] at h
   rcases h with h | rfl | rfl | h | h
   ·exact H.gn (by simp [h])
   ·exact hw1 g (by simp) rfl
   ·exact hw1 g (by simp) rfl
   ·exact hnot g h g (by simp) rfl
   ·exact H.gn (by simp [h])
  ·simp only [List.mem_cons, List.mem_append] at h
   rcases h with rfl | rfl | h | h
   ·exact hw2 x (by simp) hx
   ·exact hw2 x (by simp) hx
   ·exact hnot x h x (by simp [hx]) rfl
   ·exact H.dj x hx (by simp [h])
  ·simp only [List.mem_cons, List.mem_append] at hx
   rcases hx with hx | rfl | rfl | hx | hx
   ·exact H.fr x (by simp [hx])
   ·exact H.fr x (by simp)
   ·exact H.fr x (by simp)
   ·rcases hn x hx with h1 | h1
    ·exact H.fr x (by simp [h1])
    ·exact Nat.le_trans H.mod.size h1
   ·exact H.fr x (by simp [hx])
  ·rcases List.mem_cons.1 hx with rfl | hx
   ·exact .inl (by simp)
   ·exact .inr (H.fr x (by simp only [List.mem_cons, List.mem_append] at hx ⊢; exact .inr (.inl hx)))
  ·simp only [List.mem_cons, List.mem_append] at hx ⊢
   rcases hx with hx | rfl | rfl | hx | hx
   ·simp [hx]
   ·simp
   ·simp
   ·exact (hn x hx).imp (fun h => by simp [h]) id
   ·simp [hx]
 ·have hA : ∀ x ∈ g :: (ob sv' ++ fp1), x ∈ g :: (ob sv ++ ((g1 :: b :: ob wv) ++ fp1)) ∨ w.heap.size ≤ x := fun x hx => by
   rw [hob] at hx
   simp only [List.mem_cons, List.mem_append] at hx ⊢
   rcases hx with rfl | hx | hx <;> simp [*]
  have hs2 : ∀ x ∈ g :: ob wv, x ∈ g :: (ob sv ++ ((g1 :: b :: ob wv) ++ fp1)) := fun x hx => hsub x (by rcases List.mem_cons.1 hx with rfl | hx <;> simp [*])
  have hmf : ∀ x ∈ fp1, x ∉ g :: ob wv := fun x hx h => by
   rcases List.mem_cons.1 h with rfl | h
   ·exact H.gn (by simp [hx])
   ·exact h4 x (by simp [h]) hx
  refine ⟨⟨hb, ho, h3.to hm hs2 hA hmf, fun h => ?_, fun x hx h => ?_, fun x hx => ?_, H.mod.trans' hm fun x hx => ?_⟩, ⟨hm.mono hs2, fun x hx => ?_⟩, Own.rep hown (Reps.to hm hs2 hA _ _ hr) (fun r hr => ?_) (by simp) (fun x hx h => ?_)⟩
  ·rw [hob] at h; simp only [List.mem_append] at h; exact H.gn (by rcases h with h | h <;> simp [h])
  ·rw [hob] at hx; exact H.dj x hx (by simp [h])
  ·rw [hob] at hx; simp only [List.mem_append] at hx; exact H.fr x (by rcases hx with h | h <;> simp [h])
  ·rcases List.mem_cons.1 hx with rfl | hx
   ·exact .inl (by simp)
   ·exact .inr (H.fr x (by simp [hx]))
  ·rw [hob] at hx; simp only [List.mem_append] at hx ⊢; rcases hx with h | h <;> simp [h]
  ·obtain ⟨y, _, rfl⟩ := List.mem_map.1 hr; exact JV.Dp_len y
  ·rw [hob] at h
   simp only [List.mem_cons, List.mem_append] at h
   rcases h with rfl | h | h
   ·exact hw1 x (by simp [hx]) rfl
   ·exact hw2 x (by simp [hx]) h
   ·exact h4 x (by simp [hx]) h
theorem PS.rebase (H : PS T w0 w g s k st sv cs fp) (hmd : Mod (g :: ob sv) w w') (hb : Blk w' g T.rd [S s, .int .i64 (k' : Int), sv'])
  (ho : Own w' T.any 1 sv' cs.length cs.reverse) (hn : ∀ x ∈ ob sv', x ∈ ob sv ∨ w.heap.size ≤ x) : PS T w0 w' g s k' st sv' cs fp ∧ Stp w w' g sv fp sv' fp := by
 have hlt := H.lt
 have hsub : ∀ x ∈ g :: ob sv, x ∈ g :: (ob sv ++ fp) := fun x hx => by rcases List.mem_cons.1 hx with rfl | hx <;> simp [*]
 have hgn : g ∉ ob sv' := fun h => by
  rcases hn g h with h | h
  ·exact H.gn (by simp [h])
  ·have := H.rd.lt; omega
 have hA : ∀ x ∈ g :: (ob sv' ++ fp), x ∈ g :: (ob sv ++ fp) ∨ w.heap.size ≤ x := fun x hx => by
  simp only [List.mem_cons, List.mem_append] at hx ⊢
  rcases hx with rfl | hx | hx
  ·simp
  ·rcases hn x hx with h | h
   ·simp [h]
   ·exact .inr h
  ·simp [hx]
 refine ⟨⟨hb, ho, H.stk.to hmd hsub hA (fun x hx h => ?_), fun h => ?_, fun x hx h => ?_, fun x hx => ?_, H.mod.trans' hmd fun x hx => ?_⟩, ⟨hmd.mono hsub, fun x hx => ?_⟩⟩
 ·rcases List.mem_cons.1 h with rfl | h
  ·exact H.gn (by simp [hx])
  ·exact H.dj x h hx
 ·rcases List.mem_append.1 h with h | h
  ·exact hgn h
  ·exact H.gn (by simp [h])
 ·rcases hn x hx with h5 | h5
  ·exact H.dj x h5 h
  ·have := hlt x (by simp [h]); omega
 ·have := H.mod.size
  rcases List.mem_append.1 hx with hx | hx
  ·rcases hn x hx with h | h
   ·exact H.fr x (by simp [h])
   ·omega
  ·exact H.fr x (by simp [hx])
 ·rcases List.mem_cons.1 hx with rfl | hx
  ·exact .inl (by simp)
  ·exact .inr (H.fr x (by simp [hx]))
 ·rcases List.mem_append.1 hx with hx | hx
  ·exact (hn x hx).imp (fun h => by simp [h]) id
  ·exact .inl (by simp [hx])
theorem PS.priv {z : Nat} (H : PS T w0 w g s k st sv cs fp) (hz : z ∈ T.z) (hm : Mod [z] w w') : PS T w0 w' g s k st sv cs fp := by
 have hzf := H.stk.z z hz
 have hzg : z ≠ g := fun e => H.gn (by subst e; simp [hzf])
 have hzs : z ∉ ob sv := fun h => H.dj z h hzf
 refine ⟨H.rd.mod hm (by simpa using Ne.symm hzg), H.own.mod hm (fun x hx e => hzs (by rw [List.mem_singleton.1 e] at hx; exact hx)), ?_, H.gn, H.dj, H.fr, H.mod.trans' hm fun x hx => .inr (by rw [List.mem_singleton.1 hx]; exact H.fr z (by simp [hzf]))⟩
 have key : ∀ {st : List Fm} {cs : List Value} {fp' : List Nat}, StkI T (g :: (ob sv ++ fp)) w st cs fp' → (∀ x ∈ fp', x ∈ fp) → StkI T (g :: (ob sv ++ fp)) w' st cs fp' := by
  intro st
  induction st with
  | nil => exact fun h _ => ⟨h.1, h.2.1, fun x hx => Nat.lt_of_lt_of_le (h.2.2 x hx) hm.size⟩
  | cons fm st ih =>
   intro cs fp' h hs
   obtain ⟨c, cs', m, fp2, rfl, rfl, h1, h2, h3⟩ := h
   refine ⟨c, cs', m, fp2, rfl, rfl, h1.to hm (fun x hx => by rw [List.mem_singleton.1 hx]; simp [hzf]) (fun x hx e => ?_) (fun x hx => .inl hx), ih h2 (fun x hx => hs x (by simp [hx])), h3⟩
   rw [List.mem_singleton.1 e] at hx
   exact h3 z hx (h2.z z hz)
 exact key H.stk (fun x hx => hx)
theorem PS.push {N : Nat} {fm : Fm} {c : Value} {m : List Nat} (H : PS T w0 w g s k st sv cs fp) (hmd : Mod (g :: ob sv) w w') (hs : w.heap.size ≤ N) (hm : ∀ x ∈ m, w.heap.size ≤ x ∧ x < N) (hb : Blk w' g T.rd [S s, .int .i64 (k' : Int), sv'])
  (ho : Own w' T.any 1 sv' (cs.length + 1) (cs.reverse ++ [c])) (hn : ∀ x ∈ ob sv', x ∈ ob sv ∨ N ≤ x) (hf : ∀ A, FrI T A w' fm c m) : PS T w0 w' g s k' (fm :: st) sv' (c :: cs) (m ++ fp) ∧ Stp w w' g sv fp sv' (m ++ fp) := by
 have hlt := H.lt
 have hsub : ∀ x ∈ g :: ob sv, x ∈ g :: (ob sv ++ fp) := fun x hx => by rcases List.mem_cons.1 hx with rfl | hx <;> simp [*]
 have hA : ∀ x ∈ g :: (ob sv' ++ (m ++ fp)), x ∈ g :: (ob sv ++ fp) ∨ w.heap.size ≤ x := fun x hx => by
  simp only [List.mem_cons, List.mem_append] at hx ⊢
  rcases hx with rfl | hx | hx | hx
  ·simp
  ·rcases hn x hx with h | h
   ·simp [h]
   ·exact .inr (by omega)
  ·exact .inr (hm x hx).1
  ·simp [hx]
 have hmn : ∀ x ∈ m, x ∉ g :: (ob sv ++ fp) := fun x hx h => by have := hlt x h; have := (hm x hx).1; omega
 refine ⟨⟨hb, by simpa using ho, ⟨c, cs, m, fp, rfl, rfl, hf _, H.stk.to hmd hsub hA (fun x hx h => ?_), fun x hx h => hmn x hx (by simp [h])⟩, fun h => ?_, fun x hx h => ?_, fun x hx => ?_, H.mod.trans' hmd fun x hx => ?_⟩, ⟨hmd.mono hsub, fun x hx => ?_⟩⟩
 ·rcases List.mem_cons.1 h with rfl | h
  ·exact H.gn (by simp [hx])
  ·exact H.dj x h hx
 ·simp only [List.mem_append] at h
  rcases h with h | h | h
  ·rcases hn g h with h | h
   ·exact H.gn (by simp [h])
   ·have := H.rd.lt; omega
  ·exact hmn g h (by simp)
  ·exact H.gn (by simp [h])
 ·simp only [List.mem_append] at h
  rcases hn x hx with h5 | h5
  ·rcases h with h | h
   ·exact hmn x h (by simp [h5])
   ·exact H.dj x h5 h
  ·rcases h with h | h
   ·have := (hm x h).2; omega
   ·have := hlt x (by simp [h]); omega
 ·simp only [List.mem_append] at hx
  have := H.mod.size
  rcases hx with hx | hx | hx
  ·rcases hn x hx with h | h
   ·exact H.fr x (by simp [h])
   ·omega
  ·have := (hm x hx).1; omega
  ·exact H.fr x (by simp [hx])
 ·rcases List.mem_cons.1 hx with rfl | hx
  ·exact .inl (by simp)
  ·exact .inr (H.fr x (by simp [hx]))
 ·have := hA x (by simp only [List.mem_cons]; exact .inr hx)
  rcases this with h | h
  ·rcases List.mem_cons.1 h with rfl | h
   ·exact .inr (by
     exfalso
     simp only [List.mem_append] at hx
     rcases hx with hx | hx | hx
     ·rcases hn x hx with h | h
      ·exact H.gn (by simp [h])
      ·have := H.rd.lt; omega
     ·exact hmn x hx (by simp)
     ·exact H.gn (by simp [hx]))
   ·exact .inl h
  ·exact .inr h
end
end Go.Proofs.YtknndpjacklkeaaGreatDoor.V

set_option linter.unusedVariables false
set_option linter.unusedSimpArgs false
namespace Go.Proofs.YtknndpjacklkeaaGreatDoor.V
open Go Go.Lib
theorem u8_dig {d : Nat} (h : d < 10) : (UInt8.ofNat (48 + d)).toNat = 48 + d := by
 rw [UInt8.toNat_ofNat']
 omega
theorem dec_dig (u : Nat) : ∀ c ∈ decDigits u, isDg c = true := by
 induction u using Nat.strongRecOn with
 | _ u ih =>
  intro c hc
  rw [decDigits] at hc
  split at hc
  ·rename_i h
   simp only [List.mem_singleton] at hc
   subst hc
   unfold isDg
   rw [u8_dig h]
   simp
   omega
  ·rename_i h
   rcases List.mem_append.1 hc with hc | hc
   ·exact ih (u / 10) (by omega) c hc
   ·simp only [List.mem_singleton] at hc
    subst hc
    unfold isDg
    rw [u8_dig (Nat.mod_lt _ (by decide))]
    simp
    omega
theorem dec_ne (u : Nat) : decDigits u ≠ [] := by
 rw [decDigits]
 split <;> simp
theorem dec_head (u : Nat) (h : 10 ≤ u) : (decDigits u)[0]? ≠ some 48 := by
 induction u using Nat.strongRecOn with
 | _ u ih =>
  rw [decDigits, dif_neg (by omega), List.getElem?_append_left (List.length_pos_iff.2 (dec_ne _))]
  by_cases h1 : 10 ≤ u / 10
  ·exact ih (u / 10) (by omega) h1
  ·rw [decDigits, dif_pos (by omega)]
   intro he
   simp only [List.getElem?_cons_zero, Option.some.injEq] at he
   have := congrArg UInt8.toNat he
   rw [u8_dig (by omega)] at this
   simp at this
   omega
theorem dec_one (u : Nat) (h : u < 10) : (decDigits u).length = 1 := by rw [decDigits, dif_pos h]; rfl
theorem pu_dec (u : Nat) : ∀ r : List UInt8, u < 18446744073709551616 → parseUint10 0 (decDigits u ++ r) = parseUint10 u r := by
 induction u using Nat.strongRecOn with
 | _ u ih =>
  intro r hu
  rw [decDigits]
  split
  ·rename_i h
   rw [List.singleton_append, parseUint10, u8_dig h, if_pos (by omega), if_neg (by omega), if_neg (by omega)]
   congr 1
   omega
  ·rename_i h
   rw [List.append_assoc, ih (u / 10) (by omega) _ (by omega), List.singleton_append, parseUint10, u8_dig (Nat.mod_lt _ (by decide)), if_pos (by omega), if_neg (by omega), if_neg (by omega)]
   congr 1
   omega
theorem mag_dec {u : Nat} (h : u < 18446744073709551616) : parseMag (decDigits u) = .ok u := by
 unfold parseMag
 rw [if_neg (dec_ne u)]
 have := pu_dec u [] h
 rw [List.append_nil] at this
 rw [this, parseUint10]
theorem atoi_itoa {n : Int} (h0 : -9007199254740991 ≤ n) (h1 : n ≤ 9007199254740991) : atoiAll (itoa n) = .ok n := by
 unfold itoa
 split
 ·rename_i h
  unfold atoiAll
  simp only
  rw [if_pos (by right; rfl), mag_dec (by omega)]
  simp only
  rw [if_neg (by simp), if_neg (by simp; omega), if_pos (by rfl)]
  congr 1
  omega
 ·rename_i h
  have hm := mag_dec (u := n.toNat) (by omega)
  have hd := dec_dig n.toNat
  cases hl : decDigits n.toNat with
  | nil => exact absurd hl (dec_ne _)
  | cons c r =>
   rw [hl] at hm hd
   have hc := hd c (by simp)
   simp only [isDg, Bool.and_eq_true, decide_eq_true_eq] at hc
   unfold atoiAll
   simp only
   rw [if_neg (by omega), hm]
   simp only
   rw [if_neg (by omega), if_neg (by omega), if_neg (by omega)]
   congr 1
   omega
theorem itoa_inj {m n : Int} (h0 : -9007199254740991 ≤ n) (h1 : n ≤ 9007199254740991) (g0 : -9007199254740991 ≤ m) (g1 : m ≤ 9007199254740991) (h : itoa m = itoa n) : m = n := by
 have h2 := atoi_itoa g0 g1
 rw [h, atoi_itoa h0 h1] at h2
 injection h2 with h2
 exact h2.symm
theorem numZ_some {n : Int} {w : Str} (h0 : -9007199254740991 ≤ n) (h1 : n ≤ 9007199254740991) (h : itoa n = w) : numZ w = some n := by
 unfold numZ
 have hex : ∃ n : Int, -9007199254740991 ≤ n ∧ n ≤ 9007199254740991 ∧ itoa n = w := ⟨n, h0, h1, h⟩
 rw [dif_pos hex]
 obtain ⟨a, b, c⟩ := hex.choose_spec
 rw [itoa_inj h0 h1 a b (c.trans h.symm)]
theorem numZ_of {n : Int} {w : Str} (h : numZ w = some n) : -9007199254740991 ≤ n ∧ n ≤ 9007199254740991 ∧ itoa n = w := by
 unfold numZ at h
 split at h
 ·rename_i hex
  injection h with h
  subst h
  exact hex.choose_spec
 ·cases h
theorem numZ_ok {v : Int} {w : Str} (h : atoiAll w = .ok v) : numZ w = if itoa v = w ∧ -9007199254740991 ≤ v ∧ v ≤ 9007199254740991 then some v else none := by
 split
 ·rename_i hv
  exact numZ_some hv.2.1 hv.2.2 hv.1
 ·rename_i hv
  cases hz : numZ w with
  | none => rfl
  | some n =>
   obtain ⟨a, b, c⟩ := numZ_of hz
   rw [← c, atoi_itoa a b] at h
   injection h with h
   subst h
   exact absurd ⟨c, a, b⟩ hv
theorem numZ_no {w : Str} (h : ∀ v, atoiAll w ≠ .ok v) : numZ w = none := by
 cases hz : numZ w with
 | none => rfl
 | some n =>
  obtain ⟨a, b, c⟩ := numZ_of hz
  rw [← c] at h
  exact absurd (atoi_itoa a b) (h n)
theorem tw_app {p : UInt8 → Bool} : ∀ {l r : Str}, (∀ c ∈ l, p c = true) → (∀ c, r[0]? = some c → p c = false) → (l ++ r).takeWhile p = l
 | [], [], _, _ => rfl
 | [], c :: r, _, h => by rw [List.nil_append, List.takeWhile_cons, if_neg (by simp [h c rfl])]
 | c :: l, r, h, h' => by rw [List.cons_append, List.takeWhile_cons, if_pos (h c (by simp)), tw_app (fun x hx => h x (by simp [hx])) h']
theorem spanA_app {p : UInt8 → Bool} {s l r : Str} {k : Nat} (h : s.drop k = l ++ r) (hl : ∀ c ∈ l, p c = true) (hr : ∀ c, r[0]? = some c → p c = false) : spanA p s k = k + l.length := by
 unfold spanA
 rw [h, tw_app hl hr]
theorem hasA_off {s t : Str} {k : Nat} (h : s.length ≤ k) (ht : t ≠ []) : hasA s k t = false := by
 rw [Bool.eq_false_iff]
 intro h'
 have := hasA_len h' ht
 have : 0 < t.length := List.length_pos_iff.2 ht
 omega
theorem whole_itoa {n : Int} (h0 : -9007199254740991 ≤ n) (h1 : n ≤ 9007199254740991) : wholeA (itoa n) = (true, false) := by
 obtain ⟨a, u, hw, ha, haw⟩ : ∃ (a u : Nat), (itoa n).drop a = decDigits u ∧ (if hasA (itoa n) 0 [45] then 1 else 0) = a ∧ a ≤ (itoa n).length := by
  unfold itoa
  split
  ·exact ⟨1, n.natAbs, rfl, by rw [if_pos (by rfl)], by simp⟩
  ·refine ⟨0, n.toNat, by simp, ?_, by simp⟩
   rw [if_neg]
   rw [hasA_one]
   intro h
   have := dec_dig n.toNat 45 (List.mem_of_getElem? h)
   revert this
   decide
 have hd := dec_dig u
 have hne := dec_ne u
 have hlen : (itoa n).length = a + (decDigits u).length := by
  have := congrArg List.length hw
  rw [List.length_drop] at this
  omega
 have hpos : 0 < (decDigits u).length := List.length_pos_iff.2 hne
 have he : spanA isDg (itoa n) a = (itoa n).length := by
  rw [spanA_app (l := decDigits u) (r := []) (by simpa using hw) hd (by simp), hlen]
 unfold wholeA
 simp only
 rw [ha, he, if_neg, hasA_off (Nat.le_refl _) (by simp), if_neg (by simp)]
 ·simp only [Bool.false_eq_true, if_false]
  rw [hasA_off (Nat.le_refl _) (by simp), hasA_off (Nat.le_refl _) (by simp)]
  simp
 ·rintro (h | ⟨h2, h3⟩)
  ·omega
  ·have hu : 10 ≤ u := by
    rcases Nat.lt_or_ge u 10 with hu | hu
    ·have := dec_one u hu
     omega
    ·exact hu
   have := dec_head u hu
   rw [← hw, List.getElem?_drop] at this
   exact this (by simpa using h3)
theorem numZ_more {w : Str} (h : (wholeA w).2 = true) : numZ w = none := by
 cases hz : numZ w with
 | none => rfl
 | some n =>
  obtain ⟨a, b, c⟩ := numZ_of hz
  rw [← c, whole_itoa a b] at h
  cases h
theorem numW_itoa {n : Int} (h0 : -9007199254740991 ≤ n) (h1 : n ≤ 9007199254740991) : numW (itoa n) = .ok n := by
 unfold numW
 rw [whole_itoa h0 h1, if_neg (by simp), numZ_some h0 h1 rfl]
theorem itoa_nm {n : Int} : ∀ c ∈ itoa n, isNm c = true := by
 intro c hc
 unfold itoa at hc
 split at hc
 ·rcases List.mem_cons.1 hc with rfl | hc
  ·rfl
  ·unfold isNm; rw [dec_dig _ c hc]; rfl
 ·unfold isNm; rw [dec_dig _ c hc]; rfl
theorem numA_itoa {n : Int} {s r : Str} {k : Nat} (h0 : -9007199254740991 ≤ n) (h1 : n ≤ 9007199254740991) (h : s.drop k = itoa n ++ r) (hr : ∀ c, r[0]? = some c → isNm c = false) : numA s k = .ok (JV.numV n, k + (itoa n).length) := by
 unfold numA
 rw [spanA_app h itoa_nm hr, Nat.add_sub_cancel_left, h, List.take_left', numW_itoa h0 h1]
 ·rfl
 ·rfl
end Go.Proofs.YtknndpjacklkeaaGreatDoor.V
