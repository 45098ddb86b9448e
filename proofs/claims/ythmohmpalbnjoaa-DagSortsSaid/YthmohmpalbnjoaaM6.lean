/-
  A part of the proof: maps with texts as keys: what a block that is one holds, and the operations on it; a map made, written, counted; its entries one by one; a map's size; its entries one by one, in whatever order; names in order; a graph of names in plain Lean: what stands ahead, its heads; a method called through an interface; a type assertion that must hold; pointers held against nil. No condition of its own.
-/
import Derived.Test.YthmohmpalbnjoaaM5
import Derived.Test.YthmohmpalbnjoaaM4
import Derived.Maps.RangeRun
set_option linter.unusedVariables false
set_option linter.unusedSimpArgs false
namespace Go.Proofs.Ythmohmpalbnjoaa.V
open Go
/-- the entries, as keys and values, in the order in which they came -/
def ents (es : Array MapEntry) : List (Value × Value) := es.toList.map fun e => (e.key, e.val)
def rows (m : List (Str × Value)) : List (Value × Value) := m.map fun p => (S p.1, p.2)
structure MapB (w : World) (b : Nat) (m : List (Str × Value)) : Prop where
  at_ : ∃ es clock, w.heap[b]? = some (.map es clock) ∧ ents es = rows m ∧ (∀ e ∈ es.toList, e.born < clock) ∧ (es.toList.map (·.born)).Nodup
  keys : (m.map (·.1)).Nodup
variable {P : Program} {w w' : World} {b : Nat} {m : List (Str × Value)} {k : Str} {M : List Nat}
theorem MapB.lt (h : MapB w b m) : b < w.heap.size := by
  obtain ⟨es, c, h1, _⟩ := h.at_
  exact (Array.getElem?_eq_some_iff.1 h1).1
theorem MapB.mod (h : MapB w b m) (k : Mod M w w') (hb : b ∉ M) : MapB w' b m := by
  have hlt := h.lt
  obtain ⟨es, c, h1, h2⟩ := h.at_
  exact ⟨⟨es, c, (k.block b hlt hb).trans h1, h2⟩, h.keys⟩
theorem MapB.mod0 (h : MapB w b m) (k : Mod [] w w') : MapB w' b m := h.mod k (by simp)
theorem S_inj {a b : Str} (h : S a = S b) : a = b := by
  unfold S at h
  injection h with h
  injection h with h
  simpa using h
theorem ba_beq (k l : Str) : ((⟨⟨k⟩⟩ : ByteArray) == ⟨⟨l⟩⟩) = decide (k = l) := by
  by_cases h : k = l
  · subst h
    rw [decide_eq_true rfl]
    exact (MapKept.bytes_beq _ _).2 rfl
  · rw [decide_eq_false h]
    cases hb : ((⟨⟨k⟩⟩ : ByteArray) == ⟨⟨l⟩⟩) with
    | false => rfl
    | true =>
      have := (MapKept.bytes_beq _ _).1 hb
      injection this with this
      injection this with this
      exact absurd this h
theorem sameNow_S (k l : Str) : Instr.sameNow .string (S k) (S l) = some (decide (k = l)) := by
  unfold S
  simp only [Instr.sameNow, ba_beq]
theorem findNow_rows {l : List MapEntry} {m : List (Str × Value)} (h : l.map (fun e => (e.key, e.val)) = rows m) (k : Str) (i : Nat) :
    ∃ j, Instr.findNow .string (S k) l i = some ((look m k).map fun v => (j, v)) ∧ (∀ v, look m k = some v → i ≤ j ∧ ∃ p, m[j - i]? = some p ∧ p.1 = k ∧ p.2 = v ∧ ∀ q, q < j - i → ∀ p', m[q]? = some p' → p'.1 ≠ k) := by
  induction l generalizing m i with
  | nil =>
    cases m with
    | nil => exact ⟨0, rfl, fun v hv => by simp [look] at hv⟩
    | cons p r => simp [rows] at h
  | cons e r ih =>
    cases m with
    | nil => simp [rows] at h
    | cons p s =>
      simp only [rows, List.map_cons, List.cons.injEq, Prod.mk.injEq] at h
      obtain ⟨⟨h1, h2⟩, h3⟩ := h
      rw [Instr.findNow, h1]
      by_cases hp : p.1 = k
      · refine ⟨i, ?_, fun v hv => ?_⟩
        · have : Instr.sameNow .string (S k) (S p.1) = some true := by rw [sameNow_S, decide_eq_true hp.symm]
          rw [this]
          simp only [look, if_pos hp, Option.map_some]
          rw [h2]
        · simp only [look, if_pos hp, Option.some.injEq] at hv
          exact ⟨Nat.le_refl _, p, by simp, hp, hv, fun q hq => by omega⟩
      · have : Instr.sameNow .string (S k) (S p.1) = some false := by rw [sameNow_S, decide_eq_false (fun e => hp e.symm)]
        rw [this]
        obtain ⟨j, h4, h5⟩ := ih (m := s) (by simpa [rows] using h3) (i + 1)
        refine ⟨j, ?_, fun v hv => ?_⟩
        · simp only [h4, look, if_neg hp]
        · simp only [look, if_neg hp] at hv
          obtain ⟨h6, p', h7, h8, h9, h10⟩ := h5 v hv
          refine ⟨by omega, p', ?_, h8, h9, fun q hq p2 hp2 => ?_⟩
          · rw [show j - i = (j - (i + 1)) + 1 by omega]
            simpa using h7
          · cases q with
            | zero => simp at hp2; subst hp2; exact hp
            | succ q => exact h10 q (by omega) p2 (by simpa using hp2)
section
variable {ops : Array Oper} {Q : Exit → Act → World → Prop} {n : Nat} {ds : List Deferred} {l : List (Nat × Value)} {rest : List Oper} {d : Nat} {ty : TypeId} {pos : String} {af : Array Edge} {dd : Option Nat} {gg : Option (Nat × Bool)} {x y : Operand} {t kt et : TypeId} {z v : Value}
/-- a map's block may be none: then it holds nothing -/
def MapV (w : World) (u : Value) (m : List (Str × Value)) : Prop := (u = .map none ∧ m = []) ∨ ∃ b, u = .map (some b) ∧ MapB w b m
theorem run_check (hk : P.underlying kt = some .string) (e : Bool) (k : Str) : (Instr.checkKey e 10000 kt (S k)).run P w = .ok () w := by
  unfold Instr.checkKey
  simp [underlying, hk, S]
theorem run_findKey (hk : P.underlying kt = some .string) {l : List MapEntry} {m : List (Str × Value)} (h : l.map (fun e => (e.key, e.val)) = rows m) (k : Str) :
    ∃ j, (Instr.findKey kt (S k) l).run P w = .ok ((look m k).map fun v => (j, v)) w ∧ (∀ v, look m k = some v → ∃ p, m[j]? = some p ∧ p.1 = k ∧ p.2 = v ∧ ∀ q, q < j → ∀ p', m[q]? = some p' → p'.1 ≠ k) := by
  obtain ⟨j, h1, h2⟩ := findNow_rows h k 0
  refine ⟨j, ?_, fun v hv => ?_⟩
  · unfold Instr.findKey
    simp [underlying, hk, h1]
  · obtain ⟨_, p, h3, h4, h5, h6⟩ := h2 v hv
    exact ⟨p, h3, h4, h5, h6⟩
theorem run_zero (hz : (P.info? et).bind (·.zero) = some z) (w : World) : (zeroValue et).run P w = .ok z w := by
  obtain ⟨i, h2, h3⟩ := Option.bind_eq_some_iff.1 hz
  simp [zeroValue, typeInfo, h2, h3]
theorem o_lk (ht : P.underlying t = some (.map kt et)) (hk : P.underlying kt = some .string) (hz0 : (P.info? et).bind (·.zero) = some z) (hx : evO l x = some v) (hm : MapV w v m) (hy : evO l y = some (S k)) :
    Runs P l ⟨dd, .lookup t x y false, ty, pos, af, gg⟩ w ((look m k).getD z) w := fun ρ h => by
  have hz := run_zero hz0
  rcases hm with ⟨rfl, rfl⟩ | ⟨b, rfl, hm⟩
  · simp [execOp, h _ _ hx, h _ _ hy, Instr.lookup, underlying, ht, run_check hk, Instr.findKey, hk, Instr.findNow, hz, look]
  · obtain ⟨es, c, h1, h2, _⟩ := hm.at_
    obtain ⟨j, h3, h4⟩ := run_findKey (P := P) (w := w) hk h2 k
    cases hl : look m k with
    | none => simp [execOp, h _ _ hx, h _ _ hy, Instr.lookup, underlying, ht, getObj, Sem.run, Result.andThen, h1, run_check hk, h3, hl, hz]
    | some u => simp [execOp, h _ _ hx, h _ _ hy, Instr.lookup, underlying, ht, getObj, Sem.run, Result.andThen, h1, run_check hk, h3, hl]
theorem o_lk2 (ht : P.underlying t = some (.map kt et)) (hk : P.underlying kt = some .string) (hz0 : (P.info? et).bind (·.zero) = some z) (hx : evO l x = some v) (hm : MapV w v m) (hy : evO l y = some (S k)) :
    Runs P l ⟨dd, .lookup t x y true, ty, pos, af, gg⟩ w (.tuple #[(look m k).getD z, .bool (look m k).isSome]) w := fun ρ h => by
  have hz := run_zero hz0
  rcases hm with ⟨rfl, rfl⟩ | ⟨b, rfl, hm⟩
  · simp [execOp, h _ _ hx, h _ _ hy, Instr.lookup, underlying, ht, run_check hk, Instr.findKey, hk, Instr.findNow, hz, look]
  · obtain ⟨es, c, h1, h2, _⟩ := hm.at_
    obtain ⟨j, h3, h4⟩ := run_findKey (P := P) (w := w) hk h2 k
    cases hl : look m k with
    | none => simp [execOp, h _ _ hx, h _ _ hy, Instr.lookup, underlying, ht, getObj, Sem.run, Result.andThen, h1, run_check hk, h3, hl, hz]
    | some u => simp [execOp, h _ _ hx, h _ _ hy, Instr.lookup, underlying, ht, getObj, Sem.run, Result.andThen, h1, run_check hk, h3, hl]
/-- a map with a key's value -/
def setM {β : Type} (m : List (Str × β)) (k : Str) (v : β) : List (Str × β) := if (look m k).isSome then m.map (fun p => if p.1 = k then (p.1, v) else p) else m ++ [(k, v)]
theorem setM_keys {β : Type} {m : List (Str × β)} {k : Str} {v : β} (h : (m.map (·.1)).Nodup) : ((setM m k v).map (·.1)).Nodup := by
  unfold setM
  split
  · have : (m.map fun p => if p.1 = k then (p.1, v) else p).map (·.1) = m.map (·.1) := by
      rw [List.map_map]
      apply List.map_congr_left
      intro p _
      simp only [Function.comp]
      split <;> rfl
    rw [this]
    exact h
  · rename_i hn
    rw [List.map_append, List.nodup_append]
    refine ⟨h, by simp, fun a ha b hb => ?_⟩
    simp only [List.map_cons, List.map_nil, List.mem_singleton] at hb
    subst hb
    intro e
    subst e
    obtain ⟨p, hp, hpk⟩ := List.mem_map.1 ha
    have hl : look m a = none := by simpa using hn
    exact look_none hl p hp hpk
theorem look_setM {β : Type} {m : List (Str × β)} {k k' : Str} {v : β} : look (setM m k v) k' = if k' = k then some v else look m k' := by
  unfold setM
  split
  · rename_i hs
    induction m with
    | nil => simp [look] at hs
    | cons p r ih =>
      by_cases hp : p.1 = k
      · by_cases hk : k' = k
        · subst hk
          simp [look, hp]
        · have : ¬ (p.1 = k') := fun e => hk (e.symm.trans hp)
          simp only [List.map_cons, hp, if_true, look, this, if_false, hk]
          have h2 : ¬ k = k' := fun e => hk e.symm
          rw [if_neg h2, if_neg h2]
          clear hs ih
          induction r with
          | nil => rfl
          | cons q s ih2 =>
            simp only [List.map_cons, look]
            by_cases hq : q.1 = k
            · simp only [hq, if_true]
              rw [if_neg h2, if_neg h2]
              exact ih2
            · simp only [hq, if_false]
              split
              · rfl
              · exact ih2
      · simp only [look, if_neg hp] at hs
        have := ih hs
        simp only [List.map_cons, if_neg hp, look]
        by_cases hk : p.1 = k'
        · rw [if_pos hk, if_pos hk, if_neg (fun e => hp (hk.trans e))]
        · rw [if_neg hk, if_neg hk, this]
  · rename_i hn
    rw [look_append]
    by_cases hk : k' = k
    · subst hk
      have hl : look m k' = none := by simpa using hn
      simp [hl, look]
    · have : look [(k, v)] k' = none := by simp [look, Ne.symm hk]
      rw [this, if_neg hk]
      simp
end
end Go.Proofs.Ythmohmpalbnjoaa.V

set_option linter.unusedVariables false
set_option linter.unusedSimpArgs false
namespace Go.Proofs.Ythmohmpalbnjoaa.V
open Go
open Go.ChangeMaps (setBlock)
section
variable {P : Program} {w w' : World} {b : Nat} {m : List (Str × Value)} {k : Str} {M : List Nat}
variable {ops : Array Oper} {Q : Exit → Act → World → Prop} {n : Nat} {ds : List Deferred} {l : List (Nat × Value)} {rest : List Oper} {d : Nat} {ty : TypeId} {pos : String} {af : Array Edge} {dd : Option Nat} {gg : Option (Nat × Bool)} {x y z : Operand} {t kt et : TypeId} {v : Value}
theorem MapB.nil (w : World) : MapB (w.alloc (.map #[] 0)) w.heap.size [] :=
  ⟨⟨#[], 0, heap_alloc_new w _, rfl, by simp, by simp⟩, by simp⟩
theorem s_mmap (hd : Nat.blt d n = true) (h : ∀ b w', MapB w' b [] → b = w.heap.size → Mod [] w w' → WL P ops Q rest n ds ((d, .map (some b)) :: l) w') : WL P ops Q (⟨some d, .makeMap t none, ty, pos, af, none⟩ :: rest) n ds l w :=
  sv (v := .map (some w.heap.size)) (w' := w.alloc (.map #[] 0)) (fun ρ hρ => by simp [execOp, Instr.makeMap, newObj, Sem.run, Result.andThen]) hd (h _ _ (MapB.nil w) rfl (Mod.alloc w _))
theorem setBlock_at {o o' : Obj} {g : Nat} (hg : w.heap[g]? = some o) : (setBlock w g o').heap[g]? = some o' := by
  have hlt := (Array.getElem?_eq_some_iff.1 hg).1
  simp [setBlock, Array.getElem?_setIfInBounds, hlt]
theorem setBlock_mod {o o' : Obj} {g : Nat} (hg : w.heap[g]? = some o) : Mod [g] w (setBlock w g o') := by
  refine ⟨rfl, rfl, rfl, by simp [setBlock], fun i hi hn => ?_⟩
  have : i ≠ g := fun e => hn (by simp [e])
  simp [setBlock, Array.getElem?_setIfInBounds, Ne.symm this]
theorem run_set {o' : Obj} {g : Nat} {es : Array MapEntry} {c : Nat} (hg : w.heap[g]? = some (.map es c)) : (setObj g o').run P w = .ok () (setBlock w g o') := by
  simp [setObj, Sem.run, hg, setBlock]
theorem ents_push {es : Array MapEntry} {e : MapEntry} : ents (es.push e) = ents es ++ [(e.key, e.val)] := by simp [ents]
theorem ents_modify {es : Array MapEntry} {j : Nat} {p : Str × Value} (h : ents es = rows m) (hk : (m.map (·.1)).Nodup) (hj : m[j]? = some p) (hp : p.1 = k) : ents (es.modify j fun e => { e with key := S k, val := v }) = rows (m.map fun q => if q.1 = k then (q.1, v) else q) := by
  unfold ents rows at h ⊢
  apply List.ext_getElem?
  intro i
  have hi := congrArg (fun z => z[i]?) h
  simp only [List.getElem?_map] at hi
  simp only [List.getElem?_map, Array.getElem?_toList, Array.getElem?_modify] at hi ⊢
  by_cases hij : j = i
  · subst hij
    rw [if_pos rfl]
    rw [hj] at hi ⊢
    cases he : es[j]? with
    | none => rw [he] at hi; simp at hi
    | some e => simp [hp]
  · rw [if_neg hij]
    cases hq : m[i]? with
    | none => rw [hq] at hi; simp at hi ⊢; exact hi
    | some q =>
      rw [hq] at hi
      have hne : ¬ q.1 = k := fun e => by
        have h1 := (List.getElem?_eq_some_iff.1 hj)
        have h2 := (List.getElem?_eq_some_iff.1 hq)
        obtain ⟨h1a, h1b⟩ := h1
        obtain ⟨h2a, h2b⟩ := h2
        have hpw := List.pairwise_iff_getElem.1 hk
        rcases Nat.lt_or_gt_of_ne hij with hlt | hlt
        · exact hpw j i (by simpa using h1a) (by simpa using h2a) hlt (by simp [h1b, h2b, hp, e])
        · exact hpw i j (by simpa using h2a) (by simpa using h1a) hlt (by simp [h1b, h2b, hp, e])
      rw [hi]
      simp [hne]
theorem born_modify {es : Array MapEntry} {j : Nat} {f : MapEntry → MapEntry} (hf : ∀ e, (f e).born = e.born) : (es.modify j f).toList.map (·.born) = es.toList.map (·.born) := by
  apply List.ext_getElem?
  intro i
  simp only [List.getElem?_map, Array.getElem?_toList, Array.getElem?_modify]
  split
  · cases es[i]? <;> simp [hf]
  · rfl
theorem s_mset (ht : P.underlying t = some (.map kt et)) (hk : P.underlying kt = some .string) (hx : evO l x = some (.map (some b))) (hm : MapB w b m) (hy : evO l y = some (S k)) (hz : evO l z = some v)
    (h : ∀ w', MapB w' b (setM m k v) → Mod [b] w w' → WL P ops Q rest n ds l w') : WL P ops Q (⟨none, .mapUpdate t x y z, ty, pos, af, none⟩ :: rest) n ds l w := by
  obtain ⟨es, c, h1, h2, h3, h4⟩ := hm.at_
  obtain ⟨j, h5, h6⟩ := run_findKey (P := P) (w := w) hk h2 k
  cases hl : look m k with
  | none =>
    rw [hl] at h5
    have hB : MapB (setBlock w b (.map (es.push { key := S k, val := v, born := c }) (c + 1))) b (setM m k v) := by
      refine ⟨⟨_, _, setBlock_at h1, ?_, fun e he => ?_, ?_⟩, setM_keys hm.keys⟩
      · rw [ents_push, h2]
        unfold setM
        rw [hl]
        simp [rows]
      · simp only [Array.toList_push, List.mem_append, List.mem_singleton] at he
        rcases he with he | rfl
        · have := h3 e he; omega
        · exact Nat.lt_succ_self _
      · simp only [Array.toList_push, List.map_append, List.map_cons, List.map_nil, List.nodup_append]
        refine ⟨h4, by simp, fun a ha q hq => ?_⟩
        simp only [List.mem_singleton] at hq
        subst hq
        obtain ⟨e, he, rfl⟩ := List.mem_map.1 ha
        have := h3 e he
        omega
    intro a ha
    refine wpList_plain rfl fun K hK => ?_
    have hr : (execOp a.eval ⟨none, .mapUpdate t x y z, ty, pos, af, none⟩).run P w = .ok .skip (setBlock w b (.map (es.push { key := S k, val := v, born := c }) (c + 1))) := by
      simp [execOp, ha.ev hx, ha.ev hy, ha.ev hz, Instr.mapUpdate, underlying, ht, getObj, Sem.run, Result.andThen, h1, run_check hk, h5, run_set h1]
    simp only [Oper.wp, hr, Oper.upon]
    exact hK _ _ (h _ hB (setBlock_mod h1) _ (by simpa [Act.put] using ha))
  | some u =>
    rw [hl] at h5
    obtain ⟨p, h7, h8, h9, h10⟩ := h6 u hl
    have hB : MapB (setBlock w b (.map (es.modify j fun e => { e with key := S k, val := v }) c)) b (setM m k v) := by
      refine ⟨⟨_, _, setBlock_at h1, ?_, fun e he => ?_, ?_⟩, setM_keys hm.keys⟩
      · rw [ents_modify h2 hm.keys h7 h8]
        unfold setM
        rw [hl]
        rfl
      · have hb := born_modify (es := es) (j := j) (f := fun e => { e with key := S k, val := v }) (fun _ => rfl)
        have : e.born ∈ es.toList.map (·.born) := by rw [← hb]; exact List.mem_map_of_mem he
        obtain ⟨e', he', hbe⟩ := List.mem_map.1 this
        have := h3 e' he'
        omega
      · rw [born_modify (f := fun e => { e with key := S k, val := v }) (fun _ => rfl)]
        exact h4
    have hkey : ((es[j]?).map (·.key)).getD (S k) = S k := by
      have hi := congrArg (fun z => z[j]?) h2
      simp only [ents, rows, List.getElem?_map, h7, Array.getElem?_toList] at hi
      cases he : es[j]? with
      | none => rfl
      | some e =>
        rw [he] at hi
        simp only [Option.map_some, Option.some.injEq, Prod.mk.injEq] at hi
        simp [hi.1, h8]
    have hstay : (Instr.keyThatStays (S k) (S k)).run P w = .ok (S k) w := by
      have : Instr.sameBits 10000 (S k) (S k) = true := by
        unfold S
        simp only [Instr.sameBits, ba_beq]
        simp
      simp [Instr.keyThatStays, this]
    intro a ha
    refine wpList_plain rfl fun K hK => ?_
    have hr : (execOp a.eval ⟨none, .mapUpdate t x y z, ty, pos, af, none⟩).run P w = .ok .skip (setBlock w b (.map (es.modify j fun e => { e with key := S k, val := v }) c)) := by
      simp [execOp, ha.ev hx, ha.ev hy, ha.ev hz, Instr.mapUpdate, underlying, ht, getObj, Sem.run, Result.andThen, h1, run_check hk, h5, hkey, hstay, run_set h1]
    simp only [Oper.wp, hr, Oper.upon]
    exact hK _ _ (h _ hB (setBlock_mod h1) _ (by simpa [Act.put] using ha))
end
end Go.Proofs.Ythmohmpalbnjoaa.V

set_option linter.unusedVariables false
set_option linter.unusedSimpArgs false
namespace Go.Proofs.Ythmohmpalbnjoaa.V
open Go
open Go.ChangeMaps (setBlock)
/-- an iterator over a map: the keys that are still to come; the one that came last -/
structure MIt (w : World) (g b : Nat) (m : List (Str × Value)) (L : List Str) (last : Option (Str × Value)) : Prop where
  at_ : ∃ es clock since seen c0, w.heap[g]? = some (.mapIter (some b) since seen c0) ∧ w.heap[b]? = some (.map es clock) ∧ ents es = rows m ∧ (∀ e ∈ es.toList, e.born < since) ∧ since ≤ c0 ∧ c0 = clock ∧ (es.toList.map (·.born)).Nodup ∧
    L.map S = (leftOf es seen).toList.map (·.key) ∧ (∀ p, last = some p → ∃ (e : MapEntry) (s0 : Array Nat), e ∈ es.toList ∧ seen = s0.push e.born ∧ e.key = S p.1 ∧ e.val = p.2)
  keys : (m.map (·.1)).Nodup
section
variable {P : Program} {w w' : World} {g b : Nat} {m : List (Str × Value)} {k : Str} {M : List Nat} {L : List Str} {last : Option (Str × Value)}
variable {ops : Array Oper} {Q : Exit → Act → World → Prop} {n : Nat} {ds : List Deferred} {l : List (Nat × Value)} {rest : List Oper} {d : Nat} {ty : TypeId} {pos : String} {af : Array Edge} {dd : Option Nat} {gg : Option (Nat × Bool)} {x y z : Operand} {t kt et : TypeId} {v : Value}
theorem inj_map {α β : Type} {f : α → β} : ∀ {l : List α}, (l.map f).Nodup → ∀ {x y : α}, x ∈ l → y ∈ l → f x = f y → x = y
  | [], _, x, y, hx, _, _ => by cases hx
  | a :: r, h, x, y, hx, hy, e => by
    rw [List.map_cons, List.nodup_cons] at h
    rcases List.mem_cons.1 hx with rfl | hx'
    · rcases List.mem_cons.1 hy with rfl | hy'
      · rfl
      · exact absurd (e ▸ List.mem_map_of_mem hy') h.1
    · rcases List.mem_cons.1 hy with rfl | hy'
      · exact absurd (e ▸ List.mem_map_of_mem hx') h.1
      · exact inj_map h.2 hx' hy' e
theorem look_nodup {β : Type} : ∀ {m : List (Str × β)} {p : Str × β}, (m.map (·.1)).Nodup → p ∈ m → look m p.1 = some p.2
  | q :: r, p, h, hp => by
    rw [List.map_cons, List.nodup_cons] at h
    rcases List.mem_cons.1 hp with rfl | hp
    · rw [look, if_pos rfl]
    · rw [look, if_neg (fun e => h.1 (by rw [e]; exact List.mem_map_of_mem hp))]
      exact look_nodup h.2 hp
theorem filt_keys {e : MapEntry} {k : Str} : ∀ (X : List MapEntry) (L : List Str), L.map S = X.map (·.key) → (∀ x ∈ X, x.born = e.born ↔ x.key = S k) → (L.filter fun q => decide (q ≠ k)).map S = (X.filter fun x => decide (x.born ≠ e.born)).map (·.key)
  | [], [], _, _ => rfl
  | [], _ :: _, h, _ => by simp at h
  | _ :: _, [], h, _ => by simp at h
  | x :: X, q :: L, h, hx => by
    simp only [List.map_cons, List.cons.injEq] at h
    have ih := filt_keys X L h.2 (fun y hy => hx y (by simp [hy]))
    have hq : q = k ↔ x.born = e.born := by
      rw [hx x (by simp), ← h.1]
      exact ⟨fun e => by rw [e], S_inj⟩
    by_cases h1 : q = k
    · have h2 := hq.1 h1
      rw [List.filter_cons_of_neg (by simp [h1]), List.filter_cons_of_neg (by simp [h2])]
      exact ih
    · have h2 : ¬ x.born = e.born := fun h => h1 (hq.2 h)
      rw [List.filter_cons_of_pos (by simp [h1]), List.filter_cons_of_pos (by simp [h2]), List.map_cons, List.map_cons, ih, h.1]
theorem MIt.lt (h : MIt w g b m L last) : g < w.heap.size := by
  obtain ⟨_, _, _, _, _, h1, _⟩ := h.at_
  exact (Array.getElem?_eq_some_iff.1 h1).1
theorem MIt.mod (h : MIt w g b m L last) (k : Mod M w w') (hg : g ∉ M) (hb : b ∉ M) : MIt w' g b m L last := by
  obtain ⟨es, clock, since, seen, c0, h1, h2, h3⟩ := h.at_
  have l1 := (Array.getElem?_eq_some_iff.1 h1).1
  have l2 := (Array.getElem?_eq_some_iff.1 h2).1
  exact ⟨⟨es, clock, since, seen, c0, (k.block g l1 hg).trans h1, (k.block b l2 hb).trans h2, h3⟩, h.keys⟩
theorem MIt.mod0 (h : MIt w g b m L last) (k : Mod [] w w') : MIt w' g b m L last := h.mod k (by simp) (by simp)
theorem keys_of {es : Array MapEntry} (h : ents es = rows m) : es.toList.map (·.key) = (m.map (·.1)).map S := by
  have := congrArg (fun z => z.map (·.1)) h
  simpa [ents, rows, List.map_map, Function.comp_def] using this
theorem s_mrange (ht : P.underlying t = some (.map kt et)) (hx : evO l x = some (.map (some b))) (hm : MapB w b m) (hd : Nat.blt d n = true)
    (h : ∀ g w', MIt w' g b m (m.map (·.1)) none → g = w.heap.size → Mod [] w w' → WL P ops Q rest n ds ((d, .pointer (some ⟨g, 0, none⟩)) :: l) w') : WL P ops Q (⟨some d, .range t x, ty, pos, af, none⟩ :: rest) n ds l w := by
  obtain ⟨es, c, h1, h2, h3, h4⟩ := hm.at_
  refine sv (v := .pointer (some ⟨w.heap.size, 0, none⟩)) (w' := w.alloc (.mapIter (some b) c #[] c)) (fun ρ hρ => ?_) hd (h _ _ ⟨⟨es, c, c, #[], c, heap_alloc_new w _, ?_, h2, h3, Nat.le_refl _, rfl, h4, ?_, by simp⟩, hm.keys⟩ rfl (Mod.alloc w _))
  · simp [execOp, hρ _ _ hx, Instr.range, underlying, ht, getObj, Sem.run, Result.andThen, h1, newObj]
  · have := (Mod.alloc w (.mapIter (some b) c #[] c)).block b (Array.getElem?_eq_some_iff.1 h1).1 (by simp)
    exact this.trans h1
  · have : leftOf es #[] = es := by simp [leftOf]
    rw [this, keys_of h2]
theorem leftOf_push {es : Array MapEntry} {seen : Array Nat} {e : MapEntry} : (leftOf es (seen.push e.born)).toList = (leftOf es seen).toList.filter (fun x => decide (x.born ≠ e.born)) := by
  unfold leftOf
  simp only [Array.toList_filter, List.filter_filter]
  apply List.filter_congr
  intro x _
  by_cases h : x.born = e.born <;> simp [h]
theorem s_mnext (hx : evO l x = some (.pointer (some ⟨g, 0, none⟩))) (I : MIt w g b m L last) (hd : Nat.blt d n = true)
    (h0 : L = [] → WL P ops Q rest n ds ((d, .tuple #[.bool false]) :: l) w)
    (h1 : ∀ k v w', k ∈ L → look m k = some v → MIt w' g b m (L.filter fun q => decide (q ≠ k)) (some (k, v)) → Mod [g] w w' → WL P ops Q rest n ds ((d, .tuple #[.bool true, S k, v]) :: l) w') :
    WL P ops Q (⟨some d, .next x false, ty, pos, af, none⟩ :: rest) n ds l w := by
  obtain ⟨es, clock, since, seen, c0, h2, h3, h4, h5, h6, h7, h8, h9, h10⟩ := I.at_
  rcases run_next_at (P := P) w ty g b since c0 seen es clock h2 h3 h5 h6 with ⟨h11, h12⟩ | ⟨e, h11, w1, h12, h13⟩
  · have hL : L = [] := by
      have : (leftOf es seen).toList = [] := by simpa using h11
      rw [this] at h9
      simpa using h9
    exact sv (fun ρ hρ => by simp [execOp, hρ _ _ hx, h12]) hd (h0 hL)
  · have hel : e ∈ es.toList := by
      have := h11
      unfold leftOf at this
      simp only [Array.toList_filter, List.mem_filter] at this
      exact this.1
    have hmem : (e.key, e.val) ∈ rows m := by rw [← h4]; exact List.mem_map_of_mem (f := fun e : MapEntry => (e.key, e.val)) hel
    obtain ⟨p, hp, hpe⟩ := List.mem_map.1 hmem
    injection hpe with hpk hpv
    have hkn : (es.toList.map (·.key)).Nodup := by
      rw [keys_of h4]
      exact List.Pairwise.map S (fun a b hab hs => hab (S_inj hs)) I.keys
    have hL : p.1 ∈ L := by
      have : S p.1 ∈ L.map S := by rw [h9, hpk]; exact List.mem_map_of_mem h11
      obtain ⟨q, hq, hqe⟩ := List.mem_map.1 this
      rw [← S_inj hqe]
      exact hq
    have hw1 : w1.heap = w.heap ∧ Mod [] w w1 := by
      rcases h12 with rfl | rfl
      · exact ⟨rfl, Mod.refl _ _⟩
      · exact ⟨rfl, Mod.drew _ _⟩
    have hg1 : w1.heap[g]? = some (.mapIter (some b) since seen c0) := by rw [hw1.1]; exact h2
    have hmod : Mod [g] w (setBlock w1 g (.mapIter (some b) since (seen.push e.born) clock)) := (hw1.2.mono (by simp)).trans (setBlock_mod hg1)
    have hgb : b ≠ g := fun h => by subst h; rw [h2] at h3; injection h3 with h3; cases h3
    refine sv (v := .tuple #[.bool true, S p.1, p.2]) (fun ρ hρ => by simp [execOp, hρ _ _ hx, h13, hpk, hpv]) hd (h1 p.1 p.2 _ hL (look_nodup I.keys hp) ⟨⟨es, clock, since, seen.push e.born, clock, setBlock_at hg1, ?_, h4, h5, by omega, rfl, h8, ?_, fun q hq => ?_⟩, I.keys⟩ hmod)
    · exact (hmod.block b (Array.getElem?_eq_some_iff.1 h3).1 (by simpa using hgb)).trans h3
    · rw [leftOf_push]
      refine filt_keys _ _ h9 fun y hy => ?_
      have hyl : y ∈ es.toList := by
        unfold leftOf at hy
        simp only [Array.toList_filter, List.mem_filter] at hy
        exact hy.1
      exact ⟨fun h => by rw [inj_map h8 hyl hel h, hpk], fun h => by rw [inj_map hkn hyl hel (h.trans hpk)]⟩
    · injection hq with hq
      subst hq
      exact ⟨e, seen, hel, rfl, hpk.symm, hpv.symm⟩
theorem o_mentry (hx : evO l x = some (.pointer (some ⟨g, 0, none⟩))) (I : MIt w g b m L (some (k, v))) : Runs P l ⟨dd, .entry x, ty, pos, af, gg⟩ w (.tuple #[S k, v]) w := fun ρ hρ => by
  obtain ⟨es, clock, since, seen, c0, h2, h3, h4, h5, h6, h7, h8, h9, h10⟩ := I.at_
  obtain ⟨e, s0, h11, rfl, h12, h13⟩ := h10 _ rfl
  subst h7
  have := run_entry_at (P := P) w g b since s0 es c0 e h2 h3 h11 h8
  simp [execOp, hρ _ _ hx, this, h12, h13]
theorem o_mlen (ht : P.underlying t = some (.map kt et)) (hx : evO l x = some v) (hm : MapV w v m) : Runs P l ⟨dd, .call { callee := .builtin .len, args := #[x], argTypes := #[t] }, ty, pos, af, gg⟩ w (.int .i64 m.length) w := fun ρ h => by
  rcases hm with ⟨rfl, rfl⟩ | ⟨b, rfl, hm⟩
  · simp [execOp, resolve, invoke, builtin, Builtin.len_, h _ _ hx, run_underlying ht, goInt]
  · obtain ⟨es, c, h1, h2, _⟩ := hm.at_
    have hl : es.size = m.length := by
      have := congrArg List.length h2
      simpa [ents, rows] using this
    simp [execOp, resolve, invoke, builtin, Builtin.len_, h _ _ hx, run_underlying ht, goInt, getObj, Sem.run, Result.andThen, h1, hl]
end
end Go.Proofs.Ythmohmpalbnjoaa.V

set_option linter.unusedVariables false
set_option linter.unusedSimpArgs false
namespace Go.Proofs.Ythmohmpalbnjoaa.V
open Go
/-! ## rising lists of names -/
def ascS (l : List Str) : Prop := l.Pairwise fun a b => bl a b = true
theorem ascS_nodup {l : List Str} (h : ascS l) : l.Nodup := by
  refine List.Pairwise.imp ?_ h
  intro a b hab e
  subst e
  rw [bl_irrefl] at hab
  cases hab
theorem ascS_ext : ∀ {l l' : List Str}, ascS l → ascS l' → (∀ x, x ∈ l ↔ x ∈ l') → l = l'
  | [], [], _, _, _ => rfl
  | [], b :: s, _, _, h => absurd ((h b).2 (by simp)) (by simp)
  | a :: r, [], _, _, h => absurd ((h a).1 (by simp)) (by simp)
  | a :: r, b :: s, h1, h2, h => by
    have h1' := List.pairwise_cons.1 h1
    have h2' := List.pairwise_cons.1 h2
    have hab : a = b := by
      rcases List.mem_cons.1 ((h a).1 (by simp)) with e | e
      · exact e
      · rcases List.mem_cons.1 ((h b).2 (by simp)) with e' | e'
        · exact e'.symm
        · have := bl_trans (h1'.1 b e') (h2'.1 a e)
          rw [bl_irrefl] at this
          cases this
    subst hab
    have : r = s := ascS_ext h1'.2 h2'.2 fun x => by
      constructor
      · intro hx
        rcases List.mem_cons.1 ((h x).1 (by simp [hx])) with e | e
        · subst e
          have := h1'.1 x hx
          rw [bl_irrefl] at this
          cases this
        · exact e
      · intro hx
        rcases List.mem_cons.1 ((h x).2 (by simp [hx])) with e | e
        · subst e
          have := h2'.1 x hx
          rw [bl_irrefl] at this
          cases this
        · exact e
    rw [this]
def withS (l : List Str) (s : Str) : List Str := if s ∈ l then l else l.filter (fun x => bl x s) ++ [s] ++ l.filter (fun x => bl s x)
theorem withS_mem {l : List Str} {s x : Str} : x ∈ withS l s ↔ x ∈ l ∨ x = s := by
  unfold withS
  split
  · rename_i h
    constructor
    · exact .inl
    · rintro (h' | rfl)
      · exact h'
      · exact h
  · simp only [List.mem_append, List.mem_filter, List.mem_singleton]
    constructor
    · rintro ((h' | h') | h')
      · exact .inl h'.1
      · exact .inr h'
      · exact .inl h'.1
    · rintro (h' | h')
      · rcases bl_total x s with h2 | h2 | h2
        · exact .inl (.inl ⟨h', h2⟩)
        · exact .inl (.inr h2)
        · exact .inr ⟨h', h2⟩
      · exact .inl (.inr h')
theorem withS_asc {l : List Str} {s : Str} (h : ascS l) : ascS (withS l s) := by
  unfold withS
  split
  · exact h
  · unfold ascS at h ⊢
    rw [List.append_assoc, List.pairwise_append]
    refine ⟨h.filter _, ?_, ?_⟩
    · simp only [List.cons_append, List.nil_append, List.pairwise_cons, List.mem_filter]
      exact ⟨fun a ha => ha.2, h.filter _⟩
    · intro a ha b hb
      simp only [List.mem_filter] at ha
      simp only [List.cons_append, List.nil_append, List.mem_cons, List.mem_filter] at hb
      rcases hb with rfl | hb
      · exact ha.2
      · exact bl_trans ha.2 hb.2
theorem withS_len {l : List Str} {s : Str} : (withS l s).length ≤ l.length + 1 := by
  unfold withS
  split
  · omega
  · have : (l.filter (fun x => bl x s)).length + (l.filter (fun x => bl s x)).length ≤ l.length := by
      induction l with
      | nil => simp
      | cons a r ih =>
        have ih := ih (fun h => by rename_i hn; exact hn (by simp [h]))
        simp only [List.filter_cons, List.length_cons]
        cases h1 : bl a s <;> cases h2 : bl s a
        · simp; omega
        · simp; omega
        · simp; omega
        · have := bl_asymm h1
          rw [h2] at this
          cases this
    simp only [List.length_append, List.length_cons, List.length_nil]
    omega
def setS (l : List Str) : List Str := l.foldl withS []
theorem foldS_mem {x : Str} : ∀ {m l : List Str}, x ∈ m.foldl withS l ↔ x ∈ l ∨ x ∈ m
  | [], l => by simp
  | a :: r, l => by
    rw [List.foldl_cons, foldS_mem, withS_mem, List.mem_cons, or_assoc]
theorem foldS_asc : ∀ {m l : List Str}, ascS l → ascS (m.foldl withS l)
  | [], _, h => h
  | a :: r, l, h => by
    rw [List.foldl_cons]
    exact foldS_asc (withS_asc h)
theorem setS_mem {l : List Str} {x : Str} : x ∈ setS l ↔ x ∈ l := by simp [setS, foldS_mem]
theorem setS_asc (l : List Str) : ascS (setS l) := foldS_asc (by simp [ascS])
theorem setS_eq {l l' : List Str} (h : ascS l') (hm : ∀ x, x ∈ l ↔ x ∈ l') : setS l = l' := ascS_ext (setS_asc l) h fun x => setS_mem.trans (hm x)
theorem setS_asc_eq {l : List Str} (h : ascS l) : setS l = l := setS_eq h fun _ => Iff.rfl
theorem setS_ext {l l' : List Str} (hm : ∀ x, x ∈ l ↔ x ∈ l') : setS l = setS l' := setS_eq (setS_asc l') fun x => (hm x).trans setS_mem.symm
theorem setS_with {l : List Str} {s : Str} : withS (setS l) s = setS (l ++ [s]) := by
  unfold setS
  rw [List.foldl_append]
  rfl
theorem setS_len {l : List Str} : (setS l).length ≤ l.length := by
  have : ∀ {m l : List Str}, (m.foldl withS l).length ≤ l.length + m.length := by
    intro m
    induction m with
    | nil => intro l; simp
    | cons a r ih =>
      intro l
      rw [List.foldl_cons, List.length_cons]
      have := ih (l := withS l a)
      have := withS_len (l := l) (s := a)
      omega
  simpa [setS] using this (m := l) (l := [])
theorem nodup_len : ∀ {l k : List Str}, l.Nodup → (∀ x ∈ l, x ∈ k) → l.length ≤ k.length
  | [], k, _, _ => by simp
  | a :: r, k, h, hs => by
    have h' := List.nodup_cons.1 h
    have ha := hs a (by simp)
    have := nodup_len (l := r) (k := k.erase a) h'.2 (fun x hx => (List.mem_erase_of_ne (fun e => h'.1 (by rw [← e]; exact hx))).2 (hs x (by simp [hx])))
    rw [List.length_erase_of_mem ha] at this
    have := List.length_pos_of_mem ha
    simp only [List.length_cons]
    omega
/-! ## graphs -/
abbrev Gm := List (Str × List Str)
def Gm.keys (m : Gm) : List Str := m.map (·.1)
def addG (m : Gm) (id : Str) (ah : List Str) : Gm × Int :=
  if id ∈ m.keys then (m, 6) else if ∃ x ∈ ah, x ∉ m.keys then (m, 41) else if m.length = 512 then (m, 22) else (m ++ [(id, setS ah)], 0)
inductive GWf : Gm → Prop
  | nil : GWf []
  | snoc {m : Gm} {id : Str} {ah : List Str} : GWf m → id ∉ m.keys → (∀ x ∈ ah, x ∈ m.keys) → ascS ah → GWf (m ++ [(id, ah)])
theorem GWf.add {m : Gm} (h : GWf m) (id : Str) (ah : List Str) : GWf (addG m id ah).1 := by
  unfold addG
  split
  · exact h
  · split
    · exact h
    · split
      · exact h
      · rename_i h1 h2 _
        exact .snoc h h1 (fun x hx => Classical.byContradiction fun hn => h2 ⟨x, setS_mem.1 hx, hn⟩) (setS_asc ah)
theorem GWf.nodup {m : Gm} (h : GWf m) : m.keys.Nodup := by
  induction h with
  | nil => simp [Gm.keys]
  | snoc h1 h2 h3 h4 ih =>
    simp only [Gm.keys, List.map_append, List.map_cons, List.map_nil, List.nodup_append] at ih ⊢
    refine ⟨ih, by simp, fun a ha b hb => ?_⟩
    simp only [List.mem_singleton] at hb
    subst hb
    intro e
    subst e
    exact h2 ha
theorem GWf.asc {m : Gm} (h : GWf m) : ∀ p ∈ m, ascS p.2 := by
  induction h with
  | nil => simp
  | snoc h1 h2 h3 h4 ih =>
    intro p hp
    rcases List.mem_append.1 hp with hp | hp
    · exact ih p hp
    · simp only [List.mem_singleton] at hp
      subst hp
      exact h4
/-- what a node is behind came before it -/
theorem GWf.back {m : Gm} (h : GWf m) : ∀ (k : Nat) (p : Str × List Str), m[k]? = some p → ∀ x ∈ p.2, ∃ i q, i < k ∧ m[i]? = some q ∧ q.1 = x := by
  induction h with
  | nil => simp
  | @snoc m id ah h1 h2 h3 h4 ih =>
    intro k p hp x hx
    rw [List.getElem?_append] at hp
    split at hp
    · rename_i hk
      obtain ⟨i, q, hi, hq, e⟩ := ih k p hp x hx
      exact ⟨i, q, hi, by rw [List.getElem?_append_left (by omega)]; exact hq, e⟩
    · rename_i hk
      have hk' : k - m.length = 0 := by
        have := (List.getElem?_eq_some_iff.1 hp).1
        simp at this
        omega
      rw [hk'] at hp
      simp at hp
      subst hp
      obtain ⟨q, hq, e⟩ := List.mem_map.1 (h3 x hx)
      obtain ⟨i, hi, hqi⟩ := List.mem_iff_getElem.1 hq
      exact ⟨i, q, by omega, by rw [List.getElem?_append_left hi, List.getElem?_eq_getElem hi, hqi], e⟩
theorem GWf.mem {m : Gm} (h : GWf m) {p : Str × List Str} (hp : p ∈ m) : ∀ x ∈ p.2, x ∈ m.keys := fun x hx => by
  obtain ⟨k, hk, hpk⟩ := List.mem_iff_getElem.1 hp
  obtain ⟨i, q, _, hq, e⟩ := h.back k p (by rw [List.getElem?_eq_getElem hk, hpk]) x hx
  exact List.mem_map.2 ⟨q, List.mem_of_getElem? hq, e⟩
theorem nodup_at : ∀ {l : List Str}, l.Nodup → ∀ {i j : Nat} {x : Str}, l[i]? = some x → l[j]? = some x → i = j
  | [], _, i, j, x, h, _ => by simp at h
  | a :: r, hn, 0, 0, x, _, _ => rfl
  | a :: r, hn, 0, j + 1, x, h1, h2 => by
    simp at h1 h2
    subst h1
    exact absurd (List.mem_of_getElem? h2) (List.nodup_cons.1 hn).1
  | a :: r, hn, i + 1, 0, x, h1, h2 => by
    simp at h1 h2
    subst h2
    exact absurd (List.mem_of_getElem? h1) (List.nodup_cons.1 hn).1
  | a :: r, hn, i + 1, j + 1, x, h1, h2 => by
    simp at h1 h2
    rw [nodup_at (List.nodup_cons.1 hn).2 h1 h2]
theorem GWf.uniq {m : Gm} (h : GWf m) {i j : Nat} {p q : Str × List Str} (hi : m[i]? = some p) (hj : m[j]? = some q) (e : p.1 = q.1) : i = j :=
  nodup_at h.nodup (x := p.1) (by simp [Gm.keys, hi]) (by simp [Gm.keys, hj, e])
/-- the names ahead of one -/
def Gm.ahd (m : Gm) (x : Str) : List Str := (look m x).getD []
theorem look_keys {m : Gm} {x : Str} : (look m x).isSome = true ↔ x ∈ m.keys := by
  constructor
  · intro h
    obtain ⟨l, hl⟩ := Option.isSome_iff_exists.1 h
    exact List.mem_map.2 ⟨(x, l), look_some hl, rfl⟩
  · intro h
    cases hl : look m x with
    | some l => rfl
    | none =>
      obtain ⟨p, hp, e⟩ := List.mem_map.1 h
      exact absurd e (look_none hl p hp)
theorem GWf.look_ {m : Gm} (h : GWf m) {i : Nat} {p : Str × List Str} (hi : m[i]? = some p) : look m p.1 = some p.2 := look_nodup h.nodup (List.mem_of_getElem? hi)
/-- 'x' stands in the past of 'ids' -/
inductive Reach (m : Gm) (ids : List Str) : Str → Prop
  | base {x : Str} : x ∈ ids → x ∈ m.keys → Reach m ids x
  | step {x z : Str} : Reach m ids z → x ∈ m.ahd z → Reach m ids x
theorem Reach.key {m : Gm} (h : GWf m) {ids : List Str} {x : Str} (r : Reach m ids x) : x ∈ m.keys := by
  induction r with
  | base _ h2 => exact h2
  | @step x z _ hx ih =>
    unfold Gm.ahd at hx
    cases hl : look m z with
    | none => rw [hl] at hx; simp at hx
    | some l =>
      rw [hl] at hx
      exact h.mem (look_some hl) x hx
theorem Reach.mono {m : Gm} {ids ids' : List Str} {x : Str} (r : Reach m ids x) (h : ∀ y ∈ ids, y ∈ m.keys → Reach m ids' y) : Reach m ids' x := by
  induction r with
  | base h1 h2 => exact h _ h1 h2
  | step _ hx ih => exact .step ih hx
/-- the document's past: from the last that came to the first -/
def isP (late : Gm) (ids out : List Str) (id : Str) : Bool := decide (id ∈ ids) || late.any fun q => decide (id ∈ q.2) && decide (q.1 ∈ out)
def pastR (m : Gm) (ids : List Str) : Nat → List Str
  | 0 => []
  | j + 1 => match m.reverse[j]? with
    | some p => if isP (m.drop (m.length - j)) ids (pastR m ids j) p.1 then withS (pastR m ids j) p.1 else pastR m ids j
    | none => pastR m ids j
theorem pastR_asc (m : Gm) (ids : List Str) : ∀ j, ascS (pastR m ids j)
  | 0 => by simp [pastR, ascS]
  | j + 1 => by
    rw [pastR]
    split
    · split
      · exact withS_asc (pastR_asc m ids j)
      · exact pastR_asc m ids j
    · exact pastR_asc m ids j
theorem pastR_len (m : Gm) (ids : List Str) : ∀ j, (pastR m ids j).length ≤ j
  | 0 => by simp [pastR]
  | j + 1 => by
    rw [pastR]
    have := pastR_len m ids j
    split
    · rename_i p _
      split
      · have := withS_len (l := pastR m ids j) (s := p.1)
        omega
      · omega
    · omega
theorem pastR_reach {m : Gm} (h : GWf m) (ids : List Str) : ∀ j x, x ∈ pastR m ids j → Reach m ids x
  | 0, x, hx => by simp [pastR] at hx
  | j + 1, x, hx => by
    rw [pastR] at hx
    split at hx
    · rename_i p hp
      split at hx
      · rename_i hi
        rcases withS_mem.1 hx with hx | rfl
        · exact pastR_reach h ids j x hx
        · unfold isP at hi
          simp only [Bool.or_eq_true, decide_eq_true_eq, List.any_eq_true, Bool.and_eq_true] at hi
          rcases hi with hi | ⟨q, hq, h1, h2⟩
          · exact .base hi (List.mem_map.2 ⟨p, List.mem_reverse.1 (List.mem_of_getElem? hp), rfl⟩)
          · refine .step (pastR_reach h ids j _ h2) ?_
            have : look m q.1 = some q.2 := look_nodup h.nodup (List.mem_of_mem_drop hq)
            simpa [Gm.ahd, this] using h1
      · exact pastR_reach h ids j x hx
    · exact pastR_reach h ids j x hx
theorem pastR_mono {m : Gm} {ids : List Str} {x : Str} : ∀ {j k}, j ≤ k → x ∈ pastR m ids j → x ∈ pastR m ids k
  | j, 0, h, hx => by
    have : j = 0 := by omega
    subst this
    exact hx
  | j, k + 1, h, hx => by
    rcases Nat.lt_or_ge j (k + 1) with hlt | hge
    · have := pastR_mono (j := j) (k := k) (by omega) hx
      rw [pastR]
      split
      · split
        · exact withS_mem.2 (.inl this)
        · exact this
      · exact this
    · have : j = k + 1 := by omega
      subst this
      exact hx
theorem rev_at {m : Gm} {i : Nat} {p : Str × List Str} (hi : m[i]? = some p) : m.reverse[m.length - 1 - i]? = some p := by
  have := (List.getElem?_eq_some_iff.1 hi).1
  rw [List.getElem?_reverse (by omega), show m.length - 1 - (m.length - 1 - i) = i by omega]
  exact hi
theorem rev_of {m : Gm} {j : Nat} {p : Str × List Str} (hj : m.reverse[j]? = some p) : j < m.length ∧ m[m.length - 1 - j]? = some p := by
  have := (List.getElem?_eq_some_iff.1 hj).1
  simp at this
  rw [List.getElem?_reverse this] at hj
  exact ⟨this, hj⟩
/-- once a name's own round is over, it isn't put in any more -/
theorem pastR_late {m : Gm} (h : GWf m) {ids : List Str} {i : Nat} {p : Str × List Str} (hi : m[i]? = some p) : ∀ {k}, m.length - i ≤ k → p.1 ∈ pastR m ids k → p.1 ∈ pastR m ids (m.length - i)
  | 0, hk, hx => by simp [pastR] at hx
  | k + 1, hk, hx => by
    have hil := (List.getElem?_eq_some_iff.1 hi).1
    rcases Nat.lt_or_ge (m.length - i) (k + 1) with hlt | hge
    · rw [pastR] at hx
      split at hx
      · rename_i q hq
        split at hx
        · rcases withS_mem.1 hx with hx | e
          · exact pastR_late h hi (by omega) hx
          · obtain ⟨h1, h2⟩ := rev_of hq
            have := h.uniq hi h2 e
            omega
        · exact pastR_late h hi (by omega) hx
      · exact pastR_late h hi (by omega) hx
    · have : m.length - i = k + 1 := by omega
      rw [this] at *
      exact hx
theorem Reach.past {m : Gm} (h : GWf m) {ids : List Str} {x : Str} (r : Reach m ids x) : x ∈ pastR m ids m.length := by
  have key : ∀ {i : Nat} {p : Str × List Str}, m[i]? = some p → isP (m.drop (m.length - (m.length - 1 - i))) ids (pastR m ids (m.length - 1 - i)) p.1 = true → p.1 ∈ pastR m ids m.length := by
    intro i p hi hP
    have hil := (List.getElem?_eq_some_iff.1 hi).1
    refine pastR_mono (j := m.length - 1 - i + 1) (by omega) ?_
    rw [pastR, rev_at hi]
    simp only [hP, if_true]
    exact withS_mem.2 (.inr rfl)
  induction r with
  | base h1 h2 =>
    obtain ⟨p, hp, e⟩ := List.mem_map.1 h2
    obtain ⟨i, hi, hpi⟩ := List.mem_iff_getElem.1 hp
    subst e
    exact key (i := i) (by rw [List.getElem?_eq_getElem hi, hpi]) (by simp [isP, h1])
  | @step x z r hx ih =>
    have hz := r.key h
    obtain ⟨p, hp, e⟩ := List.mem_map.1 hz
    obtain ⟨k, hk, hpk⟩ := List.mem_iff_getElem.1 hp
    have hpk' : m[k]? = some p := by rw [List.getElem?_eq_getElem hk, hpk]
    subst e
    have hl := h.look_ hpk'
    simp only [Gm.ahd, hl, Option.getD_some] at hx
    obtain ⟨i, q, hik, hq, e⟩ := h.back k p hpk' x hx
    subst e
    refine key hq ?_
    unfold isP
    simp only [Bool.or_eq_true, decide_eq_true_eq, List.any_eq_true, Bool.and_eq_true]
    refine .inr ⟨p, ?_, hx, ?_⟩
    · rw [List.mem_iff_getElem?]
      refine ⟨k - (m.length - (m.length - 1 - i)), ?_⟩
      rw [List.getElem?_drop, show m.length - (m.length - 1 - i) + (k - (m.length - (m.length - 1 - i))) = k by omega]
      exact hpk'
    · exact pastR_mono (by omega) (pastR_late h hpk' (by omega) ih)
def past (m : Gm) (ids : List Str) : List Str := pastR m ids m.length
theorem past_mem {m : Gm} (h : GWf m) {ids : List Str} {x : Str} : x ∈ past m ids ↔ Reach m ids x := ⟨pastR_reach h ids _ x, fun r => r.past h⟩
theorem past_asc (m : Gm) (ids : List Str) : ascS (past m ids) := pastR_asc m ids _
theorem past_len (m : Gm) (ids : List Str) : (past m ids).length ≤ m.length := pastR_len m ids _
/-- heads -/
def headR (m : Gm) (k : Nat) : List Str := (m.take k).foldl (fun out p => if m.all (fun q => !decide (p.1 ∈ q.2)) then withS out p.1 else out) []
def heads (m : Gm) : List Str := setS ((m.filter fun p => m.all fun q => !decide (p.1 ∈ q.2)).map (·.1))
theorem foldH {f : Str × List Str → Bool} : ∀ {l : Gm} {o : List Str}, l.foldl (fun out p => if f p then withS out p.1 else out) o = ((l.filter f).map (·.1)).foldl withS o
  | [], o => rfl
  | a :: r, o => by
    rw [List.foldl_cons, foldH]
    cases ha : f a <;> simp [List.filter_cons, ha]
theorem headR_all (m : Gm) : headR m m.length = heads m := by
  unfold headR heads setS
  rw [List.take_length, foldH]
theorem headR_succ {m : Gm} {k : Nat} {p : Str × List Str} (h : m[k]? = some p) : headR m (k + 1) = if m.all (fun q => !decide (p.1 ∈ q.2)) then withS (headR m k) p.1 else headR m k := by
  unfold headR
  rw [List.take_add_one, h, Option.toList_some, List.foldl_append]
  rfl
/-- how many are right behind a name -/
def behind (m : Gm) (x : Str) : Nat := m.countP fun q => decide (x ∈ q.2)
theorem behind_zero {m : Gm} {x : Str} : behind m x = 0 ↔ m.all (fun q => !decide (x ∈ q.2)) = true := by
  simp [behind, List.countP_eq_zero]
theorem behind_snoc {m : Gm} {id x : Str} {ah : List Str} : behind (m ++ [(id, ah)]) x = behind m x + if x ∈ ah then 1 else 0 := by
  simp only [behind, List.countP_append, List.countP_cons, List.countP_nil, Nat.zero_add]
  by_cases h : x ∈ ah <;> simp [h]
theorem behind_le (m : Gm) (x : Str) : behind m x ≤ m.length := List.countP_le_length
end Go.Proofs.Ythmohmpalbnjoaa.V

set_option linter.unusedVariables false
set_option linter.unusedSimpArgs false
namespace Go.Proofs.Ythmohmpalbnjoaa.V
open Go
def mthB (P : Program) (T : TypeId) (name : String) (f : FuncId) (b : Bool) : Bool := match P.info? T with
  | some i => match i.methods.find? (·.name == name) with
    | some m => m.path.isEmpty && m.func == some (f, b)
    | none => false
  | none => false
section
variable {P : Program} {ops : Array Oper} {Q : Exit → Act → World → Prop} {n : Nat} {ds : List Deferred} {l : List (Nat × Value)} {w w' : World} {rest : List Oper} {d : Nat} {ty : TypeId} {pos : String} {af : Array Edge} {dd : Option Nat} {gg : Option (Nat × Bool)} {x y z : Operand} {t t' kt et T e : TypeId} {v : Value} {f : FuncId} {name : String}
theorem mthB_spec {b : Bool} (h : mthB P T name f b = true) : ∃ i m, P.info? T = some i ∧ i.methods.find? (·.name == name) = some m ∧ m.path = #[] ∧ m.func = some (f, b) := by
  unfold mthB at h
  split at h
  · rename_i i hi
    split at h
    · rename_i m hm
      simp only [Bool.and_eq_true, beq_iff_eq] at h
      exact ⟨i, m, hi, hm, by simpa using h.1, h.2⟩
    · cases h
  · cases h
theorem run_method_ptr {b : Value} (h : mthB P T name f true = true) (ht : P.underlying T = some (.pointer e)) (k : Nat) : (method (k + 1) T b name).run P w = .ok (f, b) w := by
  obtain ⟨i, m, h1, h2, h3, h4⟩ := mthB_spec h
  unfold method
  simp [typeInfo, h1, h2, h3, h4, follow, receiverAt, underlying, ht, Place.get]
theorem wrap_chk (a : Addr) (ts : Array TypeId) (t : TypeId) (s m : String) : Builtin.ssaWrapNilChk_ ts t #[.pointer (some a), strVal s, strVal m] = pure (.pointer (some a)) := rfl
theorem run_method_val {a : Addr} (h : mthB P T name f false = true) (ht : P.underlying T = some (.pointer e)) (hv : (loadVar e a).run P w = .ok v w) (k : Nat) : (method (k + 1) T (.pointer (some a)) name).run P w = .ok (f, v) w := by
  obtain ⟨i, m, h1, h2, h3, h4⟩ := mthB_spec h
  unfold method
  simp [typeInfo, h1, h2, h3, h4, follow, receiverAt, underlying, ht, Place.get, wrap_chk, asAddr, hv]
theorem o_inv {r u : Value} {xs : List Operand} {us : List Value} {ts : Array TypeId} (he : Ent P f) (hm : ∀ k, (method (k + 1) T r name).run P w = .ok (f, u) w) (hx : evO l x = some (.iface T r)) (hy : evL l xs = some us) :
    RunsC P l ⟨dd, .call { callee := .invoke x name, args := xs.toArray, argTypes := ts }, ty, pos, af, gg⟩ w f (u :: us).toArray := fun ρ h => by
  have e1 : xs.map ρ = us := evL_map h _ _ hy
  have e2 : ρ x = .iface T r := h _ _ hx
  have h1 := he (u :: us).toArray w
  have h2 := hm (P.types.size + 99)
  simp [execOp, resolve, e2, invoke, callMethod, Made.depth, ← e1] at h1 h2 ⊢
  rw [h2]
  have h3 : List.take xs.length (List.map ρ xs) = List.map ρ xs := List.take_of_length_le (by simp)
  simpa [h3] using h1
theorem o_taN {t0 : TypeId} {d0 : TypeDesc} (hT : P.underlying T = some d0) (hn : (match d0 with | .interface _ => false | _ => true) = true) (hx : evO l x = some (.iface T v)) : Runs P l ⟨dd, .typeAssert x t0 T false, ty, pos, af, gg⟩ w v w := fun ρ h => by
  cases d0 <;> first | (simp at hn; done) | simp [execOp, Instr.typeAssert, h _ _ hx, run_underlying hT]
theorem o_pne {ad : Option Addr} {e : TypeId} (he : P.underlying t = some (.pointer e)) (hx : evO l x = some (.pointer ad)) (hy : evO l y = some (.pointer none)) : Runs P l ⟨dd, .binOp .neq t x y t', ty, pos, af, gg⟩ w (.bool ad.isSome) w := fun ρ h => by
  have h1 := run_eq_pn (w := w) (ad := ad) he
  have h2 : binOp .neq t (.pointer ad) (.pointer none) = (do pure (.bool (! (← Op.equalIn (9999 + 1) t (.pointer ad) (.pointer none))))) := by cases ad <;> rfl
  have h3 := run_eqIn_pn (w := w) (ad := ad) 9999 he
  simp only [execOp, eqGuard, h _ _ hx, h _ _ hy]
  rw [h2]
  simp only [Sem.run_bind, h3]
  cases ad <;> simp [h3]
theorem s_stw1 {e N c i : Nat} {ad : Addr} {vs : List Value} {u : Value} {T : TypeId} (ht : scB P T = true) (O : Own w e 1 (.slice (some ad) N c) N vs) (hx : evO l x = some (.pointer (some (ad.add (i * 1))))) (hy : evO l y = some u) (h1c : u.oneCell' = true) (hi : i < N)
    (h : ∀ w', Own w' e 1 (.slice (some ad) N c) N (vs.set i u) → Mod [ad.block] w w' → w'.heap.size = w.heap.size → WL P ops Q rest n ds l w') :
    WL P ops Q (⟨none, .store T x y, ty, pos, af, none⟩ :: rest) n ds l w := by
  rcases O.2 with ⟨h0, _⟩ | ⟨g, o, cap, cs, hv, hB, hc1, hc2, hc3, hc4⟩
  · cases h0
  injection hv with e1 e2 e3
  injection e1 with e1
  subst e1; subst e3
  have hvl := O.1
  rw [Addr.add_lit, Nat.mul_one] at hx
  refine s_st ht hB hx hy h1c (by omega) fun w' hp => ?_
  refine h w' ⟨by simp [hvl], .inr ⟨g, o, c, _, rfl, hp.blk, hc1, hc2, by simp; omega, ?_⟩⟩ hp.mod hp.size
  subst hc4
  apply List.ext_getElem?
  intro j
  simp only [List.getElem?_take, List.getElem?_drop, List.getElem?_set, List.length_take, List.length_drop]
  repeat' split
  all_goals first
    | omega
    | rfl
    | skip
end
end Go.Proofs.Ythmohmpalbnjoaa.V
