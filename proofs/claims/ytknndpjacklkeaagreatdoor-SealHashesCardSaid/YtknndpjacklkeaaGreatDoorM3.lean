/-
  A part of the proof: parts of own slices; copy into a part; append of zeros; the entry for slices.overlaps; truths held against one another; drawn operations that look at two slots of which something is known; an argument's reading opened: what its cells stand for, and how great it is; behind the call: true, and each argument reads as it did, where nothing that was there has turned; strings compared by the library's stand-in; values of several cells in a slot; rows of cells; a slice that is built in a region whose order is drawn; a guard on a truth that was not asked; JSON values: what they stand for in memory, and what Same, rises, Get and Find say of them, in plain Lean; members by rising keys: found, put, in plain Lean. No condition of its own.
-/
import Derived.Test.YtknndpjacklkeaaGreatDoorM2
import Derived.Lib.Overlaps
import Derived.OpenShut
import Derived.DataReads
import Derived.ProofKit
import Derived.Carry
import Derived.WalkKit
import Derived.Lib.Bytealg
set_option linter.unusedVariables false
set_option linter.unusedSimpArgs false
namespace Go.Proofs.YtknndpjacklkeaaGreatDoor.V
open Go
section
variable {P : Program} {ops : Array Oper} {Q : Exit → Act → World → Prop} {n : Nat} {ds : List Deferred} {l : List (Nat × Value)} {w w' : World} {a : Act}
variable {rest : List Oper} {d : Nat} {op : Op} {ty : TypeId} {pos : String} {af : Array Edge}
variable {dd : Option Nat} {gg : Option (Nat × Bool)} {x y z : Operand} {t t' : TypeId} {k k' : IntKind} {m m' : Int} {b b' : Bool}

theorem Own.take {e sz n c m : Nat} {ad : Option Addr} {vs : List Value} (O : Own w e sz (.slice ad n c) n vs) (hm : m ≤ n) : Own w e sz (.slice ad m c) m (vs.take (m * sz)) := by
 have hle : m * sz ≤ n * sz := Nat.mul_le_mul_right _ hm
 have hl := O.1
 rcases O.2 with ⟨h0, h0'⟩ | ⟨g, o, cc, cs, hv, hB, hc1, hc2, hc3, hc4⟩
 ·injection h0 with e1 e2 e3
  subst e1; subst e3; subst e2
  have : m = 0 := by omega
  subst this
  simpa using Own.nil w e sz
 ·injection hv with e1 e2 e3
  subst e1; subst e3
  refine ⟨by rw [List.length_take]; omega, .inr ⟨g, o, c, cs, rfl, hB, by omega, hc2, hc3, ?_⟩⟩
  rw [← hc4, List.take_take]
  congr 1
  omega
theorem Own.extend {e sz n c m : Nat} {ad : Addr} {vs : List Value} (O : Own w e sz (.slice (some ad) n c) n vs) (hm : n ≤ m) (hc : m ≤ c) : ∃ vs', Own w e sz (.slice (some ad) m c) m vs' ∧ vs'.take (n * sz) = vs := by
 have hle : n * sz ≤ m * sz := Nat.mul_le_mul_right _ hm
 have hle2 : m * sz ≤ c * sz := Nat.mul_le_mul_right _ hc
 have hl := O.1
 rcases O.2 with ⟨h0, h0'⟩ | ⟨g, o, cc, cs, hv, hB, hc1, hc2, hc3, hc4⟩
 ·cases h0
 ·injection hv with e1 e2 e3
  injection e1 with e1
  subst e1; subst e3
  refine ⟨(cs.drop o).take (m * sz), ⟨by rw [List.length_take, List.length_drop]; omega, .inr ⟨g, o, c, cs, rfl, hB, hc, hc2, hc3, rfl⟩⟩, ?_⟩
  rw [← hc4, List.take_take]
  congr 1
  omega
theorem s_copyat {tx e sz by_ N c lo k c' : Nat} {ad : Addr} {u : Value} {vs news : List Value} (ht : slB P t e sz by_ = true) (O : Own w e sz (.slice (some ad) N c) N vs) (hx : evO l x = some (.slice (adS (some ad) c lo sz) (N - lo) (c - lo))) (hy : evO l y = some u)
  (hl : (Builtin.lenOf u).run P w = .ok c' w) (hk : Nat.min c' (N - lo) = k) (hcl : (Builtin.firstCells sz k u).run P w = .ok news.toArray w) (hnl : news.length = k * sz) (h1c : ∀ u ∈ news, u.oneCell' = true) (hlo : lo ≤ N) (hd : Nat.blt d n = true)
  (h : ∀ w', Own w' e sz (.slice (some ad) N c) N (vs.take (lo * sz) ++ news ++ vs.drop ((lo + k) * sz)) → Mod [ad.block] w w' → w'.heap.size = w.heap.size → WL P ops Q rest n ds ((d, .int .i64 k) :: l) w') :
  WL P ops Q (⟨some d, .call { callee := .builtin .copy, args := #[x, y], argTypes := #[t, tx] }, ty, pos, af, none⟩ :: rest) n ds l w := by
 obtain ⟨i, z, h1, h2, h3, h4, h5, h6⟩ := slB_spec ht
 rcases O.2 with ⟨h0, _⟩ | ⟨g, o, cap, cs, hv, hB, hc1, hc2, hc3, hc4⟩
 ·cases h0
 injection hv with e1 e2 e3
 injection e1 with e1
 subst e1; subst e3
 have hkN : k ≤ N - lo := by rw [← hk]; exact Nat.min_le_right _ _
 have hle : (lo + k) * sz ≤ N * sz := Nat.mul_le_mul_right _ (by omega)
 have hle2 : N * sz ≤ c * sz := Nat.mul_le_mul_right _ hc1
 have hvl := O.1
 have hadd : (lo + k) * sz = lo * sz + k * sz := Nat.add_mul _ _ _
 obtain ⟨w1, hst, hp⟩ := storeCells_put (P := P) hB (o := o + lo * sz) (vs := news) (by rw [hnl]; omega) h1c
 have hrun : ∃ w1, (match adS (some ⟨g, o, none⟩) c lo sz with | some a => storeCells a news | none => pure ()).run P w = .ok () w1 ∧ Own w1 e sz (.slice (some ⟨g, o, none⟩) N c) N (vs.take (lo * sz) ++ news ++ vs.drop ((lo + k) * sz)) ∧ Mod [g] w w1 ∧ w1.heap.size = w.heap.size := by
  by_cases hlc : c = lo
  ·have hk0 : k = 0 := by omega
   subst hk0
   have hne : news = [] := List.eq_nil_of_length_eq_zero (by simpa using hnl)
   subst hne
   refine ⟨w, ?_, ?_, Mod.refl _ w, rfl⟩
   ·simp [adS, hlc, storeCells]
   ·simpa using O
  ·refine ⟨w1, ?_, ⟨?_, .inr ⟨g, o, c, _, rfl, hp.blk, hc1, hc2, by simp [splice]; omega, ?_⟩⟩, hp.mod, hp.size⟩
   ·simpa [adS, hlc, Addr.add_lit] using hst
   ·simp only [List.length_append, List.length_take, List.length_drop, hnl, hvl]
    omega
   ·subst hc4
    apply List.ext_getElem?
    intro j
    simp only [splice, hnl]
    simp only [List.getElem?_take, List.getElem?_drop, List.getElem?_append, List.length_append, List.length_take, List.length_drop, hnl]
    repeat' split
    all_goals first
     | omega
     | rfl
     | (congr 1; omega)
     | skip
 obtain ⟨w1, hst, hO, hM, hs⟩ := hrun
 refine sv (v := .int .i64 k) (w' := w1) (fun ρ hρ => ?_) hd (h w1 hO hM hs)
 subst h3
 cases hA : adS (some (⟨g, o, none⟩ : Addr)) c lo i.size with
 | none =>
  rw [hA] at hst
  simp [execOp, resolve, invoke, builtin, hρ _ _ hx, hρ _ _ hy, Builtin.copy_, run_underlying h1, run_sizeOf_of h2, hl, hk, hcl, goInt, hA]
  simpa using hst
 | some a =>
  rw [hA] at hst
  simp [execOp, resolve, invoke, builtin, hρ _ _ hx, hρ _ _ hy, Builtin.copy_, run_underlying h1, run_sizeOf_of h2, hl, hk, hcl, goInt, hA]
  simp at hst
  simp [hst]
theorem appendz_run {t tx e sz by_ c c' : Nat} {v : Value} {vs zs : List Value} (ht : slB P t e sz by_ = true) (hz : zvB P e zs) (hzl : zs.length = sz) (htx : P.underlying tx = some (.int .i64)) (O : Own w e sz v c vs) (hsz : 0 < sz) (h1c : ∀ u ∈ zs, u.oneCell' = true)
  (hb : (c + c') * by_ ≤ 140737488355328) (hb1 : c + c' ≤ 9223372036854775807) (ty : Nat) :
  ∃ v' w' news, (Builtin.append_ #[t, tx] ty #[v, .int .i64 c']).run P w = .ok v' w' ∧ App w w' e sz v v' (c + c') (vs ++ news) ∧ news.length = c' * sz ∧ (∀ u ∈ news, u.oneCell' = true) ∧ ((∀ ad cc, v = .slice ad c cc → cc < c + c') → (∀ x ∈ ob v', w.heap.size ≤ x) ∧ Mod [] w w') := by
 obtain ⟨i, z, h1, h2, h3, h4, h5, h6⟩ := slB_spec ht
 obtain ⟨i', z', h7, h8, h9⟩ := zvB_spec hz
 have hii : i' = i := Option.some.inj (h7.symm.trans h2)
 subst hii
 have hzz : z' = z := Option.some.inj (h8.symm.trans h5)
 subst hzz
 subst h3; subst h4
 have hnl : (Builtin.zeroCells z'.cells c').toList.length = c' * i'.size := by rw [Array.length_toList, size_zeroCells, h6]
 have hone : ∀ u ∈ (Builtin.zeroCells z'.cells c').toList, u.oneCell' = true := by
  intro u hu
  rw [h9] at hu
  simp only [Builtin.zeroCells, Array.toList_map, List.mem_map] at hu
  obtain ⟨j, _, rfl⟩ := hu
  have hlt : j % zs.toArray.size < zs.length := by
   simp only [List.size_toArray]
   exact Nat.mod_lt _ (by omega)
  have : zs.toArray[j % zs.toArray.size]! = zs[j % zs.toArray.size] := by
   simp only [List.size_toArray] at hlt ⊢
   simp [hlt]
  rw [this]
  exact h1c _ (List.getElem_mem hlt)
 have hlen : (vs ++ (Builtin.zeroCells z'.cells c').toList).length = (c + c') * i'.size := by rw [List.length_append, O.1, hnl, Nat.add_mul]
 have hw : IntKind.i64.wrap (c' : Int) = c' := wrap64_in _ (by omega)
 have hnn : ¬ ((c' : Int) < 0) := by omega
 have hmb : ¬ ((c' : Int) * (i'.bytes : Int) > 281474976710656) := by
  have : c' * i'.bytes ≤ (c + c') * i'.bytes := Nat.mul_le_mul_right _ (by omega)
  have h3 : (c' : Int) * (i'.bytes : Int) = ((c' * i'.bytes : Nat) : Int) := by simp
  rw [h3]
  omega
 have hz00 : c' * i'.size = 0 → Builtin.zeroCells z'.cells c' = #[] := fun h0 => Array.eq_empty_of_size_eq_zero (by rw [size_zeroCells, h6]; exact h0)
 have grow : ∀ (base : Option Addr) (cap : Nat), cap < c + c' → (Builtin.firstCells i'.size c (.slice base c cap)).run P w.drew = .ok vs.toArray w.drew →
   ∃ v' w', (Builtin.append_ #[t, tx] ty #[.slice base c cap, .int .i64 c']).run P w = .ok v' w' ∧ App w w' e i'.size (.slice base c cap) v' (c + c') (vs ++ (Builtin.zeroCells z'.cells c').toList) ∧ (∀ x ∈ ob v', w.heap.size ≤ x) ∧ Mod [] w w' := by
  intro base cap hcap hold
  have hfit := growslice_fits hcap hb
  have hn : ¬ (c + c' ≤ cap) := by omega
  have h63' : ¬ (9223372036854775807 < ((c : Int) + (c' : Int))) := by omega
  have h48' : ¬ (281474976710656 < Builtin.nextslicecap (c + c') cap * i'.bytes) := by omega
  have hr : (Builtin.append_ #[t, tx] ty #[.slice base c cap, .int .i64 c']).run P w =
   .ok (.slice (some ⟨w.heap.size, 0, none⟩) (c + c') (grownCap w (c + c') cap e))
    (w.drew.alloc (.cells ((vs ++ (Builtin.zeroCells z'.cells c').toList).toArray ++ Builtin.zeroCells z'.cells (grownCap w (c + c') cap e - (c + c'))) e)) := by
   by_cases h0 : c' * i'.size = 0
   ·have hz0 := hz00 h0
    simp [Builtin.append_, run_underlying h1, run_underlying htx, sizeOf, typeInfo, zeroValue, h2, h5, asInt, asIntOf, hw, hnn, hmb, hn, h63', h48', Question.forced, hold, newRow, grownCap, h0, hz0]
   ·simp [Builtin.append_, run_underlying h1, run_underlying htx, sizeOf, typeInfo, zeroValue, h2, h5, asInt, asIntOf, hw, hnn, hmb, hn, h63', h48', Question.forced, hold, newRow, grownCap, h0]
    congr 2
    apply Array.toList_inj.1
    simp
  have hge := grownCap_ge w (c + c') cap e
  generalize hN : (Builtin.zeroCells z'.cells c').toList = news at *
  have hB : Blk (w.drew.alloc (.cells ((vs ++ news).toArray ++ Builtin.zeroCells z'.cells (grownCap w (c + c') cap e - (c + c'))) e)) w.heap.size e ((vs ++ news) ++ (Builtin.zeroCells z'.cells (grownCap w (c + c') cap e - (c + c'))).toList) := by
   have := heap_alloc_new w.drew (.cells ((vs ++ news).toArray ++ Builtin.zeroCells z'.cells (grownCap w (c + c') cap e - (c + c'))) e)
   unfold Blk
   refine this.trans ?_
   congr 2
   apply Array.toList_inj.1
   simp
  refine ⟨_, _, hr, ⟨⟨hlen, .inr ⟨w.heap.size, 0, _, _, rfl, hB, hge, grownCap_le_maxLen w (c + c') cap e (by simp only [maxLen]; omega), ?_, ?_⟩⟩, ?_, ?_⟩, ?_, ?_⟩
  ·have hzl : (Builtin.zeroCells z'.cells (grownCap w (c + c') cap e - (c + c'))).toList.length = (grownCap w (c + c') cap e - (c + c')) * i'.size := by
    rw [Array.length_toList, size_zeroCells, h6]
   rw [List.length_append, hlen, hzl, ← Nat.add_mul]
   have : c + c' + (grownCap w (c + c') cap e - (c + c')) = grownCap w (c + c') cap e := by omega
   rw [this]
   omega
  ·rw [List.drop_zero, ← hlen]
   exact List.take_left
  ·exact ⟨rfl, rfl, rfl, by simp, fun j hj _ => RowKit.Below.heap_alloc w.drew _ j hj⟩
  ·intro x hx
   simp [ob] at hx
   exact .inr (by omega)
  ·intro x hx
   simp [ob] at hx
   omega
  ·exact ⟨rfl, rfl, rfl, by simp, fun j hj _ => RowKit.Below.heap_alloc w.drew _ j hj⟩
 rcases O.2 with ⟨rfl, h0⟩ | ⟨g, o, cap, cs, rfl, hB, hc1, hc2, hc3, hc4⟩
 ·subst h0
  have hvs : vs = [] := List.eq_nil_of_length_eq_zero (by simpa using O.1)
  subst hvs
  rcases Nat.eq_zero_or_pos c' with h0 | h0
  ·subst h0
   refine ⟨.slice none 0 0, w, [], ?_, ⟨by simpa using Own.nil w e i'.size, Mod.refl _ w, fun x hx => .inl hx⟩, by simp, by simp, fun hh => absurd (hh _ _ rfl) (by omega)⟩
   have hw0 : IntKind.i64.wrap 0 = 0 := by decide
   simp [Builtin.append_, run_underlying h1, run_underlying htx, sizeOf, typeInfo, h2, asInt, asIntOf, hw0]
  ·obtain ⟨v', w', hr, hA, hG⟩ := grow none 0 (by omega) (run_firstCells_none w.drew i'.size 0 0 0)
   exact ⟨v', w', _, hr, hA, hnl, hone, fun _ => hG⟩
 ·by_cases hroom : c + c' ≤ cap
  ·have hle : (c + c') * i'.size ≤ cap * i'.size := Nat.mul_le_mul_right _ hroom
   generalize hN : (Builtin.zeroCells z'.cells c') = NW at *
   have hfit : o + c * i'.size + NW.toList.length ≤ cs.length := by rw [hnl]; rw [Nat.add_mul] at hle; omega
   obtain ⟨w1, hst, hp⟩ := storeCells_put (P := P) hB hfit hone
   refine ⟨.slice (some ⟨g, o, none⟩) (c + c') cap, w1, NW.toList, ?_, ⟨⟨hlen, .inr ⟨g, o, cap, _, rfl, hp.blk, hroom, hc2, ?_, ?_⟩⟩, ?_, fun x hx => .inl hx⟩, hnl, hone, fun hh => absurd (hh _ _ rfl) (by omega)⟩
   ·by_cases h0 : c' * i'.size = 0
    ·have hz0 := hz00 h0
     rw [hz0] at hst
     simp at hst
     simp [Builtin.append_, run_underlying h1, run_underlying htx, sizeOf, typeInfo, zeroValue, h2, h5, asInt, asIntOf, hw, hnn, hmb, hroom, Addr.add_lit, h0, hst]
    ·simp [Builtin.append_, run_underlying h1, run_underlying htx, sizeOf, typeInfo, zeroValue, h2, h5, asInt, asIntOf, hw, hnn, hmb, hroom, Addr.add_lit, h0, hN, hst]
   ·simp only [splice, List.length_append, List.length_take, List.length_drop]
    omega
   ·have e1 : List.take (o + c * i'.size) cs = List.take o cs ++ vs := by rw [← hc4, List.take_add]
    have hol : (List.take o cs).length = o := by rw [List.length_take]; omega
    rw [splice, e1, List.append_assoc, List.append_assoc, List.drop_left' hol, ← List.append_assoc, ← hlen, List.take_left]
   ·exact hp.mod
  ·obtain ⟨v', w', hr, hA, hG⟩ := grow (some ⟨g, o, none⟩) cap (by omega) (run_firstCells_some w.drew i'.size c _ c cap vs O.1 (fun j x hx => by have := O.cs j x hx; simpa using this))
   exact ⟨v', w', _, hr, hA, hnl, hone, fun _ => hG⟩
theorem s_appendz {t tx e sz by_ c c' : Nat} {v : Value} {vs zs : List Value} (ht : slB P t e sz by_ = true) (hz : zvB P e zs) (hzl : zs.length = sz) (htx : P.underlying tx = some (.int .i64)) (hx : evO l x = some v) (hy : evO l y = some (.int .i64 c')) (O : Own w e sz v c vs) (hsz : 0 < sz) (h1c : ∀ u ∈ zs, u.oneCell' = true)
  (hb : (c + c') * by_ ≤ 140737488355328) (hb1 : c + c' ≤ 9223372036854775807) (hd : Nat.blt d n = true)
  (h : ∀ v' w' news, App w w' e sz v v' (c + c') (vs ++ news) → news.length = c' * sz → (∀ u ∈ news, u.oneCell' = true) → ((∀ ad cc, v = .slice ad c cc → cc < c + c') → (∀ x ∈ ob v', w.heap.size ≤ x) ∧ Mod [] w w') → WL P ops Q rest n ds ((d, v') :: l) w') :
  WL P ops Q (⟨some d, .call { callee := .builtin .append, args := #[x, y], argTypes := #[t, tx] }, ty, pos, af, none⟩ :: rest) n ds l w := by
 obtain ⟨v', w', news, hr, hA, h2, h3, h4⟩ := appendz_run (P := P) ht hz hzl htx O hsz h1c hb hb1 ty
 refine sv (v := v') (w' := w') (fun ρ hρ => ?_) hd (h v' w' news hA h2 h3 h4)
 simp [execOp, resolve, invoke, builtin, hρ _ _ hx, hρ _ _ hy, hr]
/-! ### slices.overlaps -/
def Ovl (P : Program) (f : FuncId) (tS tR : TypeId) : Prop := ∀ args w, (callFunc f args).run P w = ((Extern.SlicesOverlaps.overlaps #[tS, tS] #[tR] args).run P w).andThen fun v w' => .ok (.value v) w'
theorem o_overlaps {tS tR e sz by_ f i j c1 c2 : Nat} {a1 a2 : Addr} (hf : Ovl P f tS tR) (ht : slB P tS e sz by_ = true) (hx : evO l x = some (.slice (some a1) i c1)) (hy : evO l y = some (.slice (some a2) j c2))
  {g1 g2 : Nat} {o1 o2 : Nat} (ha1 : a1 = ⟨g1, o1, none⟩) (ha2 : a2 = ⟨g2, o2, none⟩) {T1 T2 : Nat} {cs1 cs2 : List Value} (B1 : Blk w g1 T1 cs1) (B2 : Blk w g2 T2 cs2) (hne : g1 ≠ g2) (h2 : cs2 ≠ []) {ts : Array TypeId} :
  Runs P l ⟨dd, .call { callee := .value (.func f), args := #[x, y], argTypes := ts }, ty, pos, af, gg⟩ w (.bool false) w := fun ρ hρ => by
 subst ha1; subst ha2
 obtain ⟨i', z, h1, h2', h3, h4, h5, h6⟩ := slB_spec ht
 have e2 : ρ (.func f) = .func (.func f) #[] #[] := hρ _ _ rfl
 have hov := Lib.run_overlaps_apart (P := P) w tS tR e h1 i'.size (fun w' => run_sizeOf_of h2') ⟨g1, o1, none⟩ ⟨g2, o2, none⟩ i c1 j c2 hne T1 T2 cs1.length cs2.length (by have := B1; unfold Blk at this; simp [World.shape?, this]) (by have := B2; unfold Blk at this; simp [World.shape?, this]) (by simpa using h2) (B1.frozen o1) (B1.frozen _)
 have := hf #[.slice (some ⟨g1, o1, none⟩) i c1, .slice (some ⟨g2, o2, none⟩) j c2] w
 rw [hov] at this
 simp [execOp, resolve, e2, hρ _ _ hx, hρ _ _ hy, Deferred.ofValue, invoke] at this ⊢
 simpa using this
theorem flat_take_ {α : Type} {sz : Nat} {cells : α → List Value} {xs : List α} (hl : ∀ x, (cells x).length = sz) (i : Nat) : ((xs.map cells).flatten).take (i * sz) = ((xs.take i).map cells).flatten := by
 induction xs generalizing i with
 | nil => simp
 | cons x xs ih =>
  cases i with
  | zero => simp
  | succ i =>
   simp only [List.map_cons, List.flatten_cons, List.take_succ_cons]
   rw [List.take_append, hl, Nat.add_mul, Nat.one_mul, List.take_of_length_le (by rw [hl]; omega), Nat.add_sub_cancel, ih]
theorem flat_drop_ {α : Type} {sz : Nat} {cells : α → List Value} {xs : List α} (hl : ∀ x, (cells x).length = sz) (i : Nat) : ((xs.map cells).flatten).drop (i * sz) = ((xs.drop i).map cells).flatten := by
 induction xs generalizing i with
 | nil => simp
 | cons x xs ih =>
  cases i with
  | zero => simp
  | succ i =>
   simp only [List.map_cons, List.flatten_cons, List.drop_succ_cons]
   rw [List.drop_append, hl, Nat.add_mul, Nat.one_mul, List.drop_eq_nil_of_le (by rw [hl]; omega), Nat.add_sub_cancel, ih, List.nil_append]
theorem flat_none {α : Type} {A : List Nat} {sz n c : Nat} {cells : α → List Value} {xs : List α} (h : Rep A w (flat sz cells xs) (.slice none n c)) : xs = [] := by
 cases xs with
 | nil => rfl
 | cons x xs =>
  obtain ⟨a, ha, _⟩ := flat_at (i := 0) h rfl
  cases ha
theorem adS_zero (ad : Option Addr) (c sz : Nat) : adS ad c 0 sz = ad := by
 unfold adS
 split
 ·rfl
 ·cases ad with
  | none => rfl
  | some a => simp [Addr.add_zero']
theorem adS_some (g o c lo sz : Nat) : ∃ o', adS (some (⟨g, o, none⟩ : Addr)) c lo sz = some ⟨g, o', none⟩ := by
 unfold adS
 split
 ·exact ⟨o, rfl⟩
 ·exact ⟨o + lo * sz, by simp [Addr.add_lit]⟩
theorem firstCells_any (sz k : Nat) (b : Option Addr) (i c i' c' : Nat) : Builtin.firstCells sz k (.slice b i c) = Builtin.firstCells sz k (.slice b i' c') := by cases b <;> rfl
theorem o_slto {ad : Option Addr} {c c' e sz by_ hi : Nat} {h : Operand} (ht : slB P t e sz by_ = true) (hx : evO l x = some (.slice ad c c')) (hh : evO l h = some (.int .i64 (hi : Int))) (hb : hi ≤ c') (hc : c ≤ c') :
  Runs P l ⟨dd, .slice t x none (some h) none, ty, pos, af, gg⟩ w (.slice ad hi c') w := by
 have := o_sl (P := P) (w := w) (dd := dd) (ty := ty) (pos := pos) (af := af) (gg := gg) ht hx (lo := none) (pl := none) (hi := some h) (ph := some (.i64, (hi : Int))) rfl (by simp [evS, hh]) (by simp only [loV, hiV]; omega) hc
 refine this.to ?_
 simp [loV, hiV, adS_zero]
theorem o_slfrom {ad : Option Addr} {c c' e sz by_ lo : Nat} {h : Operand} (ht : slB P t e sz by_ = true) (hx : evO l x = some (.slice ad c c')) (hh : evO l h = some (.int .i64 (lo : Int))) (hb : lo ≤ c) (hc : c ≤ c') :
  Runs P l ⟨dd, .slice t x (some h) none none, ty, pos, af, gg⟩ w (.slice (adS ad c' lo sz) (c - lo) (c' - lo)) w := by
 have := o_sl (P := P) (w := w) (dd := dd) (ty := ty) (pos := pos) (af := af) (gg := gg) ht hx (hi := none) (ph := none) (lo := some h) (pl := some (.i64, (lo : Int))) (by simp [evS, hh]) rfl (by simp only [loV, hiV]; omega) hc
 refine this.to ?_
 simp [loV, hiV]
end
end Go.Proofs.YtknndpjacklkeaaGreatDoor.V

set_option linter.unusedVariables false
set_option linter.unusedSimpArgs false
namespace Go.Proofs.YtknndpjacklkeaaGreatDoor.V
open Go
section
variable {P : Program} {ops : Array Oper} {Q : Exit → Act → World → Prop} {n : Nat} {ds : List Deferred} {l : List (Nat × Value)} {M : List (Nat × (Value → World → Prop))} {w w' : World} {a : Act}
variable {rest : List Oper} {d : Nat} {op : Op} {ty : TypeId} {pos : String} {af : Array Edge} {Fin : Kn → Prop} {j : Nat} {want b : Bool}
variable {dd : Option Nat} {gg : Option (Nat × Bool)} {x y z : Operand} {t t' : TypeId}
theorem J_of2 {V : Value → World → Prop} {t s : Nat} {U U' : Value → World → Prop} (ht : lk t l = none) (hM : lkM t M = some U) (hx : ∃ x ∈ op.operands.toList, x = .tmp t) (hs' : lk s l = none) (hM' : lkM s M = some U') (hx' : ∃ x ∈ op.operands.toList, x = .tmp s) (hV : ∀ v w1 w2, Mod [] w1 w2 → V v w1 → V v w2) (hd : Nat.blt d n = true) (hs : notSel op = true)
  (hr : ∀ (ρ : Operand → Value) w1 u u', Mod [] w w1 → U u w1 → U' u' w1 → (∀ x v, evO ((t, u) :: (s, u') :: l) x = some v → ρ x = v) → TameUpon P (Mod []) w1 V ((execOp ρ ⟨some d, op, ty, pos, af, none⟩).run P w1)) :
  J P ops (Mod []) (Mod [] w) n (kn l M) ⟨some d, op, ty, pos, af, none⟩ V := by
 refine J_of hV hd hs fun ρ w1 hC h1 h2 => hr ρ w1 (ρ (.tmp t)) (ρ (.tmp s)) hC (h2 t U ht hM hx) (h2 s U' hs' hM' hx') fun x v hv => ?_
 cases x with
 | tmp r =>
  simp only [evO, lk] at hv
  cases hb : Nat.beq t r with
  | true =>
   rw [hb] at hv
   have := Nat.eq_of_beq_eq_true hb
   subst this
   injection hv
  | false =>
   rw [hb] at hv
   cases hb' : Nat.beq s r with
   | true =>
    rw [hb'] at hv
    have := Nat.eq_of_beq_eq_true hb'
    subst this
    injection hv
   | false => rw [hb'] at hv; exact h1 _ _ hv
 | const c => exact h1 _ _ hv
 | global g => exact h1 _ _ hv
 | func f => exact h1 _ _ hv
theorem Calls.imp {f : FuncId} {args : Array Value} {φ ψ : Value → World → Prop} (h : Calls P f args w (Ret φ)) (hi : ∀ u w', φ u w' → ψ u w') : Calls P f args w (Ret ψ) :=
 h.mono fun e w2 he => by cases e <;> first | exact hi _ _ he | exact he
theorem s_sidx {u : List UInt8} {k : IntKind} {m : Int} (ht : P.underlying t = some .string) (hx : evO l x = some (S u)) (hy : evO l y = some (.int k m)) (h0 : 0 ≤ m) (hb : m.toNat < u.length) (hd : Nat.blt d n = true)
  (h : ∀ c : UInt8, u[m.toNat]? = some c → WL P ops Q rest n ds ((d, .int .u8 c.toNat) :: l) w) : WL P ops Q (⟨some d, .index t x y, ty, pos, af, none⟩ :: rest) n ds l w :=
 sv (o_sidx ht hx hy h0 (List.getElem?_eq_getElem hb)) hd (h _ (List.getElem?_eq_getElem hb))
theorem Cs.first {ad : Addr} {v : Value} {vs : List Value} (h : Cs w ad (v :: vs)) : w.cell? ad = some v := by
 have := h 0 v rfl
 rwa [Addr.add_zero'] at this
end
end Go.Proofs.YtknndpjacklkeaaGreatDoor.V

set_option linter.unusedVariables false
set_option linter.unusedSimpArgs false
namespace Go.Proofs.YtknndpjacklkeaaGreatDoor.V
open Go
section
variable {H : Type} {enc : TypeId × Value → H} {P : Program} {w : World} {n : Nat} {t : TypeId}
def OpnN (enc : TypeId × Value → H) (P : Program) (w : World) (n : Nat) (t : TypeId) {α : Type} (f : α → List D) (Q : α → Prop) : Prop :=
 ∀ cs x, DataW.trod enc P w 0 (fun _ => true) true n t cs = some x → (∀ m ∈ x.1.weights P t, m ≤ reachBytes) → ∃ a, Reps [] w (f a) cs ∧ Q a
theorem OpnN.zero {α : Type} {f : α → List D} {Q : α → Prop} : OpnN enc P w 0 t f Q := fun cs x h => by simp [DataW.trod] at h
theorem OpnN.to {α β : Type} {f : α → List D} {Q : α → Prop} {f' : β → List D} {Q' : β → Prop} (h : OpnN enc P w n t f Q) (g : α → β) (hf : ∀ a, f' (g a) = f a) (hQ : ∀ a, Q a → Q' (g a)) : OpnN enc P w n t f' Q' := fun cs x hx hm => by
 obtain ⟨a, h1, h2⟩ := h cs x hx hm
 exact ⟨g a, by rw [hf]; exact h1, hQ a h2⟩
theorem opn_str (ht : P.underlying t = some .string) : OpnN enc P w n t (fun s => [.v (S s)]) (fun s : List UInt8 => s.length ≤ 140737488351232) := fun cs x hx hm => by
 obtain ⟨s, rfl, rfl, _⟩ := DataW.trod_string ht hx
 refine ⟨s.data.toList, Reps.cons_ (Rep.v_ rfl) Reps.nil_, ?_⟩
 have := hm s.data.toList.length (by simp [DataW.weights])
 simpa [reachBytes] using this
theorem opn_int {k : IntKind} (ht : P.underlying t = some (.int k)) : OpnN enc P w n t (fun m => [.v (.int k m)]) (fun m : Int => (Lit.int k m).wf = true) := fun cs x hx hm => by
 obtain ⟨m, rfl, rfl, h⟩ := DataW.trod_int ht hx
 exact ⟨m, Reps.cons_ (Rep.v_ rfl) Reps.nil_, h⟩
theorem opn_bool (ht : P.underlying t = some .bool) : OpnN enc P w n t (fun b => [.v (.bool b)]) (fun _ : Bool => True) := fun cs x hx hm => by
 obtain ⟨b, rfl, rfl⟩ := DataW.trod_bool ht hx
 exact ⟨b, Reps.cons_ (Rep.v_ rfl) Reps.nil_, trivial⟩
def OpnFs (enc : TypeId × Value → H) (P : Program) (w : World) (n tot : Nat) (fs : List Field) (off : Nat) {α : Type} (f : α → List D) (Q : α → Prop) : Prop :=
 ∀ (cs : List Value) (xs : List (DataW H × List MemPlace)), cs.length = tot → xs.length = fs.length → (∀ (i : Nat) g, fs[i]? = some g → DataW.trod enc P w 0 (fun _ => true) true n g.type ((cs.drop g.offset).take (P.cellsOf g.type)) = xs[i]?) →
  (∀ m ∈ DataW.weightsEach P (fs.map (·.type)) (xs.map (·.1)), m ≤ reachBytes) → ∃ a, Reps [] w (f a) (cs.drop off) ∧ Q a
theorem opn_nil {tot : Nat} : OpnFs enc P w n tot [] tot (fun _ : Unit => []) (fun _ => True) := fun cs xs h _ _ _ => ⟨(), by rw [List.drop_eq_nil_of_le (by omega)]; exact Reps.nil_, trivial⟩
theorem opn_cons {tot off k : Nat} {fd : Field} {fs : List Field} {α β : Type} {f : α → List D} {Q : α → Prop} {f' : β → List D} {Q' : β → Prop} (ho : fd.offset = off) (hk : P.cellsOf fd.type = k) (h : OpnN enc P w n fd.type f Q) (h' : OpnFs enc P w n tot fs (off + k) f' Q') :
  OpnFs enc P w n tot (fd :: fs) off (fun p : α × β => f p.1 ++ f' p.2) (fun p => Q p.1 ∧ Q' p.2) := fun cs xs hl hx hr hm => by
 cases xs with
 | nil => simp at hx
 | cons x xs =>
  have h0 := hr 0 fd rfl
  simp only [List.getElem?_cons_zero] at h0
  simp only [List.map_cons, DataW.weightsEach, List.mem_append] at hm
  obtain ⟨a, ha, hQ⟩ := h _ x h0 (fun m hm' => hm m (.inl hm'))
  obtain ⟨b, hb, hQ'⟩ := h' cs xs hl (by simpa using hx) (fun i g hg => by simpa using hr (i + 1) g (by simpa using hg)) (fun m hm' => hm m (.inr hm'))
  refine ⟨(a, b), ?_, hQ, hQ'⟩
  have := ha.append hb
  rw [ho, hk] at this
  rwa [← List.drop_drop, List.take_append_drop] at this
theorem opn_struct {tot : Nat} {fs : Array Field} {α : Type} {f : α → List D} {Q : α → Prop} (ht : P.underlying t = some (.struct fs)) (hc : P.cellsOf t = tot) (h : OpnFs enc P w n tot fs.toList 0 f Q) : OpnN enc P w (n + 1) t f Q := fun cs x hx hm => by
 obtain ⟨xs, m, hn, rfl, hl, hlen, hf⟩ := DataW.trod_struct ht hx
 obtain rfl : n = m := by omega
 simp only [DataW.weights, ht] at hm
 have := h cs xs (hl.trans hc) (by simpa using hlen) (fun i g hg => hf i g (by simpa using hg)) hm
 simpa using this
theorem choose_list {α : Type} {R : Nat → α → Prop} : ∀ (k : Nat), (∀ i, i < k → ∃ a, R i a) → ∃ l : List α, l.length = k ∧ ∀ i a, l[i]? = some a → R i a
 | 0, _ => ⟨[], rfl, fun i a h => by simp at h⟩
 | k + 1, h => by
  obtain ⟨l, hl, hr⟩ := choose_list k fun i hi => h i (by omega)
  obtain ⟨a, ha⟩ := h k (by omega)
  refine ⟨l ++ [a], by simp [hl], fun i b hb => ?_⟩
  rcases Nat.lt_trichotomy i l.length with h1 | h1 | h1
  ·rw [List.getElem?_append_left h1] at hb
   exact hr i b hb
  ·subst h1
   simp at hb
   subst hb
   rw [hl]
   exact ha
  ·rw [List.getElem?_eq_none (by simp; omega)] at hb
   cases hb
theorem weightsAll_mem {e : TypeId} : ∀ {ds : List (DataW H)} {d : DataW H}, d ∈ ds → ∀ m ∈ d.weights P e, m ∈ DataW.weightsAll P e ds
 | d' :: ds, d, h, m, hm => by
  simp only [DataW.weightsAll, List.mem_append]
  rcases List.mem_cons.1 h with rfl | h
  ·exact .inl hm
  ·exact .inr (weightsAll_mem h m hm)
theorem opn_slice {e sz by_ : Nat} {α : Type} {f : α → List D} {Q : α → Prop} (ht : P.underlying t = some (.slice e)) (hc : P.cellsOf e = sz) (hb : P.bytesOf e = by_) (hsz : 0 < sz) (h : OpnN enc P w n e f Q) :
  OpnN enc P w (n + 1) t (fun xs : List α => [.sl sz (xs.map f)]) (fun xs => (∀ x ∈ xs, Q x) ∧ xs.length * by_ ≤ 140737488351232) := fun cs x hx hm => by
 rcases DataW.trod_slice ht hx with ⟨rfl, rfl⟩ | ⟨a, len, cap, elems, rest, m, hn, rfl, rfl, _, hl, hcap, hlen, hel, hsp, _⟩
 ·refine ⟨[], Reps.cons_ ?_ Reps.nil_, by simp, by simp⟩
  simp only [Rep, List.map_nil]
  exact ⟨none, 0, rfl, by simp, by simp, by simp⟩
 ·obtain rfl : n = m := by omega
  simp only [DataW.weights, ht, List.mem_cons, List.mem_append] at hm
  have hw := hm _ (.inl rfl)
  rw [hb] at hw
  simp only [List.length_map, reachBytes] at hw
  have hwl : len * by_ ≤ (elems.length + rest.length) * by_ := Nat.mul_le_mul_right _ (by omega)
  have key : ∀ i, i < len → ∃ b, Q b ∧ a.block < w.heap.size ∧ ∃ us, us.length = sz ∧ Reps [] w (f b) us ∧ Cs w (a.add (i * sz)) us := fun i hi => by
   have h1 := hel i hi
   obtain ⟨y, hy⟩ : ∃ y, elems[i]? = some y := ⟨_, List.getElem?_eq_getElem (by omega)⟩
   rw [hy] at h1
   obtain ⟨us, h2, h3⟩ := Option.bind_eq_some_iff.1 h1
   rw [hc] at h2
   have h4 := World.cells?_some h2
   obtain ⟨b, hb1, hb2⟩ := h us y h3 (fun m hm' => hm m (.inr (.inl (weightsAll_mem (List.mem_map.2 ⟨y, List.mem_of_getElem? hy, rfl⟩) m hm'))))
   have hblk := World.cells?_block h2 hsz
   rw [add_block] at hblk
   have hulen : us.length = sz := h4.2.1
   exact ⟨b, hb2, hblk, us, hulen, hb1, fun j v hv => by
    have hj := (List.getElem?_eq_some_iff.1 hv).1
    have := h4.2.2 j (by omega)
    rw [this, hv]⟩
  obtain ⟨xs, hxl, hxs⟩ := choose_list len key
  refine ⟨xs, Reps.cons_ ?_ Reps.nil_, fun y hy => ?_, by rw [hxl]; omega⟩
  ·rcases Nat.eq_zero_or_pos len with h0 | h0
   ·subst h0
    obtain rfl : xs = [] := List.eq_nil_of_length_eq_zero hxl
    simp only [Rep, List.map_nil]
    exact ⟨some a, cap, rfl, hl, hcap, by simp⟩
   ·obtain ⟨_, _, hblk, _⟩ := key 0 h0
    refine Rep.sl_mk (by simp [hxl]) hl hcap (by simp) hblk fun i r hi => ?_
    rw [List.getElem?_map] at hi
    obtain ⟨y, hy, rfl⟩ := Option.map_eq_some_iff.1 hi
    obtain ⟨_, _, us, h1, h2, h3⟩ := hxs i y hy
    exact ⟨by rw [← h2.length, h1], us, h2, h3⟩
  ·obtain ⟨i, hi⟩ := List.getElem?_of_mem hy
   exact (hxs i y hi).1
end
end Go.Proofs.YtknndpjacklkeaaGreatDoor.V

set_option linter.unusedVariables false
set_option linter.unusedSimpArgs false
namespace Go.Proofs.YtknndpjacklkeaaGreatDoor.V
open Go Go.ChangeShapes Go.WideShapes Go.RowKit
section
variable {H : Type} {enc : TypeId × Value → H} {P : Program} {W W' : World}
theorem trodAll_later (hl : laidOutB P = true) (k : Mod [] W W') : ∀ {ts : List TypeId} {vs : List Value} {ds : List (DataW H)} {ps : List MemPlace}, (ts.all fun t => P.readableRec t && decide (t < P.types.size)) = true →
  DataW.TrodAll enc P W 0 (fun _ => true) true ts vs ds ps → (∀ p ∈ ps, p.block < W.heap.size) → DataW.TrodAll enc P W' 0 (fun b => decide (b < W.heap.size)) true ts vs ds ps
 | [], vs, ds, ps, _, h, _ => by
  obtain ⟨rfl, rfl, rfl⟩ := trodAll_nil h
  exact trodAll_mk0
 | t :: ts, vs, ds, ps, hr, h, hp => by
  obtain ⟨v, vs1, d, ds1, a, b, rfl, rfl, rfl, h1, h2⟩ := trodAll_cons h
  simp only [List.all_cons, Bool.and_eq_true, decide_eq_true_eq] at hr
  have ha : ∀ p ∈ a, p.block < W.heap.size := fun p hp' => hp p (List.mem_append_left _ hp')
  exact trodAll_cons_mk (Below.trod hl hr.1.1 hr.1.2 h1 k.below ha) (trodAll_later hl k hr.2 h2 fun p hp' => hp p (List.mem_append_right _ hp'))
theorem Mod.keptBut (k : Mod [] W W') (S : MemPlace → Prop) : W.keptBut W' S := by
 refine ⟨k.os, k.output, fun i hi => ?_⟩
 rw [k.block i hi (by simp)]
 cases h : W.heap[i]? with
 | none => rfl
 | some o => cases o <;> simp
theorem post_true (hl : laidOutB P = true) {f : Func} {s : ChangeSpec} {t : TypeId} {args : Array Value} {ds : List (DataW H)} {before : List MemPlace} (hs : s.vars = []) (hr : f.resultTypes = #[t]) (ht : P.underlying t = some .bool)
  (hrow : (f.params.toList.all fun t => P.readableRec t && decide (t < P.types.size)) = true) (hspec : s.fn H ds = { results := [.lit (.bool true)], args := ds })
  (hW : DataW.Whole enc P f.params.toList s.vars false W args.toList ds [] before) (k : Mod [] W W') : s.post enc P f false true false false W args (.bool true) W' := by
 have hlt := hW.lt
 have hW0 := hW
 obtain ⟨p, q, hA, hV, rfl, hfz, hnd⟩ := hW
 rw [hs] at hV
 obtain ⟨_, rfl⟩ := trodVars_none hV
 have hlen : f.resultTypes.size = 1 := by rw [hr]; rfl
 refine ⟨ds, [], _, [], p, [], hW0, ?_, ?_, ?_, k.keptBut _, fun h => by cases h⟩
 ·rw [List.append_nil, hspec, hlen, hr]
  exact trodAll_cons_mk (shut_bool ht true) trodAll_mk0
 ·rw [List.append_nil, hspec]
  exact trodAll_later hl k hrow hA fun p hp => by simpa using hlt p (List.mem_append_left _ hp)
 ·rw [List.append_nil, hspec, hs]
  exact rfl
end
end Go.Proofs.YtknndpjacklkeaaGreatDoor.V

set_option linter.unusedVariables false
set_option linter.unusedSimpArgs false
namespace Go.Proofs.YtknndpjacklkeaaGreatDoor.V
open Go
section
variable {P : Program} {l : List (Nat × Value)} {w : World} {ty : TypeId} {pos : String} {af : Array Edge}
variable {dd : Option Nat} {gg : Option (Nat × Bool)} {x y : Operand} {t t' : TypeId}
def CmpX (P : Program) (f : FuncId) : Prop := ∀ args w, (callFunc f args).run P w = ((Extern.BytealgCompare.compare args).run P w).andThen fun v w' => .ok (.value v) w'
theorem o_cmpstr {f : FuncId} {a b : List UInt8} (hf : CmpX P f) (hx : evO l x = some (S a)) (hy : evO l y = some (S b)) {ts : Array TypeId} :
  Runs P l ⟨dd, .call { callee := .value (.func f), args := #[x, y], argTypes := ts }, ty, pos, af, gg⟩ w (.int .i64 (Lib.compareBytes a b)) w := fun ρ hρ => by
 have e2 : ρ (.func f) = .func (.func f) #[] #[] := hρ _ _ rfl
 have hc := Lib.run_compareString (P := P) ⟨⟨a⟩⟩ ⟨⟨b⟩⟩ w
 have := hf #[S a, S b] w
 rw [show (#[S a, S b] : Array Value) = #[.string ⟨⟨a⟩⟩, .string ⟨⟨b⟩⟩] from rfl, hc] at this
 simp [execOp, resolve, e2, hρ _ _ hx, hρ _ _ hy, Deferred.ofValue, invoke] at this ⊢
 simpa using this
end
end Go.Proofs.YtknndpjacklkeaaGreatDoor.V

set_option linter.unusedVariables false
set_option linter.unusedSimpArgs false
namespace Go.Proofs.YtknndpjacklkeaaGreatDoor.V
open Go
section
variable {P : Program} {ops : Array Oper} {n : Nat} {l : List (Nat × Value)} {M : List (Nat × (Value → World → Prop))} {w : World} {Fin : Kn → Prop} {rest : List Oper} {d : Nat} {ty : TypeId} {pos : String} {af : Array Edge}
theorem t_bslice {t : TypeId} {ps : List (Nat × Operand)} {us : List (Nat × Value)} {e c sz by_ : Nat} {zs cs : List Value} (V : Value → World → Prop) (hV : ∀ v w1 w2, Mod [] w1 w2 → V v w1 → V v w2) (ht : slB P t e sz by_ = true) (hz : zvB P e zs) (hx : evP l ps = some us)
  (hf : fillF (fun i => some (i * sz, sz)) ((List.replicate c zs).flatten) us = some cs) (hzl : zs.length = sz) (hc : c * sz ≤ 16777216) (hv : ∀ w1 g w2, Mod [] w w1 → New w1 w2 g e cs → V (.slice (some ⟨g, 0, none⟩) c c) w2) (hd : Nat.blt d n = true) (hl : lk d l = none)
  (h : TWL P ops w n Fin rest l ((d, V) :: M)) : TWL P ops w n Fin (⟨some d, .buildSlice t c ps.toArray, ty, pos, af, none⟩ :: rest) l M :=
 tr V hV (fun w1 k => ⟨_, _, r_bslice ht hz hx hf hzl hc, (New.mk' w1 e cs).mod, hv _ _ _ k (New.mk' w1 e cs)⟩) hd rfl hl h
end
end Go.Proofs.YtknndpjacklkeaaGreatDoor.V

set_option linter.unusedVariables false
set_option linter.unusedSimpArgs false
namespace Go.Proofs.YtknndpjacklkeaaGreatDoor.V
open Go
section
variable {P : Program} {ops : Array Oper} {Q : Exit → Act → World → Prop} {n : Nat} {ds : List Deferred} {l : List (Nat × Value)} {M : List (Nat × (Value → World → Prop))} {w : World} {Fin : Kn → Prop} {rest : List Oper} {d j t : Nat} {want : Bool} {op : Op} {ty : TypeId} {pos : String} {af : Array Edge}
theorem snu (ht : (ops[j]?).bind (·.dst) = some t) (hl : lk t l = some undef) (hd : Nat.blt d n = true) (h : WL P ops Q rest n ds ((d, undef) :: l) w) :
  WL P ops Q (⟨some d, op, ty, pos, af, some (j, want)⟩ :: rest) n ds l w := by
 intro a ha
 refine wpList_step fun K hK => ?_
 have hy : yielded ops a.tmps j = none := by
  unfold yielded
  rw [ht]
  show (match a.tmps[t]? with | some (.bool b) => some b | _ => none) = none
  rw [ha.get t _ hl]
  rfl
 have hw : ¬ (Region.wanted ⟨some d, op, ty, pos, af, some (j, want)⟩ (yielded ops a.tmps) = true) := by
  simp [Region.wanted, hy]
 rw [if_neg hw]
 exact hK _ _ (h _ (ha.put hd undef))
theorem tnu (ht : (ops[j]?).bind (·.dst) = some t) (hl : lk t l = some undef) (hd : Nat.blt d n = true) (h : TWL P ops w n Fin rest ((d, undef) :: l) M) :
  TWL P ops w n Fin (⟨some d, op, ty, pos, af, some (j, want)⟩ :: rest) l M := by
 refine ⟨fun u _ => u = undef, ⟨fun _ _ _ _ h => h, fun d' hd' => by injection hd' with hd'; subst hd'; simpa [Nat.blt_eq] using hd, fun a w1 hC hN => ?_⟩, by rw [kn_put_v rfl]; exact h⟩
 have hlook : t ∈ Oper.looksAt ops ⟨some d, op, ty, pos, af, some (j, want)⟩ := by
  unfold Oper.looksAt
  refine List.mem_append_right _ ?_
  simp only
  rw [ht]
  simp
 have h1 := hN t (fun u' _ => u' = undef) hlook (by simp [kn, hl])
 have hy : yielded ops a.tmps j = none := by
  unfold yielded
  rw [ht]
  show (match a.tmps[t]? with | some (.bool b) => some b | _ => none) = none
  rw [Array.getD_eq_getD_getElem?] at h1
  cases hg : a.tmps[t]? with
  | none => rfl
  | some u =>
   rw [hg] at h1
   simp only [Option.getD_some] at h1
   subst h1
   rfl
 have hw : ¬ (Region.wanted ⟨some d, op, ty, pos, af, some (j, want)⟩ (yielded ops a.tmps) = true) := by
  simp [Region.wanted, hy]
 rw [if_neg hw]
end
end Go.Proofs.YtknndpjacklkeaaGreatDoor.V

set_option linter.unusedVariables false
set_option linter.unusedSimpArgs false
namespace Go.Proofs.YtknndpjacklkeaaGreatDoor.V
open Go
theorem Own.same {w : World} {e sz m n : Nat} {v : Value} {us vs : List Value} (h : Own w e sz v n vs) (hm : n = m) (hv : vs = us) : Own w e sz v m us := by
 subst hm; subst hv; exact h
section
variable {α : Type}
theorem filter_take {q : α → Bool} : ∀ {xs : List α} {i : Nat}, (∀ j y, j < i → xs[j]? = some y → q y = true) → (∀ j y, i ≤ j → xs[j]? = some y → q y = false) → xs.filter q = xs.take i
 | [], i, _, _ => by simp
 | x :: xs, 0, h, h' => by
  have := filter_take (xs := xs) (i := 0) (fun j y hj => by omega) (fun j y _ hy => h' (j + 1) y (by omega) (by simpa using hy))
  have hx := h' 0 x (by omega) rfl
  rw [List.filter_cons, hx, this]
  simp
 | x :: xs, i + 1, h, h' => by
  have := filter_take (xs := xs) (i := i) (fun j y hj hy => h (j + 1) y (by omega) (by simpa using hy)) (fun j y hj hy => h' (j + 1) y (by omega) (by simpa using hy))
  have hx := h 0 x (by omega) rfl
  rw [List.filter_cons, hx, this]
  simp
theorem filter_drop {q : α → Bool} : ∀ {xs : List α} {i : Nat}, (∀ j y, j < i → xs[j]? = some y → q y = false) → (∀ j y, i ≤ j → xs[j]? = some y → q y = true) → xs.filter q = xs.drop i
 | [], i, _, _ => by simp
 | x :: xs, 0, h, h' => by
  have := filter_drop (xs := xs) (i := 0) (fun j y hj => by omega) (fun j y _ hy => h' (j + 1) y (by omega) (by simpa using hy))
  have hx := h' 0 x (by omega) rfl
  rw [List.filter_cons, hx, this]
  simp
 | x :: xs, i + 1, h, h' => by
  have := filter_drop (xs := xs) (i := i) (fun j y hj hy => h (j + 1) y (by omega) (by simpa using hy)) (fun j y hj hy => h' (j + 1) y (by omega) (by simpa using hy))
  have hx := h 0 x (by omega) rfl
  rw [List.filter_cons, hx, this]
  simp
end
def wt (x : Slot) : Nat := 1 + x.ty.length + x.key.length + x.id.length
theorem slots_one {xs : List Slot} : ∀ x ∈ xs, ∀ c ∈ Slot.cells x, c.oneCell' = true := by
 intro x _ c hc
 simp at hc
 rcases hc with rfl | rfl | rfl <;> rfl
theorem Own.slots {w : World} {e : Nat} {v : Value} {xs : List Slot} (A : List Nat) (h : Own w e 3 v xs.length ((xs.map Slot.cells).flatten)) (hA : ∀ x ∈ ob v, x ∉ A) : Rep A w (slotsD xs) v := Own.flat h (fun _ _ => rfl) slots_one rfl hA
theorem Rep.nilf (A : List Nat) (w : World) {α : Type} {sz : Nat} {cells : α → List Value} : Rep A w (flat sz cells []) (.slice none 0 0) := by
 simp only [flat, Rep, List.map_nil]
 exact ⟨none, 0, rfl, by simp, by simp, by simp⟩
end Go.Proofs.YtknndpjacklkeaaGreatDoor.V

set_option linter.unusedVariables false
set_option linter.unusedSimpArgs false
namespace Go.Proofs.YtknndpjacklkeaaGreatDoor.V
open Go
inductive JV where
 | mk (k : Int) (b : Bool) (n : Int) (s : List UInt8) (l : List JV) (m : List (List UInt8 × JV))
namespace JV
def kind : JV → Int | .mk k _ _ _ _ _ => k
def is : JV → Bool | .mk _ b _ _ _ _ => b
def num : JV → Int | .mk _ _ n _ _ _ => n
def str : JV → List UInt8 | .mk _ _ _ s _ _ => s
def list : JV → List JV | .mk _ _ _ _ l _ => l
def map : JV → List (List UInt8 × JV) | .mk _ _ _ _ _ m => m
theorem eta (v : JV) : v = .mk v.kind v.is v.num v.str v.list v.map := by cases v; rfl
mutual
def D : JV → List Go.Proofs.YtknndpjacklkeaaGreatDoor.V.D
 | .mk k b n s l m => [.v (.int .i64 k), .v (.bool b), .v (.int .i64 n), .v (S s), .sl 6 (Dl l), .sl 7 (Dm m)]
def Dl : List JV → List (List Go.Proofs.YtknndpjacklkeaaGreatDoor.V.D)
 | [] => []
 | v :: r => v.D :: Dl r
def Dm : List (List UInt8 × JV) → List (List Go.Proofs.YtknndpjacklkeaaGreatDoor.V.D)
 | [] => []
 | p :: r => (.v (S p.1) :: p.2.D) :: Dm r
end
abbrev Dp (p : List UInt8 × JV) : List Go.Proofs.YtknndpjacklkeaaGreatDoor.V.D := .v (S p.1) :: p.2.D
theorem Dl_eq : ∀ l : List JV, Dl l = l.map D
 | [] => rfl
 | v :: r => by simp [Dl, Dl_eq r]
theorem Dm_eq : ∀ m : List (List UInt8 × JV), Dm m = m.map Dp
 | [] => rfl
 | v :: r => by simp [Dm, Dm_eq r]
theorem D_eq (v : JV) : v.D = [.v (.int .i64 v.kind), .v (.bool v.is), .v (.int .i64 v.num), .v (S v.str), .sl 6 (v.list.map D), .sl 7 (v.map.map Dp)] := by
 cases v
 simp [D, kind, is, num, str, list, map, Dl_eq, Dm_eq]
theorem D_len (v : JV) : v.D.length = 6 := by rw [D_eq]; rfl
theorem Dp_len (p : List UInt8 × JV) : (Dp p).length = 7 := by simp [D_len]
mutual
def sz : JV → Nat
 | .mk _ _ _ _ l m => 1 + szl l + szm m
def szl : List JV → Nat
 | [] => 0
 | v :: r => v.sz + szl r
def szm : List (List UInt8 × JV) → Nat
 | [] => 0
 | p :: r => p.2.sz + szm r
end
theorem sz_list {l : List JV} {v : JV} (h : v ∈ l) : v.sz ≤ szl l := by
 induction l with
 | nil => cases h
 | cons a r ih =>
  simp only [szl]
  rcases List.mem_cons.1 h with rfl | h
  ·omega
  ·have := ih h; omega
theorem sz_map {l : List (List UInt8 × JV)} {p : List UInt8 × JV} (h : p ∈ l) : p.2.sz ≤ szm l := by
 induction l with
 | nil => cases h
 | cons a r ih =>
  simp only [szm]
  rcases List.mem_cons.1 h with rfl | h
  ·omega
  ·have := ih h; omega
theorem sz_eq (v : JV) : v.sz = 1 + szl v.list + szm v.map := by cases v; simp [sz, list, map]
theorem sz_in_list {v x : JV} (h : x ∈ v.list) : x.sz < v.sz := by have := sz_list h; rw [sz_eq v]; omega
theorem sz_in_map {v : JV} {p : List UInt8 × JV} (h : p ∈ v.map) : p.2.sz < v.sz := by have := sz_map h; rw [sz_eq v]; omega
mutual
def ok : JV → Prop
 | .mk k b n s l m => s.length ≤ 140737488351232 ∧ l.length ≤ 1599289640400 ∧ m.length ≤ 1353245080300 ∧ okl l ∧ okm m
def okl : List JV → Prop
 | [] => True
 | v :: r => v.ok ∧ okl r
def okm : List (List UInt8 × JV) → Prop
 | [] => True
 | p :: r => (p.1.length ≤ 140737488351232 ∧ p.2.ok) ∧ okm r
end
theorem okl_mem : ∀ {l : List JV}, okl l ↔ ∀ v ∈ l, v.ok
 | [] => by simp [okl]
 | v :: r => by simp [okl, okl_mem (l := r)]
theorem okm_mem : ∀ {l : List (List UInt8 × JV)}, okm l ↔ ∀ p ∈ l, p.1.length ≤ 140737488351232 ∧ p.2.ok
 | [] => by simp [okm]
 | v :: r => by simp [okm, okm_mem (l := r)]
theorem ok_eq (v : JV) : v.ok ↔ v.str.length ≤ 140737488351232 ∧ v.list.length ≤ 1599289640400 ∧ v.map.length ≤ 1353245080300 ∧ (∀ x ∈ v.list, x.ok) ∧ ∀ p ∈ v.map, p.1.length ≤ 140737488351232 ∧ p.2.ok := by
 cases v
 simp [ok, str, list, map, okl_mem, okm_mem]
end JV
end Go.Proofs.YtknndpjacklkeaaGreatDoor.V

set_option linter.unusedVariables false
set_option linter.unusedSimpArgs false
namespace Go.Proofs.YtknndpjacklkeaaGreatDoor.V
open Go
theorem cmp_scmp : ∀ a b : Str, Lib.compareBytes a b = scmp a b
 | [], [] => rfl
 | [], _ :: _ => by simp [Lib.compareBytes, scmp, bl, Op.bytesLess]
 | _ :: _, [] => by simp [Lib.compareBytes, scmp, bl, Op.bytesLess]
 | x :: a, y :: b => by
  have ih := cmp_scmp a b
  simp only [Lib.compareBytes]
  unfold scmp at ih ⊢
  by_cases h : x < y
  ·simp [h, bl, Op.bytesLess]
  ·by_cases h' : y < x
   ·have hne : x ≠ y := fun e => by subst e; exact h h'
    simp [h, h', bl, Op.bytesLess, hne]
   ·have hxy : x = y := UInt8.le_antisymm (UInt8.not_lt.1 h') (UInt8.not_lt.1 h)
    subst hxy
    simp [bl, Op.bytesLess]
    rw [ih]
section
variable {β : Type}
def ascM (m : List (Str × β)) : Prop := m.Pairwise fun a b => bl a.1 b.1 = true
def look : List (Str × β) → Str → Option β
 | [], _ => none
 | p :: r, k => if p.1 = k then some p.2 else look r k
def posM (m : List (Str × β)) (k : Str) : Nat := (m.filter fun p => bl p.1 k).length
def putM (m : List (Str × β)) (k : Str) (x : β) : List (Str × β) := m.filter (fun p => bl p.1 k) ++ [(k, x)] ++ m.filter (fun p => bl k p.1)
variable {m m' : List (Str × β)} {k : Str} {x : β}
theorem posM_le : posM m k ≤ m.length := List.length_filter_le _ _
theorem posM_eq {i : Nat} (hi : i ≤ m.length) (h : ∀ (j : Nat) (y : Str × β), j < i → m[j]? = some y → bl y.1 k = true) (h' : ∀ (j : Nat) (y : Str × β), i ≤ j → m[j]? = some y → bl y.1 k = false) : posM m k = i := by
 rw [posM, filter_take (i := i) h h', List.length_take]
 omega
theorem ascM_lt {i j : Nat} {a b : Str × β} (h : ascM m) (ha : m[i]? = some a) (hb : m[j]? = some b) (hij : i < j) : bl a.1 b.1 = true := by
 obtain ⟨h1, rfl⟩ := List.getElem?_eq_some_iff.1 ha
 obtain ⟨h2, rfl⟩ := List.getElem?_eq_some_iff.1 hb
 exact List.pairwise_iff_getElem.1 h i j h1 h2 hij
theorem ascM_of (h : ∀ (i : Nat) (a b : Str × β), m[i]? = some a → m[i + 1]? = some b → bl a.1 b.1 = true) : ascM m := by
 induction m with
 | nil => exact List.Pairwise.nil
 | cons p r ih =>
  have ih := ih fun i a b ha hb => h (i + 1) a b (by simpa using ha) (by simpa using hb)
  refine List.Pairwise.cons (fun q hq => ?_) ih
  cases r with
  | nil => cases hq
  | cons q0 r =>
   have h0 := h 0 p q0 rfl rfl
   rcases List.mem_cons.1 hq with rfl | hq
   ·exact h0
   ·exact bl_trans h0 (List.rel_of_pairwise_cons ih hq)
theorem look_none_of (h : ∀ (j : Nat) (y : Str × β), m[j]? = some y → y.1 ≠ k) : look m k = none := by
 induction m with
 | nil => rfl
 | cons p r ih =>
  rw [look, if_neg (h 0 p rfl)]
  exact ih fun j y hy => h (j + 1) y (by simpa using hy)
theorem look_hit {i : Nat} {y : Str × β} (h : ∀ (j : Nat) (z : Str × β), j < i → m[j]? = some z → z.1 ≠ k) (hy : m[i]? = some y) (hk : y.1 = k) : look m k = some y.2 := by
 induction m generalizing i with
 | nil => simp at hy
 | cons p r ih =>
  cases i with
  | zero => simp at hy; subst hy; rw [look, if_pos hk]
  | succ i =>
   rw [look, if_neg (h 0 p (by omega) rfl)]
   exact ih (i := i) (fun j z hj hz => h (j + 1) z (by omega) (by simpa using hz)) (by simpa using hy)
theorem asc_posM (h : ascM m) : (∀ j y, j < posM m k → m[j]? = some y → bl y.1 k = true) ∧ (∀ j y, posM m k ≤ j → m[j]? = some y → bl y.1 k = false) := by
 induction m with
 | nil => simp
 | cons p r ih =>
  obtain ⟨h1, h2⟩ := ih (List.Pairwise.of_cons h)
  by_cases hx : bl p.1 k = true
  ·have hp : posM (p :: r) k = posM r k + 1 := by simp [posM, hx]
   rw [hp]
   refine ⟨fun j y hj hy => ?_, fun j y hj hy => ?_⟩
   ·cases j with
    | zero => simp at hy; subst hy; exact hx
    | succ j => exact h1 j y (by omega) (by simpa using hy)
   ·cases j with
    | zero => omega
    | succ j => exact h2 j y (by omega) (by simpa using hy)
  ·have hall : ∀ (j : Nat) (y : Str × β), (p :: r)[j]? = some y → bl y.1 k = false := fun j y hy => by
    cases hpy : bl y.1 k with
    | false => rfl
    | true =>
     cases j with
     | zero => simp at hy; subst hy; exact absurd hpy hx
     | succ j => exact absurd (bl_trans (ascM_lt h (i := 0) rfl hy (by omega)) hpy) hx
   have hp : posM (p :: r) k = 0 := posM_eq (by omega) (fun j y hj => by omega) (fun j y _ hy => hall j y hy)
   rw [hp]
   exact ⟨fun j y hj => by omega, fun j y _ hy => hall j y hy⟩
theorem thereM {y : Str × β} (h : ascM m) (hy : m[posM m k]? = some y) (hp : y.1 = k) : look m k = some y.2 ∧ ∀ x, putM m k x = m.set (posM m k) (k, x) := by
 obtain ⟨h1, h2⟩ := asc_posM (k := k) h
 have hlt := (List.getElem?_eq_some_iff.1 hy).1
 refine ⟨look_hit (fun j z hj hz e => ?_) hy hp, fun x => ?_⟩
 ·have := h1 j z hj hz
  rw [e, bl_irrefl] at this
  cases this
 ·rw [putM, filter_take h1 h2, filter_drop (i := posM m k + 1), List.set_eq_take_append_cons_drop, if_pos hlt]
  ·simp
  ·intro j z hj hz
   rcases Nat.lt_succ_iff_lt_or_eq.1 hj with hj | hj
   ·exact bl_asymm (h1 j z hj hz)
   ·subst hj
    rw [hy] at hz
    injection hz with hz
    subst hz
    rw [hp, bl_irrefl]
  ·intro j z hj hz
   rw [← hp]
   exact ascM_lt h hy hz (by omega)
theorem goneM (h : ascM m) (hn : ∀ y : Str × β, m[posM m k]? = some y → y.1 ≠ k) : look m k = none ∧ ∀ x, putM m k x = m.take (posM m k) ++ [(k, x)] ++ m.drop (posM m k) := by
 obtain ⟨h1, h2⟩ := asc_posM (k := k) h
 have h3 : ∀ j z, posM m k ≤ j → m[j]? = some z → bl k z.1 = true := fun j z hj hz => by
  have hlt := (List.getElem?_eq_some_iff.1 hz).1
  obtain ⟨y, hy⟩ : ∃ y, m[posM m k]? = some y := ⟨_, List.getElem?_eq_getElem (by omega)⟩
  have hpy : bl k y.1 = true := by
   rcases bl_total k y.1 with h' | h' | h'
   ·exact h'
   ·exact absurd h'.symm (hn y hy)
   ·rw [h2 _ y (Nat.le_refl _) hy] at h'; cases h'
  rcases Nat.lt_or_ge (posM m k) j with hj' | hj'
  ·exact bl_trans hpy (ascM_lt h hy hz hj')
  ·have : j = posM m k := by omega
   subst this
   rw [hy] at hz
   injection hz with hz
   subst hz
   exact hpy
 refine ⟨look_none_of fun j z hz e => ?_, fun x => ?_⟩
 ·rcases Nat.lt_or_ge j (posM m k) with hj | hj
  ·have := h1 j z hj hz
   rw [e, bl_irrefl] at this
   cases this
  ·have := h3 j z hj hz
   rw [e, bl_irrefl] at this
   cases this
 ·rw [putM, filter_take h1 h2, filter_drop (fun j z hj hz => bl_asymm (h1 j z hj hz)) h3]
theorem isM {i : Nat} (h : ascM m) (hi : posM m k = i) {y : Str × β} (hy : m[i]? = some y) : (look m k).isSome = decide (scmp y.1 k = 0) := by
 subst hi
 by_cases hp : y.1 = k
 ·rw [(thereM h hy hp).1, decide_eq_true (scmp_eq.2 hp)]
  rfl
 ·rw [(goneM h fun z hz => by rw [hy] at hz; injection hz with hz; subst hz; exact hp).1, decide_eq_false (fun e => hp (scmp_eq.1 e))]
  rfl
theorem isM_end (h : ascM m) (hi : m.length ≤ posM m k) : (look m k).isSome = false := by
 rw [(goneM h fun z hz => by rw [List.getElem?_eq_none hi] at hz; cases hz).1]
 rfl
theorem isM_some (h : ascM m) (hs : (look m k).isSome = true) : ∃ y : Str × β, m[posM m k]? = some y ∧ y.1 = k ∧ look m k = some y.2 := by
 rcases Nat.lt_or_ge (posM m k) m.length with hlt | hge
 ·obtain ⟨y, hy⟩ : ∃ y, m[posM m k]? = some y := ⟨_, List.getElem?_eq_getElem hlt⟩
  rw [isM h rfl hy] at hs
  have hp := scmp_eq.1 (of_decide_eq_true hs)
  exact ⟨y, hy, hp, (thereM h hy hp).1⟩
 ·rw [isM_end h hge] at hs; cases hs
theorem isM_none (h : ascM m) (hs : (look m k).isSome = false) : ∀ y : Str × β, m[posM m k]? = some y → y.1 ≠ k := fun y hy hp => by
 rw [(thereM h hy hp).1] at hs; cases hs
theorem look_some : ∀ {m : List (Str × β)} {x : β}, look m k = some x → (k, x) ∈ m
 | p :: r, x, h => by
  rw [look] at h
  by_cases hp : p.1 = k
  ·rw [if_pos hp] at h
   injection h with h
   subst hp; subst h
   exact List.mem_cons_self ..
  ·rw [if_neg hp] at h
   exact List.mem_cons_of_mem _ (look_some h)
theorem look_mem : ∀ {m : List (Str × β)} {p : Str × β}, ascM m → p ∈ m → look m p.1 = some p.2
 | q :: r, p, h, hp => by
  rcases List.mem_cons.1 hp with rfl | hp
  ·rw [look, if_pos rfl]
  ·have := List.rel_of_pairwise_cons h hp
   rw [look, if_neg (fun e => by rw [e, bl_irrefl] at this; cases this)]
   exact look_mem (List.Pairwise.of_cons h) hp
theorem look_none : ∀ {m : List (Str × β)}, look m k = none → ∀ p ∈ m, p.1 ≠ k
 | q :: r, h, p, hp => by
  rw [look] at h
  by_cases hq : q.1 = k
  ·rw [if_pos hq] at h; cases h
  ·rw [if_neg hq] at h
   rcases List.mem_cons.1 hp with rfl | hp
   ·exact hq
   ·exact look_none h p hp
theorem ascM_ext : ∀ {m m' : List (Str × β)}, ascM m → ascM m' → (∀ k, look m k = look m' k) → m = m'
 | [], [], _, _, _ => rfl
 | [], p :: r, _, h', e => by have := e p.1; rw [look_mem h' (List.mem_cons_self ..)] at this; cases this
 | p :: r, [], h, _, e => by have := e p.1; rw [look_mem h (List.mem_cons_self ..)] at this; cases this
 | p :: r, p' :: r', h, h', e => by
  have h1 := look_some ((e p.1).symm.trans (look_mem h (List.mem_cons_self ..)))
  have h2 := look_some ((e p'.1).trans (look_mem h' (List.mem_cons_self ..)))
  have hk : p.1 = p'.1 := by
   rcases List.mem_cons.1 h1 with h3 | h3
   ·rw [← h3]
   ·rcases List.mem_cons.1 h2 with h4 | h4
    ·rw [← h4]
    ·have a := List.rel_of_pairwise_cons h' h3
     have b := List.rel_of_pairwise_cons h h4
     have := bl_trans a b
     rw [bl_irrefl] at this
     cases this
  have hpe : p = p' := by
   have e0 := e p.1
   rw [look, if_pos rfl, look, if_pos hk.symm] at e0
   injection e0 with e0
   exact Prod.ext hk e0
  subst hpe
  congr 1
  refine ascM_ext (List.Pairwise.of_cons h) (List.Pairwise.of_cons h') fun k => ?_
  by_cases hkk : p.1 = k
  ·subst hkk
   have n1 : ∀ {r : List (Str × β)}, ascM (p :: r) → look r p.1 = none := fun hr => look_none_of fun j y hy e => by
    have := List.rel_of_pairwise_cons hr (List.mem_of_getElem? hy)
    rw [e, bl_irrefl] at this
    cases this
   rw [n1 h, n1 h']
  ·have e0 := e k
   rwa [look, if_neg hkk, look, if_neg hkk] at e0
theorem ascM_filter {q : Str × β → Bool} (h : ascM m) : ascM (m.filter q) := List.Pairwise.filter q h
theorem ascM_put (h : ascM m) : ascM (putM m k x) := by
 unfold putM ascM
 rw [List.append_assoc, List.pairwise_append]
 refine ⟨ascM_filter h, ?_, ?_⟩
 ·rw [List.pairwise_append]
  refine ⟨by simp, ascM_filter h, ?_⟩
  intro a ha b hb
  simp at ha
  subst ha
  simpa using (List.mem_filter.1 hb).2
 ·intro a ha b hb
  have h1 : bl a.1 k = true := by simpa using (List.mem_filter.1 ha).2
  rcases List.mem_append.1 hb with hb | hb
  ·simp at hb; subst hb; exact h1
  ·exact bl_trans h1 (by simpa using (List.mem_filter.1 hb).2)
theorem look_append : ∀ {a b : List (Str × β)}, look (a ++ b) k = (look a k).or (look b k)
 | [], b => by simp [look]
 | p :: r, b => by
  simp only [List.cons_append, look]
  by_cases hp : p.1 = k
  ·simp [hp]
  ·simp [hp, look_append (a := r) (b := b)]
theorem look_filter {q : Str × β → Bool} {b : Bool} (hq : ∀ p ∈ m, p.1 = k → q p = b) : look (m.filter q) k = if b then look m k else none := by
 induction m with
 | nil => simp [look]
 | cons p r ih =>
  have ih := ih fun p' hp' => hq p' (List.mem_cons_of_mem _ hp')
  have hp := hq p (List.mem_cons_self ..)
  by_cases hk : p.1 = k
  ·have := hp hk
   cases b
   ·rw [List.filter_cons_of_neg (by simp [this]), ih]; rfl
   ·rw [List.filter_cons_of_pos this, look, if_pos hk, if_pos rfl, look, if_pos hk]
  ·by_cases hqp : q p = true
   ·rw [List.filter_cons_of_pos hqp, look, if_neg hk, ih, look, if_neg hk]
   ·rw [List.filter_cons_of_neg hqp, ih, look, if_neg hk]
theorem look_put {k' : Str} : look (putM m k x) k' = if k' = k then some x else look m k' := by
 unfold putM
 rw [look_append, look_append]
 by_cases h : k' = k
 ·subst h
  rw [look_filter (b := false) (fun p _ e => by rw [e, bl_irrefl])]
  simp [look]
 ·rw [if_neg h]
  have h1 : look [(k, x)] k' = none := by simp [look, Ne.symm h]
  rw [h1, Option.or_none]
  rcases bl_total k' k with h2 | h2 | h2
  ·rw [look_filter (b := true) (fun p _ e => by rw [e]; exact h2), look_filter (b := false) (fun p _ e => by rw [e]; exact bl_asymm h2)]
   simp
  ·exact absurd h2 h
  ·rw [look_filter (b := false) (fun p _ e => by rw [e]; exact bl_asymm h2), look_filter (b := true) (fun p _ e => by rw [e]; exact h2)]
   simp
end
end Go.Proofs.YtknndpjacklkeaaGreatDoor.V
