/-
  A part of the proof: the library's sort, and its iterators over keys and over a slice, laid at this seat. No condition of its own.
-/
import Derived.Test.YthmohmpalbnjoaaM6
import Derived.Test.YthmohmpalbnjoaaM7
import Derived.Ground.GgzProg
import Derived.Ground.SlgmProg
import Derived.Shelf.SlIter.Nil
import Derived.Shelf.SortM.Plain
import Derived.Shelf.SortM.SortNone
import Derived.Test.YthmohmpalbnjoaaProg
import Derived.RangeFuncBox
import Derived.RangeFuncLeaves
import Derived.Shelf.Abstract
import Derived.WalkKit
import Derived.OwnWalkIn
import Derived.TacticsInMore
import Derived.LoopNIn
import Derived.LoopIn
import Derived.Sort.OwnSorted
import Derived.Test.YthmohmpalbnjoaaM8
import Derived.Test.YthmohmpalbnjoaaM4
set_option linter.unusedVariables false
set_option linter.unusedSimpArgs false
namespace Go.Proofs
open Go.Shelf
def Try.keys35_ren : Go.Shelf.Ren := ⟨fun | 7 => 35 | 10 => 45 | n => n, fun | 23 => 69 | 26 => 9 | 3 => 4 | 28 => 77 | 0 => 0 | 27 => 76 | 33 => 49 | 4 => 4 | n => n, fun | n => n⟩
theorem Try.keys35 : Go.Proofs.SlLaysZ.n7 Try.prog Try.keys35_ren := {
  mixed := by kernel_rfl
  f7 := ⟨Try.f35.name, by decide, Try.func35.trans (congrArg some (by kernel_rfl))⟩
  f10 := ⟨Try.f45.name, by decide, Try.func45.trans (congrArg some (by kernel_rfl))⟩
  t0 := Try.underlying0
  a0 := Try.isAgg0
  z0 := Try.sizeOf0
  v0 := Try.zeroValue0
  t4 := Try.underlying4
  a4 := Try.isAgg4
  z4 := Try.sizeOf4
  v4 := Try.zeroValue4
  t23 := Try.underlying69
  a23 := Try.isAgg69
  z23 := Try.sizeOf69
  v23 := Try.zeroValue69
  t26 := Try.underlying9
  a26 := Try.isAgg9
  z26 := Try.sizeOf9
  v26 := Try.zeroValue9
  t27 := Try.underlying76
  a27 := Try.isAgg76
  z27 := Try.sizeOf76
  v27 := Try.zeroValue76
  t28 := Try.underlying77
  a28 := Try.isAgg77
  z28 := Try.sizeOf77
  v28 := Try.zeroValue77
  t33 := Try.underlying49
  a33 := Try.isAgg49
  z33 := Try.sizeOf49
  v33 := Try.zeroValue49 }
def Try.sorted34_ren : Go.Shelf.Ren := ⟨fun | 6 => 34 | 8 => 44 | 9 => 37 | 11 => 50 | 13 => 47 | 12 => 46 | 23 => 60 | 24 => 61 | 14 => 51 | 15 => 52 | 16 => 53 | 17 => 54 | 18 => 55 | 19 => 56 | 20 => 57 | 21 => 58 | 22 => 59 | 25 => 62 | 26 => 63 | 27 => 64 | 28 => 65 | 29 => 66 | 30 => 67 | 31 => 68 | n => n, fun | 26 => 9 | 28 => 77 | 24 => 23 | 0 => 0 | 3 => 3 | 37 => 97 | 48 => 111 | 50 => 113 | 4 => 4 | 40 => 103 | 39 => 102 | 45 => 108 | 5 => 5 | 9 => 9 | 51 => 114 | 55 => 118 | 57 => 120 | 58 => 121 | 33 => 49 | n => n, fun | n => n⟩
theorem Try.sorted34 : Go.Proofs.SlLaysZ.n6 Try.prog Try.sorted34_ren := {
  mixed := by kernel_rfl
  f6 := ⟨Try.f34.name, by decide, Try.func34.trans (congrArg some (by kernel_rfl))⟩
  f8 := ⟨Try.f44.name, by decide, Try.func44.trans (congrArg some (by kernel_rfl))⟩
  f11 := ⟨Try.f50.name, by decide, Try.func50.trans (congrArg some (by kernel_rfl))⟩
  t0 := Try.underlying0
  a0 := Try.isAgg0
  z0 := Try.sizeOf0
  v0 := Try.zeroValue0
  t24 := Try.underlying23
  a24 := Try.isAgg23
  z24 := Try.sizeOf23
  v24 := Try.zeroValue23
  t26 := Try.underlying9
  a26 := Try.isAgg9
  z26 := Try.sizeOf9
  v26 := Try.zeroValue9
  t28 := Try.underlying77
  a28 := Try.isAgg77
  z28 := Try.sizeOf77
  v28 := Try.zeroValue77
  i26 := by kernel_rfl }
def Try.sort37_ren : Go.Shelf.Ren := ⟨fun | 6 => 37 | 8 => 47 | 9 => 46 | 19 => 60 | 20 => 61 | 21 => 51 | 22 => 52 | 23 => 53 | 24 => 54 | 25 => 55 | 26 => 56 | 27 => 57 | 28 => 58 | 29 => 59 | 36 => 62 | 31 => 63 | 32 => 64 | 37 => 65 | 38 => 66 | 39 => 67 | 41 => 68 | n => n, fun | 27 => 23 | 29 => 9 | 3 => 3 | 32 => 97 | 26 => 23 | 0 => 0 | 44 => 111 | 46 => 113 | 4 => 4 | 36 => 103 | 35 => 102 | 41 => 108 | 5 => 5 | 9 => 9 | 53 => 114 | 57 => 118 | 63 => 120 | 64 => 121 | n => n, fun | n => n⟩
theorem Try.sort37 : Go.Proofs.SlLaysM.n6 Try.prog Try.sort37_ren := {
  mixed := by kernel_rfl
  f6 := ⟨Try.f37.name, by decide, Try.func37.trans (congrArg some (by kernel_rfl))⟩
  f8 := Try.func47.trans (congrArg some (by kernel_rfl))
  f9 := ⟨Try.f46.name, by decide, Try.func46.trans (congrArg some (by kernel_rfl))⟩
  f19 := Try.func60.trans (congrArg some (by kernel_rfl))
  f20 := Try.func61.trans (congrArg some (by kernel_rfl))
  f21 := ⟨Try.f51.name, by decide, Try.func51.trans (congrArg some (by kernel_rfl))⟩
  f22 := ⟨Try.f52.name, by decide, Try.func52.trans (congrArg some (by kernel_rfl))⟩
  f23 := ⟨Try.f53.name, by decide, Try.func53.trans (congrArg some (by kernel_rfl))⟩
  f24 := ⟨Try.f54.name, by decide, Try.func54.trans (congrArg some (by kernel_rfl))⟩
  f25 := ⟨Try.f55.name, by decide, Try.func55.trans (congrArg some (by kernel_rfl))⟩
  f26 := ⟨Try.f56.name, by decide, Try.func56.trans (congrArg some (by kernel_rfl))⟩
  f27 := ⟨Try.f57.name, by decide, Try.func57.trans (congrArg some (by kernel_rfl))⟩
  f28 := ⟨Try.f58.name, by decide, Try.func58.trans (congrArg some (by kernel_rfl))⟩
  f29 := ⟨Try.f59.name, by decide, Try.func59.trans (congrArg some (by kernel_rfl))⟩
  f31 := Try.func63.trans (congrArg some (by kernel_rfl))
  f32 := Try.func64.trans (congrArg some (by kernel_rfl))
  f36 := ⟨Try.f62.name, by decide, Try.func62.trans (congrArg some (by kernel_rfl))⟩
  f37 := ⟨Try.f65.name, by decide, Try.func65.trans (congrArg some (by kernel_rfl))⟩
  f38 := ⟨Try.f66.name, by decide, Try.func66.trans (congrArg some (by kernel_rfl))⟩
  f39 := ⟨Try.f67.name, by decide, Try.func67.trans (congrArg some (by kernel_rfl))⟩
  f41 := ⟨Try.f68.name, by decide, Try.func68.trans (congrArg some (by kernel_rfl))⟩
  t0 := Try.underlying0
  a0 := Try.isAgg0
  z0 := Try.sizeOf0
  v0 := Try.zeroValue0
  t3 := Try.underlying3
  a3 := Try.isAgg3
  z3 := Try.sizeOf3
  v3 := Try.zeroValue3
  t4 := Try.underlying4
  a4 := Try.isAgg4
  z4 := Try.sizeOf4
  v4 := Try.zeroValue4
  t5 := Try.underlying5
  a5 := Try.isAgg5
  z5 := Try.sizeOf5
  v5 := Try.zeroValue5
  t9 := Try.underlying9
  a9 := Try.isAgg9
  z9 := Try.sizeOf9
  v9 := Try.zeroValue9
  t26 := Try.underlying23
  a26 := Try.isAgg23
  z26 := Try.sizeOf23
  v26 := Try.zeroValue23
  t27 := Try.underlying23
  a27 := Try.isAgg23
  z27 := Try.sizeOf23
  v27 := Try.zeroValue23
  t29 := Try.underlying9
  a29 := Try.isAgg9
  z29 := Try.sizeOf9
  v29 := Try.zeroValue9
  t32 := Try.underlying97
  a32 := Try.isAgg97
  z32 := Try.sizeOf97
  v32 := Try.zeroValue97
  t35 := Try.underlying102
  a35 := Try.isAgg102
  z35 := Try.sizeOf102
  v35 := Try.zeroValue102
  t36 := Try.underlying103
  a36 := Try.isAgg103
  z36 := Try.sizeOf103
  v36 := Try.zeroValue103
  t41 := Try.underlying108
  a41 := Try.isAgg108
  z41 := Try.sizeOf108
  v41 := Try.zeroValue108
  t44 := Try.underlying111
  a44 := Try.isAgg111
  z44 := Try.sizeOf111
  v44 := Try.zeroValue111
  t46 := Try.underlying113
  a46 := Try.isAgg113
  z46 := Try.sizeOf113
  v46 := Try.zeroValue113
  t53 := Try.underlying114
  a53 := Try.isAgg114
  z53 := Try.sizeOf114
  v53 := Try.zeroValue114
  t57 := Try.underlying118
  a57 := Try.isAgg118
  z57 := Try.sizeOf118
  v57 := Try.zeroValue118
  t63 := Try.underlying120
  a63 := Try.isAgg120
  z63 := Try.sizeOf120
  v63 := Try.zeroValue120
  t64 := Try.underlying121
  a64 := Try.isAgg121
  z64 := Try.sizeOf121
  v64 := Try.zeroValue121 }
end Go.Proofs
namespace Go.Proofs
open Go.RowKit Go.Maps Go.Sort Go.Shelf
theorem Try.sorts34 (m : Nat) : AnyZ.SortsIn Try.prog Try.sorted34_ren Fence.wide m :=
  ⟨fun blk off cap ss W hH hblk hsz => callsIn_wide.2 (AnyM.slices_Sort_string Try.sort37 blk off cap ss W hH hblk hsz),
   fun p cap W => callsIn_wide.2 (AnyM.slices_Sort_string_none Try.sort37 p cap W)⟩
theorem Try.keysI (mb : Option Nat) (W : World) : CallsIn Fence.wide 5 Try.prog 35 #[.map mb] W fun e w' => e = .returned (.func (.func 45) #[] #[.pointer (some ⟨W.heap.size, 0, none⟩)]) ∧ w' = W.alloc (.cells #[.map mb] 69) :=
  AnyZ.keys_in Try.keys35 Fence.wide 5 trivial rfl mb W
theorem Try.sortedK {H : Type} (Bm b nn : Nat) (D0 : DataW H) (R : Value → Option (DataW H × List MemPlace)) (w : World) (hBm : Bm < w.heap.size) (hc : w.cell? ⟨Bm, 0, none⟩ = some (.map (some b))) (hown : w.ownsMap Try.prog 9 R b nn D0) (hmax : Maps.size D0 ≤ maxLen) (hbytes : Maps.size D0 * 16 ≤ 140737488355328) :
    CallsIn Fence.wide 5 Try.prog 34 #[.func (.func 45) #[] #[.pointer (some ⟨Bm, 0, none⟩)]] w fun e w' => ∃ (v : Value) (ss : List (List UInt8)), e = .returned v ∧ ss.Perm (strKeys D0) ∧
      w'.ownsRow w.heap.size 9 1 v ss.length ((ss.mergeSort (fun x y => decide (x ≤ y))).map encStr) ∧ (v = .slice none 0 0 ↔ ss = []) ∧ Below w.heap.size w w' := by
  have hseq : SeqGives Fence.wide 2 Try.prog 45 #[.pointer (some ⟨Bm, 0, none⟩)] encStr (fun ss => ss.Perm (strKeys D0)) (Maps.size D0) w :=
    AnyZ.keys_gives (ρ := Try.keys35_ren) { Try.keys35 with } Fence.wide _ trivial rfl (by omega) Bm b nn D0 _ hBm hc hown
  exact AnyZ.sorted_in Try.sorted34 Fence.wide 5 trivial trivial trivial trivial rfl (by omega) (Try.sorts34 _) (enters_of Try.func37 (by kernel_rfl) rfl) 45 #[.pointer (some ⟨Bm, 0, none⟩)] trivial (enters_of Try.func45 (by kernel_rfl) rfl) _ _ hmax hbytes _ hseq
end Go.Proofs
namespace Go.Proofs.Ythmohmpalbnjoaa.V
open Go Go.Proofs Go.Sort
theorem mod_of_below {w w' : World} (h : RowKit.Below w.heap.size w w') : Mod [] w w' := ⟨h.os, h.tape, h.output, h.size, fun i hi _ => h.block i hi⟩
theorem owns_own {w : World} {base e n : Nat} {v : Value} {l : List Str} (h : w.ownsRow base e 1 v n (l.map encStr)) (hn : n = l.length) : OwnS w e v l ∧ ∀ x ∈ ob v, base ≤ x := by
  subst hn
  refine ⟨⟨by simp [strs_cells], ?_⟩, ?_⟩
  · rcases h.2 with h0 | ⟨g, cap, cur, rfl, hb, hg, h1, h2, h3, h4⟩
    · exact .inl h0
    · refine .inr ⟨g, 0, cap, cur.toList, rfl, ?_, h1, h2, by simp [h3], ?_⟩
      · unfold Blk
        simpa using hg
      · rw [List.drop_zero, h4, strs_cells]
  · rcases h.2 with ⟨rfl, _⟩ | ⟨g, cap, cur, rfl, hb, _⟩
    · simp [ob]
    · simpa [ob] using hb
theorem leD_bl (x y : Str) : decide (x ≤ y) = !bl y x := by
  have key : ∀ (a b : Str), (a < b) ↔ bl a b = true := by
    intro a
    induction a with
    | nil =>
      intro b
      cases b with
      | nil => simp [bl, Op.bytesLess]
      | cons y r => simp [bl, Op.bytesLess]
    | cons x r ih =>
      intro b
      cases b with
      | nil => simp [bl, Op.bytesLess]
      | cons y s =>
        have := ih s
        simp only [bl] at this ⊢
        simp only [Op.bytesLess, List.cons_lt_cons_iff, this]
        by_cases h : x = y
        · subst h; simp
        · by_cases h2 : x < y <;> simp [h, h2]
  have : (x ≤ y) ↔ ¬ bl y x = true := by
    rw [← key y x]
    exact List.not_lt.symm
  by_cases h : x ≤ y
  · rw [decide_eq_true h]
    have := this.1 h
    simp [this]
  · rw [decide_eq_false h]
    have h2 : bl y x = true := by
      cases hb : bl y x with
      | true => rfl
      | false => exact absurd (this.2 (by simp [hb])) h
    simp [h2]
theorem merge_srt (l : List Str) : srtS (l.mergeSort fun x y => decide (x ≤ y)) := by
  have : (fun x y : Str => decide (x ≤ y)) = fun x y => !bl y x := by
    funext x y
    exact leD_bl x y
  rw [this]
  have h := List.pairwise_mergeSort (le := fun x y : Str => !bl y x) (fun a b c h1 h2 => by
    simp only [Bool.not_eq_true'] at h1 h2 ⊢
    rcases bl_total b a with h3 | h3 | h3
    · rw [h1] at h3; cases h3
    · subst h3; exact h2
    · cases h4 : bl c a with
      | false => rfl
      | true => rw [bl_trans h4 h3] at h2; cases h2) (fun a b => by
    cases h : bl b a with
    | false => rfl
    | true => simp [bl_asymm h]) l
  exact List.Pairwise.imp (fun h => by simpa using h) h
theorem merge_perm (l : List Str) : (l.mergeSort fun x y => decide (x ≤ y)).Perm l := List.mergeSort_perm l _
theorem c_sortS (w : World) (v : Value) (l : List Str) (O : OwnS w 9 v l) (hl : l.length ≤ 1000000) : Calls Try.prog 37 [v].toArray w (Ret fun u w' => (∃ l' : List Str, srtS l' ∧ l'.Perm l ∧ OwnS w' 9 v l') ∧ Mod (ob v) w w') := by
  rcases O.2 with ⟨rfl, h0⟩ | ⟨g, o, c, cs, rfl, hB, h1, h2, h3, h4⟩
  · have : l = [] := List.eq_nil_of_length_eq_zero h0
    subst this
    exact (AnyM.slices_Sort_string_none Try.sort37 none 0 w).mono fun e w' he => by
      obtain ⟨rfl, rfl⟩ := he
      exact ⟨⟨[], List.Pairwise.nil, List.Perm.refl _, O⟩, Mod.refl _ _⟩
  · have hcs : cs.length = cs.toArray.size := by simp
    rw [strs_cells] at h4
    have hH : Holds encStr w g o l.toArray := by
      intro j hj
      have hj' : j < l.length := by simpa using hj
      have hc : cs[o + j]? = some (S l[j]) := by
        have := congrArg (fun z => z[j]?) h4
        simp only [Nat.mul_one, List.getElem?_take, List.getElem?_drop, hj', if_true, List.getElem?_map, List.getElem?_eq_getElem hj', Option.map_some] at this
        exact this
      refine ⟨?_, hB.frozen _⟩
      rw [hB.cell hc]
      simp [hj']
    refine (AnyM.slices_Sort_string Try.sort37 g o c l w hH hB.lt (by omega)).mono fun e w' he => ?_
    obtain ⟨rfl, n, os, rfl⟩ := he
    have hml : (l.mergeSort fun x y => decide (x ≤ y)).length = l.length := (merge_perm l).length_eq
    refine ⟨⟨_, merge_srt l, merge_perm l, ?_⟩, ?_⟩
    · have hlt := hB.lt
      have hheap : (grow (putRow encStr (Sort.ahead w n) g o (l.mergeSort fun x y => decide (x ≤ y)).toArray) os).heap[g]? = some (.cells (putCells encStr o (l.mergeSort fun x y => decide (x ≤ y)).toArray cs.toArray) 9 (0, 0)) := by
        rw [heap_grow_old _ _ (by simpa using hlt)]
        unfold Blk at hB
        simp [putRow, mapBlock, Sort.ahead, Array.getElem?_modify, hB, onCells]
      refine ⟨by simp [strs_cells], .inr ⟨g, o, c, (putCells encStr o (l.mergeSort fun x y => decide (x ≤ y)).toArray cs.toArray).toList, by rw [hml], by unfold Blk; simpa using hheap, by omega, h2, by simp [putCells]; omega, ?_⟩⟩
      rw [strs_cells]
      apply List.ext_getElem?
      intro j
      rw [Nat.mul_one, List.getElem?_take, List.getElem?_drop]
      by_cases hj : j < (l.mergeSort fun x y => decide (x ≤ y)).length
      · have hlt2 : o + j < cs.length := by omega
        have hjl : j < l.length := by omega
        simp [putCells, hj, hlt2, List.getElem?_eq_getElem hj, hjl]
        try (intro h9; omega)
      · rw [if_neg hj, List.getElem?_eq_none (by simp; omega)]
    · refine ⟨rfl, rfl, rfl, by simp, fun i hi hn => ?_⟩
      rw [heap_grow_old _ _ (by simpa using hi)]
      have : g ≠ i := fun e => hn (by simp [ob, e])
      simp [putRow, mapBlock, Sort.ahead, Array.getElem?_modify, this]
theorem c_keysI (w : World) (b : Nat) : Calls Try.prog 35 [.map (some b)].toArray w (Ret fun u w' => u = .func (.func 45) #[] #[.pointer (some ⟨w.heap.size, 0, none⟩)] ∧ w' = w.alloc (.cells #[.map (some b)] 69)) :=
  (callsIn_wide.1 (Try.keysI (some b) w)).mono fun e w' he => by
    obtain ⟨rfl, rfl⟩ := he
    exact ⟨rfl, rfl⟩
theorem MapB.owns {w : World} {b : Nat} {m : List (Str × Value)} (h : MapB w b m) (hl : m.length ≤ 1000000) (hk : ∀ p ∈ m, p.1.length ≤ 1000000) :
    ∃ D0 : DataW Unit, w.ownsMap Try.prog 9 (fun _ => some (.lit (.bool true), [])) b m.length D0 ∧ (strKeys D0).Perm (m.map (·.1)) ∧ Maps.size D0 = m.length := by
  obtain ⟨es, clock, h1, h2, h3, h4⟩ := h.at_
  have hsz : es.size = m.length := by
    have := congrArg List.length h2
    simpa [ents, rows] using this
  have hkeys := keys_of h2
  have hrd : ∀ x ∈ es.toList, ∃ s : Str, x.key = S s ∧ WideElems.rd Try.prog 9 (fun _ => some (DataW.lit (.bool true), [])) x = some (.string s, (DataW.lit (.bool true) : DataW Unit)) := by
    intro x hx
    have hm : (x.key, x.val) ∈ rows m := by rw [← h2]; exact List.mem_map_of_mem (f := fun e : MapEntry => (e.key, e.val)) hx
    obtain ⟨p, hp, hpe⟩ := List.mem_map.1 hm
    injection hpe with hpk hpv
    refine ⟨p.1, hpk.symm, ?_⟩
    have hlen := hk p hp
    have hle : p.1.length ≤ maxLen := by simp only [maxLen]; omega
    unfold WideElems.rd
    rw [← hpk]
    have hle2 : (⟨⟨p.1⟩⟩ : ByteArray).size ≤ maxLen := hle
    simp [keyOf, Try.underlying9, mapKey, hle2]
  refine ⟨_, ⟨es, clock, h1, ⟨by simp only [maxLen]; omega, ⟨h3, h4, ?_⟩, fun x hx => ?_⟩, by omega, rfl⟩, ?_, ?_⟩
  · rw [hkeys]
    exact List.Pairwise.map S (fun a b hab hs => hab (S_inj hs)) h.keys
  · obtain ⟨s, _, hr⟩ := hrd x hx
    exact ⟨_, hr⟩
  · unfold strKeys
    refine ((WideShapes.sorted_perm _).map _).trans ?_
    rw [List.map_map]
    have : es.toList.map ((fun p : Lit × DataW Unit => strOf p.1) ∘ WideElems.rg Try.prog 9 (fun _ => some (DataW.lit (.bool true), []))) = m.map (·.1) := by
      apply List.ext_getElem?
      intro i
      have hi := congrArg (fun z => z[i]?) h2
      simp only [ents, rows, List.getElem?_map] at hi ⊢
      cases he : es.toList[i]? with
      | none =>
        rw [he] at hi
        cases hq : m[i]? with
        | none => rfl
        | some q => rw [hq] at hi; simp at hi
      | some e =>
        rw [he] at hi
        cases hq : m[i]? with
        | none => rw [hq] at hi; simp at hi
        | some q =>
          rw [hq] at hi
          simp only [Option.map_some, Option.some.injEq, Prod.mk.injEq] at hi
          obtain ⟨s, hs, hr⟩ := hrd e (List.mem_of_getElem? he)
          have hsq : s = q.1 := S_inj (hs.symm.trans hi.1)
          simp only [Option.map_some, Function.comp, WideElems.rg, hr, Option.getD_some, strOf, hsq]
    rw [this]
  · simp only [Maps.size, length_sorted, List.length_map]
    simpa using hsz
theorem c_sortedK (w : World) (Bm b : Nat) (m : List (Str × Value)) (hm : MapB w b m) (hB : Blk w Bm 69 [.map (some b)]) (hl : m.length ≤ 1000000) (hk : ∀ p ∈ m, p.1.length ≤ 1000000) :
    Calls Try.prog 34 [.func (.func 45) #[] #[.pointer (some ⟨Bm, 0, none⟩)]].toArray w (Ret fun u w' => OwnS w' 9 u (setS (m.map (·.1))) ∧ (∀ x ∈ ob u, w.heap.size ≤ x) ∧ Mod [] w w') := by
  obtain ⟨D0, h1, h2, h3⟩ := hm.owns hl hk
  refine (callsIn_wide.1 (Try.sortedK Bm b m.length D0 _ w hB.lt (hB.cell (i := 0) rfl) h1 (by rw [h3]; simp only [maxLen]; omega) (by rw [h3]; omega))).mono fun e w' he => ?_
  obtain ⟨v, ss, rfl, hp, hrow, _, hb⟩ := he
  have hset : (ss.mergeSort fun x y => decide (x ≤ y)) = setS (m.map (·.1)) := srtS_set (merge_srt ss) ((merge_perm ss).trans (hp.trans h2)) hm.keys
  rw [hset] at hrow
  have hlen : ss.length = (setS (m.map (·.1))).length := by rw [← hset, (merge_perm ss).length_eq]
  obtain ⟨k1, k2⟩ := owns_own hrow hlen
  exact ⟨k1, k2, mod_of_below hb⟩
end Go.Proofs.Ythmohmpalbnjoaa.V

namespace Go.Proofs
open Go.RowKit Go.Maps Go.Sort Go.Shelf
def Try.upto {α : Type} (f : Nat → α) (k : Nat) : List α := (List.range k).map f
theorem Try.upto_succ {α : Type} (f : Nat → α) (k : Nat) : Try.upto f (k + 1) = Try.upto f k ++ [f k] := by simp [Try.upto, List.range_succ]
theorem Try.upto_length {α : Type} (f : Nat → α) (k : Nat) : (Try.upto f k).length = k := by simp [Try.upto]
theorem Try.upto_all (zs : List (List UInt8)) : Try.upto (fun j => zs[j]?.getD []) zs.length = zs := by
  apply List.ext_getElem
  · simp [Try.upto]
  · intro i h1 h2
    simp [Try.upto, h2]
set_option maxRecDepth 100000 in
set_option maxHeartbeats 2000000 in
theorem Try.values1 (F : Fence) (n : Nat) (h7 : F.fn 49) (hro : F.round = none) (hn : 1 ≤ n) (l Bs n₀ len cap : Nat) (ad : Option Addr) (zs : List (List UInt8)) (hlen : len ≤ 1000000) (J Jx : List (List UInt8) → World → Prop)
    (hY : ∀ pre x W, J pre W → pre.length < len → YieldAt F (n - 1) Try.prog l #[encStr x] W fun e W' =>
      (e = .returned (.bool true) ∧ J (pre ++ [x]) W' ∧ Below n₀ W W') ∨ (e = .returned (.bool false) ∧ Jx (pre ++ [x]) W'))
    (W : World) (hBs : W.cell? ⟨Bs, 0, none⟩ = some (.slice ad len cap)) (hc : ∀ j, j < len → ∃ a, ad = some a ∧ a.block < n₀ ∧ W.cell? (a.add j) = some (encStr (zs[j]?.getD []))) (h0 : J [] W) :
    CallsIn F n Try.prog 49 #[.func (.yield l) #[] #[], .pointer (some ⟨Bs, 0, none⟩)] W fun e W' => (∃ v, e = .returned v) ∧
      ((∃ ys, ys = Try.upto (fun j => zs[j]?.getD []) len ∧ J ys W') ∨ (∃ pre, (∃ k, k ≤ len ∧ pre = Try.upto (fun j => zs[j]?.getD []) k) ∧ Jx pre W')) := by
  refine callsIn_of_wp Try.func49 rfl h7 ?_ hro
  simp only [Try.ntmps49, List.size_toArray, List.length_cons, List.length_nil, Nat.reduceAdd, Nat.reduceSub, Array.replicate_succ, Array.replicate_zero, List.push_toArray, List.append_toArray, List.nil_append, List.cons_append]
  gi_wp2
  gi_loopw [7] (fun i wr => ∃ k : Nat, k ≤ len ∧ i = .int .i64 k ∧ J (Try.upto (fun j => zs[j]?.getD []) k) wr ∧ Below n₀ W wr)
    (fun i _ => len - (intOf i).toNat)
  case atStart => exact ⟨0, Nat.zero_le _, rfl, h0, Below.refl _ _⟩
  case round =>
    obtain ⟨k, hk, rfl, hJs, hnx⟩ := hrel
    by_cases hlt : k < len
    · obtain ⟨a, rfl, hab, hca⟩ := hc k hlt
      have hcx : wr.cell? (a.add k) = some (encStr (zs[k]?.getD [])) := (hnx.cell (p := a.add k) (by rw [Go.Proofs.Ythmohmpalbnjoaa.V.add_block]; exact hab)).trans hca
      obtain ⟨x, hx⟩ : ∃ x, zs[k]?.getD [] = x := ⟨_, rfl⟩
      rw [hx] at hcx
      obtain ⟨fn, tmps, assign, body, hy, hR⟩ := hY _ x wr hJs (by rw [Try.upto_length]; exact hlt)
      have hup : Try.upto (fun j => zs[j]?.getD []) (k + 1) = Try.upto (fun j => zs[j]?.getD []) k ++ [x] := by rw [Try.upto_succ]; exact congrArg (fun z => Try.upto (fun j => zs[j]?.getD []) k ++ [z]) hx
      clear hx hca
      gi_wp2
      refine hR.mono ?_
      rintro e W3 (⟨rfl, hJ3, hk3⟩ | ⟨rfl, hJx3⟩)
      · gi_wp2
        go_roundw
        case rel => exact ⟨k + 1, by omega, by simp, by rw [hup]; exact hJ3, hnx.trans hk3⟩
        case measure => simp [intOf]; omega
      · gi_wp2
        refine bodyPost_ret (results_none rfl _ _ _) rfl ?_
        exact ⟨⟨_, rfl⟩, .inr ⟨_, ⟨k + 1, by omega, hup.symm⟩, hJx3⟩⟩
    · obtain rfl : k = len := by omega
      gi_wp2
      go_end0
      exact ⟨⟨_, rfl⟩, .inl ⟨_, rfl, hJs⟩⟩
theorem Try.values_stops (F : Fence) (n : Nat) (h7 : F.fn 49) (hro : F.round = none) (hn : 1 ≤ n) (Bs n₀ cap : Nat) (ad : Option Addr) (zs : List (List UInt8)) (hlen : zs.length ≤ 1000000) (w : World) (hBs : Bs < w.heap.size) (hn₀ : n₀ ≤ w.heap.size)
    (hc : w.cell? ⟨Bs, 0, none⟩ = some (.slice ad zs.length cap)) (hI : ∀ j, j < zs.length → ∃ a, ad = some a ∧ a.block < n₀ ∧ w.cell? (a.add j) = some (encStr (zs[j]?.getD []))) :
    SeqStopsK F n Try.prog 49 #[.pointer (some ⟨Bs, 0, none⟩)] (fun x : List UInt8 => #[encStr x]) (Below n₀) (fun ys => ys = zs) (fun _ => True) zs.length w := fun l J Jx W hW _ _ hY h0 => by
  have hc' := (hW.cell (p := ⟨Bs, 0, none⟩) hBs).trans hc
  refine (Try.values1 F n h7 hro hn l Bs n₀ zs.length cap ad zs hlen J Jx hY W hc' (fun j hj => by
    obtain ⟨a, h1, h2, h3⟩ := hI j hj
    exact ⟨a, h1, h2, (hW.cell (p := a.add j) (by rw [Go.Proofs.Ythmohmpalbnjoaa.V.add_block]; omega)).trans h3⟩) h0).mono ?_
  rintro e W' ⟨he, ⟨ys, rfl, hj⟩ | ⟨pre, _, hj⟩⟩
  · exact ⟨he, .inl ⟨_, Try.upto_all zs, hj⟩⟩
  · exact ⟨he, .inr ⟨_, trivial, hj⟩⟩
theorem Try.info9_ : (Try.prog.info? 9).map (fun i => (i.zero, i.size, i.bytes)) = some (some (.string ⟨#[]⟩), 1, 16) := by kernel_rfl
set_option maxRecDepth 100000 in
set_option maxHeartbeats 2000000 in
theorem Try.appendV (F : Fence) (n : Nat) (h3 : F.fn 50) (h5 : F.fn 49) (hro : F.round = none) (hn : 3 ≤ n) (Bs cap : Nat) (ad : Option Addr) (zs : List (List UInt8)) (hlen : zs.length ≤ 1000000) (w : World) (hBs : Bs < w.heap.size)
    (hbc : w.cell? ⟨Bs, 0, none⟩ = some (.slice ad zs.length cap)) (hI : ∀ j, j < zs.length → ∃ a, ad = some a ∧ a.block < w.heap.size ∧ w.cell? (a.add j) = some (encStr (zs[j]?.getD []))) :
    CallsIn F n Try.prog 50 #[.slice none 0 0, .func (.func 49) #[] #[.pointer (some ⟨Bs, 0, none⟩)]] w fun e W' => ∃ v, e = .returned v ∧ W'.ownsRow w.heap.size 9 1 v zs.length (zs.map encStr) ∧ Below w.heap.size w W' := by
  have h1 : 1 ≤ n := by omega
  have hmx : zs.length ≤ maxLen := by simp only [maxLen]; omega
  obtain ⟨i0, hi, hz0, hz1, hz2⟩ := info_parts Try.info9_
  refine callsIn_of_wp_marks Try.func50 rfl h3 ?_ hro
  simp only [Try.ntmps50, List.size_toArray, List.length_cons, List.length_nil, Nat.reduceAdd, Nat.reduceSub, Array.replicate_succ, Array.replicate_zero, List.push_toArray, List.append_toArray, List.nil_append, List.cons_append]
  gi_wp2
  have bO := Boxed.new w 23 (.slice none 0 0)
  have hB0 : Below w.heap.size w (w.alloc (.cells #[.slice none 0 0] 23)) := (Below.refl _ w).alloc (Nat.le_refl _) _
  refine wpIn_rangeFunc_ownG hro h1 (gf := 49) (lb := #[.pointer (some ⟨Bs, 0, none⟩)]) rfl h5 (enters_of Try.func49 (by kernel_rfl) rfl)
    (Try.values_stops F (n - 1) h5 hro (by omega) Bs w.heap.size cap ad zs hlen _ (by simp; omega) (by simp) ((hB0.cell (p := ⟨Bs, 0, none⟩) hBs).trans hbc) (fun j hj => by
      obtain ⟨a, e1, e2, e3⟩ := hI j hj
      exact ⟨a, e1, e2, (hB0.cell (p := a.add j) (by rw [Go.Proofs.Ythmohmpalbnjoaa.V.add_block]; exact e2)).trans e3⟩)) belowK_t (belowK_b (by simp)) (Below.refl _ _) (fun _ => rfl)
    (fun (pre : List (List UInt8)) W => (∃ v, Boxed W w.heap.size 23 v ∧ W.ownsRow w.heap.size 9 1 v pre.length (pre.map encStr) ∧ True) ∧ Below w.heap.size w W)
    (fun _ _ _ => False)
    (OwnFrom.and (Own.from (holdsRow_own w.heap.size w.heap.size 23 9 1 (fun pre : List (List UInt8) => pre.length) (fun pre => pre.map encStr) (fun pre v => True)) _) (ownFrom_below (Nat.le_refl _) (by simp)))
    (fun _ _ _ _ _ hs _ _ => hs)
    ⟨⟨_, bO, World.ownsRow_nil _ _ _ _, trivial⟩, hB0⟩
    (fun x => { tmps := #[.slice none 0 0, .func (.func 49) #[] #[.pointer (some ⟨Bs, 0, none⟩)], .pointer (some ⟨w.heap.size, 0, none⟩), undef, .slice none 0 0, encStr x, .func (.func 49) #[] #[.pointer (some ⟨Bs, 0, none⟩)], encStr x, undef, undef, undef, undef, undef], defers := [] }) ?assign ?body ?done ?stop
  case assign =>
    intro l x W K hK
    gi_wp2_with gi_round_op_a
    exact hK
  case body =>
    rintro l pre x W ⟨⟨v, hv, hrow, _⟩, hB⟩ hlt
    have hc := hv.cell
    gi_wp2_with (first | (gi_at_builtin; refine wpListIn_append_own _ rfl _ _ 23 rfl w.heap.size 9 i0 (.string ⟨#[]⟩) 1 16 Try.underlying23 hi hz0 hz1 hz2 rfl (by decide) _ _ _ rfl (hrow.alloc _) ⟨W.heap.size, 0, none⟩ 1 1 [encStr x] rfl rfl (cell_one_new _ _ _) (by simp [Value.oneCell']) (by omega) (by omega) (by have := hB.size; simp; omega) ?_; intro v' w1 hown' hgrow _; obtain ⟨g', cap', rfl⟩ := ownsRow_succ hown'; obtain ⟨hv1, hv2, hr2, hk2, hb2⟩ := hv.appended (by decide) hrow hB.size (Nat.le_refl _) hown' hgrow; have hc1 := hv1.cell; have hf1 := hv1.frozen) | gi_round_op_a)
    exact ⟨hk2.from _, hb2, ⟨_, hv2, by simpa using hr2, trivial⟩, hB.trans hb2⟩
  case done =>
    rintro D ys W hD rfl ⟨⟨v, hv, hrow, _⟩, hB⟩ hK
    have hc := hv.cell
    gi_wp2
    refine ⟨by simp, .inl ⟨_, _, rfl, run_takeDeferred hK, ?_⟩⟩
    exact ⟨_, results_tmp rfl _ _ _, v, rfl, ownsRow_putObj hrow _ hK rfl, hB.trans (belowK_b (w := w) (Nat.le_refl _) W D _ _ (by simp at hD; omega) hK rfl rfl)⟩
  case stop =>
    rintro D c pre W _ _ h _
    exact h.elim
end Go.Proofs

namespace Go.Proofs.Ythmohmpalbnjoaa.V
open Go Go.Proofs Go.Sort
theorem c_appendV (w : World) (Bs cap : Nat) (ad : Option Addr) (zs : List Str) (hB : Blk w Bs 23 [.slice ad zs.length cap]) (R : Rep [] w (strD zs) (.slice ad zs.length cap)) (hl : zs.length ≤ 1000000) :
    Calls Try.prog 50 [.slice none 0 0, .func (.func 49) #[] #[.pointer (some ⟨Bs, 0, none⟩)]].toArray w (Ret fun u w' => OwnS w' 9 u zs ∧ (∀ x ∈ ob u, w.heap.size ≤ x) ∧ Mod [] w w') := by
  refine (callsIn_wide.1 (Try.appendV Fence.wide 3 trivial trivial rfl (by omega) Bs cap ad zs hl w hB.lt (hB.cell (i := 0) rfl) fun j hj => ?_)).mono fun e w' he => ?_
  · obtain ⟨a, h1, h2, _⟩ := flat_at R (List.getElem?_eq_getElem hj)
    rw [Nat.mul_one] at h2
    refine ⟨a, h1, ?_, ?_⟩
    · have := World.block_lt_of_cell? w _ h2.c0
      rwa [add_block] at this
    · rw [List.getElem?_eq_getElem hj]
      exact h2.c0
  · obtain ⟨v, rfl, h1, h2⟩ := he
    obtain ⟨k1, k2⟩ := owns_own h1 rfl
    exact ⟨k1, k2, mod_of_below h2⟩
end Go.Proofs.Ythmohmpalbnjoaa.V

set_option linter.unusedVariables false
set_option linter.unusedSimpArgs false
set_option maxRecDepth 10000
namespace Go.Proofs.Ythmohmpalbnjoaa.V
open Go Go.Proofs
theorem ent50 : Ent Try.prog 50 := Ent.of Try.func50 (by kernel_rfl) (by kernel_rfl)
theorem ent44 : Ent Try.prog 44 := Ent.of Try.func44 (by kernel_rfl) (by kernel_rfl)
theorem ent37 : Ent Try.prog 37 := Ent.of Try.func37 (by kernel_rfl) (by kernel_rfl)
theorem c_values (w : World) (ad : Option Addr) (n c : Nat) : Calls Try.prog 41 [.slice ad n c].toArray w (Ret fun u w' => ∃ B, u = .func (.func 49) #[] #[.pointer (some ⟨B, 0, none⟩)] ∧ Blk w' B 23 [.slice ad n c] ∧ w.heap.size ≤ B ∧ Mod [] w w') := by
  refine enter Try.func41 rfl rfl rfl (l := [(0, _)]) ⟨rfl, trivial⟩ ?_
  have E := Mod.refl [] w
  refine c_seq fun K1 hK1 => ?_
  refine c_region ?_
  refine s_box rfl rfl rfl fun g1 w1 N1 => ?_
  have Lg1_E := N1.le E
  replace E := E.then N1.mod
  have Bg1 := N1.blk
  refine sv (o_as rfl) rfl ?_
  refine l_nil ?_
  refine e_K (hK1 _ _ _ _ ?_)
  refine c_seq fun K2 hK2 => ?_
  refine c_region ?_
  refine sv (o_mkf rfl rfl) rfl ?_
  refine sv (o_as rfl) rfl ?_
  refine l_nil ?_
  refine e_K (hK2 _ _ _ _ ?_)
  refine c_ret ?_
  exact ret1 rfl rfl ⟨g1, rfl, Bg1, Lg1_E, E⟩

theorem c_keys (w : World) (b : Nat) : Calls Try.prog 35 [.map (some b)].toArray w (Ret fun u w' => ∃ B, u = .func (.func 45) #[] #[.pointer (some ⟨B, 0, none⟩)] ∧ Blk w' B 69 [.map (some b)] ∧ w.heap.size ≤ B ∧ Mod [] w w') := by
  refine enter Try.func35 rfl rfl rfl (l := [(0, _)]) ⟨rfl, trivial⟩ ?_
  have E := Mod.refl [] w
  refine c_seq fun K1 hK1 => ?_
  refine c_region ?_
  refine s_box rfl rfl rfl fun g1 w1 N1 => ?_
  have Lg1_E := N1.le E
  replace E := E.then N1.mod
  have Bg1 := N1.blk
  refine sv (o_as rfl) rfl ?_
  refine l_nil ?_
  refine e_K (hK1 _ _ _ _ ?_)
  refine c_seq fun K2 hK2 => ?_
  refine c_region ?_
  refine sv (o_mkf rfl rfl) rfl ?_
  refine sv (o_as rfl) rfl ?_
  refine l_nil ?_
  refine e_K (hK2 _ _ _ _ ?_)
  refine c_ret ?_
  exact ret1 rfl rfl ⟨g1, rfl, Bg1, Lg1_E, E⟩

theorem c_collectV (w : World) (Bs cap : Nat) (ad : Option Addr) (zs : List Str) (hB : Blk w Bs 23 [.slice ad zs.length cap]) (R : Rep [] w (strD zs) (.slice ad zs.length cap)) (hl : zs.length ≤ 1000000) : Calls Try.prog 44 [.func (.func 49) #[] #[.pointer (some ⟨Bs, 0, none⟩)]].toArray w (Ret fun u w' => OwnS w' 9 u zs ∧ (∀ x ∈ ob u, w.heap.size ≤ x) ∧ Mod [] w w') := by
  refine enter Try.func44 rfl rfl rfl (l := [(0, _)]) ⟨rfl, trivial⟩ ?_
  have E := Mod.refl [] w
  refine c_seq fun K1 hK1 => ?_
  refine c_region ?_
  refine sv (o_as rfl) rfl ?_
  refine l_nil ?_
  refine e_K (hK1 _ _ _ _ ?_)
  refine c_seq fun K2 hK2 => ?_
  refine c_region ?_
  refine sv (o_mv rfl) rfl ?_
  refine sc (o_call ent50 rfl) (c_appendV _ Bs cap ad zs (hB.mod0 E) (R.to0 E) hl) rfl fun v_ w1 h_ => ?_
  obtain ⟨O, LO, E_⟩ := h_
  replace E := E.then E_
  refine sv (o_as rfl) rfl ?_
  refine l_nil ?_
  refine e_K (hK2 _ _ _ _ ?_)
  refine c_ret ?_
  exact ret1 rfl rfl ⟨O, LO, E⟩

theorem c_sortedV (w : World) (Bs cap : Nat) (ad : Option Addr) (zs : List Str) (hB : Blk w Bs 23 [.slice ad zs.length cap]) (R : Rep [] w (strD zs) (.slice ad zs.length cap)) (hl : zs.length ≤ 1000000) : Calls Try.prog 34 [.func (.func 49) #[] #[.pointer (some ⟨Bs, 0, none⟩)]].toArray w (Ret fun u w' => (∃ l' : List Str, srtS l' ∧ l'.Perm zs ∧ OwnS w' 9 u l') ∧ (∀ x ∈ ob u, w.heap.size ≤ x) ∧ Mod [] w w') := by
  refine enter Try.func34 rfl rfl rfl (l := [(0, _)]) ⟨rfl, trivial⟩ ?_
  have E := Mod.refl [] w
  refine c_seq fun K1 hK1 => ?_
  refine c_region ?_
  refine sv (o_as rfl) rfl ?_
  refine l_nil ?_
  refine e_K (hK1 _ _ _ _ ?_)
  refine c_seq fun K2 hK2 => ?_
  refine c_region ?_
  refine sv (o_mv rfl) rfl ?_
  refine sc (o_call ent44 rfl) (c_collectV _ Bs cap ad zs (hB.mod0 E) (R.to0 E) hl) rfl fun v_ w1 h_ => ?_
  obtain ⟨O, LO, E_⟩ := h_
  replace E := E.then E_
  have E0 := E
  refine sv (o_as rfl) rfl ?_
  refine l_nil ?_
  refine e_K (hK2 _ _ _ _ ?_)
  refine c_seq fun K3 hK3 => ?_
  refine c_region ?_
  refine sv (o_mv rfl) rfl ?_
  refine sc (o_call ent37 rfl) (c_sortS _ _ zs O hl) rfl fun v_ w2 h_ => ?_
  obtain ⟨⟨l2, hs, hp, O2⟩, E2_⟩ := h_
  have E := E0.trans' E2_ (fun x hx => .inr (LO x hx))
  refine l_nil ?_
  refine e_K (hK3 _ _ _ _ ?_)
  refine c_seq fun K4 hK4 => ?_
  refine c_region ?_
  refine sv (o_mv rfl) rfl ?_
  refine sv (o_as rfl) rfl ?_
  refine l_nil ?_
  refine e_K (hK4 _ _ _ _ ?_)
  refine c_ret ?_
  exact ret1 rfl rfl ⟨⟨l2, hs, hp, O2⟩, LO, E⟩

theorem c_cloneG (w : World) (xs : List Str) (v0 : Value) (R : Rep [] w (strD xs) v0) (hn : xs.length ≤ 1000000) : Calls Try.prog 36 [v0].toArray w (Ret fun u w' => OwnS w' 9 u xs ∧ (∀ x ∈ ob u, w.heap.size ≤ x) ∧ Mod [] w w') := by
  refine enter Try.func36 rfl rfl rfl (l := [(0, _)]) ⟨rfl, trivial⟩ ?_
  have E := Mod.refl [] w
  obtain ⟨ad, c, rfl, hc1, hc2⟩ := flat_len R
  have hne : ad = none → xs = [] := fun h => by subst h; exact flat_none R
  refine c_seq fun K1 hK1 => ?_
  refine c_region ?_
  refine sv (o_as rfl) rfl ?_
  refine l_nil ?_
  refine e_K (hK1 _ _ _ _ ?_)
  refine c_seq fun K2 hK2 => ?_
  refine c_seq fun K3 hK3 => ?_
  refine c_region ?_
  refine sv (o_mv rfl) rfl ?_
  refine sv (o_neqs Try.underlying23 rfl rfl) rfl ?_
  refine l_nil ?_
  refine e_K (hK3 _ _ _ _ ?_)
  refine c_cond rfl (fun h4 => ?_) (fun h4 => ?_)
  · skip
    have hx0 : xs = [] := hne (by cases ad with | none => rfl | some a => simp at h4)
    subst hx0
    refine c_seq fun K4 hK4 => ?_
    refine c_region ?_
    refine sv (o_as rfl) rfl ?_
    refine l_nil ?_
    refine e_K (hK4 _ _ _ _ ?_)
    refine c_ret ?_
    refine e_then (by simp) ?_
    exact ret1 rfl rfl ⟨OwnS.nil _ _, by simp [ob], E⟩
  · skip
    refine c_skip ?_
    refine e_K (hK2 _ _ _ _ ?_)
    refine c_seq fun K5 hK5 => ?_
    refine c_region ?_
    refine s_bslice (cs := []) sl23 zv9 rfl rfl rfl (by decide) rfl fun g1 w1 N1 => ?_
    have Lg1_E := N1.le E
    replace E := E.then N1.mod
    have Bg1 := N1.blk
    refine sv (o_mv rfl) rfl ?_
    refine s_append sl23 rfl rfl (Own.all (c := 0) (cs := []) Bg1 rfl (by omega)) (Src.flat Try.underlying23 (R.to0 E)) (by decide) (by omega) (by omega) rfl fun v1 w2 A1 => ?_
    replace E := E.trans' A1.mod (fun x hx => .inr (by simp [ob] at hx; subst hx; exact Lg1_E))
    have L1 : ∀ x ∈ ob v1, w.heap.size ≤ x := fun x hx => (A1.ob_ x hx).elim (fun h => by simp [ob] at h; subst h; exact Lg1_E) (fun h => Nat.le_trans (Nat.le_trans Lg1_E (Nat.le_of_lt Bg1.lt)) h)
    refine sv (o_as rfl) rfl ?_
    refine l_nil ?_
    refine e_K (hK5 _ _ _ _ ?_)
    refine c_ret ?_
    exact ret1 rfl rfl ⟨A1.own.same (by simp) (by simp), L1, E⟩

theorem c_compactS (w : World) (xs : List Str) (v : Value) (O : OwnS w 9 v xs) (hn : xs.length ≤ 1000000) : Calls Try.prog 40 [v].toArray w (Ret fun u w' => OwnS w' 9 u (ddS xs) ∧ (∀ x ∈ ob u, x ∈ ob v) ∧ Mod (ob v) w w') := by
  refine enter Try.func40 rfl rfl rfl (l := [(0, _)]) ⟨rfl, trivial⟩ ?_
  have E := Mod.refl [] w
  obtain ⟨ad, c, rfl, hc1, hc2⟩ := O.form
  have R := OwnS.rep [] O (by simp)
  refine c_seq fun K1 hK1 => ?_
  refine c_region ?_
  refine sv (o_as rfl) rfl ?_
  refine l_nil ?_
  refine e_K (hK1 _ _ _ _ ?_)
  refine c_seq fun K2 hK2 => ?_
  refine c_seq fun K3 hK3 => ?_
  refine c_region ?_
  refine sv (o_mv rfl) rfl ?_
  refine sv (o_len Try.underlying23 rfl) rfl ?_
  refine sv (o_lss rfl rfl) rfl ?_
  refine l_nil ?_
  refine e_K (hK3 _ _ _ _ ?_)
  refine c_if rfl (fun h8 => ?_) (fun h8 => ?_)
  · skip
    have hdx : ddS xs = xs := by
      have := @ddS_one xs
      rwa [List.take_of_length_le (by omega)] at this
    refine c_seq fun K4 hK4 => ?_
    refine c_region ?_
    refine sv (o_mv rfl) rfl ?_
    refine sv (o_as rfl) rfl ?_
    refine l_nil ?_
    refine e_K (hK4 _ _ _ _ ?_)
    refine c_ret ?_
    refine e_then (by simp) ?_
    exact ret1 rfl rfl ⟨by rw [hdx]; exact O.mod0 E, fun x hx => hx, E.mono (by simp)⟩
  · skip
    refine c_skip ?_
    refine e_K (hK2 _ _ _ _ ?_)
    refine c_seq fun K5 hK5 => ?_
    refine c_seq fun K6 hK6 => ?_
    refine c_region ?_
    refine sv (o_as rfl) rfl ?_
    refine l_nil ?_
    refine e_K (hK6 _ _ _ _ ?_)
    refine c_block ?_
    refine c_loop (σ := Nat) (fun k => [(0, .slice ad xs.length c), (3, .int .i64 ((k + 1 : Nat) : Int))]) (fun k w1 => (k = 0 ∨ k < xs.length) ∧ ddS (xs.take (k + 1)) = xs.take (k + 1) ∧ Mod [] w w1) (fun k => xs.length - k) (0) ⟨rfl, rfl, trivial⟩ (⟨.inl rfl, ddS_one, E⟩) ?_
    rintro k w1 ⟨hk, hd, E⟩
    refine c_seq fun K7 hK7 => ?_
    refine c_seq fun K8 hK8 => ?_
    refine c_region ?_
    refine sv (o_mv rfl) rfl ?_
    refine sv (o_mv rfl) rfl ?_
    refine sv (o_len Try.underlying23 rfl) rfl ?_
    refine sv (o_lss rfl rfl) rfl ?_
    refine l_nil ?_
    refine e_K (hK8 _ _ _ _ ?_)
    refine c_if rfl (fun h13 => ?_) (fun h13 => ?_)
    · skip
      have hlt : k + 1 < xs.length := by omega
      obtain ⟨x, hx_x⟩ : ∃ x, xs[k]? = some x := ⟨_, List.getElem?_eq_getElem (by omega)⟩
      obtain ⟨a_x, ha_x, hcs_x, _⟩ := flat_at (R.to0 E) hx_x
      subst ha_x
      obtain ⟨y, hx_y⟩ : ∃ x, xs[k + 1]? = some x := ⟨_, List.getElem?_eq_getElem (by omega)⟩
      obtain ⟨a_y, ha_y, hcs_y, _⟩ := flat_at (R.to0 E) hx_y
      injection ha_y with ha_y
      subst ha_y
      refine c_skip ?_
      refine e_K (hK7 _ _ _ _ ?_)
      refine c_seq fun K9 hK9 => ?_
      refine c_block ?_
      refine c_seq fun K10 hK10 => ?_
      refine c_draw wide (by kernel_rfl) ?_
      refine tv (fun w_ E_ => (o_mv rfl)) rfl rfl ?_
      refine tv (fun w_ E_ => (o_mv rfl)) rfl rfl ?_
      refine tv (fun w_ E_ => (o_ix sl23 rfl rfl (by omega))) rfl rfl ?_
      refine tv (fun w_ E_ => (o_ld sc9 rfl (hcs_y.mod0 E_).c0)) rfl rfl ?_
      refine tv (fun w_ E_ => (o_mv rfl)) rfl rfl ?_
      refine tv (fun w_ E_ => (o_mv rfl)) rfl rfl ?_
      refine tv (fun w_ E_ => (o_subE (r := (k : Int)) rfl rfl (by rw [wrap64_in _ (by omega)]; omega))) rfl rfl ?_
      refine tv (fun w_ E_ => (o_ix sl23 rfl rfl (by omega))) rfl rfl ?_
      refine tv (fun w_ E_ => (o_ld sc9 rfl (hcs_x.mod0 E_).c0)) rfl rfl ?_
      refine tv (fun w_ E_ => (o_seq rfl rfl)) rfl rfl ?_
      refine tw_nil rfl fun w2 E_ => ?_
      replace E := E.then E_
      refine e_K (hK10 _ _ _ _ ?_)
      refine c_if rfl (fun h25 => ?_) (fun h25 => ?_)
      · skip
        have hyx : y = x := h25
        obtain ⟨ad3, had3⟩ : ∃ a, a = a_x := ⟨_, rfl⟩
        subst had3
        have hA2 : adS (some ad3) c (k + 1) 1 = some (ad3.add ((k + 1) * 1)) := by unfold adS; rw [if_neg (by omega)]; rfl
        refine c_seq fun K11 hK11 => ?_
        refine c_region ?_
        refine sv (o_mv rfl) rfl ?_
        refine sv (o_mv rfl) rfl ?_
        refine sv ((o_slfrom sl23 rfl rfl (by omega) (by omega)).to (by rw [hA2])) rfl ?_
        refine sv (o_as rfl) rfl ?_
        refine l_nil ?_
        refine e_K (hK11 _ _ _ _ ?_)
        refine c_seq fun K12 hK12 => ?_
        refine c_seq fun K13 hK13 => ?_
        refine c_region ?_
        refine sv (o_as rfl) rfl ?_
        refine l_nil ?_
        refine e_K (hK13 _ _ _ _ ?_)
        refine c_block ?_
        refine c_loop (σ := Nat × Nat × List Str) (fun ⟨j, m, M⟩ => [(0, .slice (some ad3) xs.length c), (3, .int .i64 (m : Int)), (4, .slice (some (ad3.add ((k + 1) * 1))) (xs.length - (k + 1)) (c - (k + 1))), (5, .int .i64 ((j + 1 : Nat) : Int))]) (fun ⟨j, m, M⟩ w1 => k + 1 + (j + 1) ≤ xs.length ∧ M.length = xs.length ∧ m ≤ k + 1 + j ∧ M.take m = ddS (xs.take (k + 1 + (j + 1))) ∧ (∀ i, k + 1 + j ≤ i → M[i]? = xs[i]?) ∧ Own w1 9 1 (.slice (some ad3) xs.length c) xs.length ((M.map fun s => [S s]).flatten) ∧ Mod (ob (.slice (some ad3) xs.length c)) w w1) (fun ⟨j, m, M⟩ => xs.length - j) (⟨0, k + 1, xs⟩) ⟨rfl, rfl, rfl, rfl, trivial⟩ (⟨by omega, rfl, by omega, by rw [show k + 1 + (0 + 1) = k + 1 + 1 from rfl, ddS_succ hx_x hx_y, if_pos hyx, List.append_nil, hd], fun _ _ => rfl, O.mod0 E, E.mono (by simp)⟩) ?_
        rintro ⟨j, m, M⟩ w3 ⟨hj, hM, hm, hdd, hsame, Ov, E⟩
        refine c_seq fun K14 hK14 => ?_
        refine c_seq fun K15 hK15 => ?_
        refine c_region ?_
        refine sv (o_mv rfl) rfl ?_
        refine sv (o_mv rfl) rfl ?_
        refine sv (o_len Try.underlying23 rfl) rfl ?_
        refine sv (o_lss rfl rfl) rfl ?_
        refine l_nil ?_
        refine e_K (hK15 _ _ _ _ ?_)
        refine c_if rfl (fun h32 => ?_) (fun h32 => ?_)
        · skip
          have hlt2 : k + 1 + (j + 1) < xs.length := by omega
          obtain ⟨z, hx_z⟩ : ∃ x, xs[k + 1 + (j + 1)]? = some x := ⟨_, List.getElem?_eq_getElem (by omega)⟩
          obtain ⟨y2, hx_y2⟩ : ∃ x, xs[k + 1 + j]? = some x := ⟨_, List.getElem?_eq_getElem (by omega)⟩
          have RO := OwnS.rep [] (Own.same Ov hM.symm rfl) (by simp)
          have hM_z : M[k + 1 + (j + 1)]? = some z := (hsame _ (by omega)).trans hx_z
          obtain ⟨a_z, ha_z, hcs_z, _⟩ := flat_at (cells := fun s => [S s]) RO hM_z
          injection ha_z with ha_z
          subst ha_z
          rw [show (ad3.add ((k + 1 + (j + 1)) * 1)) = (ad3.add ((k + 1) * 1)).add ((j + 1) * 1) by rw [Addr.add_add, ← Nat.add_mul]] at hcs_z
          have hM_y2 : M[k + 1 + (j)]? = some y2 := (hsame _ (by omega)).trans hx_y2
          obtain ⟨a_y2, ha_y2, hcs_y2, _⟩ := flat_at (cells := fun s => [S s]) RO hM_y2
          injection ha_y2 with ha_y2
          subst ha_y2
          rw [show (ad3.add ((k + 1 + (j)) * 1)) = (ad3.add ((k + 1) * 1)).add ((j) * 1) by rw [Addr.add_add, ← Nat.add_mul]] at hcs_y2
          refine c_skip ?_
          refine e_K (hK14 _ _ _ _ ?_)
          refine c_seq fun K16 hK16 => ?_
          refine c_block ?_
          refine c_seq fun K17 hK17 => ?_
          refine c_draw wide (by kernel_rfl) ?_
          refine tv (fun w_ E_ => (o_mv rfl)) rfl rfl ?_
          refine tv (fun w_ E_ => (o_mv rfl)) rfl rfl ?_
          refine tv (fun w_ E_ => (o_ix sl23 rfl rfl (by omega))) rfl rfl ?_
          refine tv (fun w_ E_ => (o_ld sc9 rfl (hcs_z.mod0 E_).c0)) rfl rfl ?_
          refine tv (fun w_ E_ => (o_mv rfl)) rfl rfl ?_
          refine tv (fun w_ E_ => (o_mv rfl)) rfl rfl ?_
          refine tv (fun w_ E_ => (o_subE (r := (j : Int)) rfl rfl (by rw [wrap64_in _ (by omega)]; omega))) rfl rfl ?_
          refine tv (fun w_ E_ => (o_ix sl23 rfl rfl (by omega))) rfl rfl ?_
          refine tv (fun w_ E_ => (o_ld sc9 rfl (hcs_y2.mod0 E_).c0)) rfl rfl ?_
          refine tv (fun w_ E_ => (o_sne rfl rfl)) rfl rfl ?_
          refine tw_nil rfl fun w4 E_ => ?_
          replace E := E.then E_
          replace Ov := Ov.mod0 E_
          replace hcs_z := hcs_z.mod0 E_
          refine e_K (hK17 _ _ _ _ ?_)
          refine c_if rfl (fun h44 => ?_) (fun h44 => ?_)
          · skip
            have hzy : z ≠ y2 := h44
            have hmM : m < M.length := by omega
            refine c_seq fun K18 hK18 => ?_
            refine c_region ?_
            refine sv (o_mv rfl) rfl ?_
            refine sv (o_mv rfl) rfl ?_
            refine sv (o_mv rfl) rfl ?_
            refine sv (o_mv rfl) rfl ?_
            refine sv (o_ix sl23 rfl rfl (by omega)) rfl ?_
            refine sv (o_ld sc9 rfl hcs_z.c0) rfl ?_
            refine sv (o_ix sl23 rfl rfl (by omega)) rfl ?_
            refine s_stw1 sc9 Ov rfl rfl rfl (i := m) (by omega) fun wS Ov2 ES hzS => ?_
            replace E := E.trans' ES (fun x hx => .inl (by simpa [ob] using hx))
            clear Ov
            have Ov := Ov2.same rfl (strs_set (s := z))
            refine l_nil ?_
            refine e_K (hK18 _ _ _ _ ?_)
            refine c_region ?_
            refine sv (o_mv rfl) rfl ?_
            refine sv (o_addN rfl rfl (by omega)) rfl ?_
            refine sv (o_as rfl) rfl ?_
            refine l_nil ?_
            refine e_in (by simp) ?_
            refine e_K (hK16 _ _ _ _ ?_)
            refine c_region ?_
            refine sv (o_mv rfl) rfl ?_
            refine sv (o_addN rfl rfl (by omega)) rfl ?_
            refine sv (o_as rfl) rfl ?_
            refine l_nil ?_
            exact e_round (σ := Nat × Nat × List Str) (s := ⟨j, m, M⟩) (⟨j + 1, m + 1, M.set m z⟩) ⟨rfl, rfl, rfl, rfl, trivial⟩ ⟨by omega, by rw [List.length_set]; exact hM, by omega, by show _ = ddS (xs.take (k + 1 + j + 1 + 1)); rw [ddS_succ (j := k + 1 + j) hx_y2 hx_z, if_neg hzy, ← show M.take m = ddS (xs.take (k + 1 + j + 1)) from hdd]; exact take_setg (by omega), fun i hi => by rw [List.getElem?_set_ne (by omega)]; exact hsame i (by omega), Ov, E⟩ (by dsimp only; omega)
          · skip
            have hzy : z = y2 := Decidable.not_not.1 h44
            refine c_skip ?_
            refine e_in (by simp) ?_
            refine e_K (hK16 _ _ _ _ ?_)
            refine c_region ?_
            refine sv (o_mv rfl) rfl ?_
            refine sv (o_addN rfl rfl (by omega)) rfl ?_
            refine sv (o_as rfl) rfl ?_
            refine l_nil ?_
            exact e_round (σ := Nat × Nat × List Str) (s := ⟨j, m, M⟩) (⟨j + 1, m, M⟩) ⟨rfl, rfl, rfl, rfl, trivial⟩ ⟨by omega, hM, by omega, by show _ = ddS (xs.take (k + 1 + j + 1 + 1)); rw [ddS_succ (j := k + 1 + j) hx_y2 hx_z, if_pos hzy, List.append_nil]; exact hdd, fun i hi => hsame i (by omega), Ov, E⟩ (by dsimp only; omega)
        · skip
          have hfin : M.take m = ddS xs := by
            rw [List.take_of_length_le (i := k + 1 + (j + 1)) (by omega)] at hdd
            exact hdd
          have hdl : (ddS xs).length = m := by rw [← hfin, List.length_take]; omega
          refine c_exit ?_
          refine e_then (by simp) ?_
          refine e_then (by simp) ?_
          refine e_hit ?_
          refine e_K (hK12 _ _ _ _ ?_)
          refine c_seq fun K19 hK19 => ?_
          refine c_region ?_
          refine sv (o_mv rfl) rfl ?_
          refine sv (o_mv rfl) rfl ?_
          refine sv (o_slfrom sl23 rfl rfl (by omega) (by omega)) rfl ?_
          refine s_clear sl23 zv9 rfl (by decide) (by simp [Value.oneCell']) Ov (k := m) (by omega) rfl fun wC OC EC hzC => ?_
          replace E := E.trans' EC (fun x hx => .inl (by simpa [ob] using hx))
          have Od : OwnS wC 9 (.slice (some ad3) m c) (ddS xs) := OC.same hdl.symm (by rw [flat_take_ (sz := 1) (cells := fun s : Str => [S s]) (fun _ => rfl), hfin])
          refine l_nil ?_
          refine e_K (hK19 _ _ _ _ ?_)
          refine c_seq fun K20 hK20 => ?_
          refine c_region ?_
          refine sv (o_mv rfl) rfl ?_
          refine sv (o_mv rfl) rfl ?_
          refine sv (o_slto sl23 rfl rfl (by omega) (by omega)) rfl ?_
          refine sv (o_as rfl) rfl ?_
          refine l_nil ?_
          refine e_K (hK20 _ _ _ _ ?_)
          refine c_ret ?_
          refine e_in (by simp) ?_
          refine e_then (by simp) ?_
          refine e_then (by simp) ?_
          refine e_in (by simp) ?_
          refine e_then (by simp) ?_
          exact ret1 rfl rfl ⟨Od, fun x hx => by simpa [ob] using hx, E⟩
      · skip
        have hyx : y ≠ x := h25
        refine c_skip ?_
        refine e_in (by simp) ?_
        refine e_K (hK9 _ _ _ _ ?_)
        refine c_region ?_
        refine sv (o_mv rfl) rfl ?_
        refine sv (o_addN rfl rfl (by omega)) rfl ?_
        refine sv (o_as rfl) rfl ?_
        refine l_nil ?_
        exact e_round (σ := Nat) (s := k) (k + 1) ⟨rfl, rfl, trivial⟩ ⟨by omega, by rw [ddS_succ hx_x hx_y, if_neg hyx, hd, List.take_succ_eq_append_getElem (i := k + 1) (by omega), (List.getElem?_eq_some_iff.1 hx_y).2], E⟩ (by omega)
    · skip
      have hdx : ddS xs = xs := by rwa [List.take_of_length_le (by omega)] at hd
      refine c_exit ?_
      refine e_then (by simp) ?_
      refine e_then (by simp) ?_
      refine e_hit ?_
      refine e_K (hK5 _ _ _ _ ?_)
      refine c_seq fun K21 hK21 => ?_
      refine c_region ?_
      refine sv (o_mv rfl) rfl ?_
      refine sv (o_as rfl) rfl ?_
      refine l_nil ?_
      refine e_K (hK21 _ _ _ _ ?_)
      refine c_ret ?_
      exact ret1 rfl rfl ⟨by rw [hdx]; exact O.mod0 E, fun x hx => hx, E.mono (by simp)⟩
end Go.Proofs.Ythmohmpalbnjoaa.V
