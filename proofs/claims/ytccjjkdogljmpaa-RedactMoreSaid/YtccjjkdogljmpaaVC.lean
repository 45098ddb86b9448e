/-
  A part of the proof: parts of own slices; copy into a part; append of zeros; the entry for slices.overlaps. No condition of its own.
-/
import Derived.Test.YtccjjkdogljmpaaVB
import Derived.Lib.Overlaps
set_option linter.unusedVariables false
set_option linter.unusedSimpArgs false
namespace Go.Proofs.Ytccjjkdogljmpaa.V
open Go
section
variable {P : Program} {ops : Array Oper} {Q : Exit → Act → World → Prop} {n : Nat} {ds : List Deferred} {l : List (Nat × Value)} {w w' : World} {a : Act}
variable {rest : List Oper} {d : Nat} {op : Op} {ty : TypeId} {pos : String} {af : Array Edge}
variable {dd : Option Nat} {gg : Option (Nat × Bool)} {x y z : Operand} {t t' : TypeId} {k k' : IntKind} {m m' : Int} {b b' : Bool}

theorem Own.take {e sz n c m : Nat} {ad : Option Addr} {vs : List Value} (O : Own w e sz (.slice ad n c) n vs) (hm : m ≤ n) : Own w e sz (.slice ad m c) m (vs.take (m * sz)) := by
  have hle : m * sz ≤ n * sz := Nat.mul_le_mul_right _ hm
  have hl := O.1
  rcases O.2 with ⟨h0, h0'⟩ | ⟨g, o, cc, cs, hv, hB, hc1, hc2, hc3, hc4⟩
  · injection h0 with e1 e2 e3
    subst e1; subst e3; subst e2
    have : m = 0 := by omega
    subst this
    simpa using Own.nil w e sz
  · injection hv with e1 e2 e3
    subst e1; subst e3
    refine ⟨by rw [List.length_take]; omega, .inr ⟨g, o, c, cs, rfl, hB, by omega, hc2, hc3, ?_⟩⟩
    rw [← hc4, List.take_take]
    congr 1
    omega
theorem Own.extend {e sz n c m : Nat} {ad : Addr} {vs : List Value} (O : Own w e sz (.slice (some ad) n c) n vs) (hm : n ≤ m) (hc : m ≤ c) : ∃ vs', Own w e sz (.slice (some ad) m c) m vs' ∧ vs'.take (n * sz) = vs := by
  have hle : n * sz ≤ m * sz := Nat.mul_le_mul_right _ hm
  have hle2 : m * sz ≤ c * sz := Nat.mul_le_mul_right _ hc
  have hl := O.1
  rcases O.2 with ⟨h0, h0'⟩ | ⟨g, o, cc, cs, hv, hB, hc1, hc2, hc3, hc4⟩
  · cases h0
  · injection hv with e1 e2 e3
    injection e1 with e1
    subst e1; subst e3
    refine ⟨(cs.drop o).take (m * sz), ⟨by rw [List.length_take, List.length_drop]; omega, .inr ⟨g, o, c, cs, rfl, hB, hc, hc2, hc3, rfl⟩⟩, ?_⟩
    rw [← hc4, List.take_take]
    congr 1
    omega
/-- copy into a part of a slice of the call's own -/
theorem s_copyat {tx e sz by_ N c lo k c' : Nat} {ad : Addr} {u : Value} {vs news : List Value} (ht : slB P t e sz by_ = true) (O : Own w e sz (.slice (some ad) N c) N vs) (hx : evO l x = some (.slice (adS (some ad) c lo sz) (N - lo) (c - lo))) (hy : evO l y = some u)
    (hl : (Builtin.lenOf u).run P w = .ok c' w) (hk : Nat.min c' (N - lo) = k) (hcl : (Builtin.firstCells sz k u).run P w = .ok news.toArray w) (hnl : news.length = k * sz) (h1c : ∀ u ∈ news, u.oneCell' = true) (hlo : lo ≤ N) (hd : Nat.blt d n = true)
    (h : ∀ w', Own w' e sz (.slice (some ad) N c) N (vs.take (lo * sz) ++ news ++ vs.drop ((lo + k) * sz)) → Mod [ad.block] w w' → w'.heap.size = w.heap.size → WL P ops Q rest n ds ((d, .int .i64 k) :: l) w') :
    WL P ops Q (⟨some d, .call { callee := .builtin .copy, args := #[x, y], argTypes := #[t, tx] }, ty, pos, af, none⟩ :: rest) n ds l w := by
  obtain ⟨i, z, h1, h2, h3, h4, h5, h6⟩ := slB_spec ht
  rcases O.2 with ⟨h0, _⟩ | ⟨g, o, cap, cs, hv, hB, hc1, hc2, hc3, hc4⟩
  · cases h0
  injection hv with e1 e2 e3
  injection e1 with e1
  subst e1; subst e3
  have hkN : k ≤ N - lo := by rw [← hk]; exact Nat.min_le_right _ _
  have hle : (lo + k) * sz ≤ N * sz := Nat.mul_le_mul_right _ (by omega)
  have hle2 : N * sz ≤ c * sz := Nat.mul_le_mul_right _ hc1
  have hvl := O.1
  have hadd : (lo + k) * sz = lo * sz + k * sz := Nat.add_mul _ _ _
  obtain ⟨w1, hst, hp⟩ := storeCells_put (P := P) hB (o := o + lo * sz) (vs := news) (by rw [hnl]; omega) h1c
  have hrun : ∃ w1, (match adS (some ⟨g, o, none⟩) c lo sz with | some a => storeCells a news | none => pure ()).run P w = .ok () w1 ∧ Own w1 e sz (.slice (some ⟨g, o, none⟩) N c) N (vs.take (lo * sz) ++ news ++ vs.drop ((lo + k) * sz)) ∧ Mod [g] w w1 ∧ w1.heap.size = w.heap.size := by
    by_cases hlc : c = lo
    · have hk0 : k = 0 := by omega
      subst hk0
      have hne : news = [] := List.eq_nil_of_length_eq_zero (by simpa using hnl)
      subst hne
      refine ⟨w, ?_, ?_, Mod.refl _ w, rfl⟩
      · simp [adS, hlc, storeCells]
      · simpa using O
    · refine ⟨w1, ?_, ⟨?_, .inr ⟨g, o, c, _, rfl, hp.blk, hc1, hc2, by simp [splice]; omega, ?_⟩⟩, hp.mod, hp.size⟩
      · simpa [adS, hlc, Addr.add_lit] using hst
      · simp only [List.length_append, List.length_take, List.length_drop, hnl, hvl]
        omega
      · subst hc4
        apply List.ext_getElem?
        intro j
        simp only [splice, hnl]
        simp only [List.getElem?_take, List.getElem?_drop, List.getElem?_append, List.length_append, List.length_take, List.length_drop, hnl]
        repeat' split
        all_goals first
          | omega
          | rfl
          | (congr 1; omega)
          | skip
  obtain ⟨w1, hst, hO, hM, hs⟩ := hrun
  refine sv (v := .int .i64 k) (w' := w1) (fun ρ hρ => ?_) hd (h w1 hO hM hs)
  subst h3
  cases hA : adS (some (⟨g, o, none⟩ : Addr)) c lo i.size with
  | none =>
    rw [hA] at hst
    simp [execOp, resolve, invoke, builtin, hρ _ _ hx, hρ _ _ hy, Builtin.copy_, run_underlying h1, run_sizeOf_of h2, hl, hk, hcl, goInt, hA]
    simpa using hst
  | some a =>
    rw [hA] at hst
    simp [execOp, resolve, invoke, builtin, hρ _ _ hx, hρ _ _ hy, Builtin.copy_, run_underlying h1, run_sizeOf_of h2, hl, hk, hcl, goInt, hA]
    simp at hst
    simp [hst]
/-- append(s, make([]T, m)...): m zeros -/
theorem appendz_run {t tx e sz by_ c c' : Nat} {v : Value} {vs zs : List Value} (ht : slB P t e sz by_ = true) (hz : zvB P e zs) (hzl : zs.length = sz) (htx : P.underlying tx = some (.int .i64)) (O : Own w e sz v c vs) (hsz : 0 < sz) (h1c : ∀ u ∈ zs, u.oneCell' = true)
    (hb : (c + c') * by_ ≤ 140737488355328) (hb1 : c + c' ≤ 9223372036854775807) (ty : Nat) :
    ∃ v' w' news, (Builtin.append_ #[t, tx] ty #[v, .int .i64 c']).run P w = .ok v' w' ∧ App w w' e sz v v' (c + c') (vs ++ news) ∧ news.length = c' * sz ∧ (∀ u ∈ news, u.oneCell' = true) ∧ ((∀ ad cc, v = .slice ad c cc → cc < c + c') → (∀ x ∈ ob v', w.heap.size ≤ x) ∧ Mod [] w w') := by
  obtain ⟨i, z, h1, h2, h3, h4, h5, h6⟩ := slB_spec ht
  obtain ⟨i', z', h7, h8, h9⟩ := zvB_spec hz
  have hii : i' = i := Option.some.inj (h7.symm.trans h2)
  subst hii
  have hzz : z' = z := Option.some.inj (h8.symm.trans h5)
  subst hzz
  subst h3; subst h4
  have hnl : (Builtin.zeroCells z'.cells c').toList.length = c' * i'.size := by rw [Array.length_toList, size_zeroCells, h6]
  have hone : ∀ u ∈ (Builtin.zeroCells z'.cells c').toList, u.oneCell' = true := by
    intro u hu
    rw [h9] at hu
    simp only [Builtin.zeroCells, Array.toList_map, List.mem_map] at hu
    obtain ⟨j, _, rfl⟩ := hu
    have hlt : j % zs.toArray.size < zs.length := by
      simp only [List.size_toArray]
      exact Nat.mod_lt _ (by omega)
    have : zs.toArray[j % zs.toArray.size]! = zs[j % zs.toArray.size] := by
      simp only [List.size_toArray] at hlt ⊢
      simp [hlt]
    rw [this]
    exact h1c _ (List.getElem_mem hlt)
  have hlen : (vs ++ (Builtin.zeroCells z'.cells c').toList).length = (c + c') * i'.size := by rw [List.length_append, O.1, hnl, Nat.add_mul]
  have hw : IntKind.i64.wrap (c' : Int) = c' := wrap64_in _ (by omega)
  have hnn : ¬ ((c' : Int) < 0) := by omega
  have hmb : ¬ ((c' : Int) * (i'.bytes : Int) > 281474976710656) := by
    have : c' * i'.bytes ≤ (c + c') * i'.bytes := Nat.mul_le_mul_right _ (by omega)
    have h3 : (c' : Int) * (i'.bytes : Int) = ((c' * i'.bytes : Nat) : Int) := by simp
    rw [h3]
    omega
  have hz00 : c' * i'.size = 0 → Builtin.zeroCells z'.cells c' = #[] := fun h0 => Array.eq_empty_of_size_eq_zero (by rw [size_zeroCells, h6]; exact h0)
  have grow : ∀ (base : Option Addr) (cap : Nat), cap < c + c' → (Builtin.firstCells i'.size c (.slice base c cap)).run P w.drew = .ok vs.toArray w.drew →
      ∃ v' w', (Builtin.append_ #[t, tx] ty #[.slice base c cap, .int .i64 c']).run P w = .ok v' w' ∧ App w w' e i'.size (.slice base c cap) v' (c + c') (vs ++ (Builtin.zeroCells z'.cells c').toList) ∧ (∀ x ∈ ob v', w.heap.size ≤ x) ∧ Mod [] w w' := by
    intro base cap hcap hold
    have hfit := growslice_fits hcap hb
    have hn : ¬ (c + c' ≤ cap) := by omega
    have h63' : ¬ (9223372036854775807 < ((c : Int) + (c' : Int))) := by omega
    have h48' : ¬ (281474976710656 < Builtin.nextslicecap (c + c') cap * i'.bytes) := by omega
    have hr : (Builtin.append_ #[t, tx] ty #[.slice base c cap, .int .i64 c']).run P w =
      .ok (.slice (some ⟨w.heap.size, 0, none⟩) (c + c') (grownCap w (c + c') cap e))
        (w.drew.alloc (.cells ((vs ++ (Builtin.zeroCells z'.cells c').toList).toArray ++ Builtin.zeroCells z'.cells (grownCap w (c + c') cap e - (c + c'))) e)) := by
      by_cases h0 : c' * i'.size = 0
      · have hz0 := hz00 h0
        simp [Builtin.append_, run_underlying h1, run_underlying htx, sizeOf, typeInfo, zeroValue, h2, h5, asInt, asIntOf, hw, hnn, hmb, hn, h63', h48', Question.forced, hold, newRow, grownCap, h0, hz0]
      · simp [Builtin.append_, run_underlying h1, run_underlying htx, sizeOf, typeInfo, zeroValue, h2, h5, asInt, asIntOf, hw, hnn, hmb, hn, h63', h48', Question.forced, hold, newRow, grownCap, h0]
        congr 2
        apply Array.toList_inj.1
        simp
    have hge := grownCap_ge w (c + c') cap e
    generalize hN : (Builtin.zeroCells z'.cells c').toList = news at *
    have hB : Blk (w.drew.alloc (.cells ((vs ++ news).toArray ++ Builtin.zeroCells z'.cells (grownCap w (c + c') cap e - (c + c'))) e)) w.heap.size e ((vs ++ news) ++ (Builtin.zeroCells z'.cells (grownCap w (c + c') cap e - (c + c'))).toList) := by
      have := heap_alloc_new w.drew (.cells ((vs ++ news).toArray ++ Builtin.zeroCells z'.cells (grownCap w (c + c') cap e - (c + c'))) e)
      unfold Blk
      refine this.trans ?_
      congr 2
      apply Array.toList_inj.1
      simp
    refine ⟨_, _, hr, ⟨⟨hlen, .inr ⟨w.heap.size, 0, _, _, rfl, hB, hge, grownCap_le_maxLen w (c + c') cap e (by simp only [maxLen]; omega), ?_, ?_⟩⟩, ?_, ?_⟩, ?_, ?_⟩
    · have hzl : (Builtin.zeroCells z'.cells (grownCap w (c + c') cap e - (c + c'))).toList.length = (grownCap w (c + c') cap e - (c + c')) * i'.size := by
        rw [Array.length_toList, size_zeroCells, h6]
      rw [List.length_append, hlen, hzl, ← Nat.add_mul]
      have : c + c' + (grownCap w (c + c') cap e - (c + c')) = grownCap w (c + c') cap e := by omega
      rw [this]
      omega
    · rw [List.drop_zero, ← hlen]
      exact List.take_left
    · exact ⟨rfl, rfl, rfl, by simp, fun j hj _ => RowKit.Below.heap_alloc w.drew _ j hj⟩
    · intro x hx
      simp [ob] at hx
      exact .inr (by omega)
    · intro x hx
      simp [ob] at hx
      omega
    · exact ⟨rfl, rfl, rfl, by simp, fun j hj _ => RowKit.Below.heap_alloc w.drew _ j hj⟩
  rcases O.2 with ⟨rfl, h0⟩ | ⟨g, o, cap, cs, rfl, hB, hc1, hc2, hc3, hc4⟩
  · subst h0
    have hvs : vs = [] := List.eq_nil_of_length_eq_zero (by simpa using O.1)
    subst hvs
    rcases Nat.eq_zero_or_pos c' with h0 | h0
    · subst h0
      refine ⟨.slice none 0 0, w, [], ?_, ⟨by simpa using Own.nil w e i'.size, Mod.refl _ w, fun x hx => .inl hx⟩, by simp, by simp, fun hh => absurd (hh _ _ rfl) (by omega)⟩
      have hw0 : IntKind.i64.wrap 0 = 0 := by decide
      simp [Builtin.append_, run_underlying h1, run_underlying htx, sizeOf, typeInfo, h2, asInt, asIntOf, hw0]
    · obtain ⟨v', w', hr, hA, hG⟩ := grow none 0 (by omega) (run_firstCells_none w.drew i'.size 0 0 0)
      exact ⟨v', w', _, hr, hA, hnl, hone, fun _ => hG⟩
  · by_cases hroom : c + c' ≤ cap
    · have hle : (c + c') * i'.size ≤ cap * i'.size := Nat.mul_le_mul_right _ hroom
      generalize hN : (Builtin.zeroCells z'.cells c') = NW at *
      have hfit : o + c * i'.size + NW.toList.length ≤ cs.length := by rw [hnl]; rw [Nat.add_mul] at hle; omega
      obtain ⟨w1, hst, hp⟩ := storeCells_put (P := P) hB hfit hone
      refine ⟨.slice (some ⟨g, o, none⟩) (c + c') cap, w1, NW.toList, ?_, ⟨⟨hlen, .inr ⟨g, o, cap, _, rfl, hp.blk, hroom, hc2, ?_, ?_⟩⟩, ?_, fun x hx => .inl hx⟩, hnl, hone, fun hh => absurd (hh _ _ rfl) (by omega)⟩
      · by_cases h0 : c' * i'.size = 0
        · have hz0 := hz00 h0
          rw [hz0] at hst
          simp at hst
          simp [Builtin.append_, run_underlying h1, run_underlying htx, sizeOf, typeInfo, zeroValue, h2, h5, asInt, asIntOf, hw, hnn, hmb, hroom, Addr.add_lit, h0, hst]
        · simp [Builtin.append_, run_underlying h1, run_underlying htx, sizeOf, typeInfo, zeroValue, h2, h5, asInt, asIntOf, hw, hnn, hmb, hroom, Addr.add_lit, h0, hN, hst]
      · simp only [splice, List.length_append, List.length_take, List.length_drop]
        omega
      · have e1 : List.take (o + c * i'.size) cs = List.take o cs ++ vs := by rw [← hc4, List.take_add]
        have hol : (List.take o cs).length = o := by rw [List.length_take]; omega
        rw [splice, e1, List.append_assoc, List.append_assoc, List.drop_left' hol, ← List.append_assoc, ← hlen, List.take_left]
      · exact hp.mod
    · obtain ⟨v', w', hr, hA, hG⟩ := grow (some ⟨g, o, none⟩) cap (by omega) (run_firstCells_some w.drew i'.size c _ c cap vs O.1 (fun j x hx => by have := O.cs j x hx; simpa using this))
      exact ⟨v', w', _, hr, hA, hnl, hone, fun _ => hG⟩
theorem s_appendz {t tx e sz by_ c c' : Nat} {v : Value} {vs zs : List Value} (ht : slB P t e sz by_ = true) (hz : zvB P e zs) (hzl : zs.length = sz) (htx : P.underlying tx = some (.int .i64)) (hx : evO l x = some v) (hy : evO l y = some (.int .i64 c')) (O : Own w e sz v c vs) (hsz : 0 < sz) (h1c : ∀ u ∈ zs, u.oneCell' = true)
    (hb : (c + c') * by_ ≤ 140737488355328) (hb1 : c + c' ≤ 9223372036854775807) (hd : Nat.blt d n = true)
    (h : ∀ v' w' news, App w w' e sz v v' (c + c') (vs ++ news) → news.length = c' * sz → (∀ u ∈ news, u.oneCell' = true) → ((∀ ad cc, v = .slice ad c cc → cc < c + c') → (∀ x ∈ ob v', w.heap.size ≤ x) ∧ Mod [] w w') → WL P ops Q rest n ds ((d, v') :: l) w') :
    WL P ops Q (⟨some d, .call { callee := .builtin .append, args := #[x, y], argTypes := #[t, tx] }, ty, pos, af, none⟩ :: rest) n ds l w := by
  obtain ⟨v', w', news, hr, hA, h2, h3, h4⟩ := appendz_run (P := P) ht hz hzl htx O hsz h1c hb hb1 ty
  refine sv (v := v') (w' := w') (fun ρ hρ => ?_) hd (h v' w' news hA h2 h3 h4)
  simp [execOp, resolve, invoke, builtin, hρ _ _ hx, hρ _ _ hy, hr]
/-! ### slices.overlaps -/
def Ovl (P : Program) (f : FuncId) (tS tR : TypeId) : Prop := ∀ args w, (callFunc f args).run P w = ((Extern.SlicesOverlaps.overlaps #[tS, tS] #[tR] args).run P w).andThen fun v w' => .ok (.value v) w'
theorem o_overlaps {tS tR e sz by_ f i j c1 c2 : Nat} {a1 a2 : Addr} (hf : Ovl P f tS tR) (ht : slB P tS e sz by_ = true) (hx : evO l x = some (.slice (some a1) i c1)) (hy : evO l y = some (.slice (some a2) j c2))
    {g1 g2 : Nat} {o1 o2 : Nat} (ha1 : a1 = ⟨g1, o1, none⟩) (ha2 : a2 = ⟨g2, o2, none⟩) {T1 T2 : Nat} {cs1 cs2 : List Value} (B1 : Blk w g1 T1 cs1) (B2 : Blk w g2 T2 cs2) (hne : g1 ≠ g2) (h2 : cs2 ≠ []) {ts : Array TypeId} :
    Runs P l ⟨dd, .call { callee := .value (.func f), args := #[x, y], argTypes := ts }, ty, pos, af, gg⟩ w (.bool false) w := fun ρ hρ => by
  subst ha1; subst ha2
  obtain ⟨i', z, h1, h2', h3, h4, h5, h6⟩ := slB_spec ht
  have e2 : ρ (.func f) = .func (.func f) #[] #[] := hρ _ _ rfl
  have hov := Lib.run_overlaps_apart (P := P) w tS tR e h1 i'.size (fun w' => run_sizeOf_of h2') ⟨g1, o1, none⟩ ⟨g2, o2, none⟩ i c1 j c2 hne T1 T2 cs1.length cs2.length (by have := B1; unfold Blk at this; simp [World.shape?, this]) (by have := B2; unfold Blk at this; simp [World.shape?, this]) (by simpa using h2) (B1.frozen o1) (B1.frozen _)
  have := hf #[.slice (some ⟨g1, o1, none⟩) i c1, .slice (some ⟨g2, o2, none⟩) j c2] w
  rw [hov] at this
  simp [execOp, resolve, e2, hρ _ _ hx, hρ _ _ hy, Deferred.ofValue, invoke] at this ⊢
  simpa using this
/-- an element of a slice of the call's own is written -/
theorem s_stown {e sz N c i : Nat} {ad : Addr} {vs us : List Value} {T : TypeId} (ht : agB P T sz = true) (O : Own w e sz (.slice (some ad) N c) N vs) (hx : evO l x = some (.pointer (some (ad.add (i * sz))))) (hy : evO l y = some (.agg us.toArray)) (hl : us.length = sz) (h1c : ∀ u ∈ us, u.oneCell' = true) (hi : i < N)
    (h : ∀ w', Own w' e sz (.slice (some ad) N c) N (vs.take (i * sz) ++ us ++ vs.drop ((i + 1) * sz)) → Mod [ad.block] w w' → w'.heap.size = w.heap.size → WL P ops Q rest n ds l w') :
    WL P ops Q (⟨none, .store T x y, ty, pos, af, none⟩ :: rest) n ds l w := by
  rcases O.2 with ⟨h0, _⟩ | ⟨g, o, cap, cs, hv, hB, hc1, hc2, hc3, hc4⟩
  · cases h0
  injection hv with e1 e2 e3
  injection e1 with e1
  subst e1; subst e3
  have hle : (i + 1) * sz ≤ N * sz := Nat.mul_le_mul_right _ (by omega)
  have hle2 : N * sz ≤ c * sz := Nat.mul_le_mul_right _ hc1
  have hvl := O.1
  have hadd : (i + 1) * sz = i * sz + sz := by rw [Nat.add_mul]; omega
  rw [Addr.add_lit] at hx
  refine s_sta (vs := us) ht hB hx hy hl h1c (by omega) fun w' hp => ?_
  refine h w' ⟨?_, .inr ⟨g, o, c, _, rfl, hp.blk, hc1, hc2, by simp [splice]; omega, ?_⟩⟩ hp.mod hp.size
  · simp only [List.length_append, List.length_take, List.length_drop, hl, hvl]
    omega
  · subst hc4
    apply List.ext_getElem?
    intro j
    simp only [splice, hl]
    simp only [List.getElem?_take, List.getElem?_drop, List.getElem?_append, List.length_append, List.length_take, List.length_drop, hl]
    repeat' split
    all_goals first
      | omega
      | rfl
      | (congr 1; omega)
      | skip
theorem flat_take_ {α : Type} {sz : Nat} {cells : α → List Value} {xs : List α} (hl : ∀ x, (cells x).length = sz) (i : Nat) : ((xs.map cells).flatten).take (i * sz) = ((xs.take i).map cells).flatten := by
  induction xs generalizing i with
  | nil => simp
  | cons x xs ih =>
    cases i with
    | zero => simp
    | succ i =>
      simp only [List.map_cons, List.flatten_cons, List.take_succ_cons]
      rw [List.take_append, hl, Nat.add_mul, Nat.one_mul, List.take_of_length_le (by rw [hl]; omega), Nat.add_sub_cancel, ih]
theorem flat_drop_ {α : Type} {sz : Nat} {cells : α → List Value} {xs : List α} (hl : ∀ x, (cells x).length = sz) (i : Nat) : ((xs.map cells).flatten).drop (i * sz) = ((xs.drop i).map cells).flatten := by
  induction xs generalizing i with
  | nil => simp
  | cons x xs ih =>
    cases i with
    | zero => simp
    | succ i =>
      simp only [List.map_cons, List.flatten_cons, List.drop_succ_cons]
      rw [List.drop_append, hl, Nat.add_mul, Nat.one_mul, List.drop_eq_nil_of_le (by rw [hl]; omega), Nat.add_sub_cancel, ih, List.nil_append]
theorem flat_none {α : Type} {A : List Nat} {sz n c : Nat} {cells : α → List Value} {xs : List α} (h : Rep A w (flat sz cells xs) (.slice none n c)) : xs = [] := by
  cases xs with
  | nil => rfl
  | cons x xs =>
    obtain ⟨a, ha, _⟩ := flat_at (i := 0) h rfl
    cases ha
theorem adS_zero (ad : Option Addr) (c sz : Nat) : adS ad c 0 sz = ad := by
  unfold adS
  split
  · rfl
  · cases ad with
    | none => rfl
    | some a => simp [Addr.add_zero']
theorem adS_some (g o c lo sz : Nat) : ∃ o', adS (some (⟨g, o, none⟩ : Addr)) c lo sz = some ⟨g, o', none⟩ := by
  unfold adS
  split
  · exact ⟨o, rfl⟩
  · exact ⟨o + lo * sz, by simp [Addr.add_lit]⟩
theorem firstCells_any (sz k : Nat) (b : Option Addr) (i c i' c' : Nat) : Builtin.firstCells sz k (.slice b i c) = Builtin.firstCells sz k (.slice b i' c') := by cases b <;> rfl
theorem o_slto {ad : Option Addr} {c c' e sz by_ hi : Nat} {h : Operand} (ht : slB P t e sz by_ = true) (hx : evO l x = some (.slice ad c c')) (hh : evO l h = some (.int .i64 (hi : Int))) (hb : hi ≤ c') (hc : c ≤ c') :
    Runs P l ⟨dd, .slice t x none (some h) none, ty, pos, af, gg⟩ w (.slice ad hi c') w := by
  have := o_sl (P := P) (w := w) (dd := dd) (ty := ty) (pos := pos) (af := af) (gg := gg) ht hx (lo := none) (pl := none) (hi := some h) (ph := some (.i64, (hi : Int))) rfl (by simp [evS, hh]) (by simp only [loV, hiV]; omega) hc
  refine this.to ?_
  simp [loV, hiV, adS_zero]
theorem o_slfrom {ad : Option Addr} {c c' e sz by_ lo : Nat} {h : Operand} (ht : slB P t e sz by_ = true) (hx : evO l x = some (.slice ad c c')) (hh : evO l h = some (.int .i64 (lo : Int))) (hb : lo ≤ c) (hc : c ≤ c') :
    Runs P l ⟨dd, .slice t x (some h) none none, ty, pos, af, gg⟩ w (.slice (adS ad c' lo sz) (c - lo) (c' - lo)) w := by
  have := o_sl (P := P) (w := w) (dd := dd) (ty := ty) (pos := pos) (af := af) (gg := gg) ht hx (hi := none) (ph := none) (lo := some h) (pl := some (.i64, (lo : Int))) (by simp [evS, hh]) rfl (by simp only [loV, hiV]; omega) hc
  refine this.to ?_
  simp [loV, hiV]
/-- what an insertion makes, in a new row -/
theorem ins_grow {n i : Nat} {vs news sc : List Value} (hv : vs.length = n * 3) (hn : news.length = (n + 1 - i) * 3) (hs : sc.length = 3) (hi : i ≤ n) :
    ((vs.take (i * 3) ++ news).take (i * 3) ++ sc ++ (vs.take (i * 3) ++ news).drop ((i + 1) * 3)).take ((i + 1) * 3) ++ (vs.drop (i * 3)).take ((n - i) * 3) ++ ((vs.take (i * 3) ++ news).take (i * 3) ++ sc ++ (vs.take (i * 3) ++ news).drop ((i + 1) * 3)).drop ((i + 1 + (n - i)) * 3) = vs.take (i * 3) ++ sc ++ vs.drop (i * 3) := by
  have h1 : (vs.take (i * 3)).length = i * 3 := by rw [List.length_take]; omega
  have h2 : (vs.take (i * 3) ++ news).take (i * 3) = vs.take (i * 3) := List.take_left' h1
  have h3 : (vs.take (i * 3) ++ sc).length = (i + 1) * 3 := by rw [List.length_append, h1, hs]; omega
  rw [h2]
  have h4 : ((vs.take (i * 3) ++ sc) ++ (vs.take (i * 3) ++ news).drop ((i + 1) * 3)).take ((i + 1) * 3) = vs.take (i * 3) ++ sc := by rw [← h3]; exact List.take_left
  have h5 : ((vs.take (i * 3) ++ sc) ++ (vs.take (i * 3) ++ news).drop ((i + 1) * 3)).drop ((i + 1 + (n - i)) * 3) = [] := List.drop_eq_nil_of_le (by rw [List.length_append, h3, List.length_drop, List.length_append, h1, hn]; omega)
  have h6 : (vs.drop (i * 3)).take ((n - i) * 3) = vs.drop (i * 3) := List.take_of_length_le (by rw [List.length_drop]; omega)
  rw [h4, h5, h6, List.append_nil]
/-- .. in place -/
theorem ins_room {n i : Nat} {vs vs' sc : List Value} (hv : vs.length = n * 3) (hv' : vs'.length = (n + 1) * 3) (ht : vs'.take (n * 3) = vs) (hs : sc.length = 3) (hi : i ≤ n) :
    (vs'.take ((i + 1) * 3) ++ (vs'.drop (i * 3)).take ((n - i) * 3) ++ vs'.drop ((i + 1 + (n - i)) * 3)).take (i * 3) ++ sc ++ (vs'.take ((i + 1) * 3) ++ (vs'.drop (i * 3)).take ((n - i) * 3) ++ vs'.drop ((i + 1 + (n - i)) * 3)).drop ((i + 1) * 3) = vs.take (i * 3) ++ sc ++ vs.drop (i * 3) := by
  have h1 : (vs'.take ((i + 1) * 3)).length = (i + 1) * 3 := by rw [List.length_take]; omega
  have h2 : vs'.drop ((i + 1 + (n - i)) * 3) = [] := List.drop_eq_nil_of_le (by omega)
  rw [h2, List.append_nil]
  congr 1
  · congr 1
    rw [List.take_append_of_le_length (by omega), List.take_take, ← ht, List.take_take]
    congr 1
    omega
  · rw [List.drop_left' h1, ← ht, List.drop_take]
    congr 1
    omega
end
end Go.Proofs.Ytccjjkdogljmpaa.V
