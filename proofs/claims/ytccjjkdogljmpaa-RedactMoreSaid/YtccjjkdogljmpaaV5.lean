/-
  A part of the proof: walks of functions, and the plain laws of what they compute. No condition of its own.
-/
import Derived.Test.YtccjjkdogljmpaaV4
import Derived.Lib.Strings
import Derived.Laws.BytesString
import Derived.Laws.IdiomStrings
set_option linter.unusedVariables false
set_option linter.unusedSimpArgs false
namespace Go.Proofs.Ytccjjkdogljmpaa.V
open Go
section
variable {P : Program} {ops : Array Oper} {Q : Exit → Act → World → Prop} {n : Nat} {ds : List Deferred} {l : List (Nat × Value)} {w w' : World} {a : Act}
variable {rest : List Oper} {d : Nat} {op : Op} {ty : TypeId} {pos : String} {af : Array Edge}
variable {dd : Option Nat} {gg : Option (Nat × Bool)} {x y z : Operand} {t t' : TypeId} {k k' : IntKind} {m m' : Int} {b b' : Bool}

/-! ### structs and arrays as values -/
/-- a field of a struct value: one cell -/
def f1B (P : Program) (t f off : Nat) : Bool := match P.underlying t with
  | some (.struct fs) => match fs[f]? with
    | some fd => fd.offset == off && scB P fd.type
    | none => false
  | _ => false
def fnB (P : Program) (t f off c : Nat) : Bool := match P.underlying t with
  | some (.struct fs) => match fs[f]? with
    | some fd => fd.offset == off && agB P fd.type c
    | none => false
  | _ => false
theorem o_fld {vs : List Value} {f o : Nat} {v : Value} (ht : f1B P t f o = true) (hx : evO l x = some (.agg vs.toArray)) (hv : vs[o]? = some v) : Runs P l ⟨dd, .field t x f, ty, pos, af, gg⟩ w v w := fun ρ h => by
  unfold f1B at ht
  split at ht
  · rename_i fs h1
    split at ht
    · rename_i fd h2
      simp only [Bool.and_eq_true, beq_iff_eq] at ht
      obtain ⟨ho, hs⟩ := ht
      obtain ⟨dsc, i, h3, h4, h5, h6⟩ := scB_spec hs
      subst ho
      simp [execOp, Instr.field, h _ _ hx, run_underlying h1, h2, asAgg, part, run_isAgg_of h3, h5, hv]
    · cases ht
  · cases ht
theorem o_flda {vs us : List Value} {f o c : Nat} (ht : fnB P t f o c = true) (hx : evO l x = some (.agg vs.toArray)) (hv : (vs.drop o).take c = us) : Runs P l ⟨dd, .field t x f, ty, pos, af, gg⟩ w (.agg us.toArray) w := fun ρ h => by
  unfold fnB at ht
  split at ht
  · rename_i fs h1
    split at ht
    · rename_i fd h2
      simp only [Bool.and_eq_true, beq_iff_eq] at ht
      obtain ⟨ho, hs⟩ := ht
      obtain ⟨dsc, i, h3, h4, h5, h6⟩ := agB_spec hs
      subst ho
      subst hv
      simp [execOp, Instr.field, h _ _ hx, run_underlying h1, h2, asAgg, part, run_isAgg_of h3, h5, run_sizeOf_of h4, h6]
    · cases ht
  · cases ht

/-- a place of an array value: one cell each -/
theorem o_aidx {vs : List Value} {c e : Nat} {v : Value} (ht : arB P t c e 1 = true) (he : scB P e = true) (hx : evO l x = some (.agg vs.toArray)) (hy : evO l y = some (.int k m)) (hb : 0 ≤ m ∧ m < c) (hv : vs[m.toNat]? = some v) : Runs P l ⟨dd, .index t x y, ty, pos, af, gg⟩ w v w := fun ρ h => by
  obtain ⟨i, h1, h2, h3⟩ := arB_spec ht
  obtain ⟨dsc, i', h4, h5, h6, h7⟩ := scB_spec he
  simp [execOp, Instr.index, h _ _ hx, h _ _ hy, asIntOf, run_underlying h1, hb.1, hb.2, part, run_isAgg_of h4, h6, run_sizeOf_of h2, h3, hv]

/-- what 'build' lays -/
def setAll (cs : List Value) (o : Nat) : List Value → List Value
  | [] => cs
  | v :: r => setAll (cs.set o v) (o + 1) r
theorem setAll_length (o : Nat) : ∀ (vs : List Value) (cs : List Value), (setAll cs o vs).length = cs.length := by
  intro vs
  induction vs generalizing o with
  | nil => intro cs; rfl
  | cons v vs ih => intro cs; simp [setAll, ih]
theorem foldl_setAll (o : Nat) : ∀ (vs : List Value) (j : Nat) (cs : Array Value),
    (vs.zipIdx j).foldl (fun (cs : Array Value) (x : Value × Nat) => cs.setIfInBounds (o + x.2) x.1) cs = (setAll cs.toList (o + j) vs).toArray := by
  intro vs
  induction vs with
  | nil => intro j cs; apply Array.toList_inj.1; simp [setAll]
  | cons v vs ih =>
    intro j cs
    simp only [List.zipIdx_cons, List.foldl_cons, setAll]
    rw [ih (j + 1)]
    simp [Nat.add_assoc]
def fillF (place : Nat → Option (Nat × Nat)) (cs : List Value) : List (Nat × Value) → Option (List Value)
  | [] => some cs
  | (i, v) :: r => match place i with
    | none => none
    | some (o, sz) => match Nat.beq v.cells.toList.length sz && Nat.ble (o + sz) cs.length with
      | true => fillF place (setAll cs o v.cells.toList) r
      | false => none
theorem fill_of {place : Nat → Option (Nat × Nat)} : ∀ (ps : List (Nat × Value)) (cs cs' : List Value), fillF place cs ps = some cs' → Instr.fill place cs.toArray ps = some cs'.toArray := by
  intro ps
  induction ps with
  | nil => intro cs cs' h; simp [fillF] at h; simp [Instr.fill, h]
  | cons p r ih =>
    obtain ⟨i, v⟩ := p
    intro cs cs' h
    simp only [fillF] at h
    split at h
    · cases h
    · rename_i o sz hp
      split at h
      · rename_i hb
        simp only [Bool.and_eq_true, Nat.beq_eq_true_eq, Nat.ble_eq, Array.length_toList] at hb
        obtain ⟨h1, h2⟩ := hb
        have h1 := Nat.eq_of_beq_eq_true h1
        have := ih _ _ h
        have h3 : ¬ (v.cells.size ≠ sz ∨ o + v.cells.size > cs.toArray.size) := by rw [h1]; simp; omega
        have hf := foldl_setAll o v.cells.toList 0 cs.toArray
        simp only [Instr.fill, hp]
        simp only [ne_eq, gt_iff_lt, not_or, Classical.not_not, Nat.not_lt, List.size_toArray] at h3
        have h4 : ¬ (v.cells.size ≠ sz) := by simpa using h3.1
        have h5 : ¬ (o + v.cells.size > cs.length) := by omega
        simp only [ne_eq, gt_iff_lt, List.size_toArray, Bool.or_eq_true, decide_eq_true_eq, h4, h5, or_self, if_false]
        rw [← Array.foldl_toList, Array.toList_zipIdx]
        rw [Nat.add_zero] at hf
        simp only at hf
        rw [hf]
        exact this
      · cases h
/-- where a struct's fields lie -/
def plB (P : Program) (t : Nat) (pl : List (Nat × Nat)) : Bool := match P.underlying t with
  | some (.struct fs) => (fs.toList.map fun f => (f.offset, (P.info? f.type).map (·.size))) == pl.map fun p => (p.1, some p.2)
  | _ => false
theorem plB_spec {pl : List (Nat × Nat)} (h : plB P t pl = true) : ∃ fs, P.underlying t = some (.struct fs) ∧ ∀ (w : World), (fs.mapM (fun (f : Field) => (do pure (f.offset, ← sizeOf f.type) : Sem (Nat × Nat)))).run P w = .ok pl.toArray w := by
  unfold plB at h
  split at h
  · rename_i fs h1
    refine ⟨fs, h1, fun w => ?_⟩
    have h2 : (fs.toList.map fun f => (f.offset, (P.info? f.type).map (·.size))) = pl.map fun p => (p.1, some p.2) := by simpa using h
    rw [Array.mapM_eq_mapM_toList]
    have key : ∀ (l : List Field) (pl : List (Nat × Nat)), (l.map fun f => (f.offset, (P.info? f.type).map (·.size))) = pl.map (fun p => (p.1, some p.2)) → (l.mapM (fun (f : Field) => (do pure (f.offset, ← sizeOf f.type) : Sem (Nat × Nat)))).run P w = .ok pl w := by
      intro l
      induction l with
      | nil => intro pl h; cases pl <;> simp_all
      | cons f l ih =>
        intro pl h
        cases pl with
        | nil => simp at h
        | cons p pl =>
          simp only [List.map_cons, List.cons.injEq, Prod.mk.injEq] at h
          obtain ⟨⟨h3, h4⟩, h5⟩ := h
          obtain ⟨i, h6, h7⟩ := Option.map_eq_some_iff.1 h4
          have := ih pl h5
          simp only [bind_pure_comp] at this
          simp [List.mapM_cons, run_sizeOf_of h6, this, h7, h3]
    have := key fs.toList pl h2
    simp only [bind_pure_comp] at this ⊢
    simp [this]
  · cases h
/-- the parts' values -/
def evP (l : List (Nat × Value)) : List (Nat × Operand) → Option (List (Nat × Value))
  | [] => some []
  | (i, x) :: r => match evO l x, evP l r with
    | some v, some vs => some ((i, v) :: vs)
    | _, _ => none
theorem evP_map {ρ : Operand → Value} (h : ∀ x u, evO l x = some u → ρ x = u) : ∀ (zs : List (Nat × Operand)) (us : List (Nat × Value)), evP l zs = some us → zs.map (fun p => (p.1, ρ p.2)) = us := by
  intro zs
  induction zs with
  | nil => intro us hu; simp [evP] at hu; simp [← hu]
  | cons z zs ih =>
    obtain ⟨i, x⟩ := z
    intro us hu
    simp only [evP] at hu
    split at hu
    · rename_i v vs h1 h2
      simp only [Option.some.injEq] at hu
      subst hu
      simp [h _ _ h1, ih _ h2]
    · cases hu
theorem o_build {ps : List (Nat × Operand)} {us : List (Nat × Value)} {pl : List (Nat × Nat)} {zs cs : List Value} (hp : plB P t pl = true) (hz : zvB P t zs) (hx : evP l ps = some us) (hf : fillF (fun i : Nat => pl[i]?) zs us = some cs) :
    Runs P l ⟨dd, .build t ps.toArray, ty, pos, af, gg⟩ w (.agg cs.toArray) w := fun ρ h => by
  obtain ⟨fs, h1, h2⟩ := plB_spec hp
  obtain ⟨i, z, h3, h4, h5⟩ := zvB_spec hz
  have e1 := evP_map h _ _ hx
  have e2 := fill_of us zs cs hf
  have e3 : (ps.toArray.map fun (i, x) => (i, ρ x)).toList = us := by simpa using e1
  have e4 := h2 w
  simp only [bind_pure_comp] at e4
  have e5 : (fun i : Nat => pl.toArray[i]?) = (fun i : Nat => pl[i]?) := by funext i; simp
  simp only [execOp, Instr.build]
  simp [zeroValue, typeInfo, h3, h4, h5, run_underlying h1, e4]
  rw [show Instr.fill (fun x => pl[x]?) zs.toArray (List.map (fun x => (x.fst, ρ x.snd)) ps) = some cs.toArray by rw [e1]; exact e2]
  simp
theorem o_builda {ps : List (Nat × Operand)} {us : List (Nat × Value)} {e c sz : Nat} {zs cs : List Value} (ha : arB P t c e sz = true) (hz : zvB P t zs) (hx : evP l ps = some us) (hf : fillF (fun i => some (i * sz, sz)) zs us = some cs) :
    Runs P l ⟨dd, .build t ps.toArray, ty, pos, af, gg⟩ w (.agg cs.toArray) w := fun ρ h => by
  obtain ⟨i', h1, h2, h6⟩ := arB_spec ha
  obtain ⟨i, z, h3, h4, h5⟩ := zvB_spec hz
  have e1 := evP_map h _ _ hx
  have e2 := fill_of us zs cs hf
  subst h6
  simp only [execOp, Instr.build]
  simp [zeroValue, typeInfo, h3, h4, h5, run_underlying h1, run_sizeOf_of h2]
  rw [show Instr.fill (fun i => some (i * i'.size, i'.size)) zs.toArray (List.map (fun x => (x.fst, ρ x.snd)) ps) = some cs.toArray by rw [e1]; exact e2]
  simp

/-- a slice's literal: a new row -/
theorem r_bslice {ps : List (Nat × Operand)} {us : List (Nat × Value)} {e c sz by_ : Nat} {zs cs : List Value} (ht : slB P t e sz by_ = true) (hz : zvB P e zs) (hx : evP l ps = some us)
    (hf : fillF (fun i => some (i * sz, sz)) ((List.replicate c zs).flatten) us = some cs) (hzl : zs.length = sz) (hc : c * sz ≤ 16777216) :
    Runs P l ⟨dd, .buildSlice t c ps.toArray, ty, pos, af, gg⟩ w (.slice (some ⟨w.heap.size, 0, none⟩) c c) (w.alloc (.cells cs.toArray e)) := fun ρ hρ => by
  obtain ⟨i', z', h1, h2, h3, h4, h5, h6⟩ := slB_spec ht
  obtain ⟨i, z, h7, h8, h9⟩ := zvB_spec hz
  have e1 := evP_map hρ _ _ hx
  have e2 := fill_of us _ cs hf
  have hc' : ¬ (c * sz > 2 ^ 24) := by omega
  have e3 : ((Array.range (c * sz)).map fun i => zs.toArray[i % zs.toArray.size]!) = ((List.replicate c zs).flatten).toArray := by
    apply Array.toList_inj.1
    simp only [Array.toList_map, Array.toList_range, List.size_toArray]
    clear hf e2 hc hc'
    subst hzl
    induction c with
    | zero => simp
    | succ c ih =>
      rw [Nat.add_mul, Nat.one_mul, List.range_add, List.map_append, ih, List.replicate_succ', List.flatten_append]
      congr 1
      simp only [List.flatten_cons, List.flatten_nil, List.append_nil, List.map_map]
      apply List.ext_getElem
      · simp
      · intro j hj1 hj2
        simp at hj1
        simp [Nat.mod_eq_of_lt hj1, hj1]
  by_cases h0 : c * sz = 0
  · have e4 : ((List.replicate c zs).flatten) = [] := by
      apply List.eq_nil_of_length_eq_zero
      simp [hzl, h0]
    rw [e4] at e2
    simp only [execOp, Instr.buildSlice]
    simp [run_underlying h1, run_sizeOf_of h2, h3, hc', h0]
    rw [show Instr.fill (fun i => some (i * sz, sz)) (Array.map (fun x => default) (Array.range 0)) (List.map (fun x => (x.fst, ρ x.snd)) ps) = some cs.toArray by rw [e1, show (Array.map (fun x => default) (Array.range 0) : Array Value) = #[] by apply Array.toList_inj.1; simp]; exact e2]
    simp [newRow]
  · simp only [execOp, Instr.buildSlice]
    simp [run_underlying h1, run_sizeOf_of h2, h3, hc', h0, zeroValue, typeInfo, h7, h8, h9]
    simp only [List.size_toArray, List.getElem!_toArray, List.getElem!_eq_getElem?_getD] at e3
    rw [e3, show Instr.fill (fun i => some (i * sz, sz)) (List.replicate c zs).flatten.toArray (List.map (fun x => (x.fst, ρ x.snd)) ps) = some cs.toArray by rw [e1]; exact e2]
    simp [newRow]
theorem s_bslice {ps : List (Nat × Operand)} {us : List (Nat × Value)} {e c sz by_ : Nat} {zs cs : List Value} (ht : slB P t e sz by_ = true) (hz : zvB P e zs) (hx : evP l ps = some us)
    (hf : fillF (fun i => some (i * sz, sz)) ((List.replicate c zs).flatten) us = some cs) (hzl : zs.length = sz) (hc : c * sz ≤ 16777216) (hd : Nat.blt d n = true)
    (h : ∀ g w', New w w' g e cs → WL P ops Q rest n ds ((d, .slice (some ⟨g, 0, none⟩) c c) :: l) w') :
    WL P ops Q (⟨some d, .buildSlice t c ps.toArray, ty, pos, af, none⟩ :: rest) n ds l w := sv (r_bslice ht hz hx hf hzl hc) hd (h _ _ (New.mk' w e cs))

/-! ### slicing -/
/-- x[lo:hi] of a slice; 'lo', 'hi' in it -/
def loV : Option (IntKind × Int) → Int
  | some (_, m) => m
  | none => 0
def hiV (o : Option (IntKind × Int)) (c : Nat) : Int := match o with
  | some (_, m) => m
  | none => c
def asV (o : Option (IntKind × Int)) : Option Value := o.map fun p => .int p.1 p.2
def evS (l : List (Nat × Value)) : Option Operand → Option (Option (IntKind × Int))
  | none => some none
  | some x => match evO l x with
    | some (.int k m) => some (some (k, m))
    | _ => none
theorem evS_map {ρ : Operand → Value} (h : ∀ x u, evO l x = some u → ρ x = u) {o : Option Operand} {p : Option (IntKind × Int)} (ho : evS l o = some p) : o.map ρ = asV p := by
  cases o with
  | none => simp [evS] at ho; subst ho; rfl
  | some x =>
    simp only [evS] at ho
    split at ho
    · rename_i k m hx
      simp at ho
      subst ho
      simp [asV, h _ _ hx]
    · cases ho
/-- the address behind so many elements -/
def adS (ad : Option Addr) (c' lo sz : Nat) : Option Addr := if c' = lo then ad else ad.map (·.add (lo * sz))
theorem o_sl {ad : Option Addr} {c c' e sz by_ : Nat} {lo hi : Option Operand} {pl ph : Option (IntKind × Int)} (ht : slB P t e sz by_ = true) (hx : evO l x = some (.slice ad c c')) (hl : evS l lo = some pl) (hh : evS l hi = some ph)
    (hb : 0 ≤ loV pl ∧ loV pl ≤ (hiV ph c) ∧ (hiV ph c) ≤ c') (hc : c ≤ c') :
    Runs P l ⟨dd, .slice t x lo hi none, ty, pos, af, gg⟩ w (.slice (adS ad c' (loV pl).toNat sz) ((hiV ph c).toNat - (loV pl).toNat) (c' - (loV pl).toNat)) w := fun ρ h => by
  obtain ⟨i, z, h1, h2, h3, h4, h5, h6⟩ := slB_spec ht
  obtain ⟨b0, b1, b2⟩ := hb
  have e1 := evS_map h hl
  have e2 := evS_map h hh
  subst h3
  cases pl with
  | none =>
    cases ph with
    | none => simp [execOp, Instr.sliceAt, Instr.slice, h _ _ hx, e1, e2, asV, run_underlying h1, run_sizeOf_of h2, Instr.sliceBounds, loV, hiV, adS]
    | some ph =>
      obtain ⟨kh, mh⟩ := ph
      simp only [loV, hiV] at b0 b1 b2
      have := run_sliceBound (P := P) (w := w) kh mh c' .sliceAcap b1 b2
      simp [execOp, Instr.sliceAt, Instr.slice, h _ _ hx, e1, e2, asV, run_underlying h1, run_sizeOf_of h2, Instr.sliceBounds, loV, hiV, adS, this] <;> rfl
  | some pl =>
    obtain ⟨kl, ml⟩ := pl
    cases ph with
    | none =>
      simp only [loV, hiV] at b0 b1 b2
      have := run_sliceBound (P := P) (w := w) kl ml c .sliceB b0 b1
      simp [execOp, Instr.sliceAt, Instr.slice, h _ _ hx, e1, e2, asV, run_underlying h1, run_sizeOf_of h2, Instr.sliceBounds, loV, hiV, adS, this] <;> rfl
    | some ph =>
      obtain ⟨kh, mh⟩ := ph
      simp only [loV, hiV] at b0 b1 b2
      have t1 := run_sliceBound (P := P) (w := w) kh mh c' .sliceAcap (by omega) b2
      have t2 := run_sliceBound (P := P) (w := w) kl ml mh.toNat .sliceB b0 (by omega)
      simp [execOp, Instr.sliceAt, Instr.slice, h _ _ hx, e1, e2, asV, run_underlying h1, run_sizeOf_of h2, Instr.sliceBounds, loV, hiV, adS, t1, t2] <;> rfl
/-- s[lo:hi] of a string -/
theorem o_ssl {u : List UInt8} {lo hi : Option Operand} {pl ph : Option (IntKind × Int)} (ht : P.underlying t = some .string) (hx : evO l x = some (S u)) (hl : evS l lo = some pl) (hh : evS l hi = some ph)
    (hb : 0 ≤ loV pl ∧ loV pl ≤ (hiV ph u.length) ∧ (hiV ph u.length) ≤ u.length) :
    Runs P l ⟨dd, .slice t x lo hi none, ty, pos, af, gg⟩ w (S ((u.drop (loV pl).toNat).take ((hiV ph u.length).toNat - (loV pl).toNat))) w := fun ρ h => by
  obtain ⟨b0, b1, b2⟩ := hb
  have e1 := evS_map h hl
  have e2 := evS_map h hh
  have hsz : (⟨⟨u⟩⟩ : ByteArray).size = u.length := rfl
  have hex : ∀ i j, (⟨⟨u⟩⟩ : ByteArray).extract i j = ⟨⟨(u.drop i).take (j - i)⟩⟩ := fun i j => Lib.extract_eq ⟨⟨u⟩⟩ i j
  cases pl with
  | none =>
    cases ph with
    | none => simp [execOp, Instr.sliceAt, Instr.slice, h _ _ hx, e1, e2, asV, run_underlying ht, Instr.sliceBounds, loV, hiV, hsz, hex]
    | some ph =>
      obtain ⟨kh, mh⟩ := ph
      simp only [loV, hiV] at b0 b1 b2
      have := run_sliceBound (P := P) (w := w) kh mh u.length .sliceAlen b1 b2
      simp [execOp, Instr.sliceAt, Instr.slice, h _ _ hx, e1, e2, asV, run_underlying ht, Instr.sliceBounds, loV, hiV, hsz, hex, this]
  | some pl =>
    obtain ⟨kl, ml⟩ := pl
    cases ph with
    | none =>
      simp only [loV, hiV] at b0 b1 b2
      have := run_sliceBound (P := P) (w := w) kl ml u.length .sliceB b0 b1
      simp [execOp, Instr.sliceAt, Instr.slice, h _ _ hx, e1, e2, asV, run_underlying ht, Instr.sliceBounds, loV, hiV, hsz, hex, this]
    | some ph =>
      obtain ⟨kh, mh⟩ := ph
      simp only [loV, hiV] at b0 b1 b2
      have t1 := run_sliceBound (P := P) (w := w) kh mh u.length .sliceAlen (by omega) b2
      have t2 := run_sliceBound (P := P) (w := w) kl ml mh.toNat .sliceB b0 (by omega)
      simp [execOp, Instr.sliceAt, Instr.slice, h _ _ hx, e1, e2, asV, run_underlying ht, Instr.sliceBounds, loV, hiV, hsz, hex, t1, t2]
/-- a cut of a slice of the call's own -/
theorem Own.cut {e sz c c' lo hi : Nat} {ad : Option Addr} {vs : List Value} (O : Own w e sz (.slice ad c c') c vs) (h1 : lo ≤ hi) (h2 : hi ≤ c) : Own w e sz (.slice (adS ad c' lo sz) (hi - lo) (c' - lo)) (hi - lo) ((vs.drop (lo * sz)).take ((hi - lo) * sz)) := by
  have hl := O.1
  have hle : hi * sz ≤ c * sz := Nat.mul_le_mul_right _ h2
  have hle2 : lo * sz ≤ hi * sz := Nat.mul_le_mul_right _ h1
  rcases O.2 with ⟨h0, h0'⟩ | ⟨g, o, cc, cs, hv, hB, hc1, hc2, hc3, hc4⟩
  · injection h0 with e1 e2 e3
    subst e1; subst e3
    have : lo = 0 := by omega
    subst this
    have : hi = 0 := by omega
    subst this
    have : vs = [] := List.eq_nil_of_length_eq_zero (by rw [hl, h0', Nat.zero_mul])
    subst this
    simpa [adS] using Own.nil w e sz
  · injection hv with e1 e2 e3
    subst e1; subst e3
    refine ⟨by rw [List.length_take, List.length_drop, hl, Nat.sub_mul]; omega, .inr ?_⟩
    unfold adS
    by_cases hlo : c' = lo
    · have hhi : hi = lo := by omega
      subst hhi; subst hlo
      exact ⟨g, o, 0, cs, by simp, hB, by omega, by simp [maxLen], by omega, by simp⟩
    · refine ⟨g, o + lo * sz, c' - lo, cs, by simp [hlo, Addr.add_lit], hB, by omega, by omega, by rw [Nat.sub_mul]; have : lo * sz ≤ c' * sz := Nat.mul_le_mul_right _ (by omega); omega, ?_⟩
      rw [← hc4, List.drop_take, List.take_take, List.drop_drop]
      congr 1
      rw [Nat.sub_mul]
      omega
/-- .. of one that is read -/
theorem Rep.cut {A : List Nat} {sz c c' lo hi : Nat} {ad : Option Addr} {rows : List (List D)} (h : Rep A w (.sl sz rows) (.slice ad c c')) (h1 : lo ≤ hi) (h2 : hi ≤ c) : Rep A w (.sl sz ((rows.drop lo).take (hi - lo))) (.slice (adS ad c' lo sz) (hi - lo) (c' - lo)) := by
  have h' := h
  simp only [Rep] at h ⊢
  obtain ⟨ad', c'', e, h4, h5, h6⟩ := h
  injection e with e1 e2 e3
  subst e1; subst e3
  have hlen : ((rows.drop lo).take (hi - lo)).length = hi - lo := by simp; omega
  refine ⟨_, _, by rw [hlen], by rw [hlen]; omega, by omega, fun hn => ?_⟩
  have hlt : lo < hi := by
    rcases Nat.lt_or_ge lo hi with h7 | h7
    · exact h7
    · exact absurd (List.eq_nil_of_length_eq_zero (by rw [hlen]; omega)) hn
  obtain ⟨a, ha, hA, hb, hr⟩ := h6 (by intro he; subst he; simp at h1 h2 e2; omega)
  subst ha
  have : ¬ c' = lo := by omega
  refine ⟨a.add (lo * sz), by simp [adS, this], by rw [add_block]; exact hA, by rw [add_block]; exact hb, RepRows.of_rows fun j r hj => ?_⟩
  have hj' : rows[lo + j]? = some r := by
    rw [List.getElem?_take] at hj
    split at hj
    · simpa using hj
    · cases hj
  have := hr.row (lo + j) r hj'
  rw [Nat.zero_add] at this
  rw [Nat.zero_add, Addr.add_add, ← Nat.add_mul]
  exact this

/-! ### copy, make -/
theorem s_copy {tx e sz by_ c c' : Nat} {v u : Value} {vs news : List Value} (ht : slB P t e sz by_ = true) (hx : evO l x = some v) (hy : evO l y = some u) (O : Own w e sz v c vs) (hs : Src P sz tx u c' news w) (hcc : c' ≤ c) (hd : Nat.blt d n = true)
    (h : ∀ w', Own w' e sz v c (news ++ vs.drop (c' * sz)) → Mod (ob v) w w' → w'.heap.size = w.heap.size → WL P ops Q rest n ds ((d, .int .i64 c') :: l) w') :
    WL P ops Q (⟨some d, .call { callee := .builtin .copy, args := #[x, y], argTypes := #[t, tx] }, ty, pos, af, none⟩ :: rest) n ds l w := by
  obtain ⟨i, z, h1, h2, h3, h4, h5, h6⟩ := slB_spec ht
  have hmin : Nat.min c' c = c' := Nat.min_eq_left hcc
  have hnl := hs.newsLen
  rcases O.2 with ⟨rfl, h0⟩ | ⟨g, o, cap, cs, rfl, hB, hc1, hc2, hc3, hc4⟩
  · have hc0 : c' = 0 := by omega
    subst hc0
    have hvs : vs = [] := List.eq_nil_of_length_eq_zero (by rw [O.1, h0, Nat.zero_mul])
    have hne : news = [] := List.eq_nil_of_length_eq_zero (by simpa using hnl)
    subst hvs; subst hne; subst h0
    refine sv (v := .int .i64 (0 : Nat)) (w' := w) (fun ρ hρ => ?_) hd (h w (by simpa using O) (Mod.refl _ w) rfl)
    have hl := hs.len
    have hcl := hs.cells
    simp [execOp, resolve, invoke, builtin, hρ _ _ hx, hρ _ _ hy, Builtin.copy_, run_underlying h1, run_sizeOf_of h2, h3, hl, hcl, goInt]
  · have hle : c' * sz ≤ c * sz := Nat.mul_le_mul_right _ hcc
    have hle2 : c * sz ≤ cap * sz := Nat.mul_le_mul_right _ hc1
    have hvl := O.1
    obtain ⟨w1, hst, hp⟩ := storeCells_put (P := P) hB (o := o) (vs := news) (by rw [hnl]; omega) hs.one
    refine sv (v := .int .i64 c') (w' := w1) (fun ρ hρ => ?_) hd (h w1 ⟨by simp [hnl, hvl]; omega, .inr ⟨g, o, cap, _, rfl, hp.blk, hc1, hc2, by simp [splice]; omega, ?_⟩⟩ hp.mod hp.size)
    · simp [execOp, resolve, invoke, builtin, hρ _ _ hx, hρ _ _ hy, Builtin.copy_, run_underlying h1, run_sizeOf_of h2, h3, hs.len, hmin, hs.cells, hst, goInt]
    · have hol : (cs.take o).length = o := by rw [List.length_take]; omega
      rw [splice, List.append_assoc, List.drop_left' hol, List.take_append, hnl, List.take_of_length_le (by rw [hnl]; exact hle)]
      congr 1
      rw [← hc4, List.drop_take, List.drop_drop]
theorem s_make {e sz by_ : Nat} {mc : Int} {zs : List Value} (ht : slB P t e sz by_ = true) (hz : zvB P e zs) (hzl : zs.length = sz) (hx : evO l x = some (.int k m)) (hy : evO l y = some (.int k' mc)) (hb : 0 ≤ m ∧ m ≤ mc ∧ mc ≤ 9223372036854775807 ∧ by_ * mc ≤ 281474976710656) (hd : Nat.blt d n = true)
    (h : ∀ g w', New w w' g e ((List.replicate mc.toNat zs).flatten) → WL P ops Q rest n ds ((d, .slice (some ⟨g, 0, none⟩) m.toNat mc.toNat) :: l) w') :
    WL P ops Q (⟨some d, .makeSlice t x y, ty, pos, af, none⟩ :: rest) n ds l w := by
  obtain ⟨i', z', h1, h2, h3, h4, h5, h6⟩ := slB_spec ht
  obtain ⟨i, z, h7, h8, h9⟩ := zvB_spec hz
  have hr : Runs P l ⟨some d, .makeSlice t x y, ty, pos, af, none⟩ w (.slice (some ⟨w.heap.size, 0, none⟩) m.toNat mc.toNat) (w.alloc (.cells ((List.replicate mc.toNat zs).flatten).toArray e)) := fun ρ hρ => by
    have w1 : IntKind.i64.wrap m = m := wrap64_in _ (by omega)
    have w2 : IntKind.i64.wrap mc = mc := wrap64_in _ (by omega)
    have hii : i' = i := Option.some.inj (h2.symm.trans h7)
    subst hii
    have b1 : ¬ (mc < 0) := by omega
    have b2 : ¬ ((i'.bytes : Int) * mc > 281474976710656) := by rw [h4]; omega
    have b3 : ¬ (m < 0) := by omega
    have b4 : ¬ (mc < m) := by omega
    have e3 : ((Array.range (mc.toNat * sz)).map fun i => zs.toArray[i % zs.toArray.size]!) = ((List.replicate mc.toNat zs).flatten).toArray := by
      apply Array.toList_inj.1
      simp only [Array.toList_map, Array.toList_range, List.size_toArray]
      generalize mc.toNat = c
      subst hzl
      clear h ht h3 h6
      induction c with
      | zero => simp
      | succ c ih =>
        rw [Nat.add_mul, Nat.one_mul, List.range_add, List.map_append, ih, List.replicate_succ', List.flatten_append]
        congr 1
        simp only [List.flatten_cons, List.flatten_nil, List.append_nil, List.map_map]
        apply List.ext_getElem
        · simp
        · intro j hj1 hj2
          simp at hj1
          simp [Nat.mod_eq_of_lt hj1, hj1]
    have hbb : (decide (mc < 0) || decide ((i'.bytes : Int) * mc > 2 ^ 48)) = false := by
      simp only [Bool.or_eq_false_iff, decide_eq_false_iff_not]
      exact ⟨b1, by omega⟩
    by_cases h0 : mc.toNat * sz = 0
    · have e4 : ((List.replicate mc.toNat zs).flatten) = [] := by
        apply List.eq_nil_of_length_eq_zero
        simp [hzl, h0]
      simp only [execOp, Instr.makeSlice]
      simp [hρ _ _ hx, hρ _ _ hy, asInt, asIntOf, run_underlying h1, typeInfo, h2, w1, w2, hbb, b1, b2, b3, b4, run_sizeOf_of h2, h3, h0, newRow, e4]
      rw [show (Array.map (fun x => default) (Array.range 0) : Array Value) = #[] by apply Array.toList_inj.1; simp]
    · simp only [List.size_toArray, List.getElem!_toArray, List.getElem!_eq_getElem?_getD] at e3
      simp only [execOp, Instr.makeSlice]
      simp [hρ _ _ hx, hρ _ _ hy, asInt, asIntOf, run_underlying h1, typeInfo, h2, w1, w2, hbb, b1, b2, b3, b4, run_sizeOf_of h2, h3, h0, newRow, zeroValue, h8, h9, e3]
  exact sv hr hd (h _ _ (New.mk' w e _))

/-! ### bytes and strings -/
theorem o_b2s {e : Nat} {v : Value} {u : List UInt8} (hs : P.underlying t = some (.slice e)) (he : P.underlying e = some (.int .u8)) (hd : P.underlying t' = some .string) (hx : evO l x = some v) (O : Src P 1 t v u.length (u.map B8) w) (hv : (∃ c, v = .slice none 0 c) ∨ ∃ a c, v = .slice (some a) u.length c ∧ Cs w a (u.map B8)) :
    Runs P l ⟨dd, .convert t t' x, ty, pos, af, gg⟩ w (S u) w := fun ρ h => by
  rcases hv with ⟨c, rfl⟩ | ⟨a, c, rfl, hc⟩
  · have hu : u = [] := by
      have := O.len w
      simp [Builtin.lenOf] at this
      exact List.eq_nil_of_length_eq_zero this.symm
    subst hu
    have := run_convert_bytes_nil w t e hs he 0 c t' hd
    simp [execOp, h _ _ hx, this]
    rfl
  · have := run_convert_bytes_back (P := P) w t t' e a c u hs he hd (fun j hj => hc j _ (by simp [hj, B8]))
    simp [execOp, h _ _ hx, this]
theorem o_b2s_own {e e' : Nat} {v : Value} {u : List UInt8} (hs : P.underlying t = some (.slice e)) (he : P.underlying e = some (.int .u8)) (hd : P.underlying t' = some .string) (hx : evO l x = some v) (O : Own w e' 1 v u.length (u.map B8)) :
    Runs P l ⟨dd, .convert t t' x, ty, pos, af, gg⟩ w (S u) w := by
  refine o_b2s hs he hd hx (Src.own hs O (fun x hx => by obtain ⟨c, _, rfl⟩ := List.mem_map.1 hx; rfl)) ?_
  obtain ⟨ad, c, h1, h2, h3⟩ := O.form
  subst h1
  cases ad with
  | none =>
    rcases O.2 with ⟨_, h0⟩ | ⟨g, o, c', cs, h1, _⟩
    · rw [h0]
      exact .inl ⟨c, rfl⟩
    · cases h1
  | some a => exact .inr ⟨a, c, rfl, O.cs⟩
/-- bytes that are read -/
def bytesD (u : List UInt8) : D := .sl 1 (u.map fun c => [.v (B8 c)])
theorem bytesD_flat {A : List Nat} {u : List UInt8} {vs : List Value} (h : Reps A w ((u.map fun c => [D.v (B8 c)]).flatten) vs) : vs = u.map B8 := by
  induction u generalizing vs with
  | nil => simpa [Reps] using h
  | cons c u ih =>
    simp only [List.map_cons, List.flatten_cons, List.singleton_append, Reps] at h
    obtain ⟨x, us, rfl, h1, h2⟩ := h
    rw [ih h2, h1.v_eq]
    rfl
theorem bytesD_reps (A : List Nat) (w : World) (u : List UInt8) : Reps A w ((u.map fun c => [D.v (B8 c)]).flatten) (u.map B8) := by
  induction u with
  | nil => rfl
  | cons c u ih => simp only [List.map_cons, List.flatten_cons, List.singleton_append]; exact Reps.cons_ (Rep.v_ rfl) ih
theorem Src.bytes {A : List Nat} {tx e' : Nat} {u : List UInt8} {v : Value} (hk : P.underlying tx = some (.slice e')) (h : Rep A w (bytesD u) v) : Src P 1 tx v u.length (u.map B8) w := by
  obtain ⟨vs, h1, h2, h3⟩ := Src.rep (P := P) hk h
  rw [bytesD_flat h1] at h3
  simpa using h3
theorem Rep.bytes_form {A : List Nat} {u : List UInt8} {v : Value} (h : Rep A w (bytesD u) v) : ∃ ad c, v = .slice ad u.length c ∧ u.length ≤ c ∧ c ≤ 9223372036854775807 := by
  obtain ⟨ad, c, h1, h2, h3⟩ := Rep.sl_ h
  simp only [List.length_map] at h1 h2
  exact ⟨ad, c, h1, h2, h3⟩
/-- a byte of a slice that is read -/
theorem Rep.byte {A : List Nat} {u : List UInt8} {ad : Option Addr} {c c' i : Nat} {b : UInt8} (h : Rep A w (bytesD u) (.slice ad c c')) (hi : u[i]? = some b) : ∃ a, ad = some a ∧ w.cell? (a.add (i * 1)) = some (B8 b) := by
  obtain ⟨a, us, h1, h2, h3, h4, _⟩ := Rep.at_ (i := i) (r := [.v (B8 b)]) h (by simp [hi])
  simp only [Reps] at h2
  obtain ⟨x, us', rfl, h5, rfl⟩ := h2
  refine ⟨a, h1, ?_⟩
  have := h4 0 x rfl
  rw [Addr.add_zero'] at this
  rw [this, h5.v_eq]
theorem o_b2s_rep {A : List Nat} {e : Nat} {v : Value} {u : List UInt8} (hs : P.underlying t = some (.slice e)) (he : P.underlying e = some (.int .u8)) (hd : P.underlying t' = some .string) (hx : evO l x = some v) (R : Rep A w (bytesD u) v) :
    Runs P l ⟨dd, .convert t t' x, ty, pos, af, gg⟩ w (S u) w := by
  refine o_b2s hs he hd hx (Src.bytes hs R) ?_
  obtain ⟨ad, c, h1, h2, h3⟩ := R.bytes_form
  subst h1
  cases ad with
  | none =>
    cases u with
    | nil => exact .inl ⟨c, rfl⟩
    | cons b u =>
      obtain ⟨a, h4, _⟩ := R.byte (i := 0) (b := b) rfl
      cases h4
  | some a =>
    refine .inr ⟨a, c, rfl, fun j x hj => ?_⟩
    simp only [List.getElem?_map, Option.map_eq_some_iff] at hj
    obtain ⟨b, hb, rfl⟩ := hj
    obtain ⟨a', h4, h5⟩ := R.byte hb
    injection h4 with h4
    subst h4
    rwa [Nat.mul_one] at h5
/-- []byte(s) -/
theorem s_s2b {e : Nat} {u : List UInt8} (hs : P.underlying t = some .string) (he : P.underlying e = some (.int .u8)) (hd' : P.underlying t' = some (.slice e)) (hx : evO l x = some (S u)) (hlen : u.length ≤ 9223372036854775807) (hd : Nat.blt d n = true)
    (h : ∀ v w', Mod [] w w' → (∀ A : List Nat, (∀ z ∈ A, z < w.heap.size) → Rep A w' (bytesD u) v) → WL P ops Q rest n ds ((d, v) :: l) w') :
    WL P ops Q (⟨some d, .convert t t' x, ty, pos, af, none⟩ :: rest) n ds l w := by
  have hsz : (⟨⟨u⟩⟩ : ByteArray).size = u.length := rfl
  have hr := Lib.run_convert_string_bytes (P := P) w t t' e ⟨⟨u⟩⟩ hs hd' he
  refine sv (v := .slice (some ⟨w.heap.size, 0, none⟩) u.length (grownCap w u.length 0 e)) (w' := Lib.bytesWorld w e ⟨⟨u⟩⟩) (fun ρ hρ => by simp [execOp, hρ _ _ hx, hr, hsz]) hd (h _ _ ⟨?_, ?_, ?_, ?_, ?_⟩ ?_)
  · simp only [Lib.bytesWorld, World.freeze]; rfl
  · simp only [Lib.bytesWorld, World.freeze]; rfl
  · simp only [Lib.bytesWorld, World.freeze]; rfl
  · rw [Lib.bytesWorld_size]; omega
  · exact fun i hi _ => Lib.bytesWorld_at_old w e _ i hi
  · intro A hA
    refine Rep.sl_mk (by simp) (grownCap_ge w u.length 0 e) (grownCap_le_maxLen w u.length 0 e (by simp only [maxLen]; omega)) (fun hz => by have := hA _ hz; simp at this) (by rw [Lib.bytesWorld_size]; simp) fun i r hi => ?_
    simp only [List.getElem?_map, Option.map_eq_some_iff] at hi
    obtain ⟨b, hb, rfl⟩ := hi
    refine ⟨rfl, [B8 b], Reps.cons_ (Rep.v_ rfl) rfl, fun j x hj => ?_⟩
    cases j with
    | succ j => simp at hj
    | zero =>
      simp at hj
      subst hj
      have hlt := (List.getElem?_eq_some_iff.1 hb).1
      have := Lib.bytesWorld_cell w e ⟨⟨u⟩⟩ i (by rw [hsz]; exact hlt)
      rw [Addr.add_zero', Addr.add_lit, Nat.zero_add, Nat.mul_one, this]
      simp [List.getD, hb, B8]
end
end Go.Proofs.Ytccjjkdogljmpaa.V
