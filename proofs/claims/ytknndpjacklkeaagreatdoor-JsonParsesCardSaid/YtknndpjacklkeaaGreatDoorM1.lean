/-
  A part of the proof: walks of functions. No condition of its own.
-/
import Derived.Test.YtknndpjacklkeaaGreatDoorM0
import Derived.Lib.ConvBytes
import Derived.Laws.BytesArg
import Derived.Lib.Strings
import Derived.Laws.BytesString
import Derived.Laws.IdiomStrings
import Derived.StillTail
set_option linter.unusedVariables false
set_option linter.unusedSimpArgs false
namespace Go.Proofs.YtknndpjacklkeaaGreatDoor.V
open Go
/-! ## Slices of the call's own -/
def ob : Value → List Nat
  | .slice (some a) _ _ => [a.block]
  | _ => []
def Own (w : World) (e sz : Nat) (v : Value) (n : Nat) (vs : List Value) : Prop :=
  vs.length = n * sz ∧
  ((v = .slice none 0 0 ∧ n = 0) ∨
   ∃ g o c cs, v = .slice (some ⟨g, o, none⟩) n c ∧ Blk w g e cs ∧ n ≤ c ∧ c ≤ maxLen ∧ o + c * sz ≤ cs.length ∧ (cs.drop o).take (n * sz) = vs)

section
variable {w w' : World} {e sz n : Nat} {v : Value} {vs : List Value} {M : List Nat}
theorem Own.nil (w : World) (e sz : Nat) : Own w e sz (.slice none 0 0) 0 [] := ⟨by simp, .inl ⟨rfl, rfl⟩⟩
theorem Own.len (h : Own w e sz v n vs) : vs.length = n * sz := h.1
theorem Own.form (h : Own w e sz v n vs) : ∃ ad c, v = .slice ad n c ∧ n ≤ c ∧ c ≤ 9223372036854775807 := by
  rcases h.2 with ⟨rfl, rfl⟩ | ⟨g, o, c, cs, rfl, _, h2, h3, _⟩
  · exact ⟨none, 0, rfl, Nat.le_refl _, by omega⟩
  · exact ⟨_, c, rfl, h2, by simp only [maxLen] at h3; omega⟩
theorem Own.mod (h : Own w e sz v n vs) (k : Mod M w w') (hM : ∀ x ∈ ob v, x ∉ M) : Own w' e sz v n vs := by
  refine ⟨h.1, ?_⟩
  rcases h.2 with h0 | ⟨g, o, c, cs, rfl, h1, h2⟩
  · exact .inl h0
  · exact .inr ⟨g, o, c, cs, rfl, h1.mod k (hM g (by simp [ob])), h2⟩
theorem Own.mod0 (h : Own w e sz v n vs) (k : Mod [] w w') : Own w' e sz v n vs := h.mod k (by simp)
theorem Own.lt (h : Own w e sz v n vs) : ∀ x ∈ ob v, x < w.heap.size := by
  rcases h.2 with ⟨rfl, _⟩ | ⟨g, o, c, cs, rfl, h1, _⟩
  · simp [ob]
  · intro x hx
    simp [ob] at hx
    subst hx
    exact h1.lt
theorem Own.cs {ad : Addr} {c : Nat} (h : Own w e sz (.slice (some ad) n c) n vs) : Cs w ad vs := by
  rcases h.2 with ⟨h1, _⟩ | ⟨g, o, c', cs, h1, h2, h3, h4, h5, h6⟩
  · cases h1
  · injection h1 with h1
    injection h1 with h1
    subst h1
    exact h2.cs (by rw [h.1]; exact h6)
theorem Own.of_blk {g c : Nat} {cs : List Value} (h : Blk w g e cs) (hl : cs.length = c * sz) (hn : n ≤ c) (hc : c ≤ 9223372036854775807) : Own w e sz (.slice (some ⟨g, 0, none⟩) n c) n (cs.take (n * sz)) := by
  have hle : n * sz ≤ c * sz := Nat.mul_le_mul_right _ hn
  refine ⟨by simp; omega, .inr ⟨g, 0, c, cs, rfl, h, hn, by simp only [maxLen]; omega, by omega, by simp⟩⟩
theorem Own.all {g c : Nat} {cs : List Value} (h : Blk w g e cs) (hl : cs.length = c * sz) (hc : c ≤ 9223372036854775807) : Own w e sz (.slice (some ⟨g, 0, none⟩) c c) c cs := by
  have := Own.of_blk (n := c) h hl (Nat.le_refl _) hc
  rwa [List.take_of_length_le (by omega)] at this
theorem Own.rep {A : List Nat} {rows : List (List D)} (h : Own w e sz v n vs) (hr : Reps A w rows.flatten vs) (hl : ∀ r ∈ rows, r.length = sz) (hn : rows.length = n) (hA : ∀ x ∈ ob v, x ∉ A) : Rep A w (.sl sz rows) v := by
  rcases h.2 with ⟨rfl, h0⟩ | ⟨g, o, c, cs, rfl, h1, h2, h3, h4, h5⟩
  · have : rows = [] := List.eq_nil_of_length_eq_zero (by omega)
    subst this
    exact Rep.sl_nil
  · refine Rep.sl_mk hn h2 h3 (hA g (by simp [ob])) h1.lt fun i r hi => ?_
    have hir := (List.getElem?_eq_some_iff.1 hi).1
    have hrl := hl r (List.mem_of_getElem? hi)
    refine ⟨hrl, _, Reps.row_of_flat hl hr i r hi, ?_⟩
    rw [Addr.add_lit]
    refine h1.cs ?_
    have hle : (i + 1) * sz ≤ n * sz := Nat.mul_le_mul_right _ (by omega)
    rw [Nat.add_mul] at hle
    have hlen : (List.take sz (List.drop (i * sz) vs)).length = sz := by rw [List.length_take, List.length_drop, h.1]; omega
    rw [hlen, ← h5, List.drop_take, List.take_take, List.drop_drop]
    congr 1
    omega
end

section
variable {P : Program} {ops : Array Oper} {Q : Exit → Act → World → Prop} {n : Nat} {ds : List Deferred} {l : List (Nat × Value)} {w w' : World} {a : Act}
variable {rest : List Oper} {d : Nat} {op : Op} {ty : TypeId} {pos : String} {af : Array Edge}
variable {dd : Option Nat} {gg : Option (Nat × Bool)} {x y z : Operand} {t t' : TypeId} {k k' : IntKind} {m m' : Int} {b b' : Bool}

/-! ### what is appended -/
theorem Src.own {tx e e' sz c : Nat} {v : Value} {vs : List Value} (hk : P.underlying tx = some (.slice e')) (h : Own w e sz v c vs) (h1 : ∀ u ∈ vs, u.oneCell' = true) : Src P sz tx v c vs w := by
  rcases h.2 with ⟨rfl, h0⟩ | ⟨g, o, c', cs, rfl, _⟩
  · subst h0
    have : vs = [] := List.eq_nil_of_length_eq_zero (by simpa using h.1)
    subst this
    exact Src.ofNil w hk 0
  · exact Src.ofSlice w hk _ _ _ _ h.1 (fun j u hu => h.cs j u hu) h1
theorem Src.rep {A : List Nat} {tx e' sz : Nat} {rows : List (List D)} {v : Value} (hk : P.underlying tx = some (.slice e')) (h : Rep A w (.sl sz rows) v) : ∃ vs, Reps A w rows.flatten vs ∧ vs.length = rows.length * sz ∧ Src P sz tx v rows.length vs w := by
  cases hrows : rows with
  | nil =>
    subst hrows
    simp only [Rep] at h
    obtain ⟨ad, c, rfl, h2, h3, h4⟩ := h
    refine ⟨[], rfl, by simp, ?_⟩
    cases ad with
    | none => exact Src.ofNil w hk c
    | some ad => exact Src.ofSlice w hk ad 0 c [] (by simp) (fun j u hu => by simp at hu) (fun u hu => by cases hu)
  | cons r0 rs =>
    rw [← hrows]
    have h' := h
    simp only [Rep] at h
    obtain ⟨ad, c, rfl, h2, h3, h4⟩ := h
    obtain ⟨ad, rfl, hA, hb, hr⟩ := h4 (by simp [hrows])
    -- all rows, one behind the other
    have key : ∀ (i : Nat) (rws : List (List D)), RepRows A w sz ad i rws → ∃ vs, Reps A w rws.flatten vs ∧ vs.length = rws.length * sz ∧ ∀ j u, vs[j]? = some u → w.cell? (ad.add (i * sz + j)) = some u := by
      intro i rws
      induction rws generalizing i with
      | nil => intro _; exact ⟨[], rfl, by simp, fun j u hu => by simp at hu⟩
      | cons r rs ih =>
        intro hh
        simp only [RepRows] at hh
        obtain ⟨hl, hrow, hrest⟩ := hh
        obtain ⟨us, hu1, hu2⟩ := hrow.cells
        obtain ⟨vs, hv1, hv2, hv3⟩ := ih (i + 1) hrest
        refine ⟨us ++ vs, by simp only [List.flatten_cons]; exact hu1.append hv1, by simp [hu1.length, hl, hv2, Nat.add_mul]; omega, fun j u hj => ?_⟩
        rw [List.getElem?_append] at hj
        have hul : us.length = sz := by rw [hu1.length, hl]
        split at hj
        · have := hu2 j u hj
          rwa [Nat.zero_add, Addr.add_add] at this
        · rename_i hge
          have := hv3 _ u hj
          rwa [show (i + 1) * sz + (j - us.length) = i * sz + j by rw [Nat.add_mul, hul]; rw [hul] at hge; omega] at this
    obtain ⟨vs, hv1, hv2, hv3⟩ := key 0 rows hr
    exact ⟨vs, hv1, hv2, Src.ofSlice w hk ad _ c vs hv2 (fun j u hu => by have := hv3 j u hu; rwa [Nat.zero_mul, Nat.zero_add] at this) hv1.one⟩

def B8 (c : UInt8) : Value := .int .u8 c.toNat
theorem Src.str {tx : Nat} (hk : P.underlying tx = some .string) (s : List UInt8) : Src P 1 tx (S s) s.length (s.map B8) w := Src.ofString w hk ⟨⟨s⟩⟩

structure App (w w' : World) (e sz : Nat) (v v' : Value) (n : Nat) (vs : List Value) : Prop where
  own : Own w' e sz v' n vs
  mod : Mod (ob v) w w'
  ob_ : ∀ x ∈ ob v', x ∈ ob v ∨ w.heap.size ≤ x

theorem append_run {t tx e sz by_ c c' : Nat} {v u : Value} {vs news : List Value} (ht : slB P t e sz by_ = true) (O : Own w e sz v c vs) (hs : Src P sz tx u c' news w) (hsz : 0 < sz)
    (hb : (c + c') * by_ ≤ 140737488355328) (hb1 : c + c' ≤ 9223372036854775807) (ty : Nat) :
    ∃ v' w', (Builtin.append_ #[t, tx] ty #[v, u]).run P w = .ok v' w' ∧ App w w' e sz v v' (c + c') (vs ++ news) := by
  obtain ⟨i, z, h1, h2, h3, h4, h5, h6⟩ := slB_spec ht
  subst h3; subst h4
  have hlen : (vs ++ news).length = (c + c') * i.size := by rw [List.length_append, O.1, hs.newsLen, Nat.add_mul]
  have grow : ∀ (base : Option Addr) (cap : Nat), cap < c + c' → (Builtin.firstCells i.size c (.slice base c cap)).run P w.drew = .ok vs.toArray w.drew →
      ∃ v' w', (Builtin.append_ #[t, tx] ty #[.slice base c cap, u]).run P w = .ok v' w' ∧ App w w' e i.size (.slice base c cap) v' (c + c') (vs ++ news) := by
    intro base cap hcap hold
    have hr := run_append_grow_src (P := P) w t tx ty e i z h1 h2 h5 base c cap vs hold u c' news hs hcap (by omega) (growslice_fits hcap hb)
    have hge := grownCap_ge w (c + c') cap e
    have hB : Blk (w.drew.alloc (.cells ((vs ++ news).toArray ++ Builtin.zeroCells z.cells (grownCap w (c + c') cap e - (c + c'))) e)) w.heap.size e ((vs ++ news) ++ (Builtin.zeroCells z.cells (grownCap w (c + c') cap e - (c + c'))).toList) := by
      have := heap_alloc_new w.drew (.cells ((vs ++ news).toArray ++ Builtin.zeroCells z.cells (grownCap w (c + c') cap e - (c + c'))) e)
      unfold Blk
      refine this.trans ?_
      congr 2
      apply Array.toList_inj.1
      simp
    refine ⟨_, _, hr, ⟨⟨hlen, .inr ⟨w.heap.size, 0, _, _, rfl, hB, hge, grownCap_le_maxLen w (c + c') cap e (by simp only [maxLen]; omega), ?_, ?_⟩⟩, ?_, ?_⟩⟩
    · have hzl : (Builtin.zeroCells z.cells (grownCap w (c + c') cap e - (c + c'))).toList.length = (grownCap w (c + c') cap e - (c + c')) * i.size := by
        rw [Array.length_toList, size_zeroCells, h6]
      rw [List.length_append, hlen, hzl, ← Nat.add_mul]
      have : c + c' + (grownCap w (c + c') cap e - (c + c')) = grownCap w (c + c') cap e := by omega
      rw [this]
      omega
    · rw [List.drop_zero, ← hlen]
      exact List.take_left
    · exact ⟨rfl, rfl, rfl, by simp, fun j hj _ => RowKit.Below.heap_alloc w.drew _ j hj⟩
    · intro x hx
      simp [ob] at hx
      exact .inr (by omega)
  rcases O.2 with ⟨rfl, h0⟩ | ⟨g, o, cap, cs, rfl, hB, hc1, hc2, hc3, hc4⟩
  · subst h0
    have hvs : vs = [] := List.eq_nil_of_length_eq_zero (by simpa using O.1)
    subst hvs
    rcases Nat.eq_zero_or_pos c' with h0 | h0
    · subst h0
      have hnews : news = [] := List.eq_nil_of_length_eq_zero (by simpa using hs.newsLen)
      subst hnews
      refine ⟨.slice none 0 0, w, ?_, ⟨Own.nil w e i.size, Mod.refl _ w, fun x hx => .inl hx⟩⟩
      have hl := hs.len
      have hcl := hs.cells
      rcases hs.kind with ⟨e', hk⟩ | hk <;> simp [Builtin.append_, run_underlying h1, run_underlying hk, sizeOf, typeInfo, h2, hl, hcl]
    · exact grow none 0 (by omega) (run_firstCells_none w.drew i.size 0 0 0)
  · by_cases hroom : c + c' ≤ cap
    · have hle : (c + c') * i.size ≤ cap * i.size := Nat.mul_le_mul_right _ hroom
      have hfit : o + c * i.size + news.length ≤ cs.length := by rw [hs.newsLen]; rw [Nat.add_mul] at hle; omega
      obtain ⟨w1, hst, hp⟩ := storeCells_put (P := P) hB hfit hs.one
      refine ⟨.slice (some ⟨g, o, none⟩) (c + c') cap, w1, ?_, ⟨⟨hlen, .inr ⟨g, o, cap, _, rfl, hp.blk, hroom, hc2, ?_, ?_⟩⟩, ?_, fun x hx => .inl hx⟩⟩
      · rcases hs.kind with ⟨e', hk⟩ | hk <;> simp [Builtin.append_, run_underlying h1, run_underlying hk, sizeOf, typeInfo, h2, hs.len, hroom, hs.cells, Addr.add_lit, hst]
      · simp only [splice, List.length_append, List.length_take, List.length_drop]
        omega
      · have e1 : List.take (o + c * i.size) cs = List.take o cs ++ vs := by rw [← hc4, List.take_add]
        have hol : (List.take o cs).length = o := by rw [List.length_take]; omega
        rw [splice, e1, List.append_assoc, List.append_assoc, List.drop_left' hol, ← List.append_assoc, ← hlen, List.take_left]
      · exact hp.mod
    · refine grow _ cap (by omega) (run_firstCells_some w.drew i.size c _ c cap vs O.1 (fun j x hx => ?_))
      have := O.cs j x hx
      simpa using this

theorem s_append {tx e sz by_ c c' : Nat} {v u : Value} {vs news : List Value} (ht : slB P t e sz by_ = true) (hx : evO l x = some v) (hy : evO l y = some u) (O : Own w e sz v c vs) (hs : Src P sz tx u c' news w) (hsz : 0 < sz)
    (hb : (c + c') * by_ ≤ 140737488355328) (hb1 : c + c' ≤ 9223372036854775807) (hd : Nat.blt d n = true)
    (h : ∀ v' w', App w w' e sz v v' (c + c') (vs ++ news) → WL P ops Q rest n ds ((d, v') :: l) w') :
    WL P ops Q (⟨some d, .call { callee := .builtin .append, args := #[x, y], argTypes := #[t, tx] }, ty, pos, af, none⟩ :: rest) n ds l w := by
  obtain ⟨v', w', hr, hA⟩ := append_run (P := P) ht O hs hsz hb hb1 ty
  refine sv (v := v') (w' := w') (fun ρ hρ => ?_) hd (h v' w' hA)
  simp [execOp, resolve, invoke, builtin, hρ _ _ hx, hρ _ _ hy, hr]
end
end Go.Proofs.YtknndpjacklkeaaGreatDoor.V

set_option linter.unusedVariables false
set_option linter.unusedSimpArgs false
namespace Go.Proofs.YtknndpjacklkeaaGreatDoor.V
open Go
section
variable {P : Program} {ops : Array Oper} {Q : Exit → Act → World → Prop} {n : Nat} {ds : List Deferred} {l : List (Nat × Value)} {w w' : World} {a : Act}
variable {rest : List Oper} {d : Nat} {op : Op} {ty : TypeId} {pos : String} {af : Array Edge}
variable {dd : Option Nat} {gg : Option (Nat × Bool)} {x y z : Operand} {t t' : TypeId} {k k' : IntKind} {m m' : Int} {b b' : Bool}

/-! ### structs and arrays as values -/
def setAll (cs : List Value) (o : Nat) : List Value → List Value
 | [] => cs
 | v :: r => setAll (cs.set o v) (o + 1) r
theorem foldl_setAll (o : Nat) : ∀ (vs : List Value) (j : Nat) (cs : Array Value),
  (vs.zipIdx j).foldl (fun (cs : Array Value) (x : Value × Nat) => cs.setIfInBounds (o + x.2) x.1) cs = (setAll cs.toList (o + j) vs).toArray := by
 intro vs
 induction vs with
 | nil => intro j cs; apply Array.toList_inj.1; simp [setAll]
 | cons v vs ih =>
  intro j cs
  simp only [List.zipIdx_cons, List.foldl_cons, setAll]
  rw [ih (j + 1)]
  simp [Nat.add_assoc]
def fillF (place : Nat → Option (Nat × Nat)) (cs : List Value) : List (Nat × Value) → Option (List Value)
 | [] => some cs
 | (i, v) :: r => match place i with
  | none => none
  | some (o, sz) => match Nat.beq v.cells.toList.length sz && Nat.ble (o + sz) cs.length with
   | true => fillF place (setAll cs o v.cells.toList) r
   | false => none
theorem fill_of {place : Nat → Option (Nat × Nat)} : ∀ (ps : List (Nat × Value)) (cs cs' : List Value), fillF place cs ps = some cs' → Instr.fill place cs.toArray ps = some cs'.toArray := by
 intro ps
 induction ps with
 | nil => intro cs cs' h; simp [fillF] at h; simp [Instr.fill, h]
 | cons p r ih =>
  obtain ⟨i, v⟩ := p
  intro cs cs' h
  simp only [fillF] at h
  split at h
  ·cases h
  ·rename_i o sz hp
   split at h
   ·rename_i hb
    simp only [Bool.and_eq_true, Nat.beq_eq_true_eq, Nat.ble_eq, Array.length_toList] at hb
    obtain ⟨h1, h2⟩ := hb
    have h1 := Nat.eq_of_beq_eq_true h1
    have := ih _ _ h
    have h3 : ¬ (v.cells.size ≠ sz ∨ o + v.cells.size > cs.toArray.size) := by rw [h1]; simp; omega
    have hf := foldl_setAll o v.cells.toList 0 cs.toArray
    simp only [Instr.fill, hp]
    simp only [ne_eq, gt_iff_lt, not_or, Classical.not_not, Nat.not_lt, List.size_toArray] at h3
    have h4 : ¬ (v.cells.size ≠ sz) := by simpa using h3.1
    have h5 : ¬ (o + v.cells.size > cs.length) := by omega
    simp only [ne_eq, gt_iff_lt, List.size_toArray, Bool.or_eq_true, decide_eq_true_eq, h4, h5, or_self, if_false]
    rw [← Array.foldl_toList, Array.toList_zipIdx]
    rw [Nat.add_zero] at hf
    simp only at hf
    rw [hf]
    exact this
   ·cases h
def plB (P : Program) (t : Nat) (pl : List (Nat × Nat)) : Bool := match P.underlying t with
 | some (.struct fs) => (fs.toList.map fun f => (f.offset, (P.info? f.type).map (·.size))) == pl.map fun p => (p.1, some p.2)
 | _ => false
theorem plB_spec {pl : List (Nat × Nat)} (h : plB P t pl = true) : ∃ fs, P.underlying t = some (.struct fs) ∧ ∀ (w : World), (fs.mapM (fun (f : Field) => (do pure (f.offset, ← sizeOf f.type) : Sem (Nat × Nat)))).run P w = .ok pl.toArray w := by
 unfold plB at h
 split at h
 ·rename_i fs h1
  refine ⟨fs, h1, fun w => ?_⟩
  have h2 : (fs.toList.map fun f => (f.offset, (P.info? f.type).map (·.size))) = pl.map fun p => (p.1, some p.2) := by simpa using h
  rw [Array.mapM_eq_mapM_toList]
  have key : ∀ (l : List Field) (pl : List (Nat × Nat)), (l.map fun f => (f.offset, (P.info? f.type).map (·.size))) = pl.map (fun p => (p.1, some p.2)) → (l.mapM (fun (f : Field) => (do pure (f.offset, ← sizeOf f.type) : Sem (Nat × Nat)))).run P w = .ok pl w := by
   intro l
   induction l with
   | nil => intro pl h; cases pl <;> simp_all
   | cons f l ih =>
    intro pl h
    cases pl with
    | nil => simp at h
    | cons p pl =>
     simp only [List.map_cons, List.cons.injEq, Prod.mk.injEq] at h
     obtain ⟨⟨h3, h4⟩, h5⟩ := h
     obtain ⟨i, h6, h7⟩ := Option.map_eq_some_iff.1 h4
     have := ih pl h5
     simp only [bind_pure_comp] at this
     simp [List.mapM_cons, run_sizeOf_of h6, this, h7, h3]
  have := key fs.toList pl h2
  simp only [bind_pure_comp] at this ⊢
  simp [this]
 ·cases h
def evP (l : List (Nat × Value)) : List (Nat × Operand) → Option (List (Nat × Value))
 | [] => some []
 | (i, x) :: r => match evO l x, evP l r with
  | some v, some vs => some ((i, v) :: vs)
  | _, _ => none
theorem evP_map {ρ : Operand → Value} (h : ∀ x u, evO l x = some u → ρ x = u) : ∀ (zs : List (Nat × Operand)) (us : List (Nat × Value)), evP l zs = some us → zs.map (fun p => (p.1, ρ p.2)) = us := by
 intro zs
 induction zs with
 | nil => intro us hu; simp [evP] at hu; simp [← hu]
 | cons z zs ih =>
  obtain ⟨i, x⟩ := z
  intro us hu
  simp only [evP] at hu
  split at hu
  ·rename_i v vs h1 h2
   simp only [Option.some.injEq] at hu
   subst hu
   simp [h _ _ h1, ih _ h2]
  ·cases hu
theorem o_build {ps : List (Nat × Operand)} {us : List (Nat × Value)} {pl : List (Nat × Nat)} {zs cs : List Value} (hp : plB P t pl = true) (hz : zvB P t zs) (hx : evP l ps = some us) (hf : fillF (fun i : Nat => pl[i]?) zs us = some cs) :
  Runs P l ⟨dd, .build t ps.toArray, ty, pos, af, gg⟩ w (.agg cs.toArray) w := fun ρ h => by
 obtain ⟨fs, h1, h2⟩ := plB_spec hp
 obtain ⟨i, z, h3, h4, h5⟩ := zvB_spec hz
 have e1 := evP_map h _ _ hx
 have e2 := fill_of us zs cs hf
 have e3 : (ps.toArray.map fun (i, x) => (i, ρ x)).toList = us := by simpa using e1
 have e4 := h2 w
 simp only [bind_pure_comp] at e4
 have e5 : (fun i : Nat => pl.toArray[i]?) = (fun i : Nat => pl[i]?) := by funext i; simp
 simp only [execOp, Instr.build]
 simp [zeroValue, typeInfo, h3, h4, h5, run_underlying h1, e4]
 rw [show Instr.fill (fun x => pl[x]?) zs.toArray (List.map (fun x => (x.fst, ρ x.snd)) ps) = some cs.toArray by rw [e1]; exact e2]
 simp
theorem r_bslice {ps : List (Nat × Operand)} {us : List (Nat × Value)} {e c sz by_ : Nat} {zs cs : List Value} (ht : slB P t e sz by_ = true) (hz : zvB P e zs) (hx : evP l ps = some us)
  (hf : fillF (fun i => some (i * sz, sz)) ((List.replicate c zs).flatten) us = some cs) (hzl : zs.length = sz) (hc : c * sz ≤ 16777216) :
  Runs P l ⟨dd, .buildSlice t c ps.toArray, ty, pos, af, gg⟩ w (.slice (some ⟨w.heap.size, 0, none⟩) c c) (w.alloc (.cells cs.toArray e)) := fun ρ hρ => by
 obtain ⟨i', z', h1, h2, h3, h4, h5, h6⟩ := slB_spec ht
 obtain ⟨i, z, h7, h8, h9⟩ := zvB_spec hz
 have e1 := evP_map hρ _ _ hx
 have e2 := fill_of us _ cs hf
 have hc' : ¬ (c * sz > 2 ^ 24) := by omega
 have e3 : ((Array.range (c * sz)).map fun i => zs.toArray[i % zs.toArray.size]!) = ((List.replicate c zs).flatten).toArray := by
  apply Array.toList_inj.1
  simp only [Array.toList_map, Array.toList_range, List.size_toArray]
  clear hf e2 hc hc'
  subst hzl
  induction c with
  | zero => simp
  | succ c ih =>
   rw [Nat.add_mul, Nat.one_mul, List.range_add, List.map_append, ih, List.replicate_succ', List.flatten_append]
   congr 1
   simp only [List.flatten_cons, List.flatten_nil, List.append_nil, List.map_map]
   apply List.ext_getElem
   ·simp
   ·intro j hj1 hj2
    simp at hj1
    simp [Nat.mod_eq_of_lt hj1, hj1]
 by_cases h0 : c * sz = 0
 ·have e4 : ((List.replicate c zs).flatten) = [] := by
   apply List.eq_nil_of_length_eq_zero
   simp [hzl, h0]
  rw [e4] at e2
  simp only [execOp, Instr.buildSlice]
  simp [run_underlying h1, run_sizeOf_of h2, h3, hc', h0]
  rw [show Instr.fill (fun i => some (i * sz, sz)) (Array.map (fun x => default) (Array.range 0)) (List.map (fun x => (x.fst, ρ x.snd)) ps) = some cs.toArray by rw [e1, show (Array.map (fun x => default) (Array.range 0) : Array Value) = #[] by apply Array.toList_inj.1; simp]; exact e2]
  simp [newRow]
 ·simp only [execOp, Instr.buildSlice]
  simp [run_underlying h1, run_sizeOf_of h2, h3, hc', h0, zeroValue, typeInfo, h7, h8, h9]
  simp only [List.size_toArray, List.getElem!_toArray, List.getElem!_eq_getElem?_getD] at e3
  rw [e3, show Instr.fill (fun i => some (i * sz, sz)) (List.replicate c zs).flatten.toArray (List.map (fun x => (x.fst, ρ x.snd)) ps) = some cs.toArray by rw [e1]; exact e2]
  simp [newRow]
theorem s_bslice {ps : List (Nat × Operand)} {us : List (Nat × Value)} {e c sz by_ : Nat} {zs cs : List Value} (ht : slB P t e sz by_ = true) (hz : zvB P e zs) (hx : evP l ps = some us)
  (hf : fillF (fun i => some (i * sz, sz)) ((List.replicate c zs).flatten) us = some cs) (hzl : zs.length = sz) (hc : c * sz ≤ 16777216) (hd : Nat.blt d n = true)
  (h : ∀ g w', New w w' g e cs → WL P ops Q rest n ds ((d, .slice (some ⟨g, 0, none⟩) c c) :: l) w') :
  WL P ops Q (⟨some d, .buildSlice t c ps.toArray, ty, pos, af, none⟩ :: rest) n ds l w := sv (r_bslice ht hz hx hf hzl hc) hd (h _ _ (New.mk' w e cs))

/-! ### slicing -/
def loV : Option (IntKind × Int) → Int
 | some (_, m) => m
 | none => 0
def hiV (o : Option (IntKind × Int)) (c : Nat) : Int := match o with
 | some (_, m) => m
 | none => c
def asV (o : Option (IntKind × Int)) : Option Value := o.map fun p => .int p.1 p.2
def evS (l : List (Nat × Value)) : Option Operand → Option (Option (IntKind × Int))
 | none => some none
 | some x => match evO l x with
  | some (.int k m) => some (some (k, m))
  | _ => none
theorem evS_map {ρ : Operand → Value} (h : ∀ x u, evO l x = some u → ρ x = u) {o : Option Operand} {p : Option (IntKind × Int)} (ho : evS l o = some p) : o.map ρ = asV p := by
 cases o with
 | none => simp [evS] at ho; subst ho; rfl
 | some x =>
  simp only [evS] at ho
  split at ho
  ·rename_i k m hx
   simp at ho
   subst ho
   simp [asV, h _ _ hx]
  ·cases ho
def adS (ad : Option Addr) (c' lo sz : Nat) : Option Addr := if c' = lo then ad else ad.map (·.add (lo * sz))
theorem o_sl {ad : Option Addr} {c c' e sz by_ : Nat} {lo hi : Option Operand} {pl ph : Option (IntKind × Int)} (ht : slB P t e sz by_ = true) (hx : evO l x = some (.slice ad c c')) (hl : evS l lo = some pl) (hh : evS l hi = some ph)
  (hb : 0 ≤ loV pl ∧ loV pl ≤ (hiV ph c) ∧ (hiV ph c) ≤ c') (hc : c ≤ c') :
  Runs P l ⟨dd, .slice t x lo hi none, ty, pos, af, gg⟩ w (.slice (adS ad c' (loV pl).toNat sz) ((hiV ph c).toNat - (loV pl).toNat) (c' - (loV pl).toNat)) w := fun ρ h => by
 obtain ⟨i, z, h1, h2, h3, h4, h5, h6⟩ := slB_spec ht
 obtain ⟨b0, b1, b2⟩ := hb
 have e1 := evS_map h hl
 have e2 := evS_map h hh
 subst h3
 cases pl with
 | none =>
  cases ph with
  | none => simp [execOp, Instr.sliceAt, Instr.slice, h _ _ hx, e1, e2, asV, run_underlying h1, run_sizeOf_of h2, Instr.sliceBounds, loV, hiV, adS]
  | some ph =>
   obtain ⟨kh, mh⟩ := ph
   simp only [loV, hiV] at b0 b1 b2
   have := run_sliceBound (P := P) (w := w) kh mh c' .sliceAcap b1 b2
   simp [execOp, Instr.sliceAt, Instr.slice, h _ _ hx, e1, e2, asV, run_underlying h1, run_sizeOf_of h2, Instr.sliceBounds, loV, hiV, adS, this] <;> rfl
 | some pl =>
  obtain ⟨kl, ml⟩ := pl
  cases ph with
  | none =>
   simp only [loV, hiV] at b0 b1 b2
   have := run_sliceBound (P := P) (w := w) kl ml c .sliceB b0 b1
   simp [execOp, Instr.sliceAt, Instr.slice, h _ _ hx, e1, e2, asV, run_underlying h1, run_sizeOf_of h2, Instr.sliceBounds, loV, hiV, adS, this] <;> rfl
  | some ph =>
   obtain ⟨kh, mh⟩ := ph
   simp only [loV, hiV] at b0 b1 b2
   have t1 := run_sliceBound (P := P) (w := w) kh mh c' .sliceAcap (by omega) b2
   have t2 := run_sliceBound (P := P) (w := w) kl ml mh.toNat .sliceB b0 (by omega)
   simp [execOp, Instr.sliceAt, Instr.slice, h _ _ hx, e1, e2, asV, run_underlying h1, run_sizeOf_of h2, Instr.sliceBounds, loV, hiV, adS, t1, t2] <;> rfl
theorem o_ssl {u : List UInt8} {lo hi : Option Operand} {pl ph : Option (IntKind × Int)} (ht : P.underlying t = some .string) (hx : evO l x = some (S u)) (hl : evS l lo = some pl) (hh : evS l hi = some ph)
  (hb : 0 ≤ loV pl ∧ loV pl ≤ (hiV ph u.length) ∧ (hiV ph u.length) ≤ u.length) :
  Runs P l ⟨dd, .slice t x lo hi none, ty, pos, af, gg⟩ w (S ((u.drop (loV pl).toNat).take ((hiV ph u.length).toNat - (loV pl).toNat))) w := fun ρ h => by
 obtain ⟨b0, b1, b2⟩ := hb
 have e1 := evS_map h hl
 have e2 := evS_map h hh
 have hsz : (⟨⟨u⟩⟩ : ByteArray).size = u.length := rfl
 have hex : ∀ i j, (⟨⟨u⟩⟩ : ByteArray).extract i j = ⟨⟨(u.drop i).take (j - i)⟩⟩ := fun i j => Lib.extract_eq ⟨⟨u⟩⟩ i j
 cases pl with
 | none =>
  cases ph with
  | none => simp [execOp, Instr.sliceAt, Instr.slice, h _ _ hx, e1, e2, asV, run_underlying ht, Instr.sliceBounds, loV, hiV, hsz, hex]
  | some ph =>
   obtain ⟨kh, mh⟩ := ph
   simp only [loV, hiV] at b0 b1 b2
   have := run_sliceBound (P := P) (w := w) kh mh u.length .sliceAlen b1 b2
   simp [execOp, Instr.sliceAt, Instr.slice, h _ _ hx, e1, e2, asV, run_underlying ht, Instr.sliceBounds, loV, hiV, hsz, hex, this]
 | some pl =>
  obtain ⟨kl, ml⟩ := pl
  cases ph with
  | none =>
   simp only [loV, hiV] at b0 b1 b2
   have := run_sliceBound (P := P) (w := w) kl ml u.length .sliceB b0 b1
   simp [execOp, Instr.sliceAt, Instr.slice, h _ _ hx, e1, e2, asV, run_underlying ht, Instr.sliceBounds, loV, hiV, hsz, hex, this]
  | some ph =>
   obtain ⟨kh, mh⟩ := ph
   simp only [loV, hiV] at b0 b1 b2
   have t1 := run_sliceBound (P := P) (w := w) kh mh u.length .sliceAlen (by omega) b2
   have t2 := run_sliceBound (P := P) (w := w) kl ml mh.toNat .sliceB b0 (by omega)
   simp [execOp, Instr.sliceAt, Instr.slice, h _ _ hx, e1, e2, asV, run_underlying ht, Instr.sliceBounds, loV, hiV, hsz, hex, t1, t2]
theorem Own.cut {e sz c c' lo hi : Nat} {ad : Option Addr} {vs : List Value} (O : Own w e sz (.slice ad c c') c vs) (h1 : lo ≤ hi) (h2 : hi ≤ c) : Own w e sz (.slice (adS ad c' lo sz) (hi - lo) (c' - lo)) (hi - lo) ((vs.drop (lo * sz)).take ((hi - lo) * sz)) := by
 have hl := O.1
 have hle : hi * sz ≤ c * sz := Nat.mul_le_mul_right _ h2
 have hle2 : lo * sz ≤ hi * sz := Nat.mul_le_mul_right _ h1
 rcases O.2 with ⟨h0, h0'⟩ | ⟨g, o, cc, cs, hv, hB, hc1, hc2, hc3, hc4⟩
 ·injection h0 with e1 e2 e3
  subst e1; subst e3
  have : lo = 0 := by omega
  subst this
  have : hi = 0 := by omega
  subst this
  have : vs = [] := List.eq_nil_of_length_eq_zero (by rw [hl, h0', Nat.zero_mul])
  subst this
  simpa [adS] using Own.nil w e sz
 ·injection hv with e1 e2 e3
  subst e1; subst e3
  refine ⟨by rw [List.length_take, List.length_drop, hl, Nat.sub_mul]; omega, .inr ?_⟩
  unfold adS
  by_cases hlo : c' = lo
  ·have hhi : hi = lo := by omega
   subst hhi; subst hlo
   exact ⟨g, o, 0, cs, by simp, hB, by omega, by simp [maxLen], by omega, by simp⟩
  ·refine ⟨g, o + lo * sz, c' - lo, cs, by simp [hlo, Addr.add_lit], hB, by omega, by omega, by rw [Nat.sub_mul]; have : lo * sz ≤ c' * sz := Nat.mul_le_mul_right _ (by omega); omega, ?_⟩
   rw [← hc4, List.drop_take, List.take_take, List.drop_drop]
   congr 1
   rw [Nat.sub_mul]
   omega
theorem Rep.cut {A : List Nat} {sz c c' lo hi : Nat} {ad : Option Addr} {rows : List (List D)} (h : Rep A w (.sl sz rows) (.slice ad c c')) (h1 : lo ≤ hi) (h2 : hi ≤ c) : Rep A w (.sl sz ((rows.drop lo).take (hi - lo))) (.slice (adS ad c' lo sz) (hi - lo) (c' - lo)) := by
 have h' := h
 simp only [Rep] at h ⊢
 obtain ⟨ad', c'', e, h4, h5, h6⟩ := h
 injection e with e1 e2 e3
 subst e1; subst e3
 have hlen : ((rows.drop lo).take (hi - lo)).length = hi - lo := by simp; omega
 refine ⟨_, _, by rw [hlen], by rw [hlen]; omega, by omega, fun hn => ?_⟩
 have hlt : lo < hi := by
  rcases Nat.lt_or_ge lo hi with h7 | h7
  ·exact h7
  ·exact absurd (List.eq_nil_of_length_eq_zero (by rw [hlen]; omega)) hn
 obtain ⟨a, ha, hA, hb, hr⟩ := h6 (by intro he; subst he; simp at h1 h2 e2; omega)
 subst ha
 have : ¬ c' = lo := by omega
 refine ⟨a.add (lo * sz), by simp [adS, this], by rw [add_block]; exact hA, by rw [add_block]; exact hb, RepRows.of_rows fun j r hj => ?_⟩
 have hj' : rows[lo + j]? = some r := by
  rw [List.getElem?_take] at hj
  split at hj
  ·simpa using hj
  ·cases hj
 have := hr.row (lo + j) r hj'
 rw [Nat.zero_add] at this
 rw [Nat.zero_add, Addr.add_add, ← Nat.add_mul]
 exact this

/-! ### copy, make -/
/-! ### bytes and strings -/
theorem o_b2s {e : Nat} {v : Value} {u : List UInt8} (hs : P.underlying t = some (.slice e)) (he : P.underlying e = some (.int .u8)) (hd : P.underlying t' = some .string) (hx : evO l x = some v) (O : Src P 1 t v u.length (u.map B8) w) (hv : (∃ c, v = .slice none 0 c) ∨ ∃ a c, v = .slice (some a) u.length c ∧ Cs w a (u.map B8)) :
  Runs P l ⟨dd, .convert t t' x, ty, pos, af, gg⟩ w (S u) w := fun ρ h => by
 rcases hv with ⟨c, rfl⟩ | ⟨a, c, rfl, hc⟩
 ·have hu : u = [] := by
   have := O.len w
   simp [Builtin.lenOf] at this
   exact List.eq_nil_of_length_eq_zero this.symm
  subst hu
  have := run_convert_bytes_nil w t e hs he 0 c t' hd
  simp [execOp, h _ _ hx, this]
  rfl
 ·have := run_convert_bytes_back (P := P) w t t' e a c u hs he hd (fun j hj => hc j _ (by simp [hj, B8]))
  simp [execOp, h _ _ hx, this]
theorem o_b2s_own {e e' : Nat} {v : Value} {u : List UInt8} (hs : P.underlying t = some (.slice e)) (he : P.underlying e = some (.int .u8)) (hd : P.underlying t' = some .string) (hx : evO l x = some v) (O : Own w e' 1 v u.length (u.map B8)) :
  Runs P l ⟨dd, .convert t t' x, ty, pos, af, gg⟩ w (S u) w := by
 refine o_b2s hs he hd hx (Src.own hs O (fun x hx => by obtain ⟨c, _, rfl⟩ := List.mem_map.1 hx; rfl)) ?_
 obtain ⟨ad, c, h1, h2, h3⟩ := O.form
 subst h1
 cases ad with
 | none =>
  rcases O.2 with ⟨_, h0⟩ | ⟨g, o, c', cs, h1, _⟩
  ·rw [h0]
   exact .inl ⟨c, rfl⟩
  ·cases h1
 | some a => exact .inr ⟨a, c, rfl, O.cs⟩
def bytesD (u : List UInt8) : D := .sl 1 (u.map fun c => [.v (B8 c)])
theorem bytesD_flat {A : List Nat} {u : List UInt8} {vs : List Value} (h : Reps A w ((u.map fun c => [D.v (B8 c)]).flatten) vs) : vs = u.map B8 := by
 induction u generalizing vs with
 | nil => simpa [Reps] using h
 | cons c u ih =>
  simp only [List.map_cons, List.flatten_cons, List.singleton_append, Reps] at h
  obtain ⟨x, us, rfl, h1, h2⟩ := h
  rw [ih h2, h1.v_eq]
  rfl
theorem Src.bytes {A : List Nat} {tx e' : Nat} {u : List UInt8} {v : Value} (hk : P.underlying tx = some (.slice e')) (h : Rep A w (bytesD u) v) : Src P 1 tx v u.length (u.map B8) w := by
 obtain ⟨vs, h1, h2, h3⟩ := Src.rep (P := P) hk h
 rw [bytesD_flat h1] at h3
 simpa using h3
theorem Rep.byte {A : List Nat} {u : List UInt8} {ad : Option Addr} {c c' i : Nat} {b : UInt8} (h : Rep A w (bytesD u) (.slice ad c c')) (hi : u[i]? = some b) : ∃ a, ad = some a ∧ w.cell? (a.add (i * 1)) = some (B8 b) := by
 obtain ⟨a, us, h1, h2, h3, h4, _⟩ := Rep.at_ (i := i) (r := [.v (B8 b)]) h (by simp [hi])
 simp only [Reps] at h2
 obtain ⟨x, us', rfl, h5, rfl⟩ := h2
 refine ⟨a, h1, ?_⟩
 have := h4 0 x rfl
 rw [Addr.add_zero'] at this
 rw [this, h5.v_eq]
end
end Go.Proofs.YtknndpjacklkeaaGreatDoor.V

set_option linter.unusedVariables false
set_option linter.unusedSimpArgs false
namespace Go.Proofs.YtknndpjacklkeaaGreatDoor.V
open Go
/-! ## Regions that draw their order

Of each operation's value something is known that lasts in all later worlds; an operation uses what is known of those slots alone that it looks at. So one walk of the order of the text serves every order. -/

abbrev Kn := Nat → Option (Value → World → Prop)
def Kn.put (N : Kn) (o : Oper) (V : Value → World → Prop) : Kn := match o.dst with
 | some d => fun t => if t = d then some V else N t
 | none => N
def Kn.on (ops : Array Oper) (N : Kn) (o : Oper) (a : Act) (w : World) : Prop := ∀ t V, t ∈ o.looksAt ops → N t = some V → V (a.tmps.getD t undef) w
def Kn.all (N : Kn) (n : Nat) (a : Act) (w : World) : Prop := a.tmps.size = n ∧ ∀ t V, N t = some V → V (a.tmps.getD t undef) w

def TameUpon (P : Program) (R : World → World → Prop) (w : World) (V : Value → World → Prop) : Result Next → Prop
 | .ok (.value u) w' => R w w' ∧ V u w'
 | .ok .skip w' => R w w' ∧ V undef w'
 | .ok (.enter f args) w' => w' = w ∧ Calls P f args w (Ret fun v w'' => R w w'' ∧ V v w'')
 | _ => False

section
variable {P : Program} {ops : Array Oper} {md : Region.Mode} {R : World → World → Prop} {C : World → Prop} {n : Nat} {ds : List Deferred}

structure J (P : Program) (ops : Array Oper) (R : World → World → Prop) (C : World → Prop) (n : Nat) (N : Kn) (o : Oper) (V : Value → World → Prop) : Prop where
 lasts : ∀ v w w', R w w' → V v w → V v w'
 fits : ∀ d, o.dst = some d → d < n
 run : ∀ a w, C w → Kn.on ops N o a w →
  if Region.wanted o (yielded ops a.tmps) then TameUpon P R w V ((execOp a.eval o).run P w) else V undef w

def AnyT (P : Program) (md : Region.Mode) (ops : Array Oper) (R : World → World → Prop) (C : World → Prop) (n : Nat) (Fin : Kn → Prop) : Nat → Array Bool → Kn → Prop
 | 0, listed, N => Region.ready md ops listed = [] ∧ Fin N
 | fuel + 1, listed, N => (Region.ready md ops listed = [] → Fin N) ∧
  ∀ i ∈ Region.ready md ops listed, ∀ o, ops[i]? = some o → ∃ V, J P ops R C n N o V ∧ AnyT P md ops R C n Fin fuel (listed.setIfInBounds i true) (N.put o V)

structure Later (R : World → World → Prop) (C : World → Prop) : Prop where
 refl : ∀ w, R w w
 trans : ∀ a b c, R a b → R b c → R a c
 keeps : ∀ w w', R w w' → C w → C w'

theorem put_all {N : Kn} {o : Oper} {V : Value → World → Prop} {a : Act} {w w' : World} {v : Value} (hl : ∀ t U, N t = some U → ∀ v w w', R w w' → U v w → U v w') (hR : R w w') (hN : N.all n a w) (hV : V v w') (hd : ∀ d, o.dst = some d → d < n) : (N.put o V).all n (a.put o.dst v) w' := by
 unfold Kn.put
 cases ho : o.dst with
 | none => exact ⟨hN.1, fun t U hU => hl t U hU _ _ _ hR (hN.2 t U hU)⟩
 | some d =>
  refine ⟨by simp [Act.put, hN.1], fun t U hU => ?_⟩
  dsimp only at hU
  by_cases htd : t = d
  ·subst htd
   rw [if_pos rfl] at hU
   injection hU with hU
   subst hU
   have := hd t ho
   simp [Act.put, hN.1, this]
   exact hV
  ·rw [if_neg htd] at hU
   have := hl t U hU _ _ _ hR (hN.2 t U hU)
   simpa [Act.put, Array.getElem?_setIfInBounds_ne (Ne.symm htd)] using this

def Kn.lasts (R : World → World → Prop) (N : Kn) : Prop := ∀ t U, N t = some U → ∀ v w w', R w w' → U v w → U v w'
theorem Kn.lasts.put {N : Kn} (h : N.lasts R) {o : Oper} {V : Value → World → Prop} (hV : ∀ v w w', R w w' → V v w → V v w') : (N.put o V).lasts R := by
 intro t U hU
 unfold Kn.put at hU
 cases ho : o.dst with
 | none => rw [ho] at hU; exact h t U hU
 | some d =>
  rw [ho] at hU
  dsimp only at hU
  split at hU
  ·injection hU with hU; subst hU; exact hV
  ·exact h t U hU

theorem wpOp_of_J {o : Oper} {i : Nat} {N : Kn} {V : Value → World → Prop} {a : Act} {w : World} {Q : Exit → Act → World → Prop} {K : Act → World → Prop} (hL : Later R C) (hNl : N.lasts R) (hi : ops[i]? = some o) (hJ : J P ops R C n N o V) (hC : C w) (hN : N.all n a w)
  (hK : ∀ a' w', (a'.defers = a.defers) → C w' → R w w' → (N.put o V).all n a' w' → K a' w') : wpOp P ops Q i K a w := by
 unfold wpOp
 simp only [hi]
 have hr := hJ.run a w hC (fun t U _ hU => hN.2 t U hU)
 have hdef : ∀ v, (a.put o.dst v).defers = a.defers := fun v => by cases o.dst <;> rfl
 split
 ·rename_i hw
  rw [if_pos hw] at hr
  refine .inl ?_
  unfold Oper.wp
  generalize (execOp a.eval o).run P w = r at *
  cases r with
  | halt h w' => exact hr.elim
  | ok x w' =>
   cases x <;> simp only [TameUpon] at hr <;> simp only [Oper.upon]
   case value u => exact hK _ _ (hdef _) (hL.keeps _ _ hr.1 hC) hr.1 (put_all hNl hr.1 hN hr.2 hJ.fits)
   case skip => exact hK _ _ (hdef _) (hL.keeps _ _ hr.1 hC) hr.1 (put_all hNl hr.1 hN hr.2 hJ.fits)
   case enter f args =>
    obtain ⟨rfl, hc⟩ := hr
    refine hc.mono fun e w'' he => ?_
    cases e with
    | returned v => exact hK _ _ (hdef _) (hL.keeps _ _ he.1 hC) he.1 (put_all hNl he.1 hN he.2 hJ.fits)
    | panicked c => exact he.elim
    | outgrown => exact he.elim
 ·rename_i hw
  rw [if_neg hw] at hr
  exact hK _ _ (hdef _) hC (hL.refl w) (put_all hNl (hL.refl w) hN hr hJ.fits)

theorem wpAny_of_T {Q : Exit → Act → World → Prop} {Fin : Kn → Prop} {w0 : World} {ds : List Deferred} (hL : Later R C)
  (hFin : ∀ N a w, N.lasts R → a.defers = ds → C w → R w0 w → N.all n a w → Fin N → Q .normal a w) : ∀ (fuel : Nat) (listed : Array Bool) (N : Kn) (a : Act) (w : World), N.lasts R → a.defers = ds → C w → R w0 w → N.all n a w →
  AnyT P md ops R C n Fin fuel listed N → wpAny P md ops Q fuel listed a w
 | 0, listed, N, a, w, h0, h1, h2, h3, h4, h => ⟨h.1, hFin N a w h0 h1 h2 h3 h4 h.2⟩
 | fuel + 1, listed, N, a, w, h0, h1, h2, h3, h4, h => by
  refine ⟨fun hr => hFin N a w h0 h1 h2 h3 h4 (h.1 hr), fun i hi => ?_⟩
  obtain ⟨_, o, ho, _⟩ := mem_ready.1 hi
  obtain ⟨V, hJ, hrest⟩ := h.2 i hi o ho
  exact wpOp_of_J hL h0 ho hJ h2 h4 fun a' w' hd hC hR hN => wpAny_of_T hL hFin fuel _ _ a' w' (h0.put hJ.lasts) (hd.trans h1) hC (hL.trans _ _ _ h3 hR) hN hrest

theorem J.past {N : Kn} {o o' : Oper} {V V' : Value → World → Prop} (h : J P ops R C n (N.put o' V') o V) (hn : ∀ d, o'.dst = some d → d ∉ o.looksAt ops) : J P ops R C n N o V := by
 refine ⟨h.lasts, h.fits, fun a w hC hN => h.run a w hC fun t U ht hU => ?_⟩
 unfold Kn.put at hU
 cases hd : o'.dst with
 | none => rw [hd] at hU; exact hN t U ht hU
 | some d =>
  rw [hd] at hU
  dsimp only at hU
  split at hU
  ·rename_i he; subst he; exact absurd ht (hn _ hd)
  ·exact hN t U ht hU
theorem J.ahead {N : Kn} {o o' : Oper} {V V' : Value → World → Prop} (h : J P ops R C n N o V) (hn : ∀ d, o'.dst = some d → d ∉ o.looksAt ops) : J P ops R C n (N.put o' V') o V := by
 refine ⟨h.lasts, h.fits, fun a w hC hN => h.run a w hC fun t U ht hU => ?_⟩
 refine hN t U ht ?_
 unfold Kn.put
 cases hd : o'.dst with
 | none => exact hU
 | some d =>
  dsimp only
  rw [if_neg (fun he => by subst he; exact hn _ hd ht)]
  exact hU
theorem Kn.put_comm (N : Kn) {o o' : Oper} (V V' : Value → World → Prop) (h : ∀ d, o.dst = some d → o'.dst ≠ some d) : (N.put o V).put o' V' = (N.put o' V').put o V := by
 unfold Kn.put
 cases ho : o.dst with
 | none => cases o'.dst <;> rfl
 | some d =>
  cases ho' : o'.dst with
  | none => rfl
  | some d' =>
   have hne : d' ≠ d := fun e => h d ho (by rw [ho', e])
   funext t
   dsimp only
   by_cases h1 : t = d
   ·subst h1
    by_cases h2 : t = d'
    ·exact absurd h2.symm hne
    ·simp [h2]
   ·simp [h1]

theorem AnyT_first {Fin : Kn → Prop} {i : Nat} {oi : Oper} {V : Value → World → Prop} (hi : ops[i]? = some oi) :
  ∀ (fuel : Nat) (listed : Array Bool) (N : Kn),
   (∀ j oj, ops[j]? = some oj → j ≠ i → listed.getD j true = false → (∀ e ∈ oj.after, Region.binds md e = true → e.on ≠ i) → oi.apart ops oj = true) →
   i ∈ Region.ready md ops listed → J P ops R C n N oi V →
   AnyT P md ops R C n Fin fuel (listed.setIfInBounds i true) (N.put oi V) → AnyT P md ops R C n Fin (fuel + 1) listed N := by
 intro fuel
 induction fuel with
 | zero =>
  intro listed N _ hr hJ H
  refine ⟨fun h => (by rw [h] at hr; cases hr), fun j hj o ho => ?_⟩
  by_cases hji : j = i
  ·subst hji
   have : o = oi := Option.some.inj (ho.symm.trans hi)
   subst this
   exact ⟨V, hJ, H⟩
  ·have := ready_mono hj hji
   rw [H.1] at this
   cases this
 | succ fuel ih =>
  intro listed N hfree hr hJ H
  refine ⟨fun h => (by rw [h] at hr; cases hr), fun j hj o ho => ?_⟩
  by_cases hji : j = i
  ·subst hji
   have : o = oi := Option.some.inj (ho.symm.trans hi)
   subst this
   exact ⟨V, hJ, H⟩
  ·obtain ⟨Vj, hJj, hrest⟩ := H.2 j (ready_mono hj hji) o ho
   obtain ⟨hjun, oj, hoj, hall⟩ := mem_ready.1 hj
   have : o = oj := Option.some.inj (ho.symm.trans hoj)
   subst this
   have hnot : ∀ e ∈ o.after, Region.binds md e = true → e.on ≠ i := fun e he hb heq => by
    have h1 := hall e he hb
    have h0 := (mem_ready.1 hr).1
    rw [heq] at h1
    rcases Nat.lt_or_ge i listed.size with h' | h'
    ·simp [h'] at h0 h1; rw [h0] at h1; cases h1
    ·simp [Array.getElem?_eq_none h'] at h1
   obtain ⟨a1, a2, a3⟩ := Oper.apart_spec (hfree j o hoj hji hjun hnot)
   refine ⟨Vj, hJj.past a1, ih (listed.setIfInBounds j true) (N.put o Vj) (fun k ok hk hki hun hno => ?_) (ready_mono hr (Ne.symm hji)) (hJ.ahead a3) ?_⟩
   ·refine hfree k ok hk hki ?_ hno
    by_cases hjk : j = k
    ·subst hjk; exact hjun
    ·rw [getD_set_ne true hjk] at hun; exact hun
   ·rw [Array.setIfInBounds_comm _ _ hji, ← Kn.put_comm N V Vj a2]
    exact hrest

def TW (P : Program) (ops : Array Oper) (R : World → World → Prop) (C : World → Prop) (n : Nat) (Fin : Kn → Prop) : List Oper → Kn → Prop
 | [], N => Fin N
 | o :: rest, N => ∃ V, J P ops R C n N o V ∧ TW P ops R C n Fin rest (N.put o V)

theorem AnyT_lex {Fin : Kn → Prop} : ∀ (l : List Oper) (k : Nat) (listed : Array Bool) (N : Kn), (∀ j, l[j]? = ops[k + j]?) →
  Region.lexFrom md ops l.length k listed = true → TW P ops R C n Fin l N → AnyT P md ops R C n Fin l.length listed N
 | [], _, _, _, _, hB, h => ⟨by simpa [Region.lexFrom] using hB, h⟩
 | o :: l, k, listed, N, hl, hB, h => by
  have h0 : ops[k]? = some o := by simpa using (hl 0).symm
  simp only [List.length_cons, Region.lexFrom, Bool.and_eq_true] at hB
  obtain ⟨⟨hr, hf⟩, hB'⟩ := hB
  obtain ⟨V, hJ, hrest⟩ := h
  exact AnyT_first h0 l.length listed N (Region.free_spec h0 hf) (by simpa using hr) hJ
   (AnyT_lex l (k + 1) _ _ (fun j => by have := hl (j + 1); simpa [Nat.add_assoc, Nat.add_comm 1 j] using this) hB' hrest)

/-! ### .. with operations behind it that come one behind the other -/
def AnyTL (P : Program) (md : Region.Mode) (ops : Array Oper) (R : World → World → Prop) (C : World → Prop) (n m : Nat) (L : Array Bool → Kn → Prop) : Nat → Array Bool → Kn → Prop
 | 0, listed, N => L listed N
 | f + 1, listed, N => Region.ready md ops listed ≠ [] ∧
  ∀ i ∈ Region.ready md ops listed, i < m ∧ ∀ o, ops[i]? = some o → ∃ V, J P ops R C n N o V ∧ AnyTL P md ops R C n m L f (listed.setIfInBounds i true) (N.put o V)

theorem wpAny_of_TL {Q : Exit → Act → World → Prop} {L : Array Bool → Kn → Prop} {w0 : World} {ds : List Deferred} {m g : Nat} (hL : Later R C)
  (hFin : ∀ listed N a w, N.lasts R → a.defers = ds → C w → R w0 w → N.all n a w → L listed N → wpAny P md ops Q g listed a w) : ∀ (f : Nat) (listed : Array Bool) (N : Kn) (a : Act) (w : World), N.lasts R → a.defers = ds → C w → R w0 w → N.all n a w →
  AnyTL P md ops R C n m L f listed N → wpAny P md ops Q (f + g) listed a w
 | 0, listed, N, a, w, h0, h1, h2, h3, h4, h => by rw [Nat.zero_add]; exact hFin listed N a w h0 h1 h2 h3 h4 h
 | f + 1, listed, N, a, w, h0, h1, h2, h3, h4, h => by
  rw [show f + 1 + g = (f + g) + 1 by omega]
  refine ⟨fun hr => absurd hr h.1, fun i hi => ?_⟩
  obtain ⟨_, o, ho, _⟩ := mem_ready.1 hi
  obtain ⟨V, hJ, hrest⟩ := (h.2 i hi).2 o ho
  exact wpOp_of_J hL h0 ho hJ h2 h4 fun a' w' hd hC hR hN => wpAny_of_TL hL hFin f _ _ a' w' (h0.put hJ.lasts) (hd.trans h1) hC (hL.trans _ _ _ h3 hR) hN hrest

theorem AnyTL_first {m i : Nat} {oi : Oper} {V : Value → World → Prop} {L : Array Bool → Kn → Prop} (hi : ops[i]? = some oi)
  (hs : Region.sinkB md ops m = true) (hc : Region.chainB md ops m = true) (hn : m < ops.size) (hin : i < m)
  (hdone : ∀ listed N, L listed N → ∀ j ∈ Region.ready md ops listed, m ≤ j) :
  ∀ (f : Nat) (listed : Array Bool) (N : Kn), HeadInv md ops m listed →
   (∀ j oj, ops[j]? = some oj → j ≠ i → listed.getD j true = false → (∀ e ∈ oj.after, Region.binds md e = true → e.on ≠ i) → oi.apart ops oj = true) →
   i ∈ Region.ready md ops listed → J P ops R C n N oi V →
   AnyTL P md ops R C n m L f (listed.setIfInBounds i true) (N.put oi V) → AnyTL P md ops R C n m L (f + 1) listed N := by
 intro f
 induction f with
 | zero =>
  intro listed N inv _ hr hJ H
  have hun := (mem_ready.1 hr).1
  refine ⟨fun h => (by rw [h] at hr; cases hr), fun j hj => ?_⟩
  have hjn : j < m := by
   rcases Nat.lt_or_ge j m with h | h
   ·exact h
   ·exact absurd hj (tail_waits hs hc hn inv _ i rfl hin hun j h)
  refine ⟨hjn, fun o ho => ?_⟩
  by_cases hji : j = i
  ·subst hji
   have : o = oi := Option.some.inj (ho.symm.trans hi)
   subst this
   exact ⟨V, hJ, H⟩
  ·have := hdone _ _ H j (ready_mono hj hji)
   omega
 | succ f ih =>
  intro listed N inv hfree hr hJ H
  have hun := (mem_ready.1 hr).1
  refine ⟨fun h => (by rw [h] at hr; cases hr), fun j hj => ?_⟩
  have hjn : j < m := by
   rcases Nat.lt_or_ge j m with h | h
   ·exact h
   ·exact absurd hj (tail_waits hs hc hn inv _ i rfl hin hun j h)
  refine ⟨hjn, fun o ho => ?_⟩
  by_cases hji : j = i
  ·subst hji
   have : o = oi := Option.some.inj (ho.symm.trans hi)
   subst this
   exact ⟨V, hJ, H⟩
  ·obtain ⟨Vj, hJj, hrest⟩ := (H.2 j (ready_mono hj hji)).2 o ho
   obtain ⟨hjun, oj, hoj, hall⟩ := mem_ready.1 hj
   have : o = oj := Option.some.inj (ho.symm.trans hoj)
   subst this
   have hnot : ∀ e ∈ o.after, Region.binds md e = true → e.on ≠ i := fun e he hb heq => by
    have h1 := hall e he hb
    rw [heq, getD_both hun] at h1
    cases h1
   obtain ⟨a1, a2, a3⟩ := Oper.apart_spec (hfree j o hoj hji hjun hnot)
   refine ⟨Vj, hJj.past a1, ih (listed.setIfInBounds j true) (N.put o Vj) (inv.set hj hjn) (fun k ok hk hki hun hno => ?_) (ready_mono hr (Ne.symm hji)) (hJ.ahead a3) ?_⟩
   ·refine hfree k ok hk hki ?_ hno
    by_cases hjk : j = k
    ·subst hjk; exact hjun
    ·rw [getD_set_ne true hjk] at hun; exact hun
   ·rw [Array.setIfInBounds_comm _ _ hji, ← Kn.put_comm N V Vj a2]
    exact hrest

theorem AnyTL_lex {m g : Nat} {Fin : Kn → Prop} (hs : Region.sinkB md ops m = true) (hc : Region.chainB md ops m = true) (hn : m < ops.size) :
  ∀ (l : List Oper) (k : Nat) (listed : Array Bool) (N : Kn), (∀ j, j < l.length → l[j]? = ops[k + j]?) → k + l.length = m → HeadInv md ops m listed →
  Region.lexHead md ops g l.length k listed = true → TW P ops R C n Fin l N →
  AnyTL P md ops R C n m (fun listed' N' => Region.seqB md ops g m listed' = true ∧ Fin N') l.length listed N
 | [], k, listed, N, _, hk, _, hB, h => by
  have : k = m := by simpa using hk
  subst this
  exact ⟨by simpa [Region.lexHead] using hB, h⟩
 | o :: l, k, listed, N, hl, hk, inv, hB, h => by
  have h0 : ops[k]? = some o := by simpa using (hl 0 (by simp)).symm
  simp only [List.length_cons, Region.lexHead, Bool.and_eq_true] at hB
  obtain ⟨⟨hr, hf⟩, hB'⟩ := hB
  have hkn : k < m := by simp only [List.length_cons] at hk; omega
  have hr' : k ∈ Region.ready md ops listed := by simpa using hr
  obtain ⟨V, hJ, hrest⟩ := h
  exact AnyTL_first h0 hs hc hn hkn (fun listed' N' hL => seqB_ready hL.1) l.length listed N inv (Region.free_spec h0 hf) hr' hJ
   (AnyTL_lex hs hc hn l (k + 1) _ _ (fun j hj => by have := hl (j + 1) (by simp; omega); simpa [Nat.add_assoc, Nat.add_comm 1 j] using this) (by simp only [List.length_cons] at hk; omega) (inv.set hr' hkn) hB' hrest)
end
end Go.Proofs.YtknndpjacklkeaaGreatDoor.V

set_option linter.unusedVariables false
set_option linter.unusedSimpArgs false
namespace Go.Proofs.YtknndpjacklkeaaGreatDoor.V
open Go
def lkM (t : Nat) : List (Nat × (Value → World → Prop)) → Option (Value → World → Prop)
 | [] => none
 | (s, v) :: r => match Nat.beq s t with
  | true => some v
  | false => lkM t r
def kn (l : List (Nat × Value)) (M : List (Nat × (Value → World → Prop))) : Kn := fun t => match lk t l with
 | some v => some fun u _ => u = v
 | none => lkM t M

section
variable {P : Program} {ops : Array Oper} {Q : Exit → Act → World → Prop} {n : Nat} {ds : List Deferred} {l : List (Nat × Value)} {M : List (Nat × (Value → World → Prop))} {w w' : World} {a : Act}
variable {rest : List Oper} {d : Nat} {op : Op} {ty : TypeId} {pos : String} {af : Array Edge} {Fin : Kn → Prop}

theorem later (w : World) : Later (Mod []) (Mod [] w) := ⟨Mod.refl [], fun _ _ _ h k => h.trans k, fun _ _ h k => k.trans h⟩

abbrev TWL (P : Program) (ops : Array Oper) (w : World) (n : Nat) (Fin : Kn → Prop) (rest : List Oper) (l : List (Nat × Value)) (M : List (Nat × (Value → World → Prop))) : Prop := TW P ops (Mod []) (Mod [] w) n Fin rest (kn l M)

def FinW (Q : Exit → Act → World → Prop) (n : Nat) (ds : List Deferred) (w : World) (N : Kn) : Prop := ∀ a w', a.defers = ds → Mod [] w w' → N.all n a w' → Q .normal a w'

theorem kn_lasts (l : List (Nat × Value)) : (kn l []).lasts (Mod []) := by
 intro t U hU
 unfold kn at hU
 split at hU
 ·injection hU with hU; subst hU; exact fun _ _ _ _ h => h
 ·simp [lkM] at hU
theorem kn_all {l : List (Nat × Value)} (ha : Has n ds l a) : (kn l []).all n a w := by
 refine ⟨ha.size, fun t U hU => ?_⟩
 unfold kn at hU
 split at hU
 ·rename_i v hv
  injection hU with hU
  subst hU
  simp [ha.get t v hv]
 ·simp [lkM] at hU

theorem c_draw {id : Nat} {lo : List Oper} (hm : P.follows .mixedOrders = true) (hB : Region.lexB .any lo.toArray = true) (h : TWL P lo.toArray w n (FinW Q n ds w) lo l []) : WC P (.region id lo.toArray true) Q n ds l w := by
 intro a ha
 simp only [Region.lexB, Bool.and_eq_true] at hB
 refine wp_region_any hm (wpAny_of_T (n := n) (ds := ds) (w0 := w) (Fin := FinW Q n ds w) (later w) (fun N a w' _ hd hC _ hN hF => hF a w' hd hC hN) _ _ (kn l []) a _ (kn_lasts l) ha.defers (Mod.drew [] w) (Mod.drew [] w) (kn_all ha) ?_)
 have := AnyT_lex (md := .any) lo 0 (Array.replicate lo.toArray.size false) (kn l []) (by simp) (by simpa using hB.2) h
 simpa using this

theorem c_drawt {id : Nat} {lo : List Oper} (m : Nat) (hm : P.follows .mixedOrders = true) (hB : Region.lexTailB .any lo.toArray m = true)
  (h : TWL P lo.toArray w n (fun N => ∀ a w', a.defers = ds → Mod [] w w' → N.all n a w' → wpList P lo.toArray Q (lo.drop m) a w') (lo.take m) l []) : WC P (.region id lo.toArray true) Q n ds l w := by
 intro a ha
 simp only [Region.lexTailB, Bool.and_eq_true, decide_eq_true_eq] at hB
 obtain ⟨⟨⟨⟨hsel, hn⟩, hs⟩, hc⟩, hlex⟩ := hB
 have hn' : m < lo.length := by simpa using hn
 have htl : (lo.take m).length = m := by simp; omega
 have hdl : (lo.drop m).length = lo.toArray.size - m := by simp
 have inv0 : HeadInv .any lo.toArray m (Array.replicate lo.toArray.size false) :=
  ⟨by simp, fun j oj _ hl => (by rw [getD_replicate_false] at hl; cases hl), fun t _ ht => getD_in (by simpa using ht) (getD_replicate_false _ _)⟩
 have H := AnyTL_lex (md := .any) (g := lo.toArray.size - m) hs hc hn (lo.take m) 0 _ (kn l []) (fun j hj => by
  have hj' : j < m := by rw [htl] at hj; exact hj
  simp [hj']) (by simpa using htl) inv0 (by rw [htl]; exact hlex) h
 refine wp_region_any hm ?_
 have := wpAny_of_TL (n := n) (ds := ds) (w0 := w) (Q := Q) (g := lo.toArray.size - m) (later w) (fun listed N a w' _ hd hC _ hN hL => by
  have := wpAny_of_seq (md := .any) (Q' := Q) (lo.drop m) m listed a w' (fun j => by simp [List.getElem?_drop]) (by rw [hdl]; exact hL.1) (hL.2 a w' hd hC hN)
  rwa [hdl] at this) _ _ (kn l []) a _ (kn_lasts l) ha.defers (Mod.drew [] w) (Mod.drew [] w) (kn_all ha) H
 rw [htl, show m + (lo.toArray.size - m) = lo.toArray.size by omega] at this
 exact this

theorem kn_has {l : List (Nat × Value)} {M : List (Nat × (Value → World → Prop))} (hd : a.defers = ds) (h : (kn l M).all n a w) : Has n ds (l.filter fun p => decide (p.1 < n)) a := by
 refine ⟨h.1, hd, fun t v hv => ?_⟩
 have hlt : t < n := by
  clear h
  induction l with
  | nil => simp [lk] at hv
  | cons p r ih =>
   obtain ⟨s, u⟩ := p
   by_cases hs : s < n
   ·simp only [List.filter_cons, hs, decide_true, if_true, lk] at hv
    cases hb : Nat.beq s t with
    | true => have := Nat.eq_of_beq_eq_true hb; omega
    | false => rw [hb] at hv; exact ih hv
   ·simp only [List.filter_cons, hs, decide_false] at hv
    exact ih hv
 have hv' : lk t l = some v := by
  clear h
  induction l with
  | nil => simp [lk] at hv
  | cons p r ih =>
   obtain ⟨s, u⟩ := p
   by_cases hs : s < n
   ·simp only [List.filter_cons, hs, decide_true, if_true, lk] at hv ⊢
    cases hb : Nat.beq s t with
    | true => rw [hb] at hv; exact hv
    | false => rw [hb] at hv; exact ih hv
   ·simp only [List.filter_cons, hs, decide_false] at hv
    simp only [lk]
    cases hb : Nat.beq s t with
    | true => have := Nat.eq_of_beq_eq_true hb; omega
    | false => exact ih hv
 have := h.2 t (fun u _ => u = v) (by simp [kn, hv'])
 rw [← h.1] at hlt
 simp [hlt] at this
 simp [hlt, this]

def fitB (n : Nat) : List (Nat × Value) → Bool
 | [] => true
 | (t, _) :: r => Nat.blt t n && fitB n r
theorem fitB_filter {n : Nat} : ∀ {l : List (Nat × Value)}, fitB n l = true → (l.filter fun p => decide (p.1 < n)) = l
 | [], _ => rfl
 | (t, v) :: r, h => by
  simp only [fitB, Bool.and_eq_true, Nat.blt_eq] at h
  simp [List.filter_cons, h.1, fitB_filter h.2]
theorem tw_nil (hf : fitB n l = true) (h : ∀ w', Mod [] w w' → WE Q .normal n ds l w') : TWL P ops w n (FinW Q n ds w) [] l M := by
 intro a w' hd hC hN
 have := kn_has hd hN
 rw [fitB_filter hf] at this
 exact h w' hC a this
theorem tw_tail {rest' : List Oper} (hf : fitB n l = true) (h : ∀ w', Mod [] w w' → WL P ops Q rest' n ds l w') : TWL P ops w n (fun N => ∀ a w', a.defers = ds → Mod [] w w' → N.all n a w' → wpList P ops Q rest' a w') [] l M := by
 intro a w' hd hC hN
 have := kn_has hd hN
 rw [fitB_filter hf] at this
 exact h w' hC a this
theorem tw_tail1 {rest' : List Oper} {t : Nat} {V : Value → World → Prop} (hf : fitB n l = true) (ht : lk t l = none) (hM : lkM t M = some V) (htn : Nat.blt t n = true) (h : ∀ w' v, Mod [] w w' → V v w' → WL P ops Q rest' n ds ((t, v) :: l) w') :
  TWL P ops w n (fun N => ∀ a w', a.defers = ds → Mod [] w w' → N.all n a w' → wpList P ops Q rest' a w') [] l M := by
 intro a w' hd hC hN
 have h1 := kn_has hd hN
 rw [fitB_filter hf] at h1
 have htn' : t < a.tmps.size := by rw [hN.1]; simpa [Nat.blt_eq] using htn
 have h2 := hN.2 t V (by simp [kn, ht, hM])
 have h3 : a.tmps.getD t undef = a.tmps[t] := by simp [htn']
 rw [h3] at h2
 refine h w' _ hC h2 a ⟨h1.size, h1.defers, fun s v hv => ?_⟩
 simp only [lk] at hv
 cases hb : Nat.beq t s with
 | true =>
  rw [hb] at hv
  have := Nat.eq_of_beq_eq_true hb
  subst this
  injection hv with hv
  subst hv
  simp [htn']
 | false => rw [hb] at hv; exact h1.get s v hv

def notSel : Op → Bool
 | .select .. => false
 | _ => true
theorem J_of {V : Value → World → Prop} (hV : ∀ v w1 w2, Mod [] w1 w2 → V v w1 → V v w2) (hd : Nat.blt d n = true) (hs : notSel op = true)
  (hr : ∀ (ρ : Operand → Value) w1, Mod [] w w1 → (∀ x u, evO l x = some u → ρ x = u) → (∀ t U, lk t l = none → lkM t M = some U → (∃ x ∈ op.operands.toList, x = .tmp t) → U (ρ (.tmp t)) w1) →
   TameUpon P (Mod []) w1 V ((execOp ρ ⟨some d, op, ty, pos, af, none⟩).run P w1)) :
  J P ops (Mod []) (Mod [] w) n (kn l M) ⟨some d, op, ty, pos, af, none⟩ V := by
 refine ⟨hV, fun d' hd' => by injection hd' with hd'; subst hd'; simpa [Nat.blt_eq] using hd, fun a w1 hC hN => ?_⟩
 rw [if_pos (by simp [Region.wanted])]
 let ρ : Operand → Value := fun x => match evO l x with
  | some u => u
  | none => a.eval x
 have hlook : ∀ t, (∃ x ∈ op.operands.toList, x = .tmp t) → t ∈ Oper.looksAt ops ⟨some d, op, ty, pos, af, none⟩ := by
  rintro t ⟨x, hx, rfl⟩
  unfold Oper.looksAt
  exact List.mem_append_left _ (List.mem_filterMap.2 ⟨.tmp t, hx, rfl⟩)
 have hρ : ∀ x ∈ op.operands, a.eval x = ρ x := by
  intro x hx
  show a.eval x = match evO l x with | some u => u | none => a.eval x
  cases hv : evO l x with
  | none => rfl
  | some u =>
   cases x with
   | tmp t =>
    have := hN t (fun u' _ => u' = u) (hlook t ⟨_, by simpa using hx, rfl⟩) (by simp only [evO] at hv; simp [kn, hv])
    simpa [Act.eval] using this
   | const c => simp only [evO] at hv; injection hv
   | global g => simp only [evO] at hv; injection hv
   | func f => simp only [evO] at hv; injection hv
 have he := execOp_congr ⟨some d, op, ty, pos, af, none⟩ (fun cs b h => by dsimp only at h; rw [h] at hs; simp [notSel] at hs) hρ
 rw [he]
 refine hr ρ w1 hC (fun x u hx => ?_) (fun t U ht hU hx => ?_)
 ·show (match evO l x with | some u => u | none => a.eval x) = u
  rw [hx]
 ·have h1 := hN t U (hlook t hx) (by simp [kn, ht, hU])
  show U (match evO l (.tmp t) with | some u => u | none => a.eval (.tmp t)) w1
  simp only [evO, ht]
  simpa [Act.eval] using h1

theorem kn_put_v {o : Oper} (hd : o.dst = some d) (v : Value) : (kn l M).put o (fun u _ => u = v) = kn ((d, v) :: l) M := by
 funext t
 unfold Kn.put kn
 simp only [hd, lk]
 by_cases h : t = d
 ·subst h; simp
 ·have : Nat.beq d t = false := by
   cases hb : Nat.beq d t
   ·rfl
   ·exact absurd (Nat.eq_of_beq_eq_true hb).symm h
  simp [h, this]
theorem kn_put_r {o : Oper} (hd : o.dst = some d) (hl : lk d l = none) (V : Value → World → Prop) : (kn l M).put o V = kn l ((d, V) :: M) := by
 funext t
 unfold Kn.put kn
 simp only [hd, lkM]
 by_cases h : t = d
 ·subst h; simp [hl]
 ·have : Nat.beq d t = false := by
   cases hb : Nat.beq d t
   ·rfl
   ·exact absurd (Nat.eq_of_beq_eq_true hb).symm h
  simp [h, this]

theorem tv {v : Value} (hr : ∀ w1, Mod [] w w1 → Runs P l ⟨some d, op, ty, pos, af, none⟩ w1 v w1) (hd : Nat.blt d n = true) (hs : notSel op = true) (h : TWL P ops w n Fin rest ((d, v) :: l) M) :
  TWL P ops w n Fin (⟨some d, op, ty, pos, af, none⟩ :: rest) l M := by
 refine ⟨fun u _ => u = v, J_of (fun _ _ _ _ h => h) hd hs fun ρ w1 hC h1 h2 => ?_, ?_⟩
 ·rw [hr w1 hC ρ h1]; exact ⟨Mod.refl [] w1, rfl⟩
 ·rw [kn_put_v rfl]; exact h
theorem tr (V : Value → World → Prop) (hV : ∀ v w1 w2, Mod [] w1 w2 → V v w1 → V v w2) (hr : ∀ w1, Mod [] w w1 → ∃ v w2, Runs P l ⟨some d, op, ty, pos, af, none⟩ w1 v w2 ∧ Mod [] w1 w2 ∧ V v w2) (hd : Nat.blt d n = true) (hs : notSel op = true) (hl : lk d l = none)
  (h : TWL P ops w n Fin rest l ((d, V) :: M)) : TWL P ops w n Fin (⟨some d, op, ty, pos, af, none⟩ :: rest) l M := by
 refine ⟨V, J_of hV hd hs fun ρ w1 hC h1 h2 => ?_, ?_⟩
 ·obtain ⟨v, w2, e, hm, hv⟩ := hr w1 hC
  rw [e ρ h1]
  exact ⟨hm, hv⟩
 ·rw [kn_put_r rfl hl]; exact h
theorem tc {f : FuncId} {args : Array Value} {v : Value} (hr : ∀ w1, Mod [] w w1 → RunsC P l ⟨some d, op, ty, pos, af, none⟩ w1 f args) (hc : ∀ w1, Mod [] w w1 → Calls P f args w1 (Ret fun u w2 => u = v ∧ Mod [] w1 w2)) (hd : Nat.blt d n = true) (hs : notSel op = true) (h : TWL P ops w n Fin rest ((d, v) :: l) M) :
  TWL P ops w n Fin (⟨some d, op, ty, pos, af, none⟩ :: rest) l M := by
 refine ⟨fun u _ => u = v, J_of (fun _ _ _ _ h => h) hd hs fun ρ w1 hC h1 h2 => ?_, ?_⟩
 ·rw [hr w1 hC ρ h1]
  exact ⟨rfl, (hc w1 hC).mono fun e w2 he => by cases e <;> first | exact ⟨he.2, he.1⟩ | exact he⟩
 ·rw [kn_put_v rfl]; exact h
end
end Go.Proofs.YtknndpjacklkeaaGreatDoor.V
