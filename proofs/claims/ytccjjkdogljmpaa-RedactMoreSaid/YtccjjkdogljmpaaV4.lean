/-
  A part of the proof: walks of functions, and the plain laws of what they compute. No condition of its own.
-/
import Derived.Test.YtccjjkdogljmpaaV3
import Derived.Lib.ConvBytes
import Derived.Laws.BytesArg
set_option linter.unusedVariables false
set_option linter.unusedSimpArgs false
namespace Go.Proofs.Ytccjjkdogljmpaa.V
open Go
/-! ## Slices of the call's own -/
/-- the block of a slice -/
def ob : Value → List Nat
  | .slice (some a) _ _ => [a.block]
  | _ => []
/-- 'v' is a slice of 'n' elements of 'sz' cells each, these 'cs', in a block that may be written -/
def Own (w : World) (e sz : Nat) (v : Value) (n : Nat) (vs : List Value) : Prop :=
  vs.length = n * sz ∧
  ((v = .slice none 0 0 ∧ n = 0) ∨
   ∃ g o c cs, v = .slice (some ⟨g, o, none⟩) n c ∧ Blk w g e cs ∧ n ≤ c ∧ c ≤ maxLen ∧ o + c * sz ≤ cs.length ∧ (cs.drop o).take (n * sz) = vs)

section
variable {w w' : World} {e sz n : Nat} {v : Value} {vs : List Value} {M : List Nat}
theorem Own.nil (w : World) (e sz : Nat) : Own w e sz (.slice none 0 0) 0 [] := ⟨by simp, .inl ⟨rfl, rfl⟩⟩
theorem Own.len (h : Own w e sz v n vs) : vs.length = n * sz := h.1
theorem Own.form (h : Own w e sz v n vs) : ∃ ad c, v = .slice ad n c ∧ n ≤ c ∧ c ≤ 9223372036854775807 := by
  rcases h.2 with ⟨rfl, rfl⟩ | ⟨g, o, c, cs, rfl, _, h2, h3, _⟩
  · exact ⟨none, 0, rfl, Nat.le_refl _, by omega⟩
  · exact ⟨_, c, rfl, h2, by simp only [maxLen] at h3; omega⟩
theorem Own.mod (h : Own w e sz v n vs) (k : Mod M w w') (hM : ∀ x ∈ ob v, x ∉ M) : Own w' e sz v n vs := by
  refine ⟨h.1, ?_⟩
  rcases h.2 with h0 | ⟨g, o, c, cs, rfl, h1, h2⟩
  · exact .inl h0
  · exact .inr ⟨g, o, c, cs, rfl, h1.mod k (hM g (by simp [ob])), h2⟩
theorem Own.mod0 (h : Own w e sz v n vs) (k : Mod [] w w') : Own w' e sz v n vs := h.mod k (by simp)
theorem Own.lt (h : Own w e sz v n vs) : ∀ x ∈ ob v, x < w.heap.size := by
  rcases h.2 with ⟨rfl, _⟩ | ⟨g, o, c, cs, rfl, h1, _⟩
  · simp [ob]
  · intro x hx
    simp [ob] at hx
    subst hx
    exact h1.lt
theorem Own.cs {ad : Addr} {c : Nat} (h : Own w e sz (.slice (some ad) n c) n vs) : Cs w ad vs := by
  rcases h.2 with ⟨h1, _⟩ | ⟨g, o, c', cs, h1, h2, h3, h4, h5, h6⟩
  · cases h1
  · injection h1 with h1
    injection h1 with h1
    subst h1
    exact h2.cs (by rw [h.1]; exact h6)
/-- a block known whole, as a slice -/
theorem Own.of_blk {g c : Nat} {cs : List Value} (h : Blk w g e cs) (hl : cs.length = c * sz) (hn : n ≤ c) (hc : c ≤ 9223372036854775807) : Own w e sz (.slice (some ⟨g, 0, none⟩) n c) n (cs.take (n * sz)) := by
  have hle : n * sz ≤ c * sz := Nat.mul_le_mul_right _ hn
  refine ⟨by simp; omega, .inr ⟨g, 0, c, cs, rfl, h, hn, by simp only [maxLen]; omega, by omega, by simp⟩⟩
theorem Own.all {g c : Nat} {cs : List Value} (h : Blk w g e cs) (hl : cs.length = c * sz) (hc : c ≤ 9223372036854775807) : Own w e sz (.slice (some ⟨g, 0, none⟩) c c) c cs := by
  have := Own.of_blk (n := c) h hl (Nat.le_refl _) hc
  rwa [List.take_of_length_le (by omega)] at this
/-- .. and it reads -/
theorem Own.rep {A : List Nat} {rows : List (List D)} (h : Own w e sz v n vs) (hr : Reps A w rows.flatten vs) (hl : ∀ r ∈ rows, r.length = sz) (hn : rows.length = n) (hA : ∀ x ∈ ob v, x ∉ A) : Rep A w (.sl sz rows) v := by
  rcases h.2 with ⟨rfl, h0⟩ | ⟨g, o, c, cs, rfl, h1, h2, h3, h4, h5⟩
  · have : rows = [] := List.eq_nil_of_length_eq_zero (by omega)
    subst this
    exact Rep.sl_nil
  · refine Rep.sl_mk hn h2 h3 (hA g (by simp [ob])) h1.lt fun i r hi => ?_
    have hir := (List.getElem?_eq_some_iff.1 hi).1
    have hrl := hl r (List.mem_of_getElem? hi)
    refine ⟨hrl, _, Reps.row_of_flat hl hr i r hi, ?_⟩
    rw [Addr.add_lit]
    refine h1.cs ?_
    have hle : (i + 1) * sz ≤ n * sz := Nat.mul_le_mul_right _ (by omega)
    rw [Nat.add_mul] at hle
    have hlen : (List.take sz (List.drop (i * sz) vs)).length = sz := by rw [List.length_take, List.length_drop, h.1]; omega
    rw [hlen, ← h5, List.drop_take, List.take_take, List.drop_drop]
    congr 1
    omega
end

section
variable {P : Program} {ops : Array Oper} {Q : Exit → Act → World → Prop} {n : Nat} {ds : List Deferred} {l : List (Nat × Value)} {w w' : World} {a : Act}
variable {rest : List Oper} {d : Nat} {op : Op} {ty : TypeId} {pos : String} {af : Array Edge}
variable {dd : Option Nat} {gg : Option (Nat × Bool)} {x y z : Operand} {t t' : TypeId} {k k' : IntKind} {m m' : Int} {b b' : Bool}

/-! ### what is appended -/
theorem Src.own {tx e e' sz c : Nat} {v : Value} {vs : List Value} (hk : P.underlying tx = some (.slice e')) (h : Own w e sz v c vs) (h1 : ∀ u ∈ vs, u.oneCell' = true) : Src P sz tx v c vs w := by
  rcases h.2 with ⟨rfl, h0⟩ | ⟨g, o, c', cs, rfl, _⟩
  · subst h0
    have : vs = [] := List.eq_nil_of_length_eq_zero (by simpa using h.1)
    subst this
    exact Src.ofNil w hk 0
  · exact Src.ofSlice w hk _ _ _ _ h.1 (fun j u hu => h.cs j u hu) h1
theorem Src.rep {A : List Nat} {tx e' sz : Nat} {rows : List (List D)} {v : Value} (hk : P.underlying tx = some (.slice e')) (h : Rep A w (.sl sz rows) v) : ∃ vs, Reps A w rows.flatten vs ∧ vs.length = rows.length * sz ∧ Src P sz tx v rows.length vs w := by
  cases hrows : rows with
  | nil =>
    subst hrows
    simp only [Rep] at h
    obtain ⟨ad, c, rfl, h2, h3, h4⟩ := h
    refine ⟨[], rfl, by simp, ?_⟩
    cases ad with
    | none => exact Src.ofNil w hk c
    | some ad => exact Src.ofSlice w hk ad 0 c [] (by simp) (fun j u hu => by simp at hu) (fun u hu => by cases hu)
  | cons r0 rs =>
    rw [← hrows]
    have h' := h
    simp only [Rep] at h
    obtain ⟨ad, c, rfl, h2, h3, h4⟩ := h
    obtain ⟨ad, rfl, hA, hb, hr⟩ := h4 (by simp [hrows])
    -- all rows, one behind the other
    have key : ∀ (i : Nat) (rws : List (List D)), RepRows A w sz ad i rws → ∃ vs, Reps A w rws.flatten vs ∧ vs.length = rws.length * sz ∧ ∀ j u, vs[j]? = some u → w.cell? (ad.add (i * sz + j)) = some u := by
      intro i rws
      induction rws generalizing i with
      | nil => intro _; exact ⟨[], rfl, by simp, fun j u hu => by simp at hu⟩
      | cons r rs ih =>
        intro hh
        simp only [RepRows] at hh
        obtain ⟨hl, hrow, hrest⟩ := hh
        obtain ⟨us, hu1, hu2⟩ := hrow.cells
        obtain ⟨vs, hv1, hv2, hv3⟩ := ih (i + 1) hrest
        refine ⟨us ++ vs, by simp only [List.flatten_cons]; exact hu1.append hv1, by simp [hu1.length, hl, hv2, Nat.add_mul]; omega, fun j u hj => ?_⟩
        rw [List.getElem?_append] at hj
        have hul : us.length = sz := by rw [hu1.length, hl]
        split at hj
        · have := hu2 j u hj
          rwa [Nat.zero_add, Addr.add_add] at this
        · rename_i hge
          have := hv3 _ u hj
          rwa [show (i + 1) * sz + (j - us.length) = i * sz + j by rw [Nat.add_mul, hul]; rw [hul] at hge; omega] at this
    obtain ⟨vs, hv1, hv2, hv3⟩ := key 0 rows hr
    exact ⟨vs, hv1, hv2, Src.ofSlice w hk ad _ c vs hv2 (fun j u hu => by have := hv3 j u hu; rwa [Nat.zero_mul, Nat.zero_add] at this) hv1.one⟩

def B8 (c : UInt8) : Value := .int .u8 c.toNat
theorem Src.str {tx : Nat} (hk : P.underlying tx = some .string) (s : List UInt8) : Src P 1 tx (S s) s.length (s.map B8) w := Src.ofString w hk ⟨⟨s⟩⟩

/-- behind an append -/
structure App (w w' : World) (e sz : Nat) (v v' : Value) (n : Nat) (vs : List Value) : Prop where
  own : Own w' e sz v' n vs
  mod : Mod (ob v) w w'
  ob_ : ∀ x ∈ ob v', x ∈ ob v ∨ w.heap.size ≤ x

theorem append_run {t tx e sz by_ c c' : Nat} {v u : Value} {vs news : List Value} (ht : slB P t e sz by_ = true) (O : Own w e sz v c vs) (hs : Src P sz tx u c' news w) (hsz : 0 < sz)
    (hb : (c + c') * by_ ≤ 140737488355328) (hb1 : c + c' ≤ 9223372036854775807) (ty : Nat) :
    ∃ v' w', (Builtin.append_ #[t, tx] ty #[v, u]).run P w = .ok v' w' ∧ App w w' e sz v v' (c + c') (vs ++ news) := by
  obtain ⟨i, z, h1, h2, h3, h4, h5, h6⟩ := slB_spec ht
  subst h3; subst h4
  have hlen : (vs ++ news).length = (c + c') * i.size := by rw [List.length_append, O.1, hs.newsLen, Nat.add_mul]
  have grow : ∀ (base : Option Addr) (cap : Nat), cap < c + c' → (Builtin.firstCells i.size c (.slice base c cap)).run P w.drew = .ok vs.toArray w.drew →
      ∃ v' w', (Builtin.append_ #[t, tx] ty #[.slice base c cap, u]).run P w = .ok v' w' ∧ App w w' e i.size (.slice base c cap) v' (c + c') (vs ++ news) := by
    intro base cap hcap hold
    have hr := run_append_grow_src (P := P) w t tx ty e i z h1 h2 h5 base c cap vs hold u c' news hs hcap (by omega) (growslice_fits hcap hb)
    have hge := grownCap_ge w (c + c') cap e
    have hB : Blk (w.drew.alloc (.cells ((vs ++ news).toArray ++ Builtin.zeroCells z.cells (grownCap w (c + c') cap e - (c + c'))) e)) w.heap.size e ((vs ++ news) ++ (Builtin.zeroCells z.cells (grownCap w (c + c') cap e - (c + c'))).toList) := by
      have := heap_alloc_new w.drew (.cells ((vs ++ news).toArray ++ Builtin.zeroCells z.cells (grownCap w (c + c') cap e - (c + c'))) e)
      unfold Blk
      refine this.trans ?_
      congr 2
      apply Array.toList_inj.1
      simp
    refine ⟨_, _, hr, ⟨⟨hlen, .inr ⟨w.heap.size, 0, _, _, rfl, hB, hge, grownCap_le_maxLen w (c + c') cap e (by simp only [maxLen]; omega), ?_, ?_⟩⟩, ?_, ?_⟩⟩
    · have hzl : (Builtin.zeroCells z.cells (grownCap w (c + c') cap e - (c + c'))).toList.length = (grownCap w (c + c') cap e - (c + c')) * i.size := by
        rw [Array.length_toList, size_zeroCells, h6]
      rw [List.length_append, hlen, hzl, ← Nat.add_mul]
      have : c + c' + (grownCap w (c + c') cap e - (c + c')) = grownCap w (c + c') cap e := by omega
      rw [this]
      omega
    · rw [List.drop_zero, ← hlen]
      exact List.take_left
    · exact ⟨rfl, rfl, rfl, by simp, fun j hj _ => RowKit.Below.heap_alloc w.drew _ j hj⟩
    · intro x hx
      simp [ob] at hx
      exact .inr (by omega)
  rcases O.2 with ⟨rfl, h0⟩ | ⟨g, o, cap, cs, rfl, hB, hc1, hc2, hc3, hc4⟩
  · subst h0
    have hvs : vs = [] := List.eq_nil_of_length_eq_zero (by simpa using O.1)
    subst hvs
    rcases Nat.eq_zero_or_pos c' with h0 | h0
    · subst h0
      have hnews : news = [] := List.eq_nil_of_length_eq_zero (by simpa using hs.newsLen)
      subst hnews
      refine ⟨.slice none 0 0, w, ?_, ⟨Own.nil w e i.size, Mod.refl _ w, fun x hx => .inl hx⟩⟩
      have hl := hs.len
      have hcl := hs.cells
      rcases hs.kind with ⟨e', hk⟩ | hk <;> simp [Builtin.append_, run_underlying h1, run_underlying hk, sizeOf, typeInfo, h2, hl, hcl]
    · exact grow none 0 (by omega) (run_firstCells_none w.drew i.size 0 0 0)
  · by_cases hroom : c + c' ≤ cap
    · have hle : (c + c') * i.size ≤ cap * i.size := Nat.mul_le_mul_right _ hroom
      have hfit : o + c * i.size + news.length ≤ cs.length := by rw [hs.newsLen]; rw [Nat.add_mul] at hle; omega
      obtain ⟨w1, hst, hp⟩ := storeCells_put (P := P) hB hfit hs.one
      refine ⟨.slice (some ⟨g, o, none⟩) (c + c') cap, w1, ?_, ⟨⟨hlen, .inr ⟨g, o, cap, _, rfl, hp.blk, hroom, hc2, ?_, ?_⟩⟩, ?_, fun x hx => .inl hx⟩⟩
      · rcases hs.kind with ⟨e', hk⟩ | hk <;> simp [Builtin.append_, run_underlying h1, run_underlying hk, sizeOf, typeInfo, h2, hs.len, hroom, hs.cells, Addr.add_lit, hst]
      · simp only [splice, List.length_append, List.length_take, List.length_drop]
        omega
      · have e1 : List.take (o + c * i.size) cs = List.take o cs ++ vs := by rw [← hc4, List.take_add]
        have hol : (List.take o cs).length = o := by rw [List.length_take]; omega
        rw [splice, e1, List.append_assoc, List.append_assoc, List.drop_left' hol, ← List.append_assoc, ← hlen, List.take_left]
      · exact hp.mod
    · refine grow _ cap (by omega) (run_firstCells_some w.drew i.size c _ c cap vs O.1 (fun j x hx => ?_))
      have := O.cs j x hx
      simpa using this

theorem s_append {tx e sz by_ c c' : Nat} {v u : Value} {vs news : List Value} (ht : slB P t e sz by_ = true) (hx : evO l x = some v) (hy : evO l y = some u) (O : Own w e sz v c vs) (hs : Src P sz tx u c' news w) (hsz : 0 < sz)
    (hb : (c + c') * by_ ≤ 140737488355328) (hb1 : c + c' ≤ 9223372036854775807) (hd : Nat.blt d n = true)
    (h : ∀ v' w', App w w' e sz v v' (c + c') (vs ++ news) → WL P ops Q rest n ds ((d, v') :: l) w') :
    WL P ops Q (⟨some d, .call { callee := .builtin .append, args := #[x, y], argTypes := #[t, tx] }, ty, pos, af, none⟩ :: rest) n ds l w := by
  obtain ⟨v', w', hr, hA⟩ := append_run (P := P) ht O hs hsz hb hb1 ty
  refine sv (v := v') (w' := w') (fun ρ hρ => ?_) hd (h v' w' hA)
  simp [execOp, resolve, invoke, builtin, hρ _ _ hx, hρ _ _ hy, hr]
end
end Go.Proofs.Ytccjjkdogljmpaa.V
