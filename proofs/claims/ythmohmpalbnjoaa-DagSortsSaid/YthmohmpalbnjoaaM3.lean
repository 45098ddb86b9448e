/-
  A part of the proof: parts of own slices; copy into a part; append of zeros; the entry for slices.overlaps; truths held against one another; drawn operations that look at two slots of which something is known. No condition of its own.
-/
import Derived.Test.YthmohmpalbnjoaaM2
import Derived.Lib.Overlaps
set_option linter.unusedVariables false
set_option linter.unusedSimpArgs false
namespace Go.Proofs.Ythmohmpalbnjoaa.V
open Go
/-! ## Regions that draw: some operations first, a head in whatever order, a tail one behind the other

'ps': operations that touch no memory (their value is the same in all worlds): they may be taken first. 'hs': the head. 'ts': the tail: each waits for the one ahead of it, the first for the head. -/
section
variable {P : Program} {ops : Array Oper} {md : Region.Mode} {R : World → World → Prop} {C : World → Prop} {n : Nat} {ds : List Deferred} {Q : Exit → Act → World → Prop} {w w' : World} {l : List (Nat × Value)} {a : Act}

def setL (listed : Array Bool) : List Nat → Array Bool
  | [] => listed
  | i :: r => setL (listed.setIfInBounds i true) r
def seqL (md : Region.Mode) (ops : Array Oper) : List Nat → Array Bool → Bool
  | [], listed => (Region.ready md ops listed).isEmpty
  | t :: ts, listed => decide (Region.ready md ops listed = [t]) && seqL md ops ts (listed.setIfInBounds t true)
def headL (md : Region.Mode) (ops : Array Oper) (ts : List Nat) : List Nat → Array Bool → Bool
  | [], listed => seqL md ops ts listed
  | i :: hs, listed => (Region.ready md ops listed).contains i && Region.free md ops listed i && headL md ops ts hs (listed.setIfInBounds i true)
def pureL (md : Region.Mode) (ops : Array Oper) : List Nat → Array Bool → Bool
  | [], _ => true
  | i :: ps, listed => (Region.ready md ops listed).contains i && Region.free md ops listed i && pureL md ops ps (listed.setIfInBounds i true)
/-- each operation of the head is waited for by a later one of it, or by the first of the tail -/
def lateL (md : Region.Mode) (ops : Array Oper) (t0 : Nat) : List Nat → Bool
  | [] => true
  | i :: hs => (hs ++ [t0]).any (fun j => Region.waitsFor md ops j i) && lateL md ops t0 hs
def chainL (md : Region.Mode) (ops : Array Oper) : Nat → List Nat → Bool
  | _, [] => true
  | p, t :: ts => Region.waitsFor md ops t p && chainL md ops t ts
def closedB (md : Region.Mode) (ops : Array Oper) (listed : Array Bool) : Bool :=
  (List.range ops.size).all fun j => !listed.getD j false || match ops[j]? with
    | some oj => oj.after.all fun e => !Region.binds md e || listed.getD e.on false
    | none => true

structure HInv (md : Region.Mode) (ops : Array Oper) (hs : List Nat) (ts : List Nat) (listed : Array Bool) : Prop where
  size : listed.size = ops.size
  closed : ∀ j oj, ops[j]? = some oj → listed.getD j false = true → ∀ e ∈ oj.after, Region.binds md e = true → listed.getD e.on false = true
  tail : ∀ t ∈ ts, listed.getD t true = false

theorem HInv.set {hs ts : List Nat} {i : Nat} {listed : Array Bool} (inv : HInv md ops hs ts listed) (hi : i ∈ Region.ready md ops listed) (hin : i ∉ ts) : HInv md ops hs ts (listed.setIfInBounds i true) := by
  obtain ⟨_, oi, hoi, hall⟩ := mem_ready.1 hi
  refine ⟨by simp [inv.size], fun j oj hj hl e he hb => ?_, fun t ht => by rw [getD_set_ne true (fun e => by subst e; exact hin ht)]; exact inv.tail t ht⟩
  by_cases hij : i = j
  · subst hij
    have : oj = oi := Option.some.inj (hj.symm.trans hoi)
    subst this
    exact getD_set_true (hall e he hb)
  · rw [getD_set_ne false hij] at hl
    exact getD_set_true (inv.closed j oj hj hl e he hb)

theorem chain_waits {ts0 : List Nat} {listed : Array Bool} : ∀ (ts : List Nat) (p : Nat), (∀ t ∈ p :: ts, t ∈ ts0) → chainL md ops p ts = true → (∀ t ∈ ts0, listed.getD t true = false) → ∀ t ∈ ts, t ∉ Region.ready md ops listed
  | [], _, _, _, _, t, ht => by cases ht
  | t1 :: ts, p, hsub, hc, hun, t, ht => by
    simp only [chainL, Bool.and_eq_true] at hc
    rcases List.mem_cons.1 ht with rfl | ht'
    · intro hr
      obtain ⟨_, ot, hot, hall⟩ := mem_ready.1 hr
      obtain ⟨o', ho', e, he, hb, hon⟩ := Region.waitsFor_spec hc.1
      have : o' = ot := Option.some.inj (ho'.symm.trans hot)
      subst this
      have h2 := hall e he hb
      rw [hon, getD_both (hun p (hsub p (by simp)))] at h2
      cases h2
    · exact chain_waits ts t1 (fun t ht => hsub t (by simp at ht ⊢; exact .inr ht)) hc.2 hun t ht'

theorem head_waits {t0 : Nat} {listed : Array Bool} (hsz : listed.size = ops.size) (hcl : ∀ j oj, ops[j]? = some oj → listed.getD j false = true → ∀ e ∈ oj.after, Region.binds md e = true → listed.getD e.on false = true) :
    ∀ (hs : List Nat), lateL md ops t0 hs = true → ∀ i ∈ hs, listed.getD i true = false → t0 ∉ Region.ready md ops listed
  | [], _, i, hi, _ => by cases hi
  | h0 :: hs, hl, i, hi, hun => by
    simp only [lateL, Bool.and_eq_true] at hl
    rcases List.mem_cons.1 hi with rfl | hi'
    · obtain ⟨j, hj, hw⟩ := List.any_eq_true.1 hl.1
      obtain ⟨oj, hoj, e, he, hb, hon⟩ := Region.waitsFor_spec hw
      rcases List.mem_append.1 hj with hj' | hj'
      · cases hlj : listed.getD j false with
        | true =>
          have h2 := hcl j oj hoj hlj e he hb
          rw [hon, getD_both hun] at h2
          cases h2
        | false =>
          have hjs : j < listed.size := by rw [hsz]; exact (Array.getElem?_eq_some_iff.1 hoj).1
          exact head_waits hsz hcl hs hl.2 j hj' (getD_in hjs hlj)
      · simp only [List.mem_singleton] at hj'
        subst hj'
        intro hr
        obtain ⟨_, ot, hot, hall⟩ := mem_ready.1 hr
        have : oj = ot := Option.some.inj (hoj.symm.trans hot)
        subst this
        have h2 := hall e he hb
        rw [hon, getD_both hun] at h2
        cases h2
    · exact head_waits hsz hcl hs hl.2 i hi' hun

def AnyH (P : Program) (md : Region.Mode) (ops : Array Oper) (R : World → World → Prop) (C : World → Prop) (n : Nat) (ts : List Nat) (L : Array Bool → Kn → Prop) : Nat → Array Bool → Kn → Prop
  | 0, listed, N => L listed N
  | f + 1, listed, N => Region.ready md ops listed ≠ [] ∧
    ∀ i ∈ Region.ready md ops listed, i ∉ ts ∧ ∀ o, ops[i]? = some o → ∃ V, J P ops R C n N o V ∧ AnyH P md ops R C n ts L f (listed.setIfInBounds i true) (N.put o V)

theorem wpAny_of_H {L : Array Bool → Kn → Prop} {w0 : World} {ds : List Deferred} {ts : List Nat} {g : Nat} (hL : Later R C)
    (hFin : ∀ listed N a w, N.lasts R → a.defers = ds → C w → R w0 w → N.all n a w → L listed N → wpAny P md ops Q g listed a w) : ∀ (f : Nat) (listed : Array Bool) (N : Kn) (a : Act) (w : World), N.lasts R → a.defers = ds → C w → R w0 w → N.all n a w →
    AnyH P md ops R C n ts L f listed N → wpAny P md ops Q (f + g) listed a w
  | 0, listed, N, a, w, h0, h1, h2, h3, h4, h => by rw [Nat.zero_add]; exact hFin listed N a w h0 h1 h2 h3 h4 h
  | f + 1, listed, N, a, w, h0, h1, h2, h3, h4, h => by
    rw [show f + 1 + g = (f + g) + 1 by omega]
    refine ⟨fun hr => absurd hr h.1, fun i hi => ?_⟩
    obtain ⟨_, o, ho, _⟩ := mem_ready.1 hi
    obtain ⟨V, hJ, hrest⟩ := (h.2 i hi).2 o ho
    exact wpOp_of_J hL h0 ho hJ h2 h4 fun a' w' hd hC hR hN => wpAny_of_H hL hFin f _ _ a' w' (h0.put hJ.lasts) (hd.trans h1) hC (hL.trans _ _ _ h3 hR) hN hrest

theorem AnyH_first {i : Nat} {oi : Oper} {V : Value → World → Prop} {L : Array Bool → Kn → Prop} {hs0 ts : List Nat} (hi : ops[i]? = some oi) (hin : i ∉ ts)
    (hw : ∀ listed, HInv md ops hs0 ts listed → listed.getD i true = false → ∀ t ∈ ts, t ∉ Region.ready md ops listed)
    (hdone : ∀ listed N, L listed N → ∀ j ∈ Region.ready md ops listed, j ∈ ts) :
    ∀ (f : Nat) (listed : Array Bool) (N : Kn), HInv md ops hs0 ts listed →
      (∀ j oj, ops[j]? = some oj → j ≠ i → listed.getD j true = false → (∀ e ∈ oj.after, Region.binds md e = true → e.on ≠ i) → oi.apart ops oj = true) →
      i ∈ Region.ready md ops listed → J P ops R C n N oi V →
      AnyH P md ops R C n ts L f (listed.setIfInBounds i true) (N.put oi V) → AnyH P md ops R C n ts L (f + 1) listed N := by
  intro f
  induction f with
  | zero =>
    intro listed N inv _ hr hJ H
    have hun := (mem_ready.1 hr).1
    refine ⟨fun h => (by rw [h] at hr; cases hr), fun j hj => ?_⟩
    have hjn : j ∉ ts := fun ht => hw listed inv hun j ht hj
    refine ⟨hjn, fun o ho => ?_⟩
    by_cases hji : j = i
    · subst hji
      have : o = oi := Option.some.inj (ho.symm.trans hi)
      subst this
      exact ⟨V, hJ, H⟩
    · exact absurd (hdone _ _ H j (ready_mono hj hji)) hjn
  | succ f ih =>
    intro listed N inv hfree hr hJ H
    have hun := (mem_ready.1 hr).1
    refine ⟨fun h => (by rw [h] at hr; cases hr), fun j hj => ?_⟩
    have hjn : j ∉ ts := fun ht => hw listed inv hun j ht hj
    refine ⟨hjn, fun o ho => ?_⟩
    by_cases hji : j = i
    · subst hji
      have : o = oi := Option.some.inj (ho.symm.trans hi)
      subst this
      exact ⟨V, hJ, H⟩
    · obtain ⟨Vj, hJj, hrest⟩ := (H.2 j (ready_mono hj hji)).2 o ho
      obtain ⟨hjun, oj, hoj, hall⟩ := mem_ready.1 hj
      have : o = oj := Option.some.inj (ho.symm.trans hoj)
      subst this
      have hnot : ∀ e ∈ o.after, Region.binds md e = true → e.on ≠ i := fun e he hb heq => by
        have h1 := hall e he hb
        rw [heq, getD_both hun] at h1
        cases h1
      obtain ⟨a1, a2, a3⟩ := Oper.apart_spec (hfree j o hoj hji hjun hnot)
      refine ⟨Vj, hJj.past a1, ih (listed.setIfInBounds j true) (N.put o Vj) (inv.set hj hjn) (fun k ok hk hki hun hno => ?_) (ready_mono hr (Ne.symm hji)) (hJ.ahead a3) ?_⟩
      · refine hfree k ok hk hki ?_ hno
        by_cases hjk : j = k
        · subst hjk; exact hjun
        · rw [getD_set_ne true hjk] at hun; exact hun
      · rw [Array.setIfInBounds_comm _ _ hji, ← Kn.put_comm N V Vj a2]
        exact hrest

/-- the operations of a list of places -/
def pick (ops : Array Oper) (is : List Nat) : List Oper := is.filterMap (ops[·]?)
theorem seqL_ready {ts : List Nat} {listed : Array Bool} (h : seqL md ops ts listed = true) : ∀ j ∈ Region.ready md ops listed, j ∈ ts := by
  cases ts with
  | nil => intro j hj; simp only [seqL, List.isEmpty_iff] at h; rw [h] at hj; cases hj
  | cons t ts =>
    intro j hj
    simp only [seqL, Bool.and_eq_true, decide_eq_true_eq] at h
    rw [h.1] at hj
    simp only [List.mem_singleton] at hj
    exact hj ▸ List.mem_cons_self ..
theorem AnyH_lex {hs0 ts : List Nat} {Fin : Kn → Prop} (hw : ∀ listed, HInv md ops hs0 ts listed → (∃ i ∈ hs0, listed.getD i true = false) → ∀ t ∈ ts, t ∉ Region.ready md ops listed) :
    ∀ (hs : List Nat) (listed : Array Bool) (N : Kn), (∀ i ∈ hs, i ∈ hs0) → (∀ i ∈ hs, i ∉ ts) → HInv md ops hs0 ts listed →
    headL md ops ts hs listed = true → TW P ops R C n Fin (pick ops hs) N →
    AnyH P md ops R C n ts (fun listed' N' => seqL md ops ts listed' = true ∧ Fin N') hs.length listed N
  | [], listed, N, _, _, _, hB, h => ⟨by simpa [headL] using hB, h⟩
  | i :: hs, listed, N, hsub, hnt, inv, hB, h => by
    simp only [headL, Bool.and_eq_true] at hB
    obtain ⟨⟨hr, hf⟩, hB'⟩ := hB
    have hr' : i ∈ Region.ready md ops listed := by simpa using hr
    obtain ⟨hun, o, ho, _⟩ := mem_ready.1 hr'
    have hp : pick ops (i :: hs) = o :: pick ops hs := by simp [pick, List.filterMap_cons, ho]
    rw [hp] at h
    obtain ⟨V, hJ, hrest⟩ := h
    exact AnyH_first ho (hnt i (by simp)) (fun listed inv hu => hw listed inv ⟨i, hsub i (by simp), hu⟩) (fun listed' N' hL => seqL_ready hL.1) hs.length listed N inv (Region.free_spec ho hf) hr' hJ
      (AnyH_lex hw hs _ _ (fun i hi => hsub i (by simp [hi])) (fun i hi => hnt i (by simp [hi])) (inv.set hr' (hnt i (by simp))) hB' hrest)

theorem wpAny_of_seqL : ∀ (ts : List Nat) (listed : Array Bool) (a : Act) (w : World), seqL md ops ts listed = true → wpList P ops Q (pick ops ts) a w → wpAny P md ops Q ts.length listed a w
  | [], listed, a, w, hB, h => ⟨by simpa [seqL] using hB, h⟩
  | t :: ts, listed, a, w, hB, h => by
    simp only [seqL, Bool.and_eq_true, decide_eq_true_eq] at hB
    have hr : t ∈ Region.ready md ops listed := by rw [hB.1]; simp
    obtain ⟨_, o, ho, _⟩ := mem_ready.1 hr
    have hp : pick ops (t :: ts) = o :: pick ops ts := by simp [pick, List.filterMap_cons, ho]
    rw [hp] at h
    refine ⟨fun h1 => (by rw [hB.1] at h1; cases h1), fun i hi => ?_⟩
    rw [hB.1] at hi
    have hik : i = t := by simpa using hi
    subst hik
    have hw : wpOp P ops Q i (wpList P ops Q (pick ops ts)) a w := by unfold wpOp; simp only [ho]; exact h
    exact wpOp_mono (fun a' w' h' => wpAny_of_seqL ts _ a' w' hB.2 h') hw

/-- operations that touch no memory, in the order in which they are taken first -/
def PW (P : Program) (n : Nat) (K : List (Nat × Value) → Prop) : List Oper → List (Nat × Value) → Prop
  | [], l => K l
  | o :: rest, l => ∃ d v, o.dst = some d ∧ o.guard = none ∧ notSel o.op = true ∧ Nat.blt d n = true ∧ (∀ w, Runs P l o w v w) ∧ PW P n K rest ((d, v) :: l)
theorem pw_nil {K : List (Nat × Value) → Prop} (h : K l) : PW P n K [] l := h
theorem pw {K : List (Nat × Value) → Prop} {rest : List Oper} {d : Nat} {op : Op} {ty : TypeId} {pos : String} {af : Array Edge} {v : Value} (hr : ∀ w, Runs P l ⟨some d, op, ty, pos, af, none⟩ w v w) (hd : Nat.blt d n = true) (hs : notSel op = true) (h : PW P n K rest ((d, v) :: l)) :
    PW P n K (⟨some d, op, ty, pos, af, none⟩ :: rest) l := ⟨d, v, rfl, rfl, hs, hd, hr, h⟩

theorem wpAny_pure (hQ : ∀ c a w, ¬ Q (.panic c) a w) (hsel : ∀ (j : Nat) (o : Oper) cs b, ops[j]? = some o → o.op ≠ .select cs b) {K : List (Nat × Value) → Prop} {g : Nat} : ∀ (ps : List Nat) (listed : Array Bool) (l : List (Nat × Value)) (a : Act), Has n ds l a → pureL md ops ps listed = true → PW P n K (pick ops ps) l →
    (∀ l a, Has n ds l a → K l → wpAny P md ops Q g (setL listed ps) a w) → wpAny P md ops Q (ps.length + g) listed a w
  | [], listed, l, a, ha, _, h, hK => by
    have : ([] : List Nat).length + g = g := by simp
    rw [this]
    exact hK l a ha h
  | i :: ps, listed, l, a, ha, hB, h, hK => by
    simp only [pureL, Bool.and_eq_true] at hB
    obtain ⟨⟨hr, hf⟩, hB'⟩ := hB
    have hr' : i ∈ Region.ready md ops listed := by simpa using hr
    obtain ⟨_, o, ho, _⟩ := mem_ready.1 hr'
    have hp : pick ops (i :: ps) = o :: pick ops ps := by simp [pick, List.filterMap_cons, ho]
    rw [hp] at h
    obtain ⟨d, v, h1, h2, h3, h4, h5, h6⟩ := h
    have hlen : (i :: ps).length + g = (ps.length + g) + 1 := by simp; omega
    rw [hlen]
    have hy : Yields P ops o v a := .inl ⟨by simp [Region.wanted, h2], fun w => h5 w a.eval (fun x u hx => ha.ev hx)⟩
    have ha' : Has n ds ((d, v) :: l) (a.put o.dst v) := by rw [h1]; exact ha.put h4 v
    exact wpAny_first ho hsel (fun c a w hq => absurd hq (hQ c _ w)) (ps.length + g) listed a w (Region.free_spec ho hf) hr' hy
      (wpAny_pure hQ hsel ps (listed.setIfInBounds i true) ((d, v) :: l) (a.put o.dst v) ha' hB' h6 hK)

/-- THE RULE -/
def drawB (ops : Array Oper) (ps hs : List Nat) (t0 : Nat) (ts : List Nat) : Bool :=
  Region.noSelect ops && decide (ps.length + (hs.length + (ts.length + 1)) = ops.size) && pureL .any ops ps (Array.replicate ops.size false) &&
  closedB .any ops (setL (Array.replicate ops.size false) ps) && (t0 :: ts).all (fun t => !(setL (Array.replicate ops.size false) ps).getD t true) &&
  hs.all (fun i => !(t0 :: ts).contains i) && lateL .any ops t0 hs && chainL .any ops t0 ts && headL .any ops (t0 :: ts) hs (setL (Array.replicate ops.size false) ps)

theorem setL_size : ∀ (ps : List Nat) (listed : Array Bool), (setL listed ps).size = listed.size
  | [], _ => rfl
  | i :: ps, listed => by simp [setL, setL_size ps]
theorem c_drawp {id : Nat} {lo : List Oper} (ps hs : List Nat) (t0 : Nat) (ts : List Nat) (hm : P.follows .mixedOrders = true) (hB : drawB lo.toArray ps hs t0 ts = true) (hQ : ∀ c a w, ¬ Q (.panic c) a w)
    (h : PW P n (fun l => TWL P lo.toArray w n (fun N => ∀ a w', a.defers = ds → Mod [] w w' → N.all n a w' → wpList P lo.toArray Q (pick lo.toArray (t0 :: ts)) a w') (pick lo.toArray hs) l []) (pick lo.toArray ps) l) : WC P (.region id lo.toArray true) Q n ds l w := by
  intro a ha
  unfold drawB at hB
  simp only [Bool.and_eq_true, decide_eq_true_eq] at hB
  obtain ⟨⟨⟨⟨⟨⟨⟨⟨hsel, hlen⟩, hp⟩, hcl⟩, htl⟩, hht⟩, hlate⟩, hch⟩, hhd⟩ := hB
  refine wp_region_any hm ?_
  rw [← hlen]
  have hsz : (setL (Array.replicate lo.toArray.size false) ps).size = lo.toArray.size := by rw [setL_size]; simp
  have htl' : ∀ t ∈ t0 :: ts, (setL (Array.replicate lo.toArray.size false) ps).getD t true = false := fun t ht => by
    have := List.all_eq_true.1 htl t ht
    simpa using this
  have inv0 : HInv .any lo.toArray hs (t0 :: ts) (setL (Array.replicate lo.toArray.size false) ps) := by
    refine ⟨hsz, fun j oj hj hl e he hb => ?_, htl'⟩
    have h1 := List.all_eq_true.1 hcl j (List.mem_range.2 (Array.getElem?_eq_some_iff.1 hj).1)
    rw [hl, hj] at h1
    simp only [Bool.not_true, Bool.false_or, Array.all_eq_true_iff_forall_mem] at h1
    have h2 := h1 e he
    rw [hb] at h2
    simpa using h2
  have hw : ∀ listed, HInv .any lo.toArray hs (t0 :: ts) listed → (∃ i ∈ hs, listed.getD i true = false) → ∀ t ∈ t0 :: ts, t ∉ Region.ready .any lo.toArray listed := by
    rintro listed inv ⟨i, hi, hun⟩ t ht
    rcases List.mem_cons.1 ht with rfl | ht'
    · exact head_waits inv.size inv.closed hs hlate i hi hun
    · exact chain_waits (ts0 := t0 :: ts) ts t0 (fun t h => h) hch inv.tail t ht'
  have hlen2 : (Array.replicate (ps.length + (hs.length + (ts.length + 1))) false) = Array.replicate lo.toArray.size false := by rw [hlen]
  rw [hlen2]
  refine wpAny_pure (n := n) (ds := ds) hQ (Region.noSelect_spec hsel) ps _ l a ha hp h fun l a ha hT => ?_
  have H := AnyH_lex (md := .any) hw hs _ (kn l []) (fun i hi => hi) (fun i hi => by
    have := List.all_eq_true.1 hht i hi
    simpa using this) inv0 hhd hT
  exact wpAny_of_H (n := n) (ds := ds) (w0 := w) (Q := Q) (g := ts.length + 1) (later w) (fun listed N a w' _ hd hC _ hN hL => wpAny_of_seqL (md := .any) (t0 :: ts) listed a w' hL.1 (hL.2 a w' hd hC hN)) _ _ (kn l []) a _ (kn_lasts l) ha.defers (Mod.drew [] w) (Mod.drew [] w) (kn_all ha) H
end
end Go.Proofs.Ythmohmpalbnjoaa.V

set_option linter.unusedVariables false
set_option linter.unusedSimpArgs false
namespace Go.Proofs.Ythmohmpalbnjoaa.V
open Go
section
variable {P : Program} {ops : Array Oper} {Q : Exit → Act → World → Prop} {n : Nat} {ds : List Deferred} {l : List (Nat × Value)} {w w' : World} {a : Act}
variable {rest : List Oper} {d : Nat} {op : Op} {ty : TypeId} {pos : String} {af : Array Edge}
variable {dd : Option Nat} {gg : Option (Nat × Bool)} {x y z : Operand} {t t' : TypeId} {k k' : IntKind} {m m' r : Int}
/-! ## Operations whose value is told in other words -/
theorem Own.put {e sz c g : Nat} {v : Value} {vs : List Value} (h : Own w e sz v c vs) (k : Mod [g] w w') (D : ∀ x ∈ ob v, x ≠ g) : Own w' e sz v c vs := h.mod k fun x hx hg => D x hx (by simpa using hg)
theorem New.own_ne {e sz c g T : Nat} {cs : List Value} {v : Value} {vs : List Value} (N : New w w' g T cs) (h : Own w e sz v c vs) : ∀ x ∈ ob v, x ≠ g := fun x hx => Nat.ne_of_lt (N.at_ ▸ h.lt x hx)
theorem App.ne {e sz c g T : Nat} {cs : List Value} {v v' : Value} {vs : List Value} (h : App w w' e sz v v' c vs) (D : ∀ x ∈ ob v, x ≠ g) (B : Blk w g T cs) : ∀ x ∈ ob v', x ≠ g := fun x hx => by
  rcases h.ob_ x hx with h1 | h1
  · exact D x h1
  · have := B.lt; omega
theorem App.ge {e sz c : Nat} {w0 : World} {M : List Nat} {v v' : Value} {vs : List Value} (h : App w w' e sz v v' c vs) (L : ∀ x ∈ ob v, w0.heap.size ≤ x) (E : Mod M w0 w) : ∀ x ∈ ob v', w0.heap.size ≤ x := fun x hx => by
  rcases h.ob_ x hx with h1 | h1
  · exact L x h1
  · exact Nat.le_trans E.size h1
theorem Cs.mod0 {ad : Addr} {vs : List Value} (h : Cs w ad vs) (k : Mod [] w w') : Cs w' ad vs := h.mod k (by simp)
theorem o_pickT {b : Bool} {u : Value} (hb : b = true) (hx : evO l x = some (.bool b)) (hy : evO l y = some u) : Runs P l ⟨dd, .pick x y z, ty, pos, af, gg⟩ w u w := fun ρ h => by
  subst hb
  simp [execOp, h _ _ hx, h _ _ hy, asBool]
theorem o_pickF {b : Bool} {v : Value} (hb : b = false) (hx : evO l x = some (.bool b)) (hz : evO l z = some v) : Runs P l ⟨dd, .pick x y z, ty, pos, af, gg⟩ w v w := fun ρ h => by
  subst hb
  simp [execOp, h _ _ hx, h _ _ hz, asBool]
theorem Runs.to {o : Oper} {v v' : Value} (h : Runs P l o w v w') (e : v = v') : Runs P l o w v' w' := e ▸ h
theorem o_addE (hx : evO l x = some (.int k m)) (hy : evO l y = some (.int k m')) (hr : k.wrap (m + m') = r) : Runs P l ⟨dd, .binOp .add t x y t', ty, pos, af, gg⟩ w (.int k r) w := hr ▸ o_add hx hy
theorem o_subE (hx : evO l x = some (.int k m)) (hy : evO l y = some (.int k m')) (hr : k.wrap (m - m') = r) : Runs P l ⟨dd, .binOp .sub t x y t', ty, pos, af, gg⟩ w (.int k r) w := hr ▸ o_sub hx hy
theorem o_mulE (hx : evO l x = some (.int k m)) (hy : evO l y = some (.int k m')) (hr : k.wrap (m * m') = r) : Runs P l ⟨dd, .binOp .mul t x y t', ty, pos, af, gg⟩ w (.int k r) w := hr ▸ o_mul hx hy
theorem o_shlE (hx : evO l x = some (.int k m)) (hy : evO l y = some (.int k' m')) (h0 : 0 ≤ m') (hr : k.wrap (m * 2 ^ (min m'.toNat k.bits)) = r) : Runs P l ⟨dd, .binOp .shl t x y t', ty, pos, af, gg⟩ w (.int k r) w := hr ▸ o_shl hx hy h0
theorem o_shrE (hx : evO l x = some (.int k m)) (hy : evO l y = some (.int k' m')) (h0 : 0 ≤ m') (hr : m.fdiv (2 ^ (min m'.toNat k.bits)) = r) : Runs P l ⟨dd, .binOp .shr t x y t', ty, pos, af, gg⟩ w (.int k r) w := hr ▸ o_shr hx hy h0
theorem o_andE (hx : evO l x = some (.int k m)) (hy : evO l y = some (.int k m')) (hr : k.wrap (BitVec.ofInt k.bits m &&& BitVec.ofInt k.bits m').toNat = r) : Runs P l ⟨dd, .binOp .and t x y t', ty, pos, af, gg⟩ w (.int k r) w := hr ▸ o_and hx hy
theorem o_orE (hx : evO l x = some (.int k m)) (hy : evO l y = some (.int k m')) (hr : k.wrap (BitVec.ofInt k.bits m ||| BitVec.ofInt k.bits m').toNat = r) : Runs P l ⟨dd, .binOp .or t x y t', ty, pos, af, gg⟩ w (.int k r) w := hr ▸ o_or hx hy
theorem o_xorE (hx : evO l x = some (.int k m)) (hy : evO l y = some (.int k m')) (hr : k.wrap (BitVec.ofInt k.bits m ^^^ BitVec.ofInt k.bits m').toNat = r) : Runs P l ⟨dd, .binOp .xor t x y t', ty, pos, af, gg⟩ w (.int k r) w := hr ▸ o_xor hx hy
theorem o_convE {d0 : TypeDesc} (hs : P.underlying t = some d0) (ht : P.underlying t' = some (.int k')) (hx : evO l x = some (.int k m)) (hr : k'.wrap m = r) : Runs P l ⟨dd, .convert t t' x, ty, pos, af, gg⟩ w (.int k' r) w := hr ▸ o_conv hs ht hx
theorem wrapu64_in (z : Int) (h : 0 ≤ z ∧ z ≤ 18446744073709551615) : IntKind.u64.wrap z = z := by
  simp only [IntKind.wrap, IntKind.bits, IntKind.signed, Bool.false_and]
  exact Int.emod_eq_of_lt h.1 (by omega)
theorem wrapu32_in (z : Int) (h : 0 ≤ z ∧ z ≤ 4294967295) : IntKind.u32.wrap z = z := by
  simp only [IntKind.wrap, IntKind.bits, IntKind.signed, Bool.false_and]
  exact Int.emod_eq_of_lt h.1 (by omega)
theorem wrapu8_in (z : Int) (h : 0 ≤ z ∧ z ≤ 255) : IntKind.u8.wrap z = z := by
  simp only [IntKind.wrap, IntKind.bits, IntKind.signed, Bool.false_and]
  exact Int.emod_eq_of_lt h.1 (by omega)
theorem fdiv_two (m : Int) : m.fdiv (2 ^ (min (1 : Int).toNat 64)) = m / 2 := by
  rw [show (2 : Int) ^ (min (1 : Int).toNat 64) = 2 from rfl]
  exact Int.fdiv_eq_ediv_of_nonneg _ (by omega)
/-- (i + j) / 2 of two places -/
theorem half_cast (i j : Nat) : ((i : Int) + j) / 2 = ((i + j) / 2 : Nat) := by omega
end
end Go.Proofs.Ythmohmpalbnjoaa.V

set_option linter.unusedVariables false
set_option linter.unusedSimpArgs false
namespace Go.Proofs.Ythmohmpalbnjoaa.V
open Go
section
variable {P : Program} {ops : Array Oper} {Q : Exit → Act → World → Prop} {n : Nat} {ds : List Deferred} {l : List (Nat × Value)} {w w' : World} {a : Act}
variable {rest : List Oper} {d : Nat} {op : Op} {ty : TypeId} {pos : String} {af : Array Edge}
variable {dd : Option Nat} {gg : Option (Nat × Bool)} {x y z : Operand} {t t' : TypeId} {k k' : IntKind} {m m' : Int} {b b' : Bool}

theorem Own.take {e sz n c m : Nat} {ad : Option Addr} {vs : List Value} (O : Own w e sz (.slice ad n c) n vs) (hm : m ≤ n) : Own w e sz (.slice ad m c) m (vs.take (m * sz)) := by
  have hle : m * sz ≤ n * sz := Nat.mul_le_mul_right _ hm
  have hl := O.1
  rcases O.2 with ⟨h0, h0'⟩ | ⟨g, o, cc, cs, hv, hB, hc1, hc2, hc3, hc4⟩
  · injection h0 with e1 e2 e3
    subst e1; subst e3; subst e2
    have : m = 0 := by omega
    subst this
    simpa using Own.nil w e sz
  · injection hv with e1 e2 e3
    subst e1; subst e3
    refine ⟨by rw [List.length_take]; omega, .inr ⟨g, o, c, cs, rfl, hB, by omega, hc2, hc3, ?_⟩⟩
    rw [← hc4, List.take_take]
    congr 1
    omega
theorem Own.extend {e sz n c m : Nat} {ad : Addr} {vs : List Value} (O : Own w e sz (.slice (some ad) n c) n vs) (hm : n ≤ m) (hc : m ≤ c) : ∃ vs', Own w e sz (.slice (some ad) m c) m vs' ∧ vs'.take (n * sz) = vs := by
  have hle : n * sz ≤ m * sz := Nat.mul_le_mul_right _ hm
  have hle2 : m * sz ≤ c * sz := Nat.mul_le_mul_right _ hc
  have hl := O.1
  rcases O.2 with ⟨h0, h0'⟩ | ⟨g, o, cc, cs, hv, hB, hc1, hc2, hc3, hc4⟩
  · cases h0
  · injection hv with e1 e2 e3
    injection e1 with e1
    subst e1; subst e3
    refine ⟨(cs.drop o).take (m * sz), ⟨by rw [List.length_take, List.length_drop]; omega, .inr ⟨g, o, c, cs, rfl, hB, hc, hc2, hc3, rfl⟩⟩, ?_⟩
    rw [← hc4, List.take_take]
    congr 1
    omega
/-- copy into a part of a slice of the call's own -/
theorem s_copyat {tx e sz by_ N c lo k c' : Nat} {ad : Addr} {u : Value} {vs news : List Value} (ht : slB P t e sz by_ = true) (O : Own w e sz (.slice (some ad) N c) N vs) (hx : evO l x = some (.slice (adS (some ad) c lo sz) (N - lo) (c - lo))) (hy : evO l y = some u)
    (hl : (Builtin.lenOf u).run P w = .ok c' w) (hk : Nat.min c' (N - lo) = k) (hcl : (Builtin.firstCells sz k u).run P w = .ok news.toArray w) (hnl : news.length = k * sz) (h1c : ∀ u ∈ news, u.oneCell' = true) (hlo : lo ≤ N) (hd : Nat.blt d n = true)
    (h : ∀ w', Own w' e sz (.slice (some ad) N c) N (vs.take (lo * sz) ++ news ++ vs.drop ((lo + k) * sz)) → Mod [ad.block] w w' → w'.heap.size = w.heap.size → WL P ops Q rest n ds ((d, .int .i64 k) :: l) w') :
    WL P ops Q (⟨some d, .call { callee := .builtin .copy, args := #[x, y], argTypes := #[t, tx] }, ty, pos, af, none⟩ :: rest) n ds l w := by
  obtain ⟨i, z, h1, h2, h3, h4, h5, h6⟩ := slB_spec ht
  rcases O.2 with ⟨h0, _⟩ | ⟨g, o, cap, cs, hv, hB, hc1, hc2, hc3, hc4⟩
  · cases h0
  injection hv with e1 e2 e3
  injection e1 with e1
  subst e1; subst e3
  have hkN : k ≤ N - lo := by rw [← hk]; exact Nat.min_le_right _ _
  have hle : (lo + k) * sz ≤ N * sz := Nat.mul_le_mul_right _ (by omega)
  have hle2 : N * sz ≤ c * sz := Nat.mul_le_mul_right _ hc1
  have hvl := O.1
  have hadd : (lo + k) * sz = lo * sz + k * sz := Nat.add_mul _ _ _
  obtain ⟨w1, hst, hp⟩ := storeCells_put (P := P) hB (o := o + lo * sz) (vs := news) (by rw [hnl]; omega) h1c
  have hrun : ∃ w1, (match adS (some ⟨g, o, none⟩) c lo sz with | some a => storeCells a news | none => pure ()).run P w = .ok () w1 ∧ Own w1 e sz (.slice (some ⟨g, o, none⟩) N c) N (vs.take (lo * sz) ++ news ++ vs.drop ((lo + k) * sz)) ∧ Mod [g] w w1 ∧ w1.heap.size = w.heap.size := by
    by_cases hlc : c = lo
    · have hk0 : k = 0 := by omega
      subst hk0
      have hne : news = [] := List.eq_nil_of_length_eq_zero (by simpa using hnl)
      subst hne
      refine ⟨w, ?_, ?_, Mod.refl _ w, rfl⟩
      · simp [adS, hlc, storeCells]
      · simpa using O
    · refine ⟨w1, ?_, ⟨?_, .inr ⟨g, o, c, _, rfl, hp.blk, hc1, hc2, by simp [splice]; omega, ?_⟩⟩, hp.mod, hp.size⟩
      · simpa [adS, hlc, Addr.add_lit] using hst
      · simp only [List.length_append, List.length_take, List.length_drop, hnl, hvl]
        omega
      · subst hc4
        apply List.ext_getElem?
        intro j
        simp only [splice, hnl]
        simp only [List.getElem?_take, List.getElem?_drop, List.getElem?_append, List.length_append, List.length_take, List.length_drop, hnl]
        repeat' split
        all_goals first
          | omega
          | rfl
          | (congr 1; omega)
          | skip
  obtain ⟨w1, hst, hO, hM, hs⟩ := hrun
  refine sv (v := .int .i64 k) (w' := w1) (fun ρ hρ => ?_) hd (h w1 hO hM hs)
  subst h3
  cases hA : adS (some (⟨g, o, none⟩ : Addr)) c lo i.size with
  | none =>
    rw [hA] at hst
    simp [execOp, resolve, invoke, builtin, hρ _ _ hx, hρ _ _ hy, Builtin.copy_, run_underlying h1, run_sizeOf_of h2, hl, hk, hcl, goInt, hA]
    simpa using hst
  | some a =>
    rw [hA] at hst
    simp [execOp, resolve, invoke, builtin, hρ _ _ hx, hρ _ _ hy, Builtin.copy_, run_underlying h1, run_sizeOf_of h2, hl, hk, hcl, goInt, hA]
    simp at hst
    simp [hst]
/-- append(s, make([]T, m)...): m zeros -/
theorem appendz_run {t tx e sz by_ c c' : Nat} {v : Value} {vs zs : List Value} (ht : slB P t e sz by_ = true) (hz : zvB P e zs) (hzl : zs.length = sz) (htx : P.underlying tx = some (.int .i64)) (O : Own w e sz v c vs) (hsz : 0 < sz) (h1c : ∀ u ∈ zs, u.oneCell' = true)
    (hb : (c + c') * by_ ≤ 140737488355328) (hb1 : c + c' ≤ 9223372036854775807) (ty : Nat) :
    ∃ v' w' news, (Builtin.append_ #[t, tx] ty #[v, .int .i64 c']).run P w = .ok v' w' ∧ App w w' e sz v v' (c + c') (vs ++ news) ∧ news.length = c' * sz ∧ (∀ u ∈ news, u.oneCell' = true) ∧ ((∀ ad cc, v = .slice ad c cc → cc < c + c') → (∀ x ∈ ob v', w.heap.size ≤ x) ∧ Mod [] w w') := by
  obtain ⟨i, z, h1, h2, h3, h4, h5, h6⟩ := slB_spec ht
  obtain ⟨i', z', h7, h8, h9⟩ := zvB_spec hz
  have hii : i' = i := Option.some.inj (h7.symm.trans h2)
  subst hii
  have hzz : z' = z := Option.some.inj (h8.symm.trans h5)
  subst hzz
  subst h3; subst h4
  have hnl : (Builtin.zeroCells z'.cells c').toList.length = c' * i'.size := by rw [Array.length_toList, size_zeroCells, h6]
  have hone : ∀ u ∈ (Builtin.zeroCells z'.cells c').toList, u.oneCell' = true := by
    intro u hu
    rw [h9] at hu
    simp only [Builtin.zeroCells, Array.toList_map, List.mem_map] at hu
    obtain ⟨j, _, rfl⟩ := hu
    have hlt : j % zs.toArray.size < zs.length := by
      simp only [List.size_toArray]
      exact Nat.mod_lt _ (by omega)
    have : zs.toArray[j % zs.toArray.size]! = zs[j % zs.toArray.size] := by
      simp only [List.size_toArray] at hlt ⊢
      simp [hlt]
    rw [this]
    exact h1c _ (List.getElem_mem hlt)
  have hlen : (vs ++ (Builtin.zeroCells z'.cells c').toList).length = (c + c') * i'.size := by rw [List.length_append, O.1, hnl, Nat.add_mul]
  have hw : IntKind.i64.wrap (c' : Int) = c' := wrap64_in _ (by omega)
  have hnn : ¬ ((c' : Int) < 0) := by omega
  have hmb : ¬ ((c' : Int) * (i'.bytes : Int) > 281474976710656) := by
    have : c' * i'.bytes ≤ (c + c') * i'.bytes := Nat.mul_le_mul_right _ (by omega)
    have h3 : (c' : Int) * (i'.bytes : Int) = ((c' * i'.bytes : Nat) : Int) := by simp
    rw [h3]
    omega
  have hz00 : c' * i'.size = 0 → Builtin.zeroCells z'.cells c' = #[] := fun h0 => Array.eq_empty_of_size_eq_zero (by rw [size_zeroCells, h6]; exact h0)
  have grow : ∀ (base : Option Addr) (cap : Nat), cap < c + c' → (Builtin.firstCells i'.size c (.slice base c cap)).run P w.drew = .ok vs.toArray w.drew →
      ∃ v' w', (Builtin.append_ #[t, tx] ty #[.slice base c cap, .int .i64 c']).run P w = .ok v' w' ∧ App w w' e i'.size (.slice base c cap) v' (c + c') (vs ++ (Builtin.zeroCells z'.cells c').toList) ∧ (∀ x ∈ ob v', w.heap.size ≤ x) ∧ Mod [] w w' := by
    intro base cap hcap hold
    have hfit := growslice_fits hcap hb
    have hn : ¬ (c + c' ≤ cap) := by omega
    have h63' : ¬ (9223372036854775807 < ((c : Int) + (c' : Int))) := by omega
    have h48' : ¬ (281474976710656 < Builtin.nextslicecap (c + c') cap * i'.bytes) := by omega
    have hr : (Builtin.append_ #[t, tx] ty #[.slice base c cap, .int .i64 c']).run P w =
      .ok (.slice (some ⟨w.heap.size, 0, none⟩) (c + c') (grownCap w (c + c') cap e))
        (w.drew.alloc (.cells ((vs ++ (Builtin.zeroCells z'.cells c').toList).toArray ++ Builtin.zeroCells z'.cells (grownCap w (c + c') cap e - (c + c'))) e)) := by
      by_cases h0 : c' * i'.size = 0
      · have hz0 := hz00 h0
        simp [Builtin.append_, run_underlying h1, run_underlying htx, sizeOf, typeInfo, zeroValue, h2, h5, asInt, asIntOf, hw, hnn, hmb, hn, h63', h48', Question.forced, hold, newRow, grownCap, h0, hz0]
      · simp [Builtin.append_, run_underlying h1, run_underlying htx, sizeOf, typeInfo, zeroValue, h2, h5, asInt, asIntOf, hw, hnn, hmb, hn, h63', h48', Question.forced, hold, newRow, grownCap, h0]
        congr 2
        apply Array.toList_inj.1
        simp
    have hge := grownCap_ge w (c + c') cap e
    generalize hN : (Builtin.zeroCells z'.cells c').toList = news at *
    have hB : Blk (w.drew.alloc (.cells ((vs ++ news).toArray ++ Builtin.zeroCells z'.cells (grownCap w (c + c') cap e - (c + c'))) e)) w.heap.size e ((vs ++ news) ++ (Builtin.zeroCells z'.cells (grownCap w (c + c') cap e - (c + c'))).toList) := by
      have := heap_alloc_new w.drew (.cells ((vs ++ news).toArray ++ Builtin.zeroCells z'.cells (grownCap w (c + c') cap e - (c + c'))) e)
      unfold Blk
      refine this.trans ?_
      congr 2
      apply Array.toList_inj.1
      simp
    refine ⟨_, _, hr, ⟨⟨hlen, .inr ⟨w.heap.size, 0, _, _, rfl, hB, hge, grownCap_le_maxLen w (c + c') cap e (by simp only [maxLen]; omega), ?_, ?_⟩⟩, ?_, ?_⟩, ?_, ?_⟩
    · have hzl : (Builtin.zeroCells z'.cells (grownCap w (c + c') cap e - (c + c'))).toList.length = (grownCap w (c + c') cap e - (c + c')) * i'.size := by
        rw [Array.length_toList, size_zeroCells, h6]
      rw [List.length_append, hlen, hzl, ← Nat.add_mul]
      have : c + c' + (grownCap w (c + c') cap e - (c + c')) = grownCap w (c + c') cap e := by omega
      rw [this]
      omega
    · rw [List.drop_zero, ← hlen]
      exact List.take_left
    · exact ⟨rfl, rfl, rfl, by simp, fun j hj _ => RowKit.Below.heap_alloc w.drew _ j hj⟩
    · intro x hx
      simp [ob] at hx
      exact .inr (by omega)
    · intro x hx
      simp [ob] at hx
      omega
    · exact ⟨rfl, rfl, rfl, by simp, fun j hj _ => RowKit.Below.heap_alloc w.drew _ j hj⟩
  rcases O.2 with ⟨rfl, h0⟩ | ⟨g, o, cap, cs, rfl, hB, hc1, hc2, hc3, hc4⟩
  · subst h0
    have hvs : vs = [] := List.eq_nil_of_length_eq_zero (by simpa using O.1)
    subst hvs
    rcases Nat.eq_zero_or_pos c' with h0 | h0
    · subst h0
      refine ⟨.slice none 0 0, w, [], ?_, ⟨by simpa using Own.nil w e i'.size, Mod.refl _ w, fun x hx => .inl hx⟩, by simp, by simp, fun hh => absurd (hh _ _ rfl) (by omega)⟩
      have hw0 : IntKind.i64.wrap 0 = 0 := by decide
      simp [Builtin.append_, run_underlying h1, run_underlying htx, sizeOf, typeInfo, h2, asInt, asIntOf, hw0]
    · obtain ⟨v', w', hr, hA, hG⟩ := grow none 0 (by omega) (run_firstCells_none w.drew i'.size 0 0 0)
      exact ⟨v', w', _, hr, hA, hnl, hone, fun _ => hG⟩
  · by_cases hroom : c + c' ≤ cap
    · have hle : (c + c') * i'.size ≤ cap * i'.size := Nat.mul_le_mul_right _ hroom
      generalize hN : (Builtin.zeroCells z'.cells c') = NW at *
      have hfit : o + c * i'.size + NW.toList.length ≤ cs.length := by rw [hnl]; rw [Nat.add_mul] at hle; omega
      obtain ⟨w1, hst, hp⟩ := storeCells_put (P := P) hB hfit hone
      refine ⟨.slice (some ⟨g, o, none⟩) (c + c') cap, w1, NW.toList, ?_, ⟨⟨hlen, .inr ⟨g, o, cap, _, rfl, hp.blk, hroom, hc2, ?_, ?_⟩⟩, ?_, fun x hx => .inl hx⟩, hnl, hone, fun hh => absurd (hh _ _ rfl) (by omega)⟩
      · by_cases h0 : c' * i'.size = 0
        · have hz0 := hz00 h0
          rw [hz0] at hst
          simp at hst
          simp [Builtin.append_, run_underlying h1, run_underlying htx, sizeOf, typeInfo, zeroValue, h2, h5, asInt, asIntOf, hw, hnn, hmb, hroom, Addr.add_lit, h0, hst]
        · simp [Builtin.append_, run_underlying h1, run_underlying htx, sizeOf, typeInfo, zeroValue, h2, h5, asInt, asIntOf, hw, hnn, hmb, hroom, Addr.add_lit, h0, hN, hst]
      · simp only [splice, List.length_append, List.length_take, List.length_drop]
        omega
      · have e1 : List.take (o + c * i'.size) cs = List.take o cs ++ vs := by rw [← hc4, List.take_add]
        have hol : (List.take o cs).length = o := by rw [List.length_take]; omega
        rw [splice, e1, List.append_assoc, List.append_assoc, List.drop_left' hol, ← List.append_assoc, ← hlen, List.take_left]
      · exact hp.mod
    · obtain ⟨v', w', hr, hA, hG⟩ := grow (some ⟨g, o, none⟩) cap (by omega) (run_firstCells_some w.drew i'.size c _ c cap vs O.1 (fun j x hx => by have := O.cs j x hx; simpa using this))
      exact ⟨v', w', _, hr, hA, hnl, hone, fun _ => hG⟩
theorem s_appendz {t tx e sz by_ c c' : Nat} {v : Value} {vs zs : List Value} (ht : slB P t e sz by_ = true) (hz : zvB P e zs) (hzl : zs.length = sz) (htx : P.underlying tx = some (.int .i64)) (hx : evO l x = some v) (hy : evO l y = some (.int .i64 c')) (O : Own w e sz v c vs) (hsz : 0 < sz) (h1c : ∀ u ∈ zs, u.oneCell' = true)
    (hb : (c + c') * by_ ≤ 140737488355328) (hb1 : c + c' ≤ 9223372036854775807) (hd : Nat.blt d n = true)
    (h : ∀ v' w' news, App w w' e sz v v' (c + c') (vs ++ news) → news.length = c' * sz → (∀ u ∈ news, u.oneCell' = true) → ((∀ ad cc, v = .slice ad c cc → cc < c + c') → (∀ x ∈ ob v', w.heap.size ≤ x) ∧ Mod [] w w') → WL P ops Q rest n ds ((d, v') :: l) w') :
    WL P ops Q (⟨some d, .call { callee := .builtin .append, args := #[x, y], argTypes := #[t, tx] }, ty, pos, af, none⟩ :: rest) n ds l w := by
  obtain ⟨v', w', news, hr, hA, h2, h3, h4⟩ := appendz_run (P := P) ht hz hzl htx O hsz h1c hb hb1 ty
  refine sv (v := v') (w' := w') (fun ρ hρ => ?_) hd (h v' w' news hA h2 h3 h4)
  simp [execOp, resolve, invoke, builtin, hρ _ _ hx, hρ _ _ hy, hr]
/-! ### slices.overlaps -/
def Ovl (P : Program) (f : FuncId) (tS tR : TypeId) : Prop := ∀ args w, (callFunc f args).run P w = ((Extern.SlicesOverlaps.overlaps #[tS, tS] #[tR] args).run P w).andThen fun v w' => .ok (.value v) w'
theorem o_overlaps {tS tR e sz by_ f i j c1 c2 : Nat} {a1 a2 : Addr} (hf : Ovl P f tS tR) (ht : slB P tS e sz by_ = true) (hx : evO l x = some (.slice (some a1) i c1)) (hy : evO l y = some (.slice (some a2) j c2))
    {g1 g2 : Nat} {o1 o2 : Nat} (ha1 : a1 = ⟨g1, o1, none⟩) (ha2 : a2 = ⟨g2, o2, none⟩) {T1 T2 : Nat} {cs1 cs2 : List Value} (B1 : Blk w g1 T1 cs1) (B2 : Blk w g2 T2 cs2) (hne : g1 ≠ g2) (h2 : cs2 ≠ []) {ts : Array TypeId} :
    Runs P l ⟨dd, .call { callee := .value (.func f), args := #[x, y], argTypes := ts }, ty, pos, af, gg⟩ w (.bool false) w := fun ρ hρ => by
  subst ha1; subst ha2
  obtain ⟨i', z, h1, h2', h3, h4, h5, h6⟩ := slB_spec ht
  have e2 : ρ (.func f) = .func (.func f) #[] #[] := hρ _ _ rfl
  have hov := Lib.run_overlaps_apart (P := P) w tS tR e h1 i'.size (fun w' => run_sizeOf_of h2') ⟨g1, o1, none⟩ ⟨g2, o2, none⟩ i c1 j c2 hne T1 T2 cs1.length cs2.length (by have := B1; unfold Blk at this; simp [World.shape?, this]) (by have := B2; unfold Blk at this; simp [World.shape?, this]) (by simpa using h2) (B1.frozen o1) (B1.frozen _)
  have := hf #[.slice (some ⟨g1, o1, none⟩) i c1, .slice (some ⟨g2, o2, none⟩) j c2] w
  rw [hov] at this
  simp [execOp, resolve, e2, hρ _ _ hx, hρ _ _ hy, Deferred.ofValue, invoke] at this ⊢
  simpa using this
/-- an element of a slice of the call's own is written -/
theorem s_stown {e sz N c i : Nat} {ad : Addr} {vs us : List Value} {T : TypeId} (ht : agB P T sz = true) (O : Own w e sz (.slice (some ad) N c) N vs) (hx : evO l x = some (.pointer (some (ad.add (i * sz))))) (hy : evO l y = some (.agg us.toArray)) (hl : us.length = sz) (h1c : ∀ u ∈ us, u.oneCell' = true) (hi : i < N)
    (h : ∀ w', Own w' e sz (.slice (some ad) N c) N (vs.take (i * sz) ++ us ++ vs.drop ((i + 1) * sz)) → Mod [ad.block] w w' → w'.heap.size = w.heap.size → WL P ops Q rest n ds l w') :
    WL P ops Q (⟨none, .store T x y, ty, pos, af, none⟩ :: rest) n ds l w := by
  rcases O.2 with ⟨h0, _⟩ | ⟨g, o, cap, cs, hv, hB, hc1, hc2, hc3, hc4⟩
  · cases h0
  injection hv with e1 e2 e3
  injection e1 with e1
  subst e1; subst e3
  have hle : (i + 1) * sz ≤ N * sz := Nat.mul_le_mul_right _ (by omega)
  have hle2 : N * sz ≤ c * sz := Nat.mul_le_mul_right _ hc1
  have hvl := O.1
  have hadd : (i + 1) * sz = i * sz + sz := by rw [Nat.add_mul]; omega
  rw [Addr.add_lit] at hx
  refine s_sta (vs := us) ht hB hx hy hl h1c (by omega) fun w' hp => ?_
  refine h w' ⟨?_, .inr ⟨g, o, c, _, rfl, hp.blk, hc1, hc2, by simp [splice]; omega, ?_⟩⟩ hp.mod hp.size
  · simp only [List.length_append, List.length_take, List.length_drop, hl, hvl]
    omega
  · subst hc4
    apply List.ext_getElem?
    intro j
    simp only [splice, hl]
    simp only [List.getElem?_take, List.getElem?_drop, List.getElem?_append, List.length_append, List.length_take, List.length_drop, hl]
    repeat' split
    all_goals first
      | omega
      | rfl
      | (congr 1; omega)
      | skip
theorem flat_take_ {α : Type} {sz : Nat} {cells : α → List Value} {xs : List α} (hl : ∀ x, (cells x).length = sz) (i : Nat) : ((xs.map cells).flatten).take (i * sz) = ((xs.take i).map cells).flatten := by
  induction xs generalizing i with
  | nil => simp
  | cons x xs ih =>
    cases i with
    | zero => simp
    | succ i =>
      simp only [List.map_cons, List.flatten_cons, List.take_succ_cons]
      rw [List.take_append, hl, Nat.add_mul, Nat.one_mul, List.take_of_length_le (by rw [hl]; omega), Nat.add_sub_cancel, ih]
theorem flat_drop_ {α : Type} {sz : Nat} {cells : α → List Value} {xs : List α} (hl : ∀ x, (cells x).length = sz) (i : Nat) : ((xs.map cells).flatten).drop (i * sz) = ((xs.drop i).map cells).flatten := by
  induction xs generalizing i with
  | nil => simp
  | cons x xs ih =>
    cases i with
    | zero => simp
    | succ i =>
      simp only [List.map_cons, List.flatten_cons, List.drop_succ_cons]
      rw [List.drop_append, hl, Nat.add_mul, Nat.one_mul, List.drop_eq_nil_of_le (by rw [hl]; omega), Nat.add_sub_cancel, ih, List.nil_append]
theorem flat_none {α : Type} {A : List Nat} {sz n c : Nat} {cells : α → List Value} {xs : List α} (h : Rep A w (flat sz cells xs) (.slice none n c)) : xs = [] := by
  cases xs with
  | nil => rfl
  | cons x xs =>
    obtain ⟨a, ha, _⟩ := flat_at (i := 0) h rfl
    cases ha
theorem adS_zero (ad : Option Addr) (c sz : Nat) : adS ad c 0 sz = ad := by
  unfold adS
  split
  · rfl
  · cases ad with
    | none => rfl
    | some a => simp [Addr.add_zero']
theorem adS_some (g o c lo sz : Nat) : ∃ o', adS (some (⟨g, o, none⟩ : Addr)) c lo sz = some ⟨g, o', none⟩ := by
  unfold adS
  split
  · exact ⟨o, rfl⟩
  · exact ⟨o + lo * sz, by simp [Addr.add_lit]⟩
theorem firstCells_any (sz k : Nat) (b : Option Addr) (i c i' c' : Nat) : Builtin.firstCells sz k (.slice b i c) = Builtin.firstCells sz k (.slice b i' c') := by cases b <;> rfl
theorem o_slto {ad : Option Addr} {c c' e sz by_ hi : Nat} {h : Operand} (ht : slB P t e sz by_ = true) (hx : evO l x = some (.slice ad c c')) (hh : evO l h = some (.int .i64 (hi : Int))) (hb : hi ≤ c') (hc : c ≤ c') :
    Runs P l ⟨dd, .slice t x none (some h) none, ty, pos, af, gg⟩ w (.slice ad hi c') w := by
  have := o_sl (P := P) (w := w) (dd := dd) (ty := ty) (pos := pos) (af := af) (gg := gg) ht hx (lo := none) (pl := none) (hi := some h) (ph := some (.i64, (hi : Int))) rfl (by simp [evS, hh]) (by simp only [loV, hiV]; omega) hc
  refine this.to ?_
  simp [loV, hiV, adS_zero]
theorem o_slfrom {ad : Option Addr} {c c' e sz by_ lo : Nat} {h : Operand} (ht : slB P t e sz by_ = true) (hx : evO l x = some (.slice ad c c')) (hh : evO l h = some (.int .i64 (lo : Int))) (hb : lo ≤ c) (hc : c ≤ c') :
    Runs P l ⟨dd, .slice t x (some h) none none, ty, pos, af, gg⟩ w (.slice (adS ad c' lo sz) (c - lo) (c' - lo)) w := by
  have := o_sl (P := P) (w := w) (dd := dd) (ty := ty) (pos := pos) (af := af) (gg := gg) ht hx (hi := none) (ph := none) (lo := some h) (pl := some (.i64, (lo : Int))) (by simp [evS, hh]) rfl (by simp only [loV, hiV]; omega) hc
  refine this.to ?_
  simp [loV, hiV]
/-- what an insertion makes, in a new row -/
theorem ins_grow {n i : Nat} {vs news sc : List Value} (hv : vs.length = n * 3) (hn : news.length = (n + 1 - i) * 3) (hs : sc.length = 3) (hi : i ≤ n) :
    ((vs.take (i * 3) ++ news).take (i * 3) ++ sc ++ (vs.take (i * 3) ++ news).drop ((i + 1) * 3)).take ((i + 1) * 3) ++ (vs.drop (i * 3)).take ((n - i) * 3) ++ ((vs.take (i * 3) ++ news).take (i * 3) ++ sc ++ (vs.take (i * 3) ++ news).drop ((i + 1) * 3)).drop ((i + 1 + (n - i)) * 3) = vs.take (i * 3) ++ sc ++ vs.drop (i * 3) := by
  have h1 : (vs.take (i * 3)).length = i * 3 := by rw [List.length_take]; omega
  have h2 : (vs.take (i * 3) ++ news).take (i * 3) = vs.take (i * 3) := List.take_left' h1
  have h3 : (vs.take (i * 3) ++ sc).length = (i + 1) * 3 := by rw [List.length_append, h1, hs]; omega
  rw [h2]
  have h4 : ((vs.take (i * 3) ++ sc) ++ (vs.take (i * 3) ++ news).drop ((i + 1) * 3)).take ((i + 1) * 3) = vs.take (i * 3) ++ sc := by rw [← h3]; exact List.take_left
  have h5 : ((vs.take (i * 3) ++ sc) ++ (vs.take (i * 3) ++ news).drop ((i + 1) * 3)).drop ((i + 1 + (n - i)) * 3) = [] := List.drop_eq_nil_of_le (by rw [List.length_append, h3, List.length_drop, List.length_append, h1, hn]; omega)
  have h6 : (vs.drop (i * 3)).take ((n - i) * 3) = vs.drop (i * 3) := List.take_of_length_le (by rw [List.length_drop]; omega)
  rw [h4, h5, h6, List.append_nil]
/-- .. in place -/
theorem ins_room {n i : Nat} {vs vs' sc : List Value} (hv : vs.length = n * 3) (hv' : vs'.length = (n + 1) * 3) (ht : vs'.take (n * 3) = vs) (hs : sc.length = 3) (hi : i ≤ n) :
    (vs'.take ((i + 1) * 3) ++ (vs'.drop (i * 3)).take ((n - i) * 3) ++ vs'.drop ((i + 1 + (n - i)) * 3)).take (i * 3) ++ sc ++ (vs'.take ((i + 1) * 3) ++ (vs'.drop (i * 3)).take ((n - i) * 3) ++ vs'.drop ((i + 1 + (n - i)) * 3)).drop ((i + 1) * 3) = vs.take (i * 3) ++ sc ++ vs.drop (i * 3) := by
  have h1 : (vs'.take ((i + 1) * 3)).length = (i + 1) * 3 := by rw [List.length_take]; omega
  have h2 : vs'.drop ((i + 1 + (n - i)) * 3) = [] := List.drop_eq_nil_of_le (by omega)
  rw [h2, List.append_nil]
  congr 1
  · congr 1
    rw [List.take_append_of_le_length (by omega), List.take_take, ← ht, List.take_take]
    congr 1
    omega
  · rw [List.drop_left' h1, ← ht, List.drop_take]
    congr 1
    omega
end
end Go.Proofs.Ythmohmpalbnjoaa.V

set_option linter.unusedVariables false
set_option linter.unusedSimpArgs false
namespace Go.Proofs.Ythmohmpalbnjoaa.V
open Go
section
variable {P : Program} {ops : Array Oper} {Q : Exit → Act → World → Prop} {n : Nat} {ds : List Deferred} {l : List (Nat × Value)} {M : List (Nat × (Value → World → Prop))} {w w' : World} {a : Act}
variable {rest : List Oper} {d : Nat} {op : Op} {ty : TypeId} {pos : String} {af : Array Edge} {Fin : Kn → Prop} {j : Nat} {want b : Bool}
variable {dd : Option Nat} {gg : Option (Nat × Bool)} {x y z : Operand} {t t' : TypeId}
theorem o_bseq {b b' : Bool} (he : P.underlying t = some .bool) (hx : evO l x = some (.bool b)) (hy : evO l y = some (.bool b')) : Runs P l ⟨dd, .binOp .eql t x y t', ty, pos, af, gg⟩ w (.bool (b == b')) w := fun ρ h => by
  simp [execOp, eqGuard, h _ _ hx, h _ _ hy, binOp, run_equal_bool w t b b' he]
theorem o_bsne {b b' : Bool} (he : P.underlying t = some .bool) (hx : evO l x = some (.bool b)) (hy : evO l y = some (.bool b')) : Runs P l ⟨dd, .binOp .neq t x y t', ty, pos, af, gg⟩ w (.bool (b != b')) w := fun ρ h => by
  simp [execOp, eqGuard, h _ _ hx, h _ _ hy, binOp, run_equal_bool w t b b' he]
  cases b <;> cases b' <;> rfl
theorem J_of2 {V : Value → World → Prop} {t s : Nat} {U U' : Value → World → Prop} (ht : lk t l = none) (hM : lkM t M = some U) (hx : ∃ x ∈ op.operands.toList, x = .tmp t) (hs' : lk s l = none) (hM' : lkM s M = some U') (hx' : ∃ x ∈ op.operands.toList, x = .tmp s) (hV : ∀ v w1 w2, Mod [] w1 w2 → V v w1 → V v w2) (hd : Nat.blt d n = true) (hs : notSel op = true)
    (hr : ∀ (ρ : Operand → Value) w1 u u', Mod [] w w1 → U u w1 → U' u' w1 → (∀ x v, evO ((t, u) :: (s, u') :: l) x = some v → ρ x = v) → TameUpon P (Mod []) w1 V ((execOp ρ ⟨some d, op, ty, pos, af, none⟩).run P w1)) :
    J P ops (Mod []) (Mod [] w) n (kn l M) ⟨some d, op, ty, pos, af, none⟩ V := by
  refine J_of hV hd hs fun ρ w1 hC h1 h2 => hr ρ w1 (ρ (.tmp t)) (ρ (.tmp s)) hC (h2 t U ht hM hx) (h2 s U' hs' hM' hx') fun x v hv => ?_
  cases x with
  | tmp r =>
    simp only [evO, lk] at hv
    cases hb : Nat.beq t r with
    | true =>
      rw [hb] at hv
      have := Nat.eq_of_beq_eq_true hb
      subst this
      injection hv
    | false =>
      rw [hb] at hv
      cases hb' : Nat.beq s r with
      | true =>
        rw [hb'] at hv
        have := Nat.eq_of_beq_eq_true hb'
        subst this
        injection hv
      | false => rw [hb'] at hv; exact h1 _ _ hv
  | const c => exact h1 _ _ hv
  | global g => exact h1 _ _ hv
  | func f => exact h1 _ _ hv
theorem tc2 {f : FuncId} {args : Value → Value → Array Value} {v : Value} (t s : Nat) {U U' : Value → World → Prop} (ht : lk t l = none) (hM : lkM t M = some U) (hx : ∃ x ∈ op.operands.toList, x = .tmp t) (hs' : lk s l = none) (hM' : lkM s M = some U') (hx' : ∃ x ∈ op.operands.toList, x = .tmp s)
    (hr : ∀ w1 u u', Mod [] w w1 → U u w1 → U' u' w1 → RunsC P ((t, u) :: (s, u') :: l) ⟨some d, op, ty, pos, af, none⟩ w1 f (args u u')) (hc : ∀ w1 u u', Mod [] w w1 → U u w1 → U' u' w1 → Calls P f (args u u') w1 (Ret fun r w2 => r = v ∧ Mod [] w1 w2)) (hd : Nat.blt d n = true) (hs : notSel op = true) (h : TWL P ops w n Fin rest ((d, v) :: l) M) :
    TWL P ops w n Fin (⟨some d, op, ty, pos, af, none⟩ :: rest) l M := by
  refine ⟨fun u _ => u = v, J_of2 ht hM hx hs' hM' hx' (fun _ _ _ _ h => h) hd hs fun ρ w1 u u' hC hU hU' h1 => ?_, ?_⟩
  · rw [hr w1 u u' hC hU hU' ρ h1]
    exact ⟨rfl, (hc w1 u u' hC hU hU').mono fun e w2 he => by cases e <;> first | exact ⟨he.2, he.1⟩ | exact he⟩
  · rw [kn_put_v rfl]; exact h
theorem tc2g {f : FuncId} {args : Value → Value → Array Value} {v : Value} (t s : Nat) {U U' : Value → World → Prop} (hg : gv ops l j = some b) (hb : b = want) (ht : lk t l = none) (hM : lkM t M = some U) (hx : ∃ x ∈ op.operands.toList, x = .tmp t) (hs' : lk s l = none) (hM' : lkM s M = some U') (hx' : ∃ x ∈ op.operands.toList, x = .tmp s)
    (hr : ∀ w1 u u', Mod [] w w1 → U u w1 → U' u' w1 → RunsC P ((t, u) :: (s, u') :: l) ⟨some d, op, ty, pos, af, none⟩ w1 f (args u u')) (hc : ∀ w1 u u', Mod [] w w1 → U u w1 → U' u' w1 → Calls P f (args u u') w1 (Ret fun r w2 => r = v ∧ Mod [] w1 w2)) (hd : Nat.blt d n = true) (hs : notSel op = true) (h : TWL P ops w n Fin rest ((d, v) :: l) M) :
    TWL P ops w n Fin (⟨some d, op, ty, pos, af, some (j, want)⟩ :: rest) l M := by
  refine ⟨fun u _ => u = v, J_g hg hb (J_of2 ht hM hx hs' hM' hx' (fun _ _ _ _ h => h) hd hs fun ρ w1 u u' hC hU hU' h1 => ?_), ?_⟩
  · rw [hr w1 u u' hC hU hU' ρ h1]
    exact ⟨rfl, (hc w1 u u' hC hU hU').mono fun e w2 he => by cases e <;> first | exact ⟨he.2, he.1⟩ | exact he⟩
  · rw [kn_put_v rfl]; exact h
theorem tc1g {f : FuncId} {args : Value → Array Value} {v : Value} (t : Nat) {U : Value → World → Prop} (hg : gv ops l j = some b) (hb : b = want) (ht : lk t l = none) (hM : lkM t M = some U) (hx : ∃ x ∈ op.operands.toList, x = .tmp t)
    (hr : ∀ w1 u, Mod [] w w1 → U u w1 → RunsC P ((t, u) :: l) ⟨some d, op, ty, pos, af, none⟩ w1 f (args u)) (hc : ∀ w1 u, Mod [] w w1 → U u w1 → Calls P f (args u) w1 (Ret fun r w2 => r = v ∧ Mod [] w1 w2)) (hd : Nat.blt d n = true) (hs : notSel op = true) (h : TWL P ops w n Fin rest ((d, v) :: l) M) :
    TWL P ops w n Fin (⟨some d, op, ty, pos, af, some (j, want)⟩ :: rest) l M := by
  refine ⟨fun u _ => u = v, J_g hg hb (J_of1 ht hM hx (fun _ _ _ _ h => h) hd hs fun ρ w1 u hC hU h1 => ?_), ?_⟩
  · rw [hr w1 u hC hU ρ h1]
    exact ⟨rfl, (hc w1 u hC hU).mono fun e w2 he => by cases e <;> first | exact ⟨he.2, he.1⟩ | exact he⟩
  · rw [kn_put_v rfl]; exact h
theorem Calls.imp {f : FuncId} {args : Array Value} {φ ψ : Value → World → Prop} (h : Calls P f args w (Ret φ)) (hi : ∀ u w', φ u w' → ψ u w') : Calls P f args w (Ret ψ) :=
  h.mono fun e w2 he => by cases e <;> first | exact hi _ _ he | exact he
/-- a guarded operation that is done: as one with no guard -/
theorem sgw {dst : Option Nat} (hg : gv ops l j = some b) (hb : b = want) (h : WL P ops Q (⟨dst, op, ty, pos, af, none⟩ :: rest) n ds l w) : WL P ops Q (⟨dst, op, ty, pos, af, some (j, want)⟩ :: rest) n ds l w := by
  intro a ha
  have hw : Region.wanted ⟨dst, op, ty, pos, af, some (j, want)⟩ (yielded ops a.tmps) = true := by
    simp [Region.wanted, yielded_of ha hg, hb]
  have := h a ha
  unfold wpList at this ⊢
  rw [if_pos hw]
  rw [if_pos (by simp [Region.wanted])] at this
  exact this
/-- a byte of a text, whichever -/
theorem s_sidx {u : List UInt8} {k : IntKind} {m : Int} (ht : P.underlying t = some .string) (hx : evO l x = some (S u)) (hy : evO l y = some (.int k m)) (h0 : 0 ≤ m) (hb : m.toNat < u.length) (hd : Nat.blt d n = true)
    (h : ∀ c : UInt8, u[m.toNat]? = some c → WL P ops Q rest n ds ((d, .int .u8 c.toNat) :: l) w) : WL P ops Q (⟨some d, .index t x y, ty, pos, af, none⟩ :: rest) n ds l w :=
  sv (o_sidx ht hx hy h0 (List.getElem?_eq_getElem hb)) hd (h _ (List.getElem?_eq_getElem hb))
theorem Cs.first {ad : Addr} {v : Value} {vs : List Value} (h : Cs w ad (v :: vs)) : w.cell? ad = some v := by
  have := h 0 v rfl
  rwa [Addr.add_zero'] at this
end
end Go.Proofs.Ythmohmpalbnjoaa.V
