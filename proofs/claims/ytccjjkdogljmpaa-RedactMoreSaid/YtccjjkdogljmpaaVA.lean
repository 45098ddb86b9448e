/-
  A part of the proof: walks of functions, and the plain laws of what they compute. No condition of its own.
-/
import Derived.Test.YtccjjkdogljmpaaV9
set_option linter.unusedVariables false
set_option linter.unusedSimpArgs false
namespace Go.Proofs.Ytccjjkdogljmpaa.V
open Go
/-! ## Regions that draw: some operations first, a head in whatever order, a tail one behind the other

'ps': operations that touch no memory (their value is the same in all worlds): they may be taken first. 'hs': the head. 'ts': the tail: each waits for the one ahead of it, the first for the head. -/
section
variable {P : Program} {ops : Array Oper} {md : Region.Mode} {R : World → World → Prop} {C : World → Prop} {n : Nat} {ds : List Deferred} {Q : Exit → Act → World → Prop} {w w' : World} {l : List (Nat × Value)} {a : Act}

def setL (listed : Array Bool) : List Nat → Array Bool
  | [] => listed
  | i :: r => setL (listed.setIfInBounds i true) r
def seqL (md : Region.Mode) (ops : Array Oper) : List Nat → Array Bool → Bool
  | [], listed => (Region.ready md ops listed).isEmpty
  | t :: ts, listed => decide (Region.ready md ops listed = [t]) && seqL md ops ts (listed.setIfInBounds t true)
def headL (md : Region.Mode) (ops : Array Oper) (ts : List Nat) : List Nat → Array Bool → Bool
  | [], listed => seqL md ops ts listed
  | i :: hs, listed => (Region.ready md ops listed).contains i && Region.free md ops listed i && headL md ops ts hs (listed.setIfInBounds i true)
def pureL (md : Region.Mode) (ops : Array Oper) : List Nat → Array Bool → Bool
  | [], _ => true
  | i :: ps, listed => (Region.ready md ops listed).contains i && Region.free md ops listed i && pureL md ops ps (listed.setIfInBounds i true)
/-- each operation of the head is waited for by a later one of it, or by the first of the tail -/
def lateL (md : Region.Mode) (ops : Array Oper) (t0 : Nat) : List Nat → Bool
  | [] => true
  | i :: hs => (hs ++ [t0]).any (fun j => Region.waitsFor md ops j i) && lateL md ops t0 hs
def chainL (md : Region.Mode) (ops : Array Oper) : Nat → List Nat → Bool
  | _, [] => true
  | p, t :: ts => Region.waitsFor md ops t p && chainL md ops t ts
def closedB (md : Region.Mode) (ops : Array Oper) (listed : Array Bool) : Bool :=
  (List.range ops.size).all fun j => !listed.getD j false || match ops[j]? with
    | some oj => oj.after.all fun e => !Region.binds md e || listed.getD e.on false
    | none => true

structure HInv (md : Region.Mode) (ops : Array Oper) (hs : List Nat) (ts : List Nat) (listed : Array Bool) : Prop where
  size : listed.size = ops.size
  closed : ∀ j oj, ops[j]? = some oj → listed.getD j false = true → ∀ e ∈ oj.after, Region.binds md e = true → listed.getD e.on false = true
  tail : ∀ t ∈ ts, listed.getD t true = false

theorem HInv.set {hs ts : List Nat} {i : Nat} {listed : Array Bool} (inv : HInv md ops hs ts listed) (hi : i ∈ Region.ready md ops listed) (hin : i ∉ ts) : HInv md ops hs ts (listed.setIfInBounds i true) := by
  obtain ⟨_, oi, hoi, hall⟩ := mem_ready.1 hi
  refine ⟨by simp [inv.size], fun j oj hj hl e he hb => ?_, fun t ht => by rw [getD_set_ne true (fun e => by subst e; exact hin ht)]; exact inv.tail t ht⟩
  by_cases hij : i = j
  · subst hij
    have : oj = oi := Option.some.inj (hj.symm.trans hoi)
    subst this
    exact getD_set_true (hall e he hb)
  · rw [getD_set_ne false hij] at hl
    exact getD_set_true (inv.closed j oj hj hl e he hb)

theorem chain_waits {ts0 : List Nat} {listed : Array Bool} : ∀ (ts : List Nat) (p : Nat), (∀ t ∈ p :: ts, t ∈ ts0) → chainL md ops p ts = true → (∀ t ∈ ts0, listed.getD t true = false) → ∀ t ∈ ts, t ∉ Region.ready md ops listed
  | [], _, _, _, _, t, ht => by cases ht
  | t1 :: ts, p, hsub, hc, hun, t, ht => by
    simp only [chainL, Bool.and_eq_true] at hc
    rcases List.mem_cons.1 ht with rfl | ht'
    · intro hr
      obtain ⟨_, ot, hot, hall⟩ := mem_ready.1 hr
      obtain ⟨o', ho', e, he, hb, hon⟩ := Region.waitsFor_spec hc.1
      have : o' = ot := Option.some.inj (ho'.symm.trans hot)
      subst this
      have h2 := hall e he hb
      rw [hon, getD_both (hun p (hsub p (by simp)))] at h2
      cases h2
    · exact chain_waits ts t1 (fun t ht => hsub t (by simp at ht ⊢; exact .inr ht)) hc.2 hun t ht'

theorem head_waits {t0 : Nat} {listed : Array Bool} (hsz : listed.size = ops.size) (hcl : ∀ j oj, ops[j]? = some oj → listed.getD j false = true → ∀ e ∈ oj.after, Region.binds md e = true → listed.getD e.on false = true) :
    ∀ (hs : List Nat), lateL md ops t0 hs = true → ∀ i ∈ hs, listed.getD i true = false → t0 ∉ Region.ready md ops listed
  | [], _, i, hi, _ => by cases hi
  | h0 :: hs, hl, i, hi, hun => by
    simp only [lateL, Bool.and_eq_true] at hl
    rcases List.mem_cons.1 hi with rfl | hi'
    · obtain ⟨j, hj, hw⟩ := List.any_eq_true.1 hl.1
      obtain ⟨oj, hoj, e, he, hb, hon⟩ := Region.waitsFor_spec hw
      rcases List.mem_append.1 hj with hj' | hj'
      · cases hlj : listed.getD j false with
        | true =>
          have h2 := hcl j oj hoj hlj e he hb
          rw [hon, getD_both hun] at h2
          cases h2
        | false =>
          have hjs : j < listed.size := by rw [hsz]; exact (Array.getElem?_eq_some_iff.1 hoj).1
          exact head_waits hsz hcl hs hl.2 j hj' (getD_in hjs hlj)
      · simp only [List.mem_singleton] at hj'
        subst hj'
        intro hr
        obtain ⟨_, ot, hot, hall⟩ := mem_ready.1 hr
        have : oj = ot := Option.some.inj (hoj.symm.trans hot)
        subst this
        have h2 := hall e he hb
        rw [hon, getD_both hun] at h2
        cases h2
    · exact head_waits hsz hcl hs hl.2 i hi' hun

def AnyH (P : Program) (md : Region.Mode) (ops : Array Oper) (R : World → World → Prop) (C : World → Prop) (n : Nat) (ts : List Nat) (L : Array Bool → Kn → Prop) : Nat → Array Bool → Kn → Prop
  | 0, listed, N => L listed N
  | f + 1, listed, N => Region.ready md ops listed ≠ [] ∧
    ∀ i ∈ Region.ready md ops listed, i ∉ ts ∧ ∀ o, ops[i]? = some o → ∃ V, J P ops R C n N o V ∧ AnyH P md ops R C n ts L f (listed.setIfInBounds i true) (N.put o V)

theorem wpAny_of_H {L : Array Bool → Kn → Prop} {w0 : World} {ds : List Deferred} {ts : List Nat} {g : Nat} (hL : Later R C)
    (hFin : ∀ listed N a w, N.lasts R → a.defers = ds → C w → R w0 w → N.all n a w → L listed N → wpAny P md ops Q g listed a w) : ∀ (f : Nat) (listed : Array Bool) (N : Kn) (a : Act) (w : World), N.lasts R → a.defers = ds → C w → R w0 w → N.all n a w →
    AnyH P md ops R C n ts L f listed N → wpAny P md ops Q (f + g) listed a w
  | 0, listed, N, a, w, h0, h1, h2, h3, h4, h => by rw [Nat.zero_add]; exact hFin listed N a w h0 h1 h2 h3 h4 h
  | f + 1, listed, N, a, w, h0, h1, h2, h3, h4, h => by
    rw [show f + 1 + g = (f + g) + 1 by omega]
    refine ⟨fun hr => absurd hr h.1, fun i hi => ?_⟩
    obtain ⟨_, o, ho, _⟩ := mem_ready.1 hi
    obtain ⟨V, hJ, hrest⟩ := (h.2 i hi).2 o ho
    exact wpOp_of_J hL h0 ho hJ h2 h4 fun a' w' hd hC hR hN => wpAny_of_H hL hFin f _ _ a' w' (h0.put hJ.lasts) (hd.trans h1) hC (hL.trans _ _ _ h3 hR) hN hrest

theorem AnyH_first {i : Nat} {oi : Oper} {V : Value → World → Prop} {L : Array Bool → Kn → Prop} {hs0 ts : List Nat} (hi : ops[i]? = some oi) (hin : i ∉ ts)
    (hw : ∀ listed, HInv md ops hs0 ts listed → listed.getD i true = false → ∀ t ∈ ts, t ∉ Region.ready md ops listed)
    (hdone : ∀ listed N, L listed N → ∀ j ∈ Region.ready md ops listed, j ∈ ts) :
    ∀ (f : Nat) (listed : Array Bool) (N : Kn), HInv md ops hs0 ts listed →
      (∀ j oj, ops[j]? = some oj → j ≠ i → listed.getD j true = false → (∀ e ∈ oj.after, Region.binds md e = true → e.on ≠ i) → oi.apart ops oj = true) →
      i ∈ Region.ready md ops listed → J P ops R C n N oi V →
      AnyH P md ops R C n ts L f (listed.setIfInBounds i true) (N.put oi V) → AnyH P md ops R C n ts L (f + 1) listed N := by
  intro f
  induction f with
  | zero =>
    intro listed N inv _ hr hJ H
    have hun := (mem_ready.1 hr).1
    refine ⟨fun h => (by rw [h] at hr; cases hr), fun j hj => ?_⟩
    have hjn : j ∉ ts := fun ht => hw listed inv hun j ht hj
    refine ⟨hjn, fun o ho => ?_⟩
    by_cases hji : j = i
    · subst hji
      have : o = oi := Option.some.inj (ho.symm.trans hi)
      subst this
      exact ⟨V, hJ, H⟩
    · exact absurd (hdone _ _ H j (ready_mono hj hji)) hjn
  | succ f ih =>
    intro listed N inv hfree hr hJ H
    have hun := (mem_ready.1 hr).1
    refine ⟨fun h => (by rw [h] at hr; cases hr), fun j hj => ?_⟩
    have hjn : j ∉ ts := fun ht => hw listed inv hun j ht hj
    refine ⟨hjn, fun o ho => ?_⟩
    by_cases hji : j = i
    · subst hji
      have : o = oi := Option.some.inj (ho.symm.trans hi)
      subst this
      exact ⟨V, hJ, H⟩
    · obtain ⟨Vj, hJj, hrest⟩ := (H.2 j (ready_mono hj hji)).2 o ho
      obtain ⟨hjun, oj, hoj, hall⟩ := mem_ready.1 hj
      have : o = oj := Option.some.inj (ho.symm.trans hoj)
      subst this
      have hnot : ∀ e ∈ o.after, Region.binds md e = true → e.on ≠ i := fun e he hb heq => by
        have h1 := hall e he hb
        rw [heq, getD_both hun] at h1
        cases h1
      obtain ⟨a1, a2, a3⟩ := Oper.apart_spec (hfree j o hoj hji hjun hnot)
      refine ⟨Vj, hJj.past a1, ih (listed.setIfInBounds j true) (N.put o Vj) (inv.set hj hjn) (fun k ok hk hki hun hno => ?_) (ready_mono hr (Ne.symm hji)) (hJ.ahead a3) ?_⟩
      · refine hfree k ok hk hki ?_ hno
        by_cases hjk : j = k
        · subst hjk; exact hjun
        · rw [getD_set_ne true hjk] at hun; exact hun
      · rw [Array.setIfInBounds_comm _ _ hji, ← Kn.put_comm N V Vj a2]
        exact hrest

/-- the operations of a list of places -/
def pick (ops : Array Oper) (is : List Nat) : List Oper := is.filterMap (ops[·]?)
theorem seqL_ready {ts : List Nat} {listed : Array Bool} (h : seqL md ops ts listed = true) : ∀ j ∈ Region.ready md ops listed, j ∈ ts := by
  cases ts with
  | nil => intro j hj; simp only [seqL, List.isEmpty_iff] at h; rw [h] at hj; cases hj
  | cons t ts =>
    intro j hj
    simp only [seqL, Bool.and_eq_true, decide_eq_true_eq] at h
    rw [h.1] at hj
    simp only [List.mem_singleton] at hj
    exact hj ▸ List.mem_cons_self ..
theorem AnyH_lex {hs0 ts : List Nat} {Fin : Kn → Prop} (hw : ∀ listed, HInv md ops hs0 ts listed → (∃ i ∈ hs0, listed.getD i true = false) → ∀ t ∈ ts, t ∉ Region.ready md ops listed) :
    ∀ (hs : List Nat) (listed : Array Bool) (N : Kn), (∀ i ∈ hs, i ∈ hs0) → (∀ i ∈ hs, i ∉ ts) → HInv md ops hs0 ts listed →
    headL md ops ts hs listed = true → TW P ops R C n Fin (pick ops hs) N →
    AnyH P md ops R C n ts (fun listed' N' => seqL md ops ts listed' = true ∧ Fin N') hs.length listed N
  | [], listed, N, _, _, _, hB, h => ⟨by simpa [headL] using hB, h⟩
  | i :: hs, listed, N, hsub, hnt, inv, hB, h => by
    simp only [headL, Bool.and_eq_true] at hB
    obtain ⟨⟨hr, hf⟩, hB'⟩ := hB
    have hr' : i ∈ Region.ready md ops listed := by simpa using hr
    obtain ⟨hun, o, ho, _⟩ := mem_ready.1 hr'
    have hp : pick ops (i :: hs) = o :: pick ops hs := by simp [pick, List.filterMap_cons, ho]
    rw [hp] at h
    obtain ⟨V, hJ, hrest⟩ := h
    exact AnyH_first ho (hnt i (by simp)) (fun listed inv hu => hw listed inv ⟨i, hsub i (by simp), hu⟩) (fun listed' N' hL => seqL_ready hL.1) hs.length listed N inv (Region.free_spec ho hf) hr' hJ
      (AnyH_lex hw hs _ _ (fun i hi => hsub i (by simp [hi])) (fun i hi => hnt i (by simp [hi])) (inv.set hr' (hnt i (by simp))) hB' hrest)

theorem wpAny_of_seqL : ∀ (ts : List Nat) (listed : Array Bool) (a : Act) (w : World), seqL md ops ts listed = true → wpList P ops Q (pick ops ts) a w → wpAny P md ops Q ts.length listed a w
  | [], listed, a, w, hB, h => ⟨by simpa [seqL] using hB, h⟩
  | t :: ts, listed, a, w, hB, h => by
    simp only [seqL, Bool.and_eq_true, decide_eq_true_eq] at hB
    have hr : t ∈ Region.ready md ops listed := by rw [hB.1]; simp
    obtain ⟨_, o, ho, _⟩ := mem_ready.1 hr
    have hp : pick ops (t :: ts) = o :: pick ops ts := by simp [pick, List.filterMap_cons, ho]
    rw [hp] at h
    refine ⟨fun h1 => (by rw [hB.1] at h1; cases h1), fun i hi => ?_⟩
    rw [hB.1] at hi
    have hik : i = t := by simpa using hi
    subst hik
    have hw : wpOp P ops Q i (wpList P ops Q (pick ops ts)) a w := by unfold wpOp; simp only [ho]; exact h
    exact wpOp_mono (fun a' w' h' => wpAny_of_seqL ts _ a' w' hB.2 h') hw

/-- operations that touch no memory, in the order in which they are taken first -/
def PW (P : Program) (n : Nat) (K : List (Nat × Value) → Prop) : List Oper → List (Nat × Value) → Prop
  | [], l => K l
  | o :: rest, l => ∃ d v, o.dst = some d ∧ o.guard = none ∧ notSel o.op = true ∧ Nat.blt d n = true ∧ (∀ w, Runs P l o w v w) ∧ PW P n K rest ((d, v) :: l)
theorem pw_nil {K : List (Nat × Value) → Prop} (h : K l) : PW P n K [] l := h
theorem pw {K : List (Nat × Value) → Prop} {rest : List Oper} {d : Nat} {op : Op} {ty : TypeId} {pos : String} {af : Array Edge} {v : Value} (hr : ∀ w, Runs P l ⟨some d, op, ty, pos, af, none⟩ w v w) (hd : Nat.blt d n = true) (hs : notSel op = true) (h : PW P n K rest ((d, v) :: l)) :
    PW P n K (⟨some d, op, ty, pos, af, none⟩ :: rest) l := ⟨d, v, rfl, rfl, hs, hd, hr, h⟩

theorem wpAny_pure (hQ : ∀ c a w, ¬ Q (.panic c) a w) (hsel : ∀ (j : Nat) (o : Oper) cs b, ops[j]? = some o → o.op ≠ .select cs b) {K : List (Nat × Value) → Prop} {g : Nat} : ∀ (ps : List Nat) (listed : Array Bool) (l : List (Nat × Value)) (a : Act), Has n ds l a → pureL md ops ps listed = true → PW P n K (pick ops ps) l →
    (∀ l a, Has n ds l a → K l → wpAny P md ops Q g (setL listed ps) a w) → wpAny P md ops Q (ps.length + g) listed a w
  | [], listed, l, a, ha, _, h, hK => by
    have : ([] : List Nat).length + g = g := by simp
    rw [this]
    exact hK l a ha h
  | i :: ps, listed, l, a, ha, hB, h, hK => by
    simp only [pureL, Bool.and_eq_true] at hB
    obtain ⟨⟨hr, hf⟩, hB'⟩ := hB
    have hr' : i ∈ Region.ready md ops listed := by simpa using hr
    obtain ⟨_, o, ho, _⟩ := mem_ready.1 hr'
    have hp : pick ops (i :: ps) = o :: pick ops ps := by simp [pick, List.filterMap_cons, ho]
    rw [hp] at h
    obtain ⟨d, v, h1, h2, h3, h4, h5, h6⟩ := h
    have hlen : (i :: ps).length + g = (ps.length + g) + 1 := by simp; omega
    rw [hlen]
    have hy : Yields P ops o v a := .inl ⟨by simp [Region.wanted, h2], fun w => h5 w a.eval (fun x u hx => ha.ev hx)⟩
    have ha' : Has n ds ((d, v) :: l) (a.put o.dst v) := by rw [h1]; exact ha.put h4 v
    exact wpAny_first ho hsel (fun c a w hq => absurd hq (hQ c _ w)) (ps.length + g) listed a w (Region.free_spec ho hf) hr' hy
      (wpAny_pure hQ hsel ps (listed.setIfInBounds i true) ((d, v) :: l) (a.put o.dst v) ha' hB' h6 hK)

/-- THE RULE -/
def drawB (ops : Array Oper) (ps hs : List Nat) (t0 : Nat) (ts : List Nat) : Bool :=
  Region.noSelect ops && decide (ps.length + (hs.length + (ts.length + 1)) = ops.size) && pureL .any ops ps (Array.replicate ops.size false) &&
  closedB .any ops (setL (Array.replicate ops.size false) ps) && (t0 :: ts).all (fun t => !(setL (Array.replicate ops.size false) ps).getD t true) &&
  hs.all (fun i => !(t0 :: ts).contains i) && lateL .any ops t0 hs && chainL .any ops t0 ts && headL .any ops (t0 :: ts) hs (setL (Array.replicate ops.size false) ps)

theorem setL_size : ∀ (ps : List Nat) (listed : Array Bool), (setL listed ps).size = listed.size
  | [], _ => rfl
  | i :: ps, listed => by simp [setL, setL_size ps]
theorem c_drawp {id : Nat} {lo : List Oper} (ps hs : List Nat) (t0 : Nat) (ts : List Nat) (hm : P.follows .mixedOrders = true) (hB : drawB lo.toArray ps hs t0 ts = true) (hQ : ∀ c a w, ¬ Q (.panic c) a w)
    (h : PW P n (fun l => TWL P lo.toArray w n (fun N => ∀ a w', a.defers = ds → Mod [] w w' → N.all n a w' → wpList P lo.toArray Q (pick lo.toArray (t0 :: ts)) a w') (pick lo.toArray hs) l []) (pick lo.toArray ps) l) : WC P (.region id lo.toArray true) Q n ds l w := by
  intro a ha
  unfold drawB at hB
  simp only [Bool.and_eq_true, decide_eq_true_eq] at hB
  obtain ⟨⟨⟨⟨⟨⟨⟨⟨hsel, hlen⟩, hp⟩, hcl⟩, htl⟩, hht⟩, hlate⟩, hch⟩, hhd⟩ := hB
  refine wp_region_any hm ?_
  rw [← hlen]
  have hsz : (setL (Array.replicate lo.toArray.size false) ps).size = lo.toArray.size := by rw [setL_size]; simp
  have htl' : ∀ t ∈ t0 :: ts, (setL (Array.replicate lo.toArray.size false) ps).getD t true = false := fun t ht => by
    have := List.all_eq_true.1 htl t ht
    simpa using this
  have inv0 : HInv .any lo.toArray hs (t0 :: ts) (setL (Array.replicate lo.toArray.size false) ps) := by
    refine ⟨hsz, fun j oj hj hl e he hb => ?_, htl'⟩
    have h1 := List.all_eq_true.1 hcl j (List.mem_range.2 (Array.getElem?_eq_some_iff.1 hj).1)
    rw [hl, hj] at h1
    simp only [Bool.not_true, Bool.false_or, Array.all_eq_true_iff_forall_mem] at h1
    have h2 := h1 e he
    rw [hb] at h2
    simpa using h2
  have hw : ∀ listed, HInv .any lo.toArray hs (t0 :: ts) listed → (∃ i ∈ hs, listed.getD i true = false) → ∀ t ∈ t0 :: ts, t ∉ Region.ready .any lo.toArray listed := by
    rintro listed inv ⟨i, hi, hun⟩ t ht
    rcases List.mem_cons.1 ht with rfl | ht'
    · exact head_waits inv.size inv.closed hs hlate i hi hun
    · exact chain_waits (ts0 := t0 :: ts) ts t0 (fun t h => h) hch inv.tail t ht'
  have hlen2 : (Array.replicate (ps.length + (hs.length + (ts.length + 1))) false) = Array.replicate lo.toArray.size false := by rw [hlen]
  rw [hlen2]
  refine wpAny_pure (n := n) (ds := ds) hQ (Region.noSelect_spec hsel) ps _ l a ha hp h fun l a ha hT => ?_
  have H := AnyH_lex (md := .any) hw hs _ (kn l []) (fun i hi => hi) (fun i hi => by
    have := List.all_eq_true.1 hht i hi
    simpa using this) inv0 hhd hT
  exact wpAny_of_H (n := n) (ds := ds) (w0 := w) (Q := Q) (g := ts.length + 1) (later w) (fun listed N a w' _ hd hC _ hN hL => wpAny_of_seqL (md := .any) (t0 :: ts) listed a w' hL.1 (hL.2 a w' hd hC hN)) _ _ (kn l []) a _ (kn_lasts l) ha.defers (Mod.drew [] w) (Mod.drew [] w) (kn_all ha) H
end
end Go.Proofs.Ytccjjkdogljmpaa.V
