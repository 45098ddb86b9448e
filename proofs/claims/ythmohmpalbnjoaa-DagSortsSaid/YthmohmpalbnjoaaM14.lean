/-
  A part of the proof: the items of an order in memory, each with those who wait for it, beside a row of pointers; the order's first half in plain Lean: lists of those who wait, name by name. No condition of its own.
-/
import Derived.Test.YthmohmpalbnjoaaM13
set_option linter.unusedVariables false
set_option linter.unusedSimpArgs false
namespace Go.Proofs.Ythmohmpalbnjoaa.V
open Go
def upd {α : Type} (f : Nat → α) (k : Nat) (v : α) : Nat → α := fun j => if j = k then v else f j
theorem upd_same {α : Type} (f : Nat → α) (k : Nat) (v : α) : upd f k v k = v := if_pos rfl
theorem upd_ne {α : Type} (f : Nat → α) {k j : Nat} (v : α) (h : j ≠ k) : upd f k v j = f j := if_neg h
/-- the order's items, their waiting lists, the row -/
structure OF (IT PIT ROW : TypeId) (w0 w : World) (gr : Nat) (I : Its) (L : Nat → List Nat) (hv : Value) (h : List Nat) : Prop where
  it : I.In IT w
  la : ∀ k, k < I.n → OwnR I PIT w (I.lv k) (L k)
  br : Blk w gr ROW [hv]
  oh : OwnR I PIT w hv h
  dj : ∀ k j, k < I.n → j < I.n → k ≠ j → ∀ x ∈ ob (I.lv k), x ∉ ob (I.lv j)
  dh : ∀ k, k < I.n → ∀ x ∈ ob (I.lv k), x ∉ ob hv
  npt : ∀ k, k < I.n → w0.heap.size ≤ I.pt k
  nlv : ∀ k, k < I.n → ∀ x ∈ ob (I.lv k), w0.heap.size ≤ x
  ngr : w0.heap.size ≤ gr
  nhv : ∀ x ∈ ob hv, w0.heap.size ≤ x
  inj : ∀ k j, k < I.n → j < I.n → I.pt k = I.pt j → k = j
  tt : IT ≠ PIT ∧ IT ≠ ROW ∧ ROW ≠ PIT
section
variable {IT PIT ROW : TypeId} {w0 w w' w'' : World} {gr : Nat} {I : Its} {L : Nat → List Nat} {hv hv' : Value} {h h' : List Nat}
theorem OF.mod0 (F : OF IT PIT ROW w0 w gr I L hv h) (k : Mod [] w w') : OF IT PIT ROW w0 w' gr I L hv h :=
  ⟨F.it.mod0 k, fun i hi => (F.la i hi).mod0 k, F.br.mod0 k, F.oh.mod0 k, F.dj, F.dh, F.npt, F.nlv, F.ngr, F.nhv, F.inj, F.tt⟩
theorem OF.pt_lv (F : OF IT PIT ROW w0 w gr I L hv h) {k j : Nat} (hk : k < I.n) (hj : j < I.n) : I.pt k ∉ ob (I.lv j) := fun hx => Own.neT (F.la j hj) (F.it k hk) F.tt.1 _ hx rfl
theorem OF.pt_hv (F : OF IT PIT ROW w0 w gr I L hv h) {k : Nat} (hk : k < I.n) : I.pt k ∉ ob hv := fun hx => Own.neT F.oh (F.it k hk) F.tt.1 _ hx rfl
theorem OF.pt_gr (F : OF IT PIT ROW w0 w gr I L hv h) {k : Nat} (hk : k < I.n) : I.pt k ≠ gr := Blk.neT_ (F.it k hk) F.br F.tt.2.1
theorem OF.gr_lv (F : OF IT PIT ROW w0 w gr I L hv h) {k : Nat} (hk : k < I.n) : gr ∉ ob (I.lv k) := fun hx => Own.neT (F.la k hk) F.br F.tt.2.2 _ hx rfl
theorem OF.gr_hv (F : OF IT PIT ROW w0 w gr I L hv h) : gr ∉ ob hv := fun hx => Own.neT F.oh F.br F.tt.2.2 _ hx rfl
/-- one more waits for k -/
theorem OF.app (F : OF IT PIT ROW w0 w gr I L hv h) {k i n : Nat} {v' : Value} {vs cs : List Value} (hk : k < I.n) (AA : App w w' PIT 1 (I.lv k) v' n vs) (hn : n = (L k).length + 1) (hvs : vs = (L k).map I.pv ++ [I.pv i]) (Pt : Put w' w'' (I.pt k) IT cs) (hc : cs = [S (I.id k), .int .i64 (I.rk k).a, .int .i64 (I.rk k).b, S (I.rk k).s, .int .i64 (I.lf k), v']) (hE : w0.heap.size ≤ w.heap.size) :
    OF IT PIT ROW w0 w'' gr { I with lv := upd I.lv k v' } (upd L k (L k ++ [i])) hv h := by
  subst hn hvs hc
  have hpv : ∀ x ∈ ob v', x ≠ I.pt k := Own.neT AA.own ((F.it k hk).mod AA.mod (F.pt_lv hk hk)) F.tt.1
  have hnew : ∀ j, j < I.n → j ≠ k → ∀ x ∈ ob (I.lv j), x ∉ ob v' := fun j hj hjk x hx hx' => by
    rcases AA.ob_ x hx' with h1 | h1
    · exact F.dj j k hj hk hjk x hx h1
    · have := (F.la j hj).lt x hx
      omega
  refine ⟨fun j hj => ?_, fun j hj => ?_, ?_, ?_, fun a b ha hb hab x hx => ?_, fun a ha x hx => ?_, F.npt, fun a ha x hx => ?_, F.ngr, F.nhv, F.inj, F.tt⟩
  · show Blk w'' (I.pt j) IT [_, _, _, _, _, upd I.lv k v' j]
    by_cases e : j = k
    · subst e
      rw [upd_same]
      exact Pt.blk
    · rw [upd_ne _ _ e]
      exact ((F.it j hj).mod AA.mod (F.pt_lv hj hk)).mod Pt.mod (by simp; exact fun h => e (F.inj j k hj hk h))
  · show Own w'' PIT 1 (upd I.lv k v' j) _ _
    by_cases e : j = k
    · subst e
      rw [upd_same, upd_same]
      refine Own.same (AA.own.mod Pt.mod (fun x hx hx' => hpv x hx (by simpa using hx'))) (by simp) ?_
      simp
    · rw [upd_ne _ _ e, upd_ne _ _ e]
      exact ((F.la j hj).mod AA.mod (F.dj j k hj hk e)).mod Pt.mod (fun x hx hx' => by simp at hx'; subst hx'; exact F.pt_lv hk hj hx)
  · exact (F.br.mod AA.mod (F.gr_lv hk)).mod Pt.mod (by simp; exact fun h => F.pt_gr hk h.symm)
  · exact (F.oh.mod AA.mod (fun x hx hx' => F.dh k hk x hx' hx)).mod Pt.mod (fun x hx hx' => by simp at hx'; subst hx'; exact F.pt_hv hk hx)
  · change x ∈ ob (upd I.lv k v' a) at hx
    show x ∉ ob (upd I.lv k v' b)
    by_cases e : a = k
    · subst e
      rw [upd_same] at hx
      rw [upd_ne _ _ (Ne.symm hab)]
      intro hx'
      exact hnew b hb (Ne.symm hab) x hx' hx
    · rw [upd_ne _ _ e] at hx
      by_cases e2 : b = k
      · subst e2
        rw [upd_same]
        exact hnew a ha e x hx
      · rw [upd_ne _ _ e2]
        exact F.dj a b ha hb hab x hx
  · change x ∈ ob (upd I.lv k v' a) at hx
    by_cases e : a = k
    · subst e
      rw [upd_same] at hx
      intro hx'
      rcases AA.ob_ x hx with h1 | h1
      · exact F.dh a ha x h1 hx'
      · have := F.oh.lt x hx'
        omega
    · rw [upd_ne _ _ e] at hx
      exact F.dh a ha x hx
  · change x ∈ ob (upd I.lv k v' a) at hx
    by_cases e : a = k
    · subst e
      rw [upd_same] at hx
      rcases AA.ob_ x hx with h1 | h1
      · exact F.nlv a ha x h1
      · omega
    · rw [upd_ne _ _ e] at hx
      exact F.nlv a ha x hx
/-- how many one waits for -/
theorem OF.setl (F : OF IT PIT ROW w0 w gr I L hv h) {i : Nat} {v : Int} {cs : List Value} (hi : i < I.n) (Pt : Put w w' (I.pt i) IT cs) (hc : cs = [S (I.id i), .int .i64 (I.rk i).a, .int .i64 (I.rk i).b, S (I.rk i).s, .int .i64 v, I.lv i]) :
    OF IT PIT ROW w0 w' gr { I with lf := upd I.lf i v } L hv h := by
  subst hc
  refine ⟨fun j hj => ?_, fun j hj => ?_, ?_, ?_, F.dj, F.dh, F.npt, F.nlv, F.ngr, F.nhv, F.inj, F.tt⟩
  · show Blk w' (I.pt j) IT [_, _, _, _, .int .i64 (upd I.lf i v j), _]
    by_cases e : j = i
    · subst e
      rw [upd_same]
      exact Pt.blk
    · rw [upd_ne _ _ e]
      exact (F.it j hj).mod Pt.mod (by simp; exact fun h => e (F.inj j i hj hi h))
  · exact (F.la j hj).mod Pt.mod (fun x hx hx' => by simp at hx'; subst hx'; exact F.pt_lv hi hj hx)
  · exact F.br.mod Pt.mod (by simp; exact fun h => F.pt_gr hi h.symm)
  · exact F.oh.mod Pt.mod (fun x hx hx' => by simp at hx'; subst hx'; exact F.pt_hv hi hx)
/-- the row turns -/
theorem OF.row (F : OF IT PIT ROW w0 w gr I L hv h) (k : Mod (gr :: ob hv) w w') (hb : Blk w' gr ROW [hv']) (ho : OwnR I PIT w' hv' h') (hob : ∀ y ∈ ob hv', y ∈ ob hv ∨ w.heap.size ≤ y) (hE : w0.heap.size ≤ w.heap.size) : OF IT PIT ROW w0 w' gr I L hv' h' := by
  refine ⟨F.it.mod k fun i hi hx => ?_, fun j hj => (F.la j hj).mod k fun x hx hx' => ?_, hb, ho, F.dj, fun a ha x hx hx' => ?_, F.npt, F.nlv, F.ngr, fun x hx => ?_, F.inj, F.tt⟩
  · rcases List.mem_cons.1 hx with h1 | h1
    · exact F.pt_gr hi h1
    · exact F.pt_hv hi h1
  · rcases List.mem_cons.1 hx' with h1 | h1
    · subst h1; exact F.gr_lv hj hx
    · exact F.dh j hj x hx h1
  · rcases hob x hx' with h1 | h1
    · exact F.dh a ha x hx h1
    · have := (F.la a ha).lt x hx
      omega
  · rcases hob x hx with h1 | h1
    · exact F.nhv x h1
    · omega
theorem OF.so (F : OF IT PIT ROW w0 w gr I L hv h) {ids : List Str} (hn : ids.Nodup) (h1 : I.n = ids.length) (h2 : I.id = nm ids) : SO I.lt I.n := by
  refine Its.so fun i j hi hj e => ?_
  rw [h2] at e
  exact nm_inj hn (by omega) (by omega) e
end
/-- own rows of cells of two types lie apart -/
theorem Own.neO {w : World} {e e' sz sz' n n' : Nat} {v v' : Value} {vs vs' : List Value} (O : Own w e sz v n vs) (O' : Own w e' sz' v' n' vs') (he : e ≠ e') : ∀ x ∈ ob v, x ∉ ob v' := by
  rcases O'.2 with ⟨rfl, _⟩ | ⟨g, o, c, cs, rfl, hB, _⟩
  · simp [ob]
  · intro x hx hx'
    simp [ob] at hx'
    exact Own.neT O hB (Ne.symm he) x hx hx'
/-! ## before the lists are made -/
abbrev Its.at0 (ids : List Str) (rks : List Rk) (n : Nat) (pt : Nat → Nat) : Its := { n := n, pt := pt, id := nm ids, rk := rnk rks, lf := fun _ => 0, lv := fun _ => .slice none 0 0 }
theorem rnk_at {rks : List Rk} {i : Nat} {r : Rk} (h : rks[i]? = some r) : rnk rks i = r := by simp [rnk, h]
structure P0 (IT : TypeId) (ids : List Str) (rks : List Rk) (w0 w : World) (i : Nat) (pt : Nat → Nat) (mI : List (Str × Value)) : Prop where
  it : (Its.at0 ids rks i pt).In IT w
  npt : ∀ k, k < i → w0.heap.size ≤ pt k
  inj : ∀ k j, k < i → j < i → pt k = pt j → k = j
  keys : mI.map (·.1) = ids.take i
  lk : ∀ k, k < i → look mI (nm ids k) = some (.pointer (some ⟨pt k, 0, none⟩))
section
variable {IT : TypeId} {ids : List Str} {rks : List Rk} {w0 w w' : World} {i : Nat} {pt : Nat → Nat} {mI : List (Str × Value)}
theorem P0.mod0 (p : P0 IT ids rks w0 w i pt mI) (k : Mod [] w w') : P0 IT ids rks w0 w' i pt mI := ⟨p.it.mod0 k, p.npt, p.inj, p.keys, p.lk⟩
theorem P0.modM (p : P0 IT ids rks w0 w i pt mI) {M : List Nat} (k : Mod M w w') (hM : ∀ j, j < i → pt j ∉ M) : P0 IT ids rks w0 w' i pt mI := ⟨p.it.mod k hM, p.npt, p.inj, p.keys, p.lk⟩
theorem P0.nil : P0 IT ids rks w0 w 0 pt [] := ⟨fun k hk => absurd hk (by simp), fun k hk => by omega, fun k j hk => by omega, rfl, fun k hk => by omega⟩
theorem P0.no (p : P0 IT ids rks w0 w i pt mI) {x : Str} (hx : x ∉ ids.take i) : look mI x = none := by
  cases h : look mI x with
  | none => rfl
  | some v => exact absurd (p.keys ▸ List.mem_map.2 ⟨_, look_some h, rfl⟩) hx
theorem P0.next (p : P0 IT ids rks w0 w i pt mI) {g : Nat} {x : Str} {r : Rk} (hx : ids[i]? = some x) (hr : rks[i]? = some r) (hnx : x ∉ ids.take i) (B : Blk w g IT [S x, .int .i64 r.a, .int .i64 r.b, S r.s, .int .i64 0, .slice none 0 0]) (hg : w0.heap.size ≤ g) (hne : ∀ k, k < i → pt k ≠ g) :
    P0 IT ids rks w0 w (i + 1) (upd pt i g) (setM mI x (.pointer (some ⟨g, 0, none⟩))) := by
  have hnm : x ∉ mI.map (·.1) := by rw [p.keys]; exact hnx
  refine ⟨fun k hk => ?_, fun k hk => ?_, fun k j hk hj e => ?_, ?_, fun k hk => ?_⟩
  · show Blk w (upd pt i g k) IT [S (nm ids k), .int .i64 (rnk rks k).a, .int .i64 (rnk rks k).b, S (rnk rks k).s, _, _]
    by_cases e : k = i
    · subst e
      rw [upd_same, nm_at hx, rnk_at hr]
      exact B
    · rw [upd_ne _ _ e]
      exact p.it k (by simp only at hk ⊢; omega)
  · by_cases e : k = i
    · subst e; rw [upd_same]; exact hg
    · rw [upd_ne _ _ e]; exact p.npt k (by omega)
  · by_cases e1 : k = i
    · by_cases e2 : j = i
      · omega
      · rw [e1, upd_same, upd_ne _ _ e2] at e
        exact absurd e.symm (hne j (by omega))
    · by_cases e2 : j = i
      · rw [e2, upd_same, upd_ne _ _ e1] at e
        exact absurd e (hne k (by omega))
      · rw [upd_ne _ _ e1, upd_ne _ _ e2] at e
        exact p.inj k j (by omega) (by omega) e
  · rw [setM_new hnm, List.map_append, p.keys, take_succ_snoc hx]
    rfl
  · rw [look_setM]
    by_cases e : k = i
    · subst e
      rw [nm_at hx, if_pos rfl, upd_same]
    · have hk' : k < i := by omega
      have : nm ids k ≠ x := fun e' => hnx (by
        have hl := (List.getElem?_eq_some_iff.1 hx).1
        have : ids[k]? = some (nm ids k) := by simp [nm, List.getElem?_eq_getElem (show k < ids.length by omega)]
        rw [← e', List.mem_iff_getElem?]
        exact ⟨k, by rw [List.getElem?_take, if_pos hk']; exact this⟩)
      rw [if_neg this, upd_ne _ _ e]
      exact p.lk k hk'
end
/-- what the map of items holds, when all are in -/
structure MI (ids : List Str) (pt : Nat → Nat) (mI : List (Str × Value)) : Prop where
  lk : ∀ k, k < ids.length → look mI (nm ids k) = some (.pointer (some ⟨pt k, 0, none⟩))
  no : ∀ x, x ∉ ids → look mI x = none
theorem mem_nm {ids : List Str} {x : Str} (h : x ∈ ids) : ∃ k, k < ids.length ∧ nm ids k = x := by
  obtain ⟨k, hk, e⟩ := List.mem_iff_getElem.1 h
  exact ⟨k, hk, by simp [nm, List.getElem?_eq_getElem hk, e]⟩
theorem met_step {ids : List Str} (hn : ids.Nodup) {K Lr : List Str} {key : Str} {i : Nat} (hk : key ∈ K) (hL : key ∈ Lr) :
    met ids.length (nm ids) (fun x => decide (x ∈ K) && decide (x ∉ Lr.filter fun q => decide (q ≠ key))) i = met ids.length (nm ids) (fun x => decide (x ∈ K) && decide (x ∉ Lr)) i + if ∃ k, k < ids.length ∧ k ≠ i ∧ nm ids k = key then 1 else 0 := by
  unfold met
  have hD : ∀ x : Str, (decide (x ∈ K) && decide (x ∉ Lr.filter fun q => decide (q ≠ key))) = ((decide (x ∈ K) && decide (x ∉ Lr)) || decide (x = key)) := fun x => by
    by_cases e : x = key
    · subst e
      simp [hk]
    · simp [e, List.mem_filter]
  have h1 : ∀ l : List Nat, l.Nodup → (∀ k ∈ l, k < ids.length) → l.countP (fun k => decide (k ≠ i) && (decide (nm ids k ∈ K) && decide (nm ids k ∉ Lr.filter fun q => decide (q ≠ key)))) = l.countP (fun k => decide (k ≠ i) && (decide (nm ids k ∈ K) && decide (nm ids k ∉ Lr))) + if ∃ k, k ∈ l ∧ k ≠ i ∧ nm ids k = key then 1 else 0 := by
    intro l
    induction l with
    | nil => intro _ _; simp
    | cons a r ih =>
      intro hnd hlt
      have h' := List.nodup_cons.1 hnd
      rw [List.countP_cons, List.countP_cons, ih h'.2 (fun k hk => hlt k (by simp [hk])), hD]
      by_cases hk2 : nm ids a = key
      · have hno : ¬ ∃ k, k ∈ r ∧ k ≠ i ∧ nm ids k = key := fun ⟨k, h1, _, h3⟩ => h'.1 (by
          have := nm_inj hn (hlt k (by simp [h1])) (hlt a (by simp)) (h3.trans hk2.symm)
          rwa [← this])
        rw [if_neg hno]
        by_cases hai : a = i
        · have : ¬ ∃ k, k ∈ a :: r ∧ k ≠ i ∧ nm ids k = key := fun ⟨k, h1, h2, h3⟩ => by
            rcases List.mem_cons.1 h1 with h4 | h4
            · exact h2 (h4.trans hai)
            · exact hno ⟨k, h4, h2, h3⟩
          rw [if_neg this]
          simp [hai]
        · have : ∃ k, k ∈ a :: r ∧ k ≠ i ∧ nm ids k = key := ⟨a, by simp, hai, hk2⟩
          rw [if_pos this]
          simp [hai, hk2, hL]
      · have : (∃ k, k ∈ a :: r ∧ k ≠ i ∧ nm ids k = key) ↔ ∃ k, k ∈ r ∧ k ≠ i ∧ nm ids k = key := by
          constructor
          · rintro ⟨k, h1, h2, h3⟩
            rcases List.mem_cons.1 h1 with h4 | h4
            · exact absurd (h4 ▸ h3) hk2
            · exact ⟨k, h4, h2, h3⟩
          · rintro ⟨k, h1, h2, h3⟩
            exact ⟨k, by simp [h1], h2, h3⟩
        simp only [this, hk2, decide_false, Bool.or_false]
        omega
  have := h1 (List.range ids.length) List.nodup_range (fun k hk => List.mem_range.1 hk)
  simp only [List.mem_range] at this
  exact this
end Go.Proofs.Ythmohmpalbnjoaa.V

set_option linter.unusedVariables false
set_option linter.unusedSimpArgs false
namespace Go.Proofs.Ythmohmpalbnjoaa.V
open Go
abbrev Its.mk1 (ids : List Str) (rks : List Rk) (pt : Nat → Nat) (lf : Nat → Int) (lv : Nat → Value) : Its := { n := ids.length, pt := pt, id := nm ids, rk := rnk rks, lf := lf, lv := lv }
def latM (pr : Nat → Nat → Bool) (ids : List Str) (i : Nat) (K Lr : List Str) (k : Nat) : List Nat := lat pr i k ++ if (decide (k ≠ i) && (decide (nm ids k ∈ K) && decide (nm ids k ∉ Lr))) = true then [i] else []
theorem latM_len {pr : Nat → Nat → Bool} {ids : List Str} {i : Nat} {K Lr : List Str} {k : Nat} : (latM pr ids i K Lr k).length ≤ i + 1 := by
  have := lat_len pr i k
  unfold latM
  rw [List.length_append]
  split
  · simp; omega
  · simp; omega
theorem latM_start {pr : Nat → Nat → Bool} {ids : List Str} {i : Nat} {K : List Str} (k : Nat) : latM pr ids i K K k = lat pr i k := by
  unfold latM
  rw [if_neg, List.append_nil]
  intro h
  simp only [Bool.and_eq_true, decide_eq_true_eq] at h
  exact h.2.2 h.2.1
theorem latM_end {m : Gm} {ids : List Str} {i : Nat} {K : List Str} (hK : ∀ x, x ∈ K ↔ x ∈ past m [nm ids i]) (k : Nat) : latM (prG m ids) ids i K [] k = lat (prG m ids) (i + 1) k := by
  unfold latM
  rw [lat_succ]
  congr 1
  have : (decide (k ≠ i) && (decide (nm ids k ∈ K) && decide (nm ids k ∉ ([] : List Str)))) = (decide (i ≠ k) && prG m ids i k) := by
    unfold prG
    by_cases h : k = i
    · simp [h]
    · have h2 : i ≠ k := Ne.symm h
      simp [h, h2, hK]
  rw [this]
theorem latM_yes {pr : Nat → Nat → Bool} {ids : List Str} (hn : ids.Nodup) {i kk : Nat} {K Lr : List Str} {key : Str} (hk : kk < ids.length) (hkn : nm ids kk = key) (hki : kk ≠ i) (hK : key ∈ K) (hL : key ∈ Lr) (k : Nat) (hkl : k < ids.length) :
    latM pr ids i K (Lr.filter fun q => decide (q ≠ key)) k = upd (latM pr ids i K Lr) kk (latM pr ids i K Lr kk ++ [i]) k := by
  by_cases e : k = kk
  · subst e
    rw [upd_same]
    unfold latM
    have h1 : (decide (k ≠ i) && (decide (nm ids k ∈ K) && decide (nm ids k ∉ Lr.filter fun q => decide (q ≠ key)))) = true := by simp [hki, hkn, hK]
    have h2 : ¬ (decide (k ≠ i) && (decide (nm ids k ∈ K) && decide (nm ids k ∉ Lr))) = true := by simp [hkn, hL]
    rw [if_pos h1, if_neg h2, List.append_nil]
  · rw [upd_ne _ _ e]
    have hne : nm ids k ≠ key := fun h => e (nm_inj hn hkl hk (h.trans hkn.symm))
    unfold latM
    simp [hne, List.mem_filter]
theorem latM_no {pr : Nat → Nat → Bool} {ids : List Str} {i : Nat} {K Lr : List Str} {key : Str} (h : ∀ k, k < ids.length → nm ids k = key → k = i) (k : Nat) (hkl : k < ids.length) :
    latM pr ids i K (Lr.filter fun q => decide (q ≠ key)) k = latM pr ids i K Lr k := by
  unfold latM
  by_cases e : nm ids k = key
  · have := h k hkl e
    simp [this]
  · simp [e, List.mem_filter]
section
variable {IT PIT ROW : TypeId} {w0 w w' : World} {gr : Nat} {I : Its} {L L' : Nat → List Nat} {hv hv' : Value} {h h' : List Nat}
theorem OF.congr (F : OF IT PIT ROW w0 w gr I L hv h) (e : ∀ k, k < I.n → L' k = L k) : OF IT PIT ROW w0 w gr I L' hv h :=
  ⟨F.it, fun k hk => by rw [e k hk]; exact F.la k hk, F.br, F.oh, F.dj, F.dh, F.npt, F.nlv, F.ngr, F.nhv, F.inj, F.tt⟩
theorem OF.modM (F : OF IT PIT ROW w0 w gr I L hv h) {M : List Nat} (k : Mod M w w') (h1 : ∀ j, j < I.n → I.pt j ∉ M) (h2 : ∀ j, j < I.n → ∀ x ∈ ob (I.lv j), x ∉ M) (h3 : gr ∉ M) (h4 : ∀ x ∈ ob hv, x ∉ M) : OF IT PIT ROW w0 w' gr I L hv h :=
  ⟨F.it.mod k h1, fun i hi => (F.la i hi).mod k (h2 i hi), F.br.mod k h3, F.oh.mod k h4, F.dj, F.dh, F.npt, F.nlv, F.ngr, F.nhv, F.inj, F.tt⟩
theorem Blk.ne_it {gi b g T : Nat} {cs : List Value} {m : List (Str × Value)} {Lr : List Str} {last : Option (Str × Value)} (B : Blk w g T cs) (J : MIt w gi b m Lr last) : g ≠ gi ∧ g ≠ b := by
  obtain ⟨es, clock, since, seen, c0, h1, h2, _⟩ := J.at_
  unfold Blk at B
  constructor
  · intro e
    subst e
    rw [h1] at B
    cases B
  · intro e
    subst e
    rw [h2] at B
    cases B
theorem Own.ne_itb {gi b e sz n : Nat} {v : Value} {vs : List Value} {m : List (Str × Value)} {Lr : List Str} {last : Option (Str × Value)} (O : Own w e sz v n vs) (J : MIt w gi b m Lr last) : ∀ x ∈ ob v, x ≠ gi ∧ x ≠ b := by
  rcases O.2 with ⟨rfl, _⟩ | ⟨g, o, c, cs, rfl, hB, _⟩
  · simp [ob]
  · intro x hx
    simp [ob] at hx
    subst hx
    exact hB.ne_it J
theorem MapB.ne_it {gi b bI : Nat} {m mI : List (Str × Value)} {Lr : List Str} {last : Option (Str × Value)} (H : MapB w bI mI) (J : MIt w gi b m Lr last) : bI ≠ gi := fun e => by
  obtain ⟨es, clock, since, seen, c0, h1, h2, _⟩ := J.at_
  obtain ⟨es', c', h3, _⟩ := H.at_
  subst e
  rw [h1] at h3
  cases h3
theorem OF.it_ {gi b : Nat} {m : List (Str × Value)} {Lr : List Str} {last : Option (Str × Value)} (F : OF IT PIT ROW w0 w gr I L hv h) (J : MIt w gi b m Lr last) (k : Mod [gi] w w') : OF IT PIT ROW w0 w' gr I L hv h :=
  F.modM k (fun j hj hx => ((F.it j hj).ne_it J).1 (by simpa using hx)) (fun j hj x hx hx' => (Own.ne_itb (F.la j hj) J x hx).1 (by simpa using hx')) (fun hx => (F.br.ne_it J).1 (by simpa using hx)) (fun x hx hx' => (Own.ne_itb F.oh J x hx).1 (by simpa using hx'))
theorem OF.len (F : OF IT PIT ROW w0 w gr I L hv h) (hn : h.Nodup) (hm : ∀ k ∈ h, k < I.n) : h.length ≤ I.n := by
  have key : ∀ {l k : List Nat}, l.Nodup → (∀ x ∈ l, x ∈ k) → l.length ≤ k.length := by
    intro l
    induction l with
    | nil => intro k _ _; simp
    | cons a r ih =>
      intro k hn hs
      have h' := List.nodup_cons.1 hn
      have ha := hs a (by simp)
      have := ih (k := k.erase a) h'.2 (fun x hx => (List.mem_erase_of_ne (fun e => h'.1 (by rw [← e]; exact hx))).2 (hs x (by simp [hx])))
      rw [List.length_erase_of_mem ha] at this
      have := List.length_pos_of_mem ha
      simp only [List.length_cons]
      omega
  simpa using key hn (k := List.range I.n) (fun x hx => List.mem_range.2 (hm x hx))
end
theorem P0.of {IT PIT ROW : TypeId} {ids : List Str} {rks : List Rk} {w0 w : World} {pt : Nat → Nat} {mI : List (Str × Value)} {gr g : Nat} (p : P0 IT ids rks w0 w ids.length pt mI) (Br : Blk w gr ROW [.slice (some ⟨g, 0, none⟩) 0 0]) (Bs : Blk w g PIT []) (h1 : w0.heap.size ≤ gr) (h2 : w0.heap.size ≤ g) (tt : IT ≠ PIT ∧ IT ≠ ROW ∧ ROW ≠ PIT) (pr : Nat → Nat → Bool) :
    OF IT PIT ROW w0 w gr (Its.mk1 ids rks pt (fun _ => 0) (fun _ => .slice none 0 0)) (lat pr 0) (.slice (some ⟨g, 0, none⟩) 0 0) [] :=
  ⟨p.it, fun k hk => Own.nil _ _ _, Br, Own.all (c := 0) (cs := []) Bs rfl (by omega), fun k j _ _ _ x hx => by simp [ob] at hx, fun k _ x hx => by simp [ob] at hx, p.npt, fun k _ x hx => by simp [ob] at hx, h1, fun x hx => by simp [ob] at hx; omega, p.inj, tt⟩
/-- how many each waits for, in the midst of i's past -/
def LF (pr : Nat → Nat → Bool) (n i c : Nat) (lf : Nat → Int) : Prop := ∀ k, k < n → lf k = if k < i then ((cnt pr n [] k : Nat) : Int) else if k = i then (c : Int) else 0
theorem LF.init {pr : Nat → Nat → Bool} {n : Nat} : LF pr n 0 0 (fun _ => 0) := fun k hk => by simp
theorem LF.at_ {pr : Nat → Nat → Bool} {n i c : Nat} {lf : Nat → Int} (h : LF pr n i c lf) (hi : i < n) : lf i = (c : Int) := by
  rw [h i hi, if_neg (by omega), if_pos rfl]
theorem LF.inc {pr : Nat → Nat → Bool} {n i c : Nat} {lf : Nat → Int} (h : LF pr n i c lf) (hi : i < n) : LF pr n i (c + 1) (upd lf i (lf i + 1)) := fun k hk => by
  by_cases e : k = i
  · subst e
    rw [upd_same, h.at_ hi, if_neg (by omega), if_pos rfl]
    omega
  · rw [upd_ne _ _ e, h k hk, if_neg e, if_neg e]
theorem LF.bnd {pr : Nat → Nat → Bool} {n i c : Nat} {lf : Nat → Int} (h : LF pr n i c lf) (hi : i < n) (hc : c ≤ n) (hn : n ≤ 100000) : -9223372036854775808 ≤ lf i + 1 ∧ lf i + 1 ≤ 9223372036854775807 := by
  rw [h.at_ hi]
  omega
theorem nd_snoc {l : List Nat} {x : Nat} (h : l.Nodup) (hx : x ∉ l) : (l ++ [x]).Nodup := by
  rw [List.nodup_append]
  refine ⟨h, by simp, fun a ha b hb => ?_⟩
  simp only [List.mem_singleton] at hb
  subst hb
  intro e
  subst e
  exact hx ha
theorem LF.next {pr : Nat → Nat → Bool} {n i c : Nat} {lf : Nat → Int} (h : LF pr n i c lf) (hc : c = cnt pr n [] i) : LF pr n (i + 1) 0 lf := fun k hk => by
  rw [h k hk]
  by_cases e : k = i
  · subst e
    rw [if_neg (by omega), if_pos rfl, if_pos (by omega), hc]
  · by_cases h1 : k < i
    · rw [if_pos h1, if_pos (by omega)]
    · rw [if_neg h1, if_neg e, if_neg (by omega)]
      split <;> rfl
theorem LF.all {pr : Nat → Nat → Bool} {n c : Nat} {lf : Nat → Int} (h : LF pr n n c lf) : ∀ k, k < n → lf k = ((cnt pr n [] k : Nat) : Int) := fun k hk => by rw [h k hk, if_pos hk]
theorem mem_take_nm {ids : List Str} {i : Nat} {x : Str} (h : x ∈ ids.take i) : ∃ k, k < i ∧ nm ids k = x := by
  obtain ⟨k, hk, e⟩ := List.mem_iff_getElem.1 h
  rw [List.length_take] at hk
  rw [List.getElem_take] at e
  exact ⟨k, by omega, by simp [nm, List.getElem?_eq_getElem (show k < ids.length by omega), e]⟩
/-- the second half: how many each waits for, in the midst of a step -/
def LG (pr : Nat → Nat → Bool) (n : Nat) (O : List Nat) (x : Nat) (D : List Nat) (lf : Nat → Int) : Prop := ∀ k, k < n → lf k = ((cnt pr n (if k ∈ D then O ++ [x] else O) k : Nat) : Int)
theorem LG.start {pr : Nat → Nat → Bool} {n x : Nat} {O : List Nat} {lf : Nat → Int} (h : ∀ k, k < n → lf k = ((cnt pr n O k : Nat) : Int)) : LG pr n O x [] lf := fun k hk => by
  rw [h k hk]
  simp
theorem LG.step {pr : Nat → Nat → Bool} {n x y : Nat} {O D : List Nat} {lf : Nat → Int} (h : LG pr n O x D lf) (hy : y < n) (hx : x < n) (hxy : x ≠ y) (hp : pr y x = true) (hxO : x ∉ O) (hD : y ∉ D) : lf y - 1 = ((cnt pr n (O ++ [x]) y : Nat) : Int) ∧ LG pr n O x (D ++ [y]) (upd lf y (lf y - 1)) := by
  have h1 : lf y - 1 = ((cnt pr n (O ++ [x]) y : Nat) : Int) := by
    rw [h y hy, if_neg hD]
    have := cnt_less (O := O) hx hxy hp hxO
    omega
  refine ⟨h1, fun k hk => ?_⟩
  by_cases e : k = y
  · subst e
    rw [upd_same, if_pos (by simp)]
    exact h1
  · rw [upd_ne _ _ e, h k hk]
    simp [e]
theorem LG.done {pr : Nat → Nat → Bool} {n x : Nat} {O : List Nat} {lf : Nat → Int} (h : LG pr n O x (lat pr n x) lf) : ∀ k, k < n → lf k = ((cnt pr n (O ++ [x]) k : Nat) : Int) := fun k hk => by
  rw [h k hk]
  split
  · rfl
  · rename_i hn
    rw [cnt_same]
    rw [lat_mem] at hn
    by_cases e : x = k
    · exact .inl e
    · right
      cases hp : pr k x with
      | false => rfl
      | true => exact absurd ⟨hk, Ne.symm e, hp⟩ hn
theorem not_take_of_nd {l : List Nat} {d y : Nat} (hn : l.Nodup) (hy : l[d]? = some y) : y ∉ l.take d := fun hm => by
  have hd := (List.getElem?_eq_some_iff.1 hy).1
  have h1 : (l.take (d + 1)).Nodup := hn.sublist (List.take_sublist _ _)
  rw [take_succ_snoc hy, List.nodup_append] at h1
  exact h1.2.2 y hm y (by simp) rfl
end Go.Proofs.Ythmohmpalbnjoaa.V
