/-
  A part of the proof: a reader in memory: its place, its stack of lists and maps under way; a reader in memory: a map's frame on top; a frame more; a number's text, read; steps of the reading: digits of base 16, escapes, blanks, words of numbers. No condition of its own.
-/
import Derived.Test.YtknndpjacklkeaaGreatDoorM7
import Derived.Test.YtknndpjacklkeaaGreatDoorM3
import Derived.Lib.AtoiAll
import Derived.Test.YtknndpjacklkeaaGreatDoorM4
import Derived.Lib.SlTrimSet
set_option linter.unusedVariables false
set_option linter.unusedSimpArgs false
namespace Go.Proofs.YtknndpjacklkeaaGreatDoor.V
open Go
structure PT where
 rd : Nat
 any : Nat
 pi : Nat
 pm : Nat
 it : Nat
 mt : Nat
 v : Nat
 mb : Nat
 z : List Nat
def PnP (T : TypeId) (M : List Nat) (w : World) {α : Type} (r : Except Int α) (Q : α → Value → World → Prop) : Ending → World → Prop
 | .returned u, w' => ∃ a, r = .ok a ∧ Q a u w' ∧ Mod M w w'
 | .panicked c, w' => ∃ e, r = .error e ∧ e ≠ 0 ∧ c = pEnt T e ∧ Mod M w w'
 | .outgrown, _ => False
def seenV (K : List Str) : List (Str × Value) := K.map fun k => (k, .bool true)
theorem look_seen (k : Str) : ∀ K : List Str, look (seenV K) k = if k ∈ K then some (.bool true) else none
 | [] => rfl
 | x :: K => by
  show (if x = k then some (Value.bool true) else look (seenV K) k) = _
  rw [look_seen k K]
  by_cases h : x = k
  ·rw [if_pos h, if_pos (by simp [h])]
  ·rw [if_neg h]
   by_cases h2 : k ∈ K
   ·rw [if_pos h2, if_pos (by simp [h2])]
   ·rw [if_neg h2, if_neg (by simp [h2]; exact fun e => h e.symm)]
theorem seen_set {K : List Str} {k : Str} (h : k ∉ K) : setM (seenV K) k (.bool true) = seenV (K ++ [k]) := by
 unfold setM
 rw [look_seen, if_neg h]
 simp [seenV]
theorem look_sort (k : Str) : ∀ acc : List (Str × JV), (look (sortM acc) k).isSome = decide (k ∈ acc.map (·.1)) := by
 intro acc
 rw [← List.reverse_reverse acc]
 generalize acc.reverse = l
 induction l with
 | nil => rfl
 | cons p l ih =>
  rw [List.reverse_cons, sortM_snoc, look_put]
  by_cases h : k = p.1
  ·rw [if_pos h]
   simp [h]
  ·rw [if_neg h, ih]
   rw [Bool.eq_iff_iff, decide_eq_true_eq, decide_eq_true_eq]
   simp only [List.map_append, List.mem_append, List.map_cons, List.map_nil, List.mem_singleton, h, or_false]
structure LF (T : PT) (A : List Nat) (w : World) (g : Nat) (acc : List JV) (wv : Value) : Prop where
 blk : Blk w g T.it [wv]
 own : ∃ vs, Own w T.v 6 wv acc.length vs ∧ Reps A w (acc.map JV.D).flatten vs
 gw : g ∉ ob wv
structure MF (T : PT) (A : List Nat) (w : World) (g b : Nat) (acc : List (Str × JV)) (K : List Str) (t : Str) (wv : Value) : Prop where
 blk : Blk w g T.mt [wv, .map (some b), S t]
 map : MapB w b (seenV K)
 own : ∃ vs, Own w T.mb 7 wv acc.length vs ∧ Reps A w (acc.map JV.Dp).flatten vs
 gb : g ≠ b
 gw : g ∉ ob wv
 bw : b ∉ ob wv
section
variable {T : PT} {A A' M : List Nat} {w0 w w' : World} {g : Nat} {s : Str} {k : Nat}
theorem LF.to {acc : List JV} {wv : Value} (H : LF T A w g acc wv) (h : Mod M w w') (hM : ∀ x ∈ M, x ∈ A) (hm : ∀ x ∈ g :: ob wv, x ∉ M) (hA : ∀ x ∈ A', x ∈ A ∨ w.heap.size ≤ x) : LF T A' w' g acc wv := by
 obtain ⟨vs, h1, h2⟩ := H.own
 exact ⟨H.blk.mod h (hm g (by simp)), ⟨vs, h1.mod h (fun x hx => hm x (by simp [hx])), Reps.to h hM hA _ _ h2⟩, H.gw⟩
theorem MF.to {acc : List (Str × JV)} {K : List Str} {t : Str} {b : Nat} {wv : Value} (H : MF T A w g b acc K t wv) (h : Mod M w w') (hM : ∀ x ∈ M, x ∈ A) (hm : ∀ x ∈ g :: b :: ob wv, x ∉ M) (hA : ∀ x ∈ A', x ∈ A ∨ w.heap.size ≤ x) : MF T A' w' g b acc K t wv := by
 obtain ⟨vs, h1, h2⟩ := H.own
 exact ⟨H.blk.mod h (hm g (by simp)), H.map.mod h (hm b (by simp)), ⟨vs, h1.mod h (fun x hx => hm x (by simp [hx])), Reps.to h hM hA _ _ h2⟩, H.gb, H.gw, H.bw⟩
def FrI (T : PT) (A : List Nat) (w : World) : Fm → Value → List Nat → Prop
 | .L acc, c, m => ∃ g wv, c = .iface T.pi (.pointer (some ⟨g, 0, none⟩)) ∧ LF T A w g acc wv ∧ m = g :: ob wv
 | .M acc t, c, m => ∃ g b wv, c = .iface T.pm (.pointer (some ⟨g, 0, none⟩)) ∧ MF T A w g b acc (acc.map (·.1) ++ [t]) t wv ∧ m = g :: b :: ob wv
 | .A acc t, c, m => ∃ g b wv, c = .iface T.pm (.pointer (some ⟨g, 0, none⟩)) ∧ MF T A w g b acc (acc.map (·.1)) t wv ∧ m = g :: b :: ob wv
theorem FrI.to {fm : Fm} {c : Value} {m : List Nat} (H : FrI T A w fm c m) (h : Mod M w w') (hM : ∀ x ∈ M, x ∈ A) (hm : ∀ x ∈ m, x ∉ M) (hA : ∀ x ∈ A', x ∈ A ∨ w.heap.size ≤ x) : FrI T A' w' fm c m := by
 cases fm with
 | L acc => obtain ⟨g, wv, h1, h2, rfl⟩ := H; exact ⟨g, wv, h1, h2.to h hM hm hA, rfl⟩
 | M acc t => obtain ⟨g, b, wv, h1, h2, rfl⟩ := H; exact ⟨g, b, wv, h1, h2.to h hM hm hA, rfl⟩
 | A acc t => obtain ⟨g, b, wv, h1, h2, rfl⟩ := H; exact ⟨g, b, wv, h1, h2.to h hM hm hA, rfl⟩
theorem FrI.lt {fm : Fm} {c : Value} {m : List Nat} (H : FrI T A w fm c m) : ∀ x ∈ m, x < w.heap.size := by
 cases fm with
 | L acc =>
  obtain ⟨g, wv, _, h2, rfl⟩ := H
  obtain ⟨vs, h3, _⟩ := h2.own
  intro x hx
  rcases List.mem_cons.1 hx with rfl | hx
  ·exact h2.blk.lt
  ·exact h3.lt x hx
 | M acc t =>
  obtain ⟨g, b, wv, _, h2, rfl⟩ := H
  obtain ⟨vs, h3, _⟩ := h2.own
  intro x hx
  rcases List.mem_cons.1 hx with rfl | hx
  ·exact h2.blk.lt
  rcases List.mem_cons.1 hx with rfl | hx
  ·exact h2.map.lt
  ·exact h3.lt x hx
 | A acc t =>
  obtain ⟨g, b, wv, _, h2, rfl⟩ := H
  obtain ⟨vs, h3, _⟩ := h2.own
  intro x hx
  rcases List.mem_cons.1 hx with rfl | hx
  ·exact h2.blk.lt
  rcases List.mem_cons.1 hx with rfl | hx
  ·exact h2.map.lt
  ·exact h3.lt x hx
def StkI (T : PT) (A : List Nat) (w : World) : List Fm → List Value → List Nat → Prop
 | [], cs, fp => cs = [] ∧ fp = T.z ∧ ∀ x ∈ T.z, x < w.heap.size
 | fm :: st, cs, fp => ∃ c cs' m fp', cs = c :: cs' ∧ fp = m ++ fp' ∧ FrI T A w fm c m ∧ StkI T A w st cs' fp' ∧ ∀ x ∈ m, x ∉ fp'
theorem StkI.to (h : Mod M w w') (hM : ∀ x ∈ M, x ∈ A) (hA : ∀ x ∈ A', x ∈ A ∨ w.heap.size ≤ x) : ∀ {st : List Fm} {cs : List Value} {fp : List Nat}, StkI T A w st cs fp → (∀ x ∈ fp, x ∉ M) → StkI T A' w' st cs fp
 | [], _, _, H, _ => ⟨H.1, H.2.1, fun x hx => Nat.lt_of_lt_of_le (H.2.2 x hx) h.size⟩
 | fm :: st, _, _, H, hm => by
  obtain ⟨c, cs', m, fp', rfl, rfl, h1, h2, h3⟩ := H
  exact ⟨c, cs', m, fp', rfl, rfl, h1.to h hM (fun x hx => hm x (by simp [hx])) hA, h2.to h hM hA (fun x hx => hm x (by simp [hx])), h3⟩
theorem StkI.len : ∀ {st : List Fm} {cs : List Value} {fp : List Nat}, StkI T A w st cs fp → cs.length = st.length
 | [], _, _, H => by rw [H.1]; rfl
 | fm :: st, _, _, H => by
  obtain ⟨c, cs', m, fp', rfl, rfl, h1, h2, h3⟩ := H
  simp [h2.len]
theorem StkI.lt : ∀ {st : List Fm} {cs : List Value} {fp : List Nat}, StkI T A w st cs fp → ∀ x ∈ fp, x < w.heap.size
 | [], _, _, H => by rw [H.2.1]; exact H.2.2
 | fm :: st, _, _, H => by
  obtain ⟨c, cs', m, fp', rfl, rfl, h1, h2, h3⟩ := H
  intro x hx
  rcases List.mem_append.1 hx with hx | hx
  ·exact h1.lt x hx
  ·exact h2.lt x hx
theorem StkI.z : ∀ {st : List Fm} {cs : List Value} {fp : List Nat}, StkI T A w st cs fp → ∀ x ∈ T.z, x ∈ fp
 | [], _, _, H => by rw [H.2.1]; exact fun x hx => hx
 | fm :: st, _, _, H => by
  obtain ⟨c, cs', m, fp', rfl, rfl, h1, h2, h3⟩ := H
  exact fun x hx => List.mem_append_right _ (h2.z x hx)
structure PS (T : PT) (w0 w : World) (g : Nat) (s : Str) (k : Nat) (st : List Fm) (sv : Value) (cs : List Value) (fp : List Nat) : Prop where
 rd : Blk w g T.rd [S s, .int .i64 (k : Int), sv]
 own : Own w T.any 1 sv cs.length cs.reverse
 stk : StkI T (g :: (ob sv ++ fp)) w st cs fp
 gn : g ∉ ob sv ++ fp
 dj : ∀ x ∈ ob sv, x ∉ fp
 fr : ∀ x ∈ ob sv ++ fp, w0.heap.size ≤ x
 mod : Mod [g] w0 w
structure Stp (w w' : World) (g : Nat) (sv : Value) (fp : List Nat) (sv' : Value) (fp' : List Nat) : Prop where
 mod : Mod (g :: (ob sv ++ fp)) w w'
 new : ∀ x ∈ ob sv' ++ fp', x ∈ ob sv ++ fp ∨ w.heap.size ≤ x
variable {st : List Fm} {sv sv' : Value} {cs cs' : List Value} {fp fp' : List Nat} {k' : Nat}
theorem PS.init (B : Blk w g T.rd [S s, .int .i64 (0 : Int), .slice none 0 0]) (hm : Mod [g] w0 w) (hz : ∀ x ∈ T.z, w0.heap.size ≤ x ∧ x < w.heap.size ∧ x ≠ g) : PS T w0 w g s 0 [] (.slice none 0 0) [] T.z :=
 ⟨B, Own.nil _ _ _, ⟨rfl, rfl, fun x hx => (hz x hx).2.1⟩, fun h => (hz g (by simpa [ob] using h)).2.2 rfl, by simp [ob], fun x hx => (hz x (by simpa [ob] using hx)).1, hm⟩
theorem PS.len (H : PS T w0 w g s k st sv cs fp) : cs.length = st.length := H.stk.len
theorem PS.lt (H : PS T w0 w g s k st sv cs fp) : ∀ x ∈ g :: (ob sv ++ fp), x < w.heap.size := fun x hx => by
 rcases List.mem_cons.1 hx with rfl | hx
 ·exact H.rd.lt
 rcases List.mem_append.1 hx with hx | hx
 ·exact H.own.lt x hx
 ·exact H.stk.lt x hx
theorem Stp.of (h : Mod [g] w w') : Stp w w' g sv fp sv fp := ⟨h.mono (by simp), fun x hx => .inl hx⟩
theorem Stp.refl (w : World) (g : Nat) (sv : Value) (fp : List Nat) : Stp w w g sv fp sv fp := ⟨Mod.refl _ _, fun x hx => .inl hx⟩
theorem Stp.trans {w2 : World} {sv2 : Value} {fp2 : List Nat} (h : Stp w w' g sv fp sv' fp') (h' : Stp w' w2 g sv' fp' sv2 fp2) : Stp w w2 g sv fp sv2 fp2 :=
 ⟨h.mod.trans' h'.mod fun x hx => by
  rcases List.mem_cons.1 hx with rfl | hx
  ·exact .inl (by simp)
  ·exact (h.new x hx).imp (fun h => by simp only [List.mem_cons]; exact .inr h) id, fun x hx => (h'.new x hx).elim (h.new x) fun hx => .inr (Nat.le_trans h.mod.size hx)⟩
theorem Stp.blk {h : Nat} {U : TypeId} {us : List Value} (S : Stp w w' g sv fp sv' fp') (B : Blk w h U us) (hn : h ∉ g :: (ob sv ++ fp)) : Blk w' h U us ∧ h ∉ g :: (ob sv' ++ fp') := by
 have hlt := B.lt
 refine ⟨B.mod S.mod hn, fun hx => ?_⟩
 rcases List.mem_cons.1 hx with rfl | hx
 ·exact hn (by simp)
 ·rcases S.new h hx with h1 | h1
  ·exact hn (by simp only [List.mem_cons]; exact .inr h1)
  ·omega
theorem PS.rstep (H : PS T w0 w g s k st sv cs fp) (B : Blk w' g T.rd [S s, .int .i64 (k' : Int), sv]) (h : Mod [g] w w') : PS T w0 w' g s k' st sv cs fp :=
 ⟨B, H.own.mod h (fun x hx e => H.gn (by simp only [List.mem_singleton] at e; subst e; simp [hx])), H.stk.to h (by simp) (fun x hx => .inl hx) (fun x hx e => H.gn (by simp only [List.mem_singleton] at e; subst e; simp [hx])), H.gn, H.dj, H.fr, H.mod.trans h⟩
theorem PS.mod0 (H : PS T w0 w g s k st sv cs fp) (h : Mod [] w w') : PS T w0 w' g s k st sv cs fp := H.rstep (H.rd.mod0 h) (h.mono (by simp))
theorem PS.topL {acc : List JV} (H : PS T w0 w g s k (.L acc :: st) sv cs fp) : ∃ g1 wv vs cs1 fp1, cs = .iface T.pi (.pointer (some ⟨g1, 0, none⟩)) :: cs1 ∧ fp = g1 :: (ob wv ++ fp1) ∧ Blk w g1 T.it [wv] ∧ Own w T.v 6 wv acc.length vs ∧ Reps (g :: (ob sv ++ fp)) w (acc.map JV.D).flatten vs ∧ g1 ∉ ob wv ∧ g1 ≠ g ∧ (∀ x ∈ T.z, x ∉ g1 :: ob wv) ∧
  (∀ (w' : World) (wv' : Value) (us : List Value) (v : JV), Mod (g1 :: ob wv) w w' → Blk w' g1 T.it [wv'] → Own w' T.v 6 wv' (acc.length + 1) (vs ++ us) → (∀ x ∈ ob wv', x ∈ ob wv ∨ w.heap.size ≤ x) → Reps (g :: (ob sv ++ fp)) w v.D us →
   PS T w0 w' g s k (.L (acc ++ [v]) :: st) sv cs (g1 :: (ob wv' ++ fp1)) ∧ Stp w w' g sv fp sv (g1 :: (ob wv' ++ fp1))) ∧
  (∀ (w' : World) (sv' : Value), Mod [g] w w' → Blk w' g T.rd [S s, .int .i64 (k : Int), sv'] → Own w' T.any 1 sv' cs1.length cs1.reverse → ob sv' = ob sv →
   PS T w0 w' g s k st sv' cs1 fp1 ∧ Stp w w' g sv fp sv' fp1 ∧ Blk w' g1 T.it [wv] ∧ Rep (g :: (ob sv' ++ fp1)) w' (.sl 6 (acc.map JV.D)) wv) := by
 obtain ⟨c, cs1, m, fp1, rfl, rfl, ⟨g1, wv, rfl, h2, rfl⟩, h3, h4⟩ := H.stk
 obtain ⟨vs, h5, h6⟩ := h2.own
 have hlt := H.lt
 have hg1 : g1 ≠ g := fun e => H.gn (by subst e; simp)
 have hw1 : ∀ x ∈ g1 :: ob wv, x ≠ g := fun x hx e => H.gn (by subst e; simp only [List.mem_append]; exact .inr (.inl hx))
 have hw2 : ∀ x ∈ g1 :: ob wv, x ∉ ob sv := fun x hx e => H.dj x e (by simp only [List.mem_append]; exact .inl hx)
 refine ⟨g1, wv, vs, cs1, fp1, rfl, rfl, h2.blk, h5, h6, h2.gw, hg1, fun x hx h => h4 x h (h3.z x hx), fun w' wv' us v hm hb ho hn hr => ?_, fun w' sv' hm hb ho hob => ?_⟩
 ·have hsub : ∀ x ∈ g1 :: ob wv, x ∈ g :: (ob sv ++ ((g1 :: ob wv) ++ fp1)) := fun x hx => by simp only [List.mem_cons, List.mem_append] at hx ⊢; exact .inr (.inr (.inl hx))
  have hA : ∀ x ∈ g :: (ob sv ++ (g1 :: (ob wv' ++ fp1))), x ∈ g :: (ob sv ++ ((g1 :: ob wv) ++ fp1)) ∨ w.heap.size ≤ x := fun x hx => by
   simp only [List.mem_cons, List.mem_append] at hx ⊢
   rcases hx with rfl | hx | rfl | hx | hx
   ·simp
   ·simp [hx]
   ·simp
   ·exact (hn x hx).imp (fun h => by simp [h]) id
   ·simp [hx]
  have hnot : ∀ x ∈ ob wv', ∀ y, y ∈ g :: (ob sv ++ fp1) → x ≠ y := fun x hx y hy e => by
   subst e
   rcases hn x hx with h1 | h1
   ·simp only [List.mem_cons, List.mem_append] at hy
    rcases hy with rfl | hy | hy
    ·exact hw1 x (by simp [h1]) rfl
    ·exact hw2 x (by simp [h1]) hy
    ·exact h4 x (by simp [h1]) hy
   ·have := hlt x (by simp only [List.mem_cons, List.mem_append] at hy ⊢; rcases hy with rfl | hy | hy; exact .inl rfl; exact .inr (.inl hy); exact .inr (.inr (.inr hy)))
    omega
  have hg1n : g1 ∉ ob wv' := fun hx => by
   rcases hn g1 hx with h1 | h1
   ·exact h2.gw h1
   ·have := h2.blk.lt; omega
  refine ⟨⟨H.rd.mod hm (fun h => hw1 g h rfl), H.own.mod hm (fun x hx h => hw2 x h hx), ⟨_, cs1, g1 :: ob wv', fp1, rfl, rfl, ⟨g1, wv', rfl, ⟨hb, ⟨vs ++ us, by simpa using ho, ?_⟩, hg1n⟩, rfl⟩, h3.to hm hsub hA (fun x hx h => h4 x h hx), fun x hx h => ?_⟩, fun h => ?_, fun x hx h => ?_, fun x hx => ?_, H.mod.trans' hm fun x hx => .inr ?_⟩, ⟨hm.mono fun x hx => hsub x hx, fun x hx => ?_⟩⟩
  ·rw [List.map_append, List.flatten_append]
   refine Reps.to hm hsub hA _ _ (Reps.append h6 ?_)
   simpa using hr
  ·rcases List.mem_cons.1 hx with rfl | hx
   ·exact h4 x (by simp) h
   ·exact hnot x hx x (by simp [h]) rfl
  ·simp only [List.mem_append, List.mem_cons] at h
   rcases h with h | rfl | h | h
   ·exact H.gn (by simp [h])
   ·exact hg1 rfl
   ·exact hnot g h g (by simp) rfl
   ·exact H.gn (by simp [h])
  ·simp only [List.mem_cons, List.mem_append] at h
   rcases h with rfl | h | h
   ·exact hw2 x (by simp) hx
   ·exact hnot x h x (by simp [hx]) rfl
   ·exact H.dj x hx (by simp [h])
  ·simp only [List.mem_cons, List.mem_append] at hx
   rcases hx with hx | rfl | hx | hx
   ·exact H.fr x (by simp [hx])
   ·exact H.fr x (by simp)
   ·rcases hn x hx with h1 | h1
    ·exact H.fr x (by simp [h1])
    ·exact Nat.le_trans H.mod.size h1
   ·exact H.fr x (by simp [hx])
  ·exact H.fr x (by simp only [List.mem_cons, List.mem_append] at hx ⊢; exact .inr (.inl hx))
  ·simp only [List.mem_cons, List.mem_append] at hx ⊢
   rcases hx with hx | rfl | hx | hx
   ·simp [hx]
   ·simp
   ·exact (hn x hx).imp (fun h => by simp [h]) id
   ·simp [hx]
 ·have hA : ∀ x ∈ g :: (ob sv' ++ fp1), x ∈ g :: (ob sv ++ ((g1 :: ob wv) ++ fp1)) ∨ w.heap.size ≤ x := fun x hx => by
   rw [hob] at hx
   simp only [List.mem_cons, List.mem_append] at hx ⊢
   rcases hx with rfl | hx | hx <;> simp [*]
  have hgf : ∀ x ∈ g1 :: ob wv, x ∉ [g] := fun x hx e => hw1 x hx (by simpa using e)
  refine ⟨⟨hb, ho, h3.to hm (by simp) hA (fun x hx e => H.gn (by simp only [List.mem_singleton] at e; subst e; simp [hx])), fun h => ?_, fun x hx h => ?_, fun x hx => ?_, H.mod.trans hm⟩, ⟨hm.mono (by simp), fun x hx => ?_⟩, h2.blk.mod hm (hgf g1 (by simp)), Own.rep (h5.mod hm (fun x hx => hgf x (by simp [hx]))) (Reps.to hm (by simp) hA _ _ h6) (fun r hr => ?_) (by simp) (fun x hx h => ?_)⟩
  ·rw [hob] at h; simp only [List.mem_append] at h; exact H.gn (by rcases h with h | h <;> simp [h])
  ·rw [hob] at hx; exact H.dj x hx (by simp [h])
  ·rw [hob] at hx; simp only [List.mem_append] at hx; exact H.fr x (by rcases hx with h | h <;> simp [h])
  ·rw [hob] at hx; simp only [List.mem_append] at hx ⊢; rcases hx with h | h <;> simp [h]
  ·obtain ⟨y, _, rfl⟩ := List.mem_map.1 hr; exact JV.D_len y
  ·rw [hob] at h
   simp only [List.mem_cons, List.mem_append] at h
   rcases h with rfl | h | h
   ·exact hw1 x (by simp [hx]) rfl
   ·exact hw2 x (by simp [hx]) h
   ·exact h4 x (by simp [hx]) h
end
end Go.Proofs.YtknndpjacklkeaaGreatDoor.V

set_option linter.unusedVariables false
set_option linter.unusedSimpArgs false
namespace Go.Proofs.YtknndpjacklkeaaGreatDoor.V
open Go
section
variable {T : PT} {A A' M : List Nat} {w0 w w' : World} {g : Nat} {s : Str} {k : Nat}
variable {st : List Fm} {sv sv' : Value} {cs cs' : List Value} {fp fp' : List Nat} {k' : Nat}
theorem PS.topG {fm : Fm} {acc : List (Str × JV)} {K : List Str} {t : Str} (H : PS T w0 w g s k (fm :: st) sv cs fp)
  (hf : ∀ (A : List Nat) (w : World) (c : Value) (m : List Nat), FrI T A w fm c m → ∃ g b wv, c = .iface T.pm (.pointer (some ⟨g, 0, none⟩)) ∧ MF T A w g b acc K t wv ∧ m = g :: b :: ob wv) :
  ∃ g1 b wv vs cs1 fp1, cs = .iface T.pm (.pointer (some ⟨g1, 0, none⟩)) :: cs1 ∧ fp = g1 :: b :: (ob wv ++ fp1) ∧ Blk w g1 T.mt [wv, .map (some b), S t] ∧ MapB w b (seenV K) ∧ Own w T.mb 7 wv acc.length vs ∧ Reps (g :: (ob sv ++ fp)) w (acc.map JV.Dp).flatten vs ∧ g1 ∉ ob wv ∧ g1 ≠ g ∧ b ≠ g ∧ g1 ≠ b ∧ b ∉ ob wv ∧ (∀ x ∈ ob wv, x ≠ g) ∧ (∀ x ∈ T.z, x ∉ g1 :: b :: ob wv) ∧
  (∀ (w' : World) (wv' : Value) (vs' : List Value) (k' : Nat) (fm' : Fm) (acc' : List (Str × JV)) (K' : List Str) (t' : Str), Mod (g :: g1 :: b :: ob wv) w w' → Blk w' g T.rd [S s, .int .i64 (k' : Int), sv] → Blk w' g1 T.mt [wv', .map (some b), S t'] → MapB w' b (seenV K') → Own w' T.mb 7 wv' acc'.length vs' → (∀ x ∈ ob wv', x ∈ ob wv ∨ w.heap.size ≤ x) → Reps (g :: (ob sv ++ fp)) w (acc'.map JV.Dp).flatten vs' →
   (∀ (A : List Nat) (w : World) (c : Value) (m : List Nat), (∃ g b wv, c = .iface T.pm (.pointer (some ⟨g, 0, none⟩)) ∧ MF T A w g b acc' K' t' wv ∧ m = g :: b :: ob wv) → FrI T A w fm' c m) →
   PS T w0 w' g s k' (fm' :: st) sv cs (g1 :: b :: (ob wv' ++ fp1)) ∧ Stp w w' g sv fp sv (g1 :: b :: (ob wv' ++ fp1))) ∧
  (∀ (w' : World) (sv' : Value) (vs' : List Value) (m' : List (Str × JV)), Mod (g :: ob wv) w w' → Blk w' g T.rd [S s, .int .i64 (k : Int), sv'] → Own w' T.any 1 sv' cs1.length cs1.reverse → ob sv' = ob sv → Own w' T.mb 7 wv m'.length vs' → Reps (g :: (ob sv ++ fp)) w (m'.map JV.Dp).flatten vs' →
   PS T w0 w' g s k st sv' cs1 fp1 ∧ Stp w w' g sv fp sv' fp1 ∧ Rep (g :: (ob sv' ++ fp1)) w' (.sl 7 (m'.map JV.Dp)) wv) := by
 obtain ⟨c, cs1, m, fp1, rfl, rfl, hfr, h3, h4⟩ := H.stk
 obtain ⟨g1, b, wv, rfl, h2, rfl⟩ := hf _ _ _ _ hfr
 clear hfr
 obtain ⟨vs, h5, h6⟩ := h2.own
 have hlt := H.lt
 have hw1 : ∀ x ∈ g1 :: b :: ob wv, x ≠ g := fun x hx e => H.gn (by subst e; simp only [List.mem_append]; exact .inr (.inl hx))
 have hw2 : ∀ x ∈ g1 :: b :: ob wv, x ∉ ob sv := fun x hx e => H.dj x e (by simp only [List.mem_append]; exact .inl hx)
 have hsub : ∀ x ∈ g :: g1 :: b :: ob wv, x ∈ g :: (ob sv ++ ((g1 :: b :: ob wv) ++ fp1)) := fun x hx => by
  rcases List.mem_cons.1 hx with rfl | hx
  ·simp
  ·simp only [List.mem_cons, List.mem_append] at hx ⊢
   rcases hx with rfl | rfl | hx <;> simp [*]
 refine ⟨g1, b, wv, vs, cs1, fp1, rfl, rfl, h2.blk, h2.map, h5, h6, h2.gw, hw1 g1 (by simp), hw1 b (by simp), h2.gb, h2.bw, fun x hx => hw1 x (by simp [hx]), fun x hx h => h4 x h (h3.z x hx), fun w' wv' vs' k' fm' acc' K' t' hm hB hb hM ho hn hr hf' => ?_, fun w' sv' vs' m' hm hb ho hob hown hr => ?_⟩
 ·have hA : ∀ x ∈ g :: (ob sv ++ (g1 :: b :: (ob wv' ++ fp1))), x ∈ g :: (ob sv ++ ((g1 :: b :: ob wv) ++ fp1)) ∨ w.heap.size ≤ x := fun x hx => by
   simp only [List.mem_cons, List.mem_append] at hx ⊢
   rcases hx with hx | hx | hx | hx | hx | hx
   ·exact .inl (.inl hx)
   ·exact .inl (.inr (.inl hx))
   ·exact .inl (.inr (.inr (.inl (.inl hx))))
   ·exact .inl (.inr (.inr (.inl (.inr (.inl hx)))))
   ·exact (hn x hx).imp (fun h => .inr (.inr (.inl (.inr (.inr h))))) id
   ·exact .inl (.inr (.inr (.inr hx)))
  have hnot : ∀ x ∈ ob wv', ∀ y, y ∈ g :: (ob sv ++ fp1) → x ≠ y := fun x hx y hy e => by
   subst e
   rcases hn x hx with h1 | h1
   ·simp only [List.mem_cons, List.mem_append] at hy
    rcases hy with rfl | hy | hy
    ·exact hw1 x (by simp [h1]) rfl
    ·exact hw2 x (by simp [h1]) hy
    ·exact h4 x (by simp [h1]) hy
   ·have := hlt x (by simp only [List.mem_cons, List.mem_append] at hy ⊢; rcases hy with rfl | hy | hy; exact .inl rfl; exact .inr (.inl hy); exact .inr (.inr (.inr hy)))
    omega
  have hg1n : g1 ∉ ob wv' := fun hx => by
   rcases hn g1 hx with h1 | h1
   ·exact h2.gw h1
   ·have := h2.blk.lt; omega
  have hbn : b ∉ ob wv' := fun hx => by
   rcases hn b hx with h1 | h1
   ·exact h2.bw h1
   ·have := h2.map.lt; omega
  have hmo : ∀ x ∈ ob sv, x ∉ g :: g1 :: b :: ob wv := fun x hx h => by
   rcases List.mem_cons.1 h with rfl | h
   ·exact H.gn (by simp [hx])
   ·exact hw2 x h hx
  have hmf : ∀ x ∈ fp1, x ∉ g :: g1 :: b :: ob wv := fun x hx h => by
   rcases List.mem_cons.1 h with rfl | h
   ·exact H.gn (by simp [hx])
   ·exact h4 x h hx
  refine ⟨⟨hB, H.own.mod hm hmo, ⟨_, cs1, g1 :: b :: ob wv', fp1, rfl, rfl, hf' _ _ _ _ ⟨g1, b, wv', rfl, ⟨hb, hM, ⟨vs', ho, Reps.to hm hsub hA _ _ hr⟩, h2.gb, hg1n, hbn⟩, rfl⟩, h3.to hm hsub hA hmf, fun x hx h => ?_⟩, fun h => ?_, fun x hx h => ?_, fun x hx => ?_, H.mod.trans' hm fun x hx => ?_⟩, ⟨hm.mono fun x hx => hsub x hx, fun x hx => ?_⟩⟩
  ·rcases List.mem_cons.1 hx with rfl | hx
   ·exact h4 x (by simp) h
   rcases List.mem_cons.1 hx with rfl | hx
   ·exact h4 x (by simp) h
   ·exact hnot x hx x (by simp [h]) rfl
  ·simp only [List.mem_append, List.mem_cons] at h
   rcases h with h | rfl | rfl | h | h
   ·exact H.gn (by simp [h])
   ·exact hw1 g (by simp) rfl
   ·exact hw1 g (by simp) rfl
   ·exact hnot g h g (by simp) rfl
   ·exact H.gn (by simp [h])
  ·simp only [List.mem_cons, List.mem_append] at h
   rcases h with rfl | rfl | h | h
   ·exact hw2 x (by simp) hx
   ·exact hw2 x (by simp) hx
   ·exact hnot x h x (by simp [hx]) rfl
   ·exact H.dj x hx (by simp [h])
  ·simp only [List.mem_cons, List.mem_append] at hx
   rcases hx with hx | rfl | rfl | hx | hx
   ·exact H.fr x (by simp [hx])
   ·exact H.fr x (by simp)
   ·exact H.fr x (by simp)
   ·rcases hn x hx with h1 | h1
    ·exact H.fr x (by simp [h1])
    ·exact Nat.le_trans H.mod.size h1
   ·exact H.fr x (by simp [hx])
  ·rcases List.mem_cons.1 hx with rfl | hx
   ·exact .inl (by simp)
   ·exact .inr (H.fr x (by simp only [List.mem_cons, List.mem_append] at hx ⊢; exact .inr (.inl hx)))
  ·simp only [List.mem_cons, List.mem_append] at hx ⊢
   rcases hx with hx | rfl | rfl | hx | hx
   ·simp [hx]
   ·simp
   ·simp
   ·exact (hn x hx).imp (fun h => by simp [h]) id
   ·simp [hx]
 ·have hA : ∀ x ∈ g :: (ob sv' ++ fp1), x ∈ g :: (ob sv ++ ((g1 :: b :: ob wv) ++ fp1)) ∨ w.heap.size ≤ x := fun x hx => by
   rw [hob] at hx
   simp only [List.mem_cons, List.mem_append] at hx ⊢
   rcases hx with rfl | hx | hx <;> simp [*]
  have hs2 : ∀ x ∈ g :: ob wv, x ∈ g :: (ob sv ++ ((g1 :: b :: ob wv) ++ fp1)) := fun x hx => hsub x (by rcases List.mem_cons.1 hx with rfl | hx <;> simp [*])
  have hmf : ∀ x ∈ fp1, x ∉ g :: ob wv := fun x hx h => by
   rcases List.mem_cons.1 h with rfl | h
   ·exact H.gn (by simp [hx])
   ·exact h4 x (by simp [h]) hx
  refine ⟨⟨hb, ho, h3.to hm hs2 hA hmf, fun h => ?_, fun x hx h => ?_, fun x hx => ?_, H.mod.trans' hm fun x hx => ?_⟩, ⟨hm.mono hs2, fun x hx => ?_⟩, Own.rep hown (Reps.to hm hs2 hA _ _ hr) (fun r hr => ?_) (by simp) (fun x hx h => ?_)⟩
  ·rw [hob] at h; simp only [List.mem_append] at h; exact H.gn (by rcases h with h | h <;> simp [h])
  ·rw [hob] at hx; exact H.dj x hx (by simp [h])
  ·rw [hob] at hx; simp only [List.mem_append] at hx; exact H.fr x (by rcases hx with h | h <;> simp [h])
  ·rcases List.mem_cons.1 hx with rfl | hx
   ·exact .inl (by simp)
   ·exact .inr (H.fr x (by simp [hx]))
  ·rw [hob] at hx; simp only [List.mem_append] at hx ⊢; rcases hx with h | h <;> simp [h]
  ·obtain ⟨y, _, rfl⟩ := List.mem_map.1 hr; exact JV.Dp_len y
  ·rw [hob] at h
   simp only [List.mem_cons, List.mem_append] at h
   rcases h with rfl | h | h
   ·exact hw1 x (by simp [hx]) rfl
   ·exact hw2 x (by simp [hx]) h
   ·exact h4 x (by simp [hx]) h
theorem PS.rebase (H : PS T w0 w g s k st sv cs fp) (hmd : Mod (g :: ob sv) w w') (hb : Blk w' g T.rd [S s, .int .i64 (k' : Int), sv'])
  (ho : Own w' T.any 1 sv' cs.length cs.reverse) (hn : ∀ x ∈ ob sv', x ∈ ob sv ∨ w.heap.size ≤ x) : PS T w0 w' g s k' st sv' cs fp ∧ Stp w w' g sv fp sv' fp := by
 have hlt := H.lt
 have hsub : ∀ x ∈ g :: ob sv, x ∈ g :: (ob sv ++ fp) := fun x hx => by rcases List.mem_cons.1 hx with rfl | hx <;> simp [*]
 have hgn : g ∉ ob sv' := fun h => by
  rcases hn g h with h | h
  ·exact H.gn (by simp [h])
  ·have := H.rd.lt; omega
 have hA : ∀ x ∈ g :: (ob sv' ++ fp), x ∈ g :: (ob sv ++ fp) ∨ w.heap.size ≤ x := fun x hx => by
  simp only [List.mem_cons, List.mem_append] at hx ⊢
  rcases hx with rfl | hx | hx
  ·simp
  ·rcases hn x hx with h | h
   ·simp [h]
   ·exact .inr h
  ·simp [hx]
 refine ⟨⟨hb, ho, H.stk.to hmd hsub hA (fun x hx h => ?_), fun h => ?_, fun x hx h => ?_, fun x hx => ?_, H.mod.trans' hmd fun x hx => ?_⟩, ⟨hmd.mono hsub, fun x hx => ?_⟩⟩
 ·rcases List.mem_cons.1 h with rfl | h
  ·exact H.gn (by simp [hx])
  ·exact H.dj x h hx
 ·rcases List.mem_append.1 h with h | h
  ·exact hgn h
  ·exact H.gn (by simp [h])
 ·rcases hn x hx with h5 | h5
  ·exact H.dj x h5 h
  ·have := hlt x (by simp [h]); omega
 ·have := H.mod.size
  rcases List.mem_append.1 hx with hx | hx
  ·rcases hn x hx with h | h
   ·exact H.fr x (by simp [h])
   ·omega
  ·exact H.fr x (by simp [hx])
 ·rcases List.mem_cons.1 hx with rfl | hx
  ·exact .inl (by simp)
  ·exact .inr (H.fr x (by simp [hx]))
 ·rcases List.mem_append.1 hx with hx | hx
  ·exact (hn x hx).imp (fun h => by simp [h]) id
  ·exact .inl (by simp [hx])
theorem PS.priv {z : Nat} (H : PS T w0 w g s k st sv cs fp) (hz : z ∈ T.z) (hm : Mod [z] w w') : PS T w0 w' g s k st sv cs fp := by
 have hzf := H.stk.z z hz
 have hzg : z ≠ g := fun e => H.gn (by subst e; simp [hzf])
 have hzs : z ∉ ob sv := fun h => H.dj z h hzf
 refine ⟨H.rd.mod hm (by simpa using Ne.symm hzg), H.own.mod hm (fun x hx e => hzs (by rw [List.mem_singleton.1 e] at hx; exact hx)), ?_, H.gn, H.dj, H.fr, H.mod.trans' hm fun x hx => .inr (by rw [List.mem_singleton.1 hx]; exact H.fr z (by simp [hzf]))⟩
 have key : ∀ {st : List Fm} {cs : List Value} {fp' : List Nat}, StkI T (g :: (ob sv ++ fp)) w st cs fp' → (∀ x ∈ fp', x ∈ fp) → StkI T (g :: (ob sv ++ fp)) w' st cs fp' := by
  intro st
  induction st with
  | nil => exact fun h _ => ⟨h.1, h.2.1, fun x hx => Nat.lt_of_lt_of_le (h.2.2 x hx) hm.size⟩
  | cons fm st ih =>
   intro cs fp' h hs
   obtain ⟨c, cs', m, fp2, rfl, rfl, h1, h2, h3⟩ := h
   refine ⟨c, cs', m, fp2, rfl, rfl, h1.to hm (fun x hx => by rw [List.mem_singleton.1 hx]; simp [hzf]) (fun x hx e => ?_) (fun x hx => .inl hx), ih h2 (fun x hx => hs x (by simp [hx])), h3⟩
   rw [List.mem_singleton.1 e] at hx
   exact h3 z hx (h2.z z hz)
 exact key H.stk (fun x hx => hx)
theorem PS.push {N : Nat} {fm : Fm} {c : Value} {m : List Nat} (H : PS T w0 w g s k st sv cs fp) (hmd : Mod (g :: ob sv) w w') (hs : w.heap.size ≤ N) (hm : ∀ x ∈ m, w.heap.size ≤ x ∧ x < N) (hb : Blk w' g T.rd [S s, .int .i64 (k' : Int), sv'])
  (ho : Own w' T.any 1 sv' (cs.length + 1) (cs.reverse ++ [c])) (hn : ∀ x ∈ ob sv', x ∈ ob sv ∨ N ≤ x) (hf : ∀ A, FrI T A w' fm c m) : PS T w0 w' g s k' (fm :: st) sv' (c :: cs) (m ++ fp) ∧ Stp w w' g sv fp sv' (m ++ fp) := by
 have hlt := H.lt
 have hsub : ∀ x ∈ g :: ob sv, x ∈ g :: (ob sv ++ fp) := fun x hx => by rcases List.mem_cons.1 hx with rfl | hx <;> simp [*]
 have hA : ∀ x ∈ g :: (ob sv' ++ (m ++ fp)), x ∈ g :: (ob sv ++ fp) ∨ w.heap.size ≤ x := fun x hx => by
  simp only [List.mem_cons, List.mem_append] at hx ⊢
  rcases hx with rfl | hx | hx | hx
  ·simp
  ·rcases hn x hx with h | h
   ·simp [h]
   ·exact .inr (by omega)
  ·exact .inr (hm x hx).1
  ·simp [hx]
 have hmn : ∀ x ∈ m, x ∉ g :: (ob sv ++ fp) := fun x hx h => by have := hlt x h; have := (hm x hx).1; omega
 refine ⟨⟨hb, by simpa using ho, ⟨c, cs, m, fp, rfl, rfl, hf _, H.stk.to hmd hsub hA (fun x hx h => ?_), fun x hx h => hmn x hx (by simp [h])⟩, fun h => ?_, fun x hx h => ?_, fun x hx => ?_, H.mod.trans' hmd fun x hx => ?_⟩, ⟨hmd.mono hsub, fun x hx => ?_⟩⟩
 ·rcases List.mem_cons.1 h with rfl | h
  ·exact H.gn (by simp [hx])
  ·exact H.dj x h hx
 ·simp only [List.mem_append] at h
  rcases h with h | h | h
  ·rcases hn g h with h | h
   ·exact H.gn (by simp [h])
   ·have := H.rd.lt; omega
  ·exact hmn g h (by simp)
  ·exact H.gn (by simp [h])
 ·simp only [List.mem_append] at h
  rcases hn x hx with h5 | h5
  ·rcases h with h | h
   ·exact hmn x h (by simp [h5])
   ·exact H.dj x h5 h
  ·rcases h with h | h
   ·have := (hm x h).2; omega
   ·have := hlt x (by simp [h]); omega
 ·simp only [List.mem_append] at hx
  have := H.mod.size
  rcases hx with hx | hx | hx
  ·rcases hn x hx with h | h
   ·exact H.fr x (by simp [h])
   ·omega
  ·have := (hm x hx).1; omega
  ·exact H.fr x (by simp [hx])
 ·rcases List.mem_cons.1 hx with rfl | hx
  ·exact .inl (by simp)
  ·exact .inr (H.fr x (by simp [hx]))
 ·have := hA x (by simp only [List.mem_cons]; exact .inr hx)
  rcases this with h | h
  ·rcases List.mem_cons.1 h with rfl | h
   ·exact .inr (by
     exfalso
     simp only [List.mem_append] at hx
     rcases hx with hx | hx | hx
     ·rcases hn x hx with h | h
      ·exact H.gn (by simp [h])
      ·have := H.rd.lt; omega
     ·exact hmn x hx (by simp)
     ·exact H.gn (by simp [hx]))
   ·exact .inl h
  ·exact .inr h
end
end Go.Proofs.YtknndpjacklkeaaGreatDoor.V

set_option linter.unusedVariables false
set_option linter.unusedSimpArgs false
namespace Go.Proofs.YtknndpjacklkeaaGreatDoor.V
open Go Go.Lib
theorem u8_dig {d : Nat} (h : d < 10) : (UInt8.ofNat (48 + d)).toNat = 48 + d := by
 rw [UInt8.toNat_ofNat']
 omega
theorem dec_dig (u : Nat) : ∀ c ∈ decDigits u, isDg c = true := by
 induction u using Nat.strongRecOn with
 | _ u ih =>
  intro c hc
  rw [decDigits] at hc
  split at hc
  ·rename_i h
   simp only [List.mem_singleton] at hc
   subst hc
   unfold isDg
   rw [u8_dig h]
   simp
   omega
  ·rename_i h
   rcases List.mem_append.1 hc with hc | hc
   ·exact ih (u / 10) (by omega) c hc
   ·simp only [List.mem_singleton] at hc
    subst hc
    unfold isDg
    rw [u8_dig (Nat.mod_lt _ (by decide))]
    simp
    omega
theorem dec_ne (u : Nat) : decDigits u ≠ [] := by
 rw [decDigits]
 split <;> simp
theorem dec_head (u : Nat) (h : 10 ≤ u) : (decDigits u)[0]? ≠ some 48 := by
 induction u using Nat.strongRecOn with
 | _ u ih =>
  rw [decDigits, dif_neg (by omega), List.getElem?_append_left (List.length_pos_iff.2 (dec_ne _))]
  by_cases h1 : 10 ≤ u / 10
  ·exact ih (u / 10) (by omega) h1
  ·rw [decDigits, dif_pos (by omega)]
   intro he
   simp only [List.getElem?_cons_zero, Option.some.injEq] at he
   have := congrArg UInt8.toNat he
   rw [u8_dig (by omega)] at this
   simp at this
   omega
theorem dec_one (u : Nat) (h : u < 10) : (decDigits u).length = 1 := by rw [decDigits, dif_pos h]; rfl
theorem pu_dec (u : Nat) : ∀ r : List UInt8, u < 18446744073709551616 → parseUint10 0 (decDigits u ++ r) = parseUint10 u r := by
 induction u using Nat.strongRecOn with
 | _ u ih =>
  intro r hu
  rw [decDigits]
  split
  ·rename_i h
   rw [List.singleton_append, parseUint10, u8_dig h, if_pos (by omega), if_neg (by omega), if_neg (by omega)]
   congr 1
   omega
  ·rename_i h
   rw [List.append_assoc, ih (u / 10) (by omega) _ (by omega), List.singleton_append, parseUint10, u8_dig (Nat.mod_lt _ (by decide)), if_pos (by omega), if_neg (by omega), if_neg (by omega)]
   congr 1
   omega
theorem mag_dec {u : Nat} (h : u < 18446744073709551616) : parseMag (decDigits u) = .ok u := by
 unfold parseMag
 rw [if_neg (dec_ne u)]
 have := pu_dec u [] h
 rw [List.append_nil] at this
 rw [this, parseUint10]
theorem atoi_itoa {n : Int} (h0 : -9007199254740991 ≤ n) (h1 : n ≤ 9007199254740991) : atoiAll (itoa n) = .ok n := by
 unfold itoa
 split
 ·rename_i h
  unfold atoiAll
  simp only
  rw [if_pos (by right; rfl), mag_dec (by omega)]
  simp only
  rw [if_neg (by simp), if_neg (by simp; omega), if_pos (by rfl)]
  congr 1
  omega
 ·rename_i h
  have hm := mag_dec (u := n.toNat) (by omega)
  have hd := dec_dig n.toNat
  cases hl : decDigits n.toNat with
  | nil => exact absurd hl (dec_ne _)
  | cons c r =>
   rw [hl] at hm hd
   have hc := hd c (by simp)
   simp only [isDg, Bool.and_eq_true, decide_eq_true_eq] at hc
   unfold atoiAll
   simp only
   rw [if_neg (by omega), hm]
   simp only
   rw [if_neg (by omega), if_neg (by omega), if_neg (by omega)]
   congr 1
   omega
theorem itoa_inj {m n : Int} (h0 : -9007199254740991 ≤ n) (h1 : n ≤ 9007199254740991) (g0 : -9007199254740991 ≤ m) (g1 : m ≤ 9007199254740991) (h : itoa m = itoa n) : m = n := by
 have h2 := atoi_itoa g0 g1
 rw [h, atoi_itoa h0 h1] at h2
 injection h2 with h2
 exact h2.symm
theorem numZ_some {n : Int} {w : Str} (h0 : -9007199254740991 ≤ n) (h1 : n ≤ 9007199254740991) (h : itoa n = w) : numZ w = some n := by
 unfold numZ
 have hex : ∃ n : Int, -9007199254740991 ≤ n ∧ n ≤ 9007199254740991 ∧ itoa n = w := ⟨n, h0, h1, h⟩
 rw [dif_pos hex]
 obtain ⟨a, b, c⟩ := hex.choose_spec
 rw [itoa_inj h0 h1 a b (c.trans h.symm)]
theorem numZ_of {n : Int} {w : Str} (h : numZ w = some n) : -9007199254740991 ≤ n ∧ n ≤ 9007199254740991 ∧ itoa n = w := by
 unfold numZ at h
 split at h
 ·rename_i hex
  injection h with h
  subst h
  exact hex.choose_spec
 ·cases h
theorem numZ_ok {v : Int} {w : Str} (h : atoiAll w = .ok v) : numZ w = if itoa v = w ∧ -9007199254740991 ≤ v ∧ v ≤ 9007199254740991 then some v else none := by
 split
 ·rename_i hv
  exact numZ_some hv.2.1 hv.2.2 hv.1
 ·rename_i hv
  cases hz : numZ w with
  | none => rfl
  | some n =>
   obtain ⟨a, b, c⟩ := numZ_of hz
   rw [← c, atoi_itoa a b] at h
   injection h with h
   subst h
   exact absurd ⟨c, a, b⟩ hv
theorem numZ_no {w : Str} (h : ∀ v, atoiAll w ≠ .ok v) : numZ w = none := by
 cases hz : numZ w with
 | none => rfl
 | some n =>
  obtain ⟨a, b, c⟩ := numZ_of hz
  rw [← c] at h
  exact absurd (atoi_itoa a b) (h n)
theorem tw_app {p : UInt8 → Bool} : ∀ {l r : Str}, (∀ c ∈ l, p c = true) → (∀ c, r[0]? = some c → p c = false) → (l ++ r).takeWhile p = l
 | [], [], _, _ => rfl
 | [], c :: r, _, h => by rw [List.nil_append, List.takeWhile_cons, if_neg (by simp [h c rfl])]
 | c :: l, r, h, h' => by rw [List.cons_append, List.takeWhile_cons, if_pos (h c (by simp)), tw_app (fun x hx => h x (by simp [hx])) h']
theorem spanA_app {p : UInt8 → Bool} {s l r : Str} {k : Nat} (h : s.drop k = l ++ r) (hl : ∀ c ∈ l, p c = true) (hr : ∀ c, r[0]? = some c → p c = false) : spanA p s k = k + l.length := by
 unfold spanA
 rw [h, tw_app hl hr]
theorem hasA_off {s t : Str} {k : Nat} (h : s.length ≤ k) (ht : t ≠ []) : hasA s k t = false := by
 rw [Bool.eq_false_iff]
 intro h'
 have := hasA_len h' ht
 have : 0 < t.length := List.length_pos_iff.2 ht
 omega
theorem whole_itoa {n : Int} (h0 : -9007199254740991 ≤ n) (h1 : n ≤ 9007199254740991) : wholeA (itoa n) = (true, false) := by
 obtain ⟨a, u, hw, ha, haw⟩ : ∃ (a u : Nat), (itoa n).drop a = decDigits u ∧ (if hasA (itoa n) 0 [45] then 1 else 0) = a ∧ a ≤ (itoa n).length := by
  unfold itoa
  split
  ·exact ⟨1, n.natAbs, rfl, by rw [if_pos (by rfl)], by simp⟩
  ·refine ⟨0, n.toNat, by simp, ?_, by simp⟩
   rw [if_neg]
   rw [hasA_one]
   intro h
   have := dec_dig n.toNat 45 (List.mem_of_getElem? h)
   revert this
   decide
 have hd := dec_dig u
 have hne := dec_ne u
 have hlen : (itoa n).length = a + (decDigits u).length := by
  have := congrArg List.length hw
  rw [List.length_drop] at this
  omega
 have hpos : 0 < (decDigits u).length := List.length_pos_iff.2 hne
 have he : spanA isDg (itoa n) a = (itoa n).length := by
  rw [spanA_app (l := decDigits u) (r := []) (by simpa using hw) hd (by simp), hlen]
 unfold wholeA
 simp only
 rw [ha, he, if_neg, hasA_off (Nat.le_refl _) (by simp), if_neg (by simp)]
 ·simp only [Bool.false_eq_true, if_false]
  rw [hasA_off (Nat.le_refl _) (by simp), hasA_off (Nat.le_refl _) (by simp)]
  simp
 ·rintro (h | ⟨h2, h3⟩)
  ·omega
  ·have hu : 10 ≤ u := by
    rcases Nat.lt_or_ge u 10 with hu | hu
    ·have := dec_one u hu
     omega
    ·exact hu
   have := dec_head u hu
   rw [← hw, List.getElem?_drop] at this
   exact this (by simpa using h3)
theorem numZ_more {w : Str} (h : (wholeA w).2 = true) : numZ w = none := by
 cases hz : numZ w with
 | none => rfl
 | some n =>
  obtain ⟨a, b, c⟩ := numZ_of hz
  rw [← c, whole_itoa a b] at h
  cases h
theorem numW_itoa {n : Int} (h0 : -9007199254740991 ≤ n) (h1 : n ≤ 9007199254740991) : numW (itoa n) = .ok n := by
 unfold numW
 rw [whole_itoa h0 h1, if_neg (by simp), numZ_some h0 h1 rfl]
theorem itoa_nm {n : Int} : ∀ c ∈ itoa n, isNm c = true := by
 intro c hc
 unfold itoa at hc
 split at hc
 ·rcases List.mem_cons.1 hc with rfl | hc
  ·rfl
  ·unfold isNm; rw [dec_dig _ c hc]; rfl
 ·unfold isNm; rw [dec_dig _ c hc]; rfl
theorem numA_itoa {n : Int} {s r : Str} {k : Nat} (h0 : -9007199254740991 ≤ n) (h1 : n ≤ 9007199254740991) (h : s.drop k = itoa n ++ r) (hr : ∀ c, r[0]? = some c → isNm c = false) : numA s k = .ok (JV.numV n, k + (itoa n).length) := by
 unfold numA
 rw [spanA_app h itoa_nm hr, Nat.add_sub_cancel_left, h, List.take_left', numW_itoa h0 h1]
 ·rfl
 ·rfl
end Go.Proofs.YtknndpjacklkeaaGreatDoor.V

set_option linter.unusedVariables false
set_option linter.unusedSimpArgs false
namespace Go.Proofs.YtknndpjacklkeaaGreatDoor.V
open Go
/-! ## four digits -/
theorem hexF_short : ∀ (f : Nat) (s : Str) (n : Nat), s.length < f → hexF f s n = none
 | 0, _, _, h => by omega
 | f + 1, [], n, _ => rfl
 | f + 1, c :: r, n, h => by
  rw [hexF]
  cases hexv c with
  | none => rfl
  | some d => exact hexF_short f r _ (by simpa using h)
theorem hexF_take : ∀ (f : Nat) (s : Str) (n : Nat), hexF f (s.take f) n = hexF f s n
 | 0, _, _ => by simp [hexF]
 | f + 1, [], n => rfl
 | f + 1, c :: r, n => by
  rw [List.take_succ_cons, hexF, hexF]
  cases hexv c with
  | none => rfl
  | some d => exact hexF_take f r _
theorem hexv_lt {c : UInt8} {d : Nat} (h : hexv c = some d) : d < 16 := by
 unfold hexv at h
 split at h
 ·injection h with h; omega
 ·split at h
  ·injection h with h; omega
  ·split at h
   ·injection h with h; omega
   ·cases h
theorem hexv_big {c : UInt8} (h : 128 ≤ c.toNat) : hexv c = none := by
 unfold hexv
 rw [if_neg (by omega), if_neg (by omega), if_neg (by omega)]
theorem hexF_lt : ∀ (f : Nat) (s : Str) (n m : Nat), hexF f s n = some m → m < 16 ^ f * (n + 1)
 | 0, _, n, m, h => by
  simp only [hexF, Option.some.injEq] at h
  omega
 | f + 1, [], n, m, h => by simp [hexF] at h
 | f + 1, c :: r, n, m, h => by
  rw [hexF] at h
  cases hd : hexv c with
  | none => rw [hd] at h; cases h
  | some d =>
   rw [hd] at h
   have h1 := hexF_lt f r _ _ h
   have h2 := hexv_lt hd
   have h3 : 16 ^ f * (16 * n + d + 1) ≤ 16 ^ f * (16 * (n + 1)) := Nat.mul_le_mul_left _ (by omega)
   rw [Nat.pow_succ, Nat.mul_assoc]
   omega
theorem four_lt {s : Str} {m : Nat} (h : hexF 4 s 0 = some m) : m < 65536 := by
 have := hexF_lt 4 s 0 m h
 omega
theorem hexF_at {f p n : Nat} {s : Str} {b : UInt8} (h : s[p]? = some b) : hexF (f + 1) (s.drop p) n = match hexv b with | none => none | some d => hexF f (s.drop (p + 1)) (16 * n + d) := by
 rw [drop_get h, hexF]
 cases hexv b <;> rfl
theorem hexS : ∀ b, b < 128 → (match hexv (UInt8.ofNat b) with | none => decide (Lib.indexByte hexD (UInt8.ofNat (b ||| 32)) < 0) || decide (b < 48) | some d => decide (Lib.indexByte hexD (UInt8.ofNat (b ||| 32)) = (d : Int)) && decide (48 ≤ b)) = true := by decide +kernel
theorem hexS_no {b : UInt8} (hb : b.toNat < 128) (h : hexv b = none) : Lib.indexByte hexD (UInt8.ofNat (b.toNat ||| 32)) < 0 ∨ b.toNat < 48 := by
 have := hexS b.toNat hb
 rw [UInt8.ofNat_toNat, h] at this
 simpa using this
theorem hexS_yes {b : UInt8} {d : Nat} (hb : b.toNat < 128) (h : hexv b = some d) : Lib.indexByte hexD (UInt8.ofNat (b.toNat ||| 32)) = (d : Int) ∧ 48 ≤ b.toNat := by
 have := hexS b.toNat hb
 rw [UInt8.ofNat_toNat, h] at this
 simpa using this
theorem wrap32_in (z : Int) (h : -2147483648 ≤ z ∧ z ≤ 2147483647) : IntKind.i32.wrap z = z := by
 simp only [IntKind.wrap, IntKind.bits, IntKind.signed]
 simp
 omega
theorem or32i {c : Nat} (h : c ≤ 1114111) : IntKind.i32.wrap ((BitVec.ofInt IntKind.i32.bits (c : Int) ||| BitVec.ofInt IntKind.i32.bits 32).toNat) = ((c ||| 32 : Nat) : Int) := by
 have h0 : (BitVec.ofInt 32 (c : Int) ||| BitVec.ofInt 32 32).toNat = c ||| 32 := by
  rw [BitVec.toNat_or]
  have h1 : (BitVec.ofInt 32 (c : Int)).toNat = c := by
   rw [BitVec.toNat_ofInt]; omega
  have h2 : (BitVec.ofInt 32 32).toNat = 32 := by decide
  rw [h1, h2]
 have hlt : c ||| 32 < 2 ^ 21 := Nat.or_lt_two_pow (by omega) (by omega)
 show IntKind.i32.wrap ((BitVec.ofInt 32 (c : Int) ||| BitVec.ofInt 32 32).toNat : Int) = _
 rw [h0, wrap32_in _ (by omega)]
theorem or32_up {c : Nat} : (c ||| 32) / 2048 = c / 2048 := by
 have := Nat.shiftRight_or_distrib (a := c) (b := 32) (i := 11)
 rw [Nat.shiftRight_eq_div_pow, Nat.shiftRight_eq_div_pow] at this
 simpa using this
theorem or32_ge {c : Nat} (h : 128 ≤ c) : 128 ≤ c ||| 32 := Nat.le_trans h Nat.left_le_or
theorem or32_le {c : Nat} (h : c ≤ 1114111) : c ||| 32 ≤ 1114111 := by
 have h1 := or32_up (c := c)
 by_cases h2 : c / 2048 = 543
 ·omega
 ·omega
theorem or32_no {c : Nat} (h : ¬ (55296 ≤ c ∧ c ≤ 57343)) : ¬ (55296 ≤ c ||| 32 ∧ c ||| 32 ≤ 57343) := by
 have h1 := or32_up (c := c)
 omega
theorem or32_lt {c : Nat} (h : c < 128) : c ||| 32 < 128 := Nat.or_lt_two_pow (n := 7) h (by decide)
theorem or16i {n d : Nat} (hn : n < 1048576) (hd : d < 16) : IntKind.i32.wrap ((BitVec.ofInt IntKind.i32.bits ((16 * n : Nat) : Int) ||| BitVec.ofInt IntKind.i32.bits (d : Int)).toNat) = ((16 * n + d : Nat) : Int) := by
 have h : (BitVec.ofInt 32 ((16 * n : Nat) : Int) ||| BitVec.ofInt 32 (d : Int)).toNat = 16 * n + d := by
  rw [BitVec.toNat_or]
  have h1 : (BitVec.ofInt 32 ((16 * n : Nat) : Int)).toNat = 16 * n := by
   rw [BitVec.toNat_ofInt]; omega
  have h2 : (BitVec.ofInt 32 (d : Int)).toNat = d := by
   rw [BitVec.toNat_ofInt]; omega
  rw [h1, h2]
  exact (Nat.two_pow_add_eq_or_of_lt (i := 4) hd n).symm
 show IntKind.i32.wrap ((BitVec.ofInt 32 ((16 * n : Nat) : Int) ||| BitVec.ofInt 32 (d : Int)).toNat : Int) = _
 rw [h, wrap32_in _ (by omega)]
/-! ## letters behind a backslash -/
abbrev escF : Str := [34, 92, 47, 98, 102, 110, 114, 116]
abbrev escG : Str := [34, 92, 47, 8, 12, 10, 13, 9]
theorem escC_idx (c : UInt8) : (escC c = none ∧ Lib.indexByte escF c < 0) ∨ ∃ i d : Nat, escC c = some d ∧ Lib.indexByte escF c = (i : Int) ∧ i < 8 ∧ escG[i]? = some (UInt8.ofNat d) ∧ d < 256 := by
 by_cases h1 : c = 34
 ·subst h1; exact .inr ⟨0, 34, by decide⟩
 by_cases h2 : c = 92
 ·subst h2; exact .inr ⟨1, 92, by decide⟩
 by_cases h3 : c = 47
 ·subst h3; exact .inr ⟨2, 47, by decide⟩
 by_cases h4 : c = 98
 ·subst h4; exact .inr ⟨3, 8, by decide⟩
 by_cases h5 : c = 102
 ·subst h5; exact .inr ⟨4, 12, by decide⟩
 by_cases h6 : c = 110
 ·subst h6; exact .inr ⟨5, 10, by decide⟩
 by_cases h7 : c = 114
 ·subst h7; exact .inr ⟨6, 13, by decide⟩
 by_cases h8 : c = 116
 ·subst h8; exact .inr ⟨7, 9, by decide⟩
 left
 refine ⟨by unfold escC; simp [*], ?_⟩
 have e : ∀ d : UInt8, ¬ c = d → (d == c) = false := fun d h => by simp [Ne.symm h]
 simp only [Lib.indexByte, e _ h1, e _ h2, e _ h3, e _ h4, e _ h5, e _ h6, e _ h7, e _ h8, Bool.false_eq_true, if_false, beq_self_eq_true, if_true]
 omega
def escP (s : Str) : Nat × Nat := if (escR (92 :: s)).2 = 0 then (0, 0) else ((escR (92 :: s)).1, (escR (92 :: s)).2 - 1)
theorem escP_nil : escP [] = (0, 0) := rfl
theorem escP_one {c : UInt8} {r : Str} {d : Nat} (h : escC c = some d) : escP (c :: r) = (d, 1) := by
 have : escR (92 :: c :: r) = (d, 2) := by unfold escR; simp only; rw [h]
 unfold escP
 rw [this]
 rfl
theorem escR_u {c : UInt8} {r : Str} (h : escC c = none) : escR (92 :: c :: r) = match hexU (92 :: c :: r) with
   | none => (0, 0)
   | some n =>
    if 56320 ≤ n ∧ n ≤ 57343 then (0, 0)
    else if n < 55296 ∨ 57343 < n then (n, 6)
    else match hexU (r.drop 4) with
     | none => (0, 0)
     | some m => if m < 56320 ∨ 57343 < m then (0, 0) else (65536 + 1024 * (n - 55296) + (m - 56320), 12) := by
 unfold escR
 simp only
 rw [h]
 rfl
theorem hexU_no {c : UInt8} {r : Str} (h : c ≠ 117) : hexU (92 :: c :: r) = none := by
 unfold hexU
 split
 ·rename_i h2
  injection h2 with _ h2
  injection h2 with h2 _
  exact absurd h2 h
 ·rfl
theorem hexU_u {r : Str} : hexU (92 :: 117 :: r) = hexF 4 r 0 := rfl
theorem hexU_pre {l : Str} (h : (List.isPrefixOf [92, 117] l) = false) : hexU l = none := by
 unfold hexU
 split
 ·simp [List.isPrefixOf] at h
 ·rfl
theorem hexU_pre' {l : Str} (h : (List.isPrefixOf [92, 117] l) = true) : hexU l = hexF 4 (l.drop 2) 0 := by
 rw [List.isPrefixOf_iff_prefix] at h
 obtain ⟨t, rfl⟩ := h
 rfl
/-! ## blanks, words of numbers -/
theorem ib_any (s : Str) (c : UInt8) : decide (Lib.indexByte s c ≥ 0) = s.any (fun b => b == c) := by
 induction s with
 | nil => rfl
 | cons b s ih =>
  rw [List.any_cons, ← ih, show Lib.indexByte (b :: s) c = (if b == c then 0 else if Lib.indexByte s c == -1 then -1 else Lib.indexByte s c + 1) from rfl]
  by_cases h : (b == c) = true
  ·rw [if_pos h, h]; rfl
  ·rw [if_neg h]
   have hf : (b == c) = false := by simpa using h
   rw [hf, Bool.false_or]
   by_cases h2 : (Lib.indexByte s c == -1) = true
   ·rw [if_pos h2]
    have : Lib.indexByte s c = -1 := by simpa using h2
    rw [this]
   ·rw [if_neg h2]
    have h3 : Lib.indexByte s c ≠ -1 := by simpa using h2
    have h4 := Lib.indexByte_ge s c
    rw [decide_eq_true (by omega), decide_eq_true (by omega)]
theorem bq_comm (a b : UInt8) : (a == b) = (b == a) := by
 by_cases h : a = b
 ·subst h; rfl
 ·rw [beq_eq_false_iff_ne.2 h, beq_eq_false_iff_ne.2 (Ne.symm h)]
theorem ib_ws (c : UInt8) : decide (Lib.indexByte [32, 9, 10, 13] c ≥ 0) = isWs c := by
 rw [ib_any]
 simp [isWs, bq_comm, Bool.or_assoc]
theorem ib_nm : ∀ c : Nat, c < 256 → decide (Lib.indexByte [43, 45, 46, 48, 49, 50, 51, 52, 53, 54, 55, 56, 57, 69, 101] (UInt8.ofNat c) ≥ 0) = isNm (UInt8.ofNat c) := by decide +kernel
theorem ib_num (c : UInt8) : decide (Lib.indexByte [43, 45, 46, 48, 49, 50, 51, 52, 53, 54, 55, 56, 57, 69, 101] c ≥ 0) = isNm c := by
 have := ib_nm c.toNat (UInt8.toNat_lt c)
 rwa [UInt8.ofNat_toNat] at this
theorem dig_set (c : UInt8) : ([48, 49, 50, 51, 52, 53, 54, 55, 56, 57] : Str).contains c = isDg c := by
 have : ∀ n : Nat, n < 256 → ([48, 49, 50, 51, 52, 53, 54, 55, 56, 57] : Str).contains (UInt8.ofNat n) = isDg (UInt8.ofNat n) := by decide +kernel
 have := this c.toNat (UInt8.toNat_lt c)
 rwa [UInt8.ofNat_toNat] at this
theorem dw_span (p : UInt8 → Bool) (s : Str) (k : Nat) : (s.drop k).dropWhile p = s.drop (spanA p s k) := by
 unfold spanA
 generalize hl : s.drop k = l
 have h : ∀ l : Str, l.dropWhile p = l.drop (l.takeWhile p).length := fun l => by
  induction l with
  | nil => rfl
  | cons c r ih =>
   rw [List.dropWhile_cons, List.takeWhile_cons]
   split
   ·rw [ih]; simp
   ·rfl
 rw [h, ← hl, List.drop_drop]
theorem trimD (s : Str) (k : Nat) : Lib.trimLeftS (s.drop k) [48, 49, 50, 51, 52, 53, 54, 55, 56, 57] = s.drop (spanA isDg s k) := by
 rw [← dw_span]
 unfold Lib.trimLeftS
 congr 1
 funext c
 exact dig_set c
theorem e_or32 : ∀ c : Nat, c < 256 → (IntKind.u8.wrap ((BitVec.ofInt IntKind.u8.bits (c : Int) ||| BitVec.ofInt IntKind.u8.bits 32).toNat) = 101 ↔ (c = 101 ∨ c = 69)) := by decide +kernel
end Go.Proofs.YtknndpjacklkeaaGreatDoor.V
