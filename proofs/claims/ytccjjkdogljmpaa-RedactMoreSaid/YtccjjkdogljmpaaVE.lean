/-
  A part of the proof: an argument's reading opened: what its cells stand for, and how great it is. No condition of its own.
-/
import Derived.Test.YtccjjkdogljmpaaVD
import Derived.OpenShut
import Derived.DataReads
set_option linter.unusedVariables false
set_option linter.unusedSimpArgs false
namespace Go.Proofs.Ytccjjkdogljmpaa.V
open Go
section
variable {H : Type} {enc : TypeId × Value → H} {P : Program} {w : World} {n : Nat} {t : TypeId}
/-- what is read at type 't' within 'n' steps stands for something: 'f a', and 'Q a' -/
def OpnN (enc : TypeId × Value → H) (P : Program) (w : World) (n : Nat) (t : TypeId) {α : Type} (f : α → List D) (Q : α → Prop) : Prop :=
  ∀ cs x, DataW.trod enc P w 0 (fun _ => true) true n t cs = some x → (∀ m ∈ x.1.weights P t, m ≤ reachBytes) → ∃ a, Reps [] w (f a) cs ∧ Q a
theorem OpnN.zero {α : Type} {f : α → List D} {Q : α → Prop} : OpnN enc P w 0 t f Q := fun cs x h => by simp [DataW.trod] at h
theorem OpnN.to {α β : Type} {f : α → List D} {Q : α → Prop} {f' : β → List D} {Q' : β → Prop} (h : OpnN enc P w n t f Q) (g : α → β) (hf : ∀ a, f' (g a) = f a) (hQ : ∀ a, Q a → Q' (g a)) : OpnN enc P w n t f' Q' := fun cs x hx hm => by
  obtain ⟨a, h1, h2⟩ := h cs x hx hm
  exact ⟨g a, by rw [hf]; exact h1, hQ a h2⟩
theorem opn_str (ht : P.underlying t = some .string) : OpnN enc P w n t (fun s => [.v (S s)]) (fun s : List UInt8 => s.length ≤ 140737488351232) := fun cs x hx hm => by
  obtain ⟨s, rfl, rfl, _⟩ := DataW.trod_string ht hx
  refine ⟨s.data.toList, Reps.cons_ (Rep.v_ rfl) Reps.nil_, ?_⟩
  have := hm s.data.toList.length (by simp [DataW.weights])
  simpa [reachBytes] using this
theorem opn_int {k : IntKind} (ht : P.underlying t = some (.int k)) : OpnN enc P w n t (fun m => [.v (.int k m)]) (fun m : Int => (Lit.int k m).wf = true) := fun cs x hx hm => by
  obtain ⟨m, rfl, rfl, h⟩ := DataW.trod_int ht hx
  exact ⟨m, Reps.cons_ (Rep.v_ rfl) Reps.nil_, h⟩
theorem opn_bool (ht : P.underlying t = some .bool) : OpnN enc P w n t (fun b => [.v (.bool b)]) (fun _ : Bool => True) := fun cs x hx hm => by
  obtain ⟨b, rfl, rfl⟩ := DataW.trod_bool ht hx
  exact ⟨b, Reps.cons_ (Rep.v_ rfl) Reps.nil_, trivial⟩
/-- fields, from the place 'off' on -/
def OpnFs (enc : TypeId × Value → H) (P : Program) (w : World) (n tot : Nat) (fs : List Field) (off : Nat) {α : Type} (f : α → List D) (Q : α → Prop) : Prop :=
  ∀ (cs : List Value) (xs : List (DataW H × List MemPlace)), cs.length = tot → xs.length = fs.length → (∀ (i : Nat) g, fs[i]? = some g → DataW.trod enc P w 0 (fun _ => true) true n g.type ((cs.drop g.offset).take (P.cellsOf g.type)) = xs[i]?) →
    (∀ m ∈ DataW.weightsEach P (fs.map (·.type)) (xs.map (·.1)), m ≤ reachBytes) → ∃ a, Reps [] w (f a) (cs.drop off) ∧ Q a
theorem opn_nil {tot : Nat} : OpnFs enc P w n tot [] tot (fun _ : Unit => []) (fun _ => True) := fun cs xs h _ _ _ => ⟨(), by rw [List.drop_eq_nil_of_le (by omega)]; exact Reps.nil_, trivial⟩
theorem opn_cons {tot off k : Nat} {fd : Field} {fs : List Field} {α β : Type} {f : α → List D} {Q : α → Prop} {f' : β → List D} {Q' : β → Prop} (ho : fd.offset = off) (hk : P.cellsOf fd.type = k) (h : OpnN enc P w n fd.type f Q) (h' : OpnFs enc P w n tot fs (off + k) f' Q') :
    OpnFs enc P w n tot (fd :: fs) off (fun p : α × β => f p.1 ++ f' p.2) (fun p => Q p.1 ∧ Q' p.2) := fun cs xs hl hx hr hm => by
  cases xs with
  | nil => simp at hx
  | cons x xs =>
    have h0 := hr 0 fd rfl
    simp only [List.getElem?_cons_zero] at h0
    simp only [List.map_cons, DataW.weightsEach, List.mem_append] at hm
    obtain ⟨a, ha, hQ⟩ := h _ x h0 (fun m hm' => hm m (.inl hm'))
    obtain ⟨b, hb, hQ'⟩ := h' cs xs hl (by simpa using hx) (fun i g hg => by simpa using hr (i + 1) g (by simpa using hg)) (fun m hm' => hm m (.inr hm'))
    refine ⟨(a, b), ?_, hQ, hQ'⟩
    have := ha.append hb
    rw [ho, hk] at this
    rwa [← List.drop_drop, List.take_append_drop] at this
theorem opn_struct {tot : Nat} {fs : Array Field} {α : Type} {f : α → List D} {Q : α → Prop} (ht : P.underlying t = some (.struct fs)) (hc : P.cellsOf t = tot) (h : OpnFs enc P w n tot fs.toList 0 f Q) : OpnN enc P w (n + 1) t f Q := fun cs x hx hm => by
  obtain ⟨xs, m, hn, rfl, hl, hlen, hf⟩ := DataW.trod_struct ht hx
  obtain rfl : n = m := by omega
  simp only [DataW.weights, ht] at hm
  have := h cs xs (hl.trans hc) (by simpa using hlen) (fun i g hg => hf i g (by simpa using hg)) hm
  simpa using this
theorem choose_list {α : Type} {R : Nat → α → Prop} : ∀ (k : Nat), (∀ i, i < k → ∃ a, R i a) → ∃ l : List α, l.length = k ∧ ∀ i a, l[i]? = some a → R i a
  | 0, _ => ⟨[], rfl, fun i a h => by simp at h⟩
  | k + 1, h => by
    obtain ⟨l, hl, hr⟩ := choose_list k fun i hi => h i (by omega)
    obtain ⟨a, ha⟩ := h k (by omega)
    refine ⟨l ++ [a], by simp [hl], fun i b hb => ?_⟩
    rcases Nat.lt_trichotomy i l.length with h1 | h1 | h1
    · rw [List.getElem?_append_left h1] at hb
      exact hr i b hb
    · subst h1
      simp at hb
      subst hb
      rw [hl]
      exact ha
    · rw [List.getElem?_eq_none (by simp; omega)] at hb
      cases hb
theorem weightsAll_mem {e : TypeId} : ∀ {ds : List (DataW H)} {d : DataW H}, d ∈ ds → ∀ m ∈ d.weights P e, m ∈ DataW.weightsAll P e ds
  | d' :: ds, d, h, m, hm => by
    simp only [DataW.weightsAll, List.mem_append]
    rcases List.mem_cons.1 h with rfl | h
    · exact .inl hm
    · exact .inr (weightsAll_mem h m hm)
theorem opn_slice {e sz by_ : Nat} {α : Type} {f : α → List D} {Q : α → Prop} (ht : P.underlying t = some (.slice e)) (hc : P.cellsOf e = sz) (hb : P.bytesOf e = by_) (hsz : 0 < sz) (h : OpnN enc P w n e f Q) :
    OpnN enc P w (n + 1) t (fun xs : List α => [.sl sz (xs.map f)]) (fun xs => (∀ x ∈ xs, Q x) ∧ xs.length * by_ ≤ 140737488351232) := fun cs x hx hm => by
  rcases DataW.trod_slice ht hx with ⟨rfl, rfl⟩ | ⟨a, len, cap, elems, rest, m, hn, rfl, rfl, _, hl, hcap, hlen, hel, hsp, _⟩
  · refine ⟨[], Reps.cons_ ?_ Reps.nil_, by simp, by simp⟩
    simp only [Rep, List.map_nil]
    exact ⟨none, 0, rfl, by simp, by simp, by simp⟩
  · obtain rfl : n = m := by omega
    simp only [DataW.weights, ht, List.mem_cons, List.mem_append] at hm
    have hw := hm _ (.inl rfl)
    rw [hb] at hw
    simp only [List.length_map, reachBytes] at hw
    have hwl : len * by_ ≤ (elems.length + rest.length) * by_ := Nat.mul_le_mul_right _ (by omega)
    have key : ∀ i, i < len → ∃ b, Q b ∧ a.block < w.heap.size ∧ ∃ us, us.length = sz ∧ Reps [] w (f b) us ∧ Cs w (a.add (i * sz)) us := fun i hi => by
      have h1 := hel i hi
      obtain ⟨y, hy⟩ : ∃ y, elems[i]? = some y := ⟨_, List.getElem?_eq_getElem (by omega)⟩
      rw [hy] at h1
      obtain ⟨us, h2, h3⟩ := Option.bind_eq_some_iff.1 h1
      rw [hc] at h2
      have h4 := World.cells?_some h2
      obtain ⟨b, hb1, hb2⟩ := h us y h3 (fun m hm' => hm m (.inr (.inl (weightsAll_mem (List.mem_map.2 ⟨y, List.mem_of_getElem? hy, rfl⟩) m hm'))))
      have hblk := World.cells?_block h2 hsz
      rw [add_block] at hblk
      have hulen : us.length = sz := h4.2.1
      exact ⟨b, hb2, hblk, us, hulen, hb1, fun j v hv => by
        have hj := (List.getElem?_eq_some_iff.1 hv).1
        have := h4.2.2 j (by omega)
        rw [this, hv]⟩
    obtain ⟨xs, hxl, hxs⟩ := choose_list len key
    refine ⟨xs, Reps.cons_ ?_ Reps.nil_, fun y hy => ?_, by rw [hxl]; omega⟩
    · rcases Nat.eq_zero_or_pos len with h0 | h0
      · subst h0
        obtain rfl : xs = [] := List.eq_nil_of_length_eq_zero hxl
        simp only [Rep, List.map_nil]
        exact ⟨some a, cap, rfl, hl, hcap, by simp⟩
      · obtain ⟨_, _, hblk, _⟩ := key 0 h0
        refine Rep.sl_mk (by simp [hxl]) hl hcap (by simp) hblk fun i r hi => ?_
        rw [List.getElem?_map] at hi
        obtain ⟨y, hy, rfl⟩ := Option.map_eq_some_iff.1 hi
        obtain ⟨_, _, us, h1, h2, h3⟩ := hxs i y hy
        exact ⟨by rw [← h2.length, h1], us, h2, h3⟩
    · obtain ⟨i, hi⟩ := List.getElem?_of_mem hy
      exact (hxs i y hi).1
end
end Go.Proofs.Ytccjjkdogljmpaa.V
