/-
  A part of the proof: a Hash and the bytes that were given to it, as one fact; what Write and Sum do to it. No condition of its own.
-/
import Derived.Test.YtccjjkdogljmpaaDoorDD
import Derived.Test.YtccjjkdogljmpaaDoorTR
set_option linter.unusedVariables false
set_option linter.unusedSimpArgs false
namespace Go.Proofs.YtccjjkdogljmpaaDoor.V
open Go Go.Proofs
theorem b8_succ (x : UInt8) : Value.int .u8 (IntKind.u8.wrap ((x.toNat : Int) + 1)) = B8 (x + 1) := by
  unfold B8
  congr 1
theorem bset {q : List UInt8} {k : Nat} {y : UInt8} : ((q.map bcells).flatten).set k (B8 y) = ((q.set k y).map bcells).flatten := by
  rw [flat_B8, flat_B8, List.map_set]
/-- the Hash at 'gh' was given 'all'; 'F' are its blocks, none of them older than 'N' -/
def HH (w : World) (N gh : Nat) (all : List UInt8) (F : List Nat) : Prop :=
  ∃ K wv, 64 * K ≤ all.length ∧ all.length < 64 * K + 64 ∧ Blk w gh 53 ((abs64 s8of all K).cells ++ [wv, .int .u64 (all.length : Int)]) ∧ Own w 5 1 wv (all.length - 64 * K) ((((all.drop (64 * K)).map bcells).flatten)) ∧ (∀ x ∈ ob wv, x ≠ gh) ∧ F = gh :: ob wv ∧ (∀ x ∈ F, N ≤ x)
theorem HH.ge {w : World} {N gh : Nat} {all : List UInt8} {F : List Nat} (h : HH w N gh all F) : ∀ x ∈ F, N ≤ x := by
  obtain ⟨K, wv, _, _, _, _, _, _, h⟩ := h
  exact h
theorem HH.lt {w : World} {N gh : Nat} {all : List UInt8} {F : List Nat} (h : HH w N gh all F) : ∀ x ∈ F, x < w.heap.size := by
  obtain ⟨K, wv, _, _, B, O, _, rfl, _⟩ := h
  intro x hx
  rcases List.mem_cons.1 hx with rfl | hx
  · exact B.lt
  · exact O.lt x hx
theorem HH.mod {w w' : World} {N gh : Nat} {all : List UInt8} {F M : List Nat} (h : HH w N gh all F) (k : Mod M w w') (hd : ∀ x ∈ F, x ∉ M) : HH w' N gh all F := by
  obtain ⟨K, wv, h1, h2, B, O, h3, rfl, h4⟩ := h
  exact ⟨K, wv, h1, h2, B.mod k (hd gh (by simp)), O.mod k (fun x hx => hd x (by simp [hx])), h3, rfl, h4⟩
theorem HH.new {w : World} {N gh : Nat} (B : Blk w gh 53 (s8of.cells ++ [.slice none 0 0, .int .u64 0])) (h : N ≤ gh) : HH w N gh [] [gh] :=
  ⟨0, .slice none 0 0, by simp, by simp, B, Own.nil _ 5 1, by simp [ob], by simp [ob], by simpa using h⟩
theorem djn {F F' G : List Nat} {n : Nat} (h : ∀ x ∈ F', x ∈ F ∨ n ≤ x) (hd : ∀ x ∈ G, x ∉ F) (hg : ∀ x ∈ G, x < n) : ∀ x ∈ G, x ∉ F' := fun x hx hx' => (h x hx').elim (hd x hx) (fun h => by have := hg x hx; omega)
theorem djs {F G : List Nat} (h : ∀ x ∈ F, x ∉ G) : ∀ x ∈ G, x ∉ F := fun x hx hf => h x hf hx
theorem c_writeH (A : List Nat) (w : World) (N gh : Nat) (all b : List UInt8) (F : List Nat) (v1 : Value) (H : HH w N gh all F) (hN : 0 < N) (hNw : N ≤ w.heap.size) (hT : Cs w ⟨0, 0, none⟩ (numsK.map W4)) (Rb : Rep A w (byD b) v1) (hA : ∀ x ∈ F, x ∈ A) (hl : all.length + b.length ≤ 1000000) :
    Calls Tryd.prog 12 [.pointer (some ⟨gh, 0, none⟩), v1].toArray w (Ret fun _ w' => ∃ F', HH w' N gh (all ++ b) F' ∧ (∀ x ∈ F', x ∈ F ∨ w.heap.size ≤ x) ∧ Mod F w w') := by
  have hge := H.ge
  obtain ⟨K, wv, hK1, hK2, B, O, hd, rfl, _⟩ := H
  refine Calls.imp (c_write A w (abs64 s8of all K) (all.drop (64 * K)) b (all.length : Int) gh wv v1 B (O.as (by rw [List.length_drop]) rfl) hd (fun x hx => by have := hge x (by simp [hx]); omega) hT (by have := hge gh (by simp); omega) Rb hA (by rw [List.length_drop]; omega) (by omega) B.lt) ?_
  rintro u w' ⟨k2, wv2, hq1, hq2, Bgh2, Ow2, Dw2, Hw2, Ew⟩
  rw [List.length_append, List.length_drop] at hq1 hq2 Ow2
  rw [abs64_join hK1] at Bgh2
  rw [drop_join hK1] at Ow2
  have hla : (all ++ b).length = all.length + b.length := List.length_append
  refine ⟨gh :: ob wv2, ⟨K + k2, wv2, by omega, by omega, ?_, Ow2.as (by omega) rfl, Dw2, rfl, ?_⟩, ?_, Ew⟩
  · rw [hla]
    exact Bgh2
  · intro x hx
    rcases List.mem_cons.1 hx with rfl | hx
    · exact hge _ (by simp)
    · rcases Hw2 x hx with h | h
      · exact hge _ (by simp [h])
      · omega
  · intro x hx
    rcases List.mem_cons.1 hx with rfl | hx
    · exact .inl (by simp)
    · exact (Hw2 x hx).imp (fun h => by simp [h]) id
theorem c_sumH (w : World) (N gh : Nat) (all : List UInt8) (F : List Nat) (H : HH w N gh all F) (hT : Cs w ⟨0, 0, none⟩ (numsK.map W4)) (hw0 : 0 < w.heap.size) (hl : all.length ≤ 1000000) :
    Calls Tryd.prog 13 [.pointer (some ⟨gh, 0, none⟩)].toArray w (Ret fun u w' => u = .agg ((sha all).map B8).toArray ∧ Mod [] w w') := by
  obtain ⟨K, wv, hK1, hK2, B, O, hd, rfl, _⟩ := H
  exact Calls.imp (c_sum w (abs64 s8of all K) (all.drop (64 * K)) all.length gh wv B (O.as (by rw [List.length_drop]) rfl) hT hw0 (by rw [List.length_drop]; omega) (by omega)) fun u w' h => ⟨h.1.trans (by rw [sha_sum hK1 hK2]), h.2⟩
end Go.Proofs.YtccjjkdogljmpaaDoor.V
