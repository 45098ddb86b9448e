/-
  A part of the proof: slices of arrays; a slice's type changed in name alone. No condition of its own.
-/
import Derived.Test.YtccjjkdogljmpaaDoorTV
set_option linter.unusedVariables false
set_option linter.unusedSimpArgs false
namespace Go.Proofs.YtccjjkdogljmpaaDoor.V
open Go
section
variable {P : Program} {l : List (Nat × Value)} {w : World} {ty : TypeId} {pos : String} {af : Array Edge}
variable {dd : Option Nat} {gg : Option (Nat × Bool)} {x y : Operand} {t t' : TypeId}
theorem freeze_facts {g T n : Nat} {cs : List Value} (B : Blk w g T cs) : Mod [g] w (w.freeze ⟨g, cs.length, none⟩ 1) ∧ (∀ i, (w.freeze ⟨g, cs.length, none⟩ 1).cell? ⟨g, i, none⟩ = cs[i]?) ∧ g < (w.freeze ⟨g, cs.length, none⟩ 1).heap.size := by
  have hlt := B.lt
  have hB : w.heap[g] = .cells cs.toArray T (0, 0) := by
    have := B
    unfold Blk at this
    rw [Array.getElem?_eq_getElem hlt] at this
    exact Option.some.inj this
  refine ⟨⟨rfl, rfl, rfl, by simp [World.freeze], fun i hi hM => ?_⟩, fun i => ?_, by simpa [World.freeze] using hlt⟩
  · have hne : g ≠ i := fun e => hM (by simp [e])
    simp [World.freeze, Array.getElem?_modify, hne]
  · simp [World.cell?, World.freeze, Array.getElem?_modify, Array.getElem?_eq_getElem hlt, hB]
variable {ops : Array Oper} {Q : Exit → Act → World → Prop} {n : Nat} {ds : List Deferred} {rest : List Oper} {d : Nat}
theorem s_convB {c c' e g o T : Nat} {cs : List Value} (hs : P.underlying t = some (.slice e)) (he : P.underlying e = some (.int .u8)) (hx : evO l x = some (.slice (some ⟨g, o, none⟩) c c')) (B : Blk w g T cs) (hd : Nat.blt d n = true)
    (h : ∀ w', Mod [g] w w' → (∀ i, w'.cell? ⟨g, i, none⟩ = cs[i]?) → g < w'.heap.size → WL P ops Q rest n ds ((d, .slice (some ⟨g, o, none⟩) c c') :: l) w') :
    WL P ops Q (⟨some d, .convert t t x, ty, pos, af, none⟩ :: rest) n ds l w := by
  obtain ⟨h1, h2, h3⟩ := freeze_facts (n := 0) B
  refine sv (v := .slice (some ⟨g, o, none⟩) c c') (w' := w.freeze ⟨g, cs.length, none⟩ 1) (fun ρ h => ?_) hd (h _ h1 h2 h3)
  have hsh : w.shape? g = some (T, cs.length) := by
    have := B
    unfold Blk at this
    simp [World.shape?, this]
  simp [execOp, h _ _ hx, convert, run_underlying hs, run_underlying he, markStringish, shape, Sem.run, hsh]
theorem o_slar {g o n e sz : Nat} (ht : arB P t n e sz = true) (hx : evO l x = some (.pointer (some ⟨g, o, none⟩))) : Runs P l ⟨dd, .slice t x none none none, ty, pos, af, gg⟩ w (.slice (some ⟨g, o, none⟩) n n) w := fun ρ h => by
  obtain ⟨i, h1, h2, h3⟩ := arB_spec ht
  by_cases hn : n = 0
  · simp [execOp, Instr.sliceAt, h _ _ hx, run_underlying h1, run_sizeOf_of h2, Instr.sureAddr, Instr.sliceBounds, hn]
  · simp [execOp, Instr.sliceAt, h _ _ hx, run_underlying h1, run_sizeOf_of h2, Instr.sureAddr, Instr.sliceBounds, hn, Addr.add_zero']
theorem o_slart {g o n e sz hi : Nat} {y : Operand} (ht : arB P t n e sz = true) (hx : evO l x = some (.pointer (some ⟨g, o, none⟩))) (hy : evO l y = some (.int .i64 (hi : Int))) (hh : hi ≤ n) (hn0 : 0 < n) : Runs P l ⟨dd, .slice t x none (some y) none, ty, pos, af, gg⟩ w (.slice (some ⟨g, o, none⟩) hi n) w := fun ρ h => by
  obtain ⟨i, h1, h2, h3⟩ := arB_spec ht
  have t1 := run_sliceBound (P := P) (w := w) .i64 (hi : Int) n .sliceAlen (by omega) (by omega)
  have hn : ¬ n = 0 := by omega
  simp [execOp, Instr.sliceAt, h _ _ hx, h _ _ hy, run_underlying h1, run_sizeOf_of h2, Instr.sureAddr, Instr.sliceBounds, hn, Addr.add_zero', t1]
end
theorem sha_abc : (sha [97, 98, 99]).take 8 = [186, 120, 22, 191, 143, 1, 207, 234] := by decide +kernel
end Go.Proofs.YtccjjkdogljmpaaDoor.V
