/-
  A part of the proof: one byte of a slice of the call's own is written. No condition of its own.
-/
import Derived.Test.YtccjjkdogljmpaaDoorTU
set_option linter.unusedVariables false
set_option linter.unusedSimpArgs false
namespace Go.Proofs.YtccjjkdogljmpaaDoor.V
open Go
section
variable {P : Program} {ops : Array Oper} {Q : Exit → Act → World → Prop} {n : Nat} {ds : List Deferred} {l : List (Nat × Value)} {w w' : World}
variable {rest : List Oper} {ty : TypeId} {pos : String} {af : Array Edge} {x y : Operand}
theorem s_stown1 {e N c i : Nat} {ad : Addr} {vs : List Value} {u : Value} {T : TypeId} (ht : scB P T = true) (O : Own w e 1 (.slice (some ad) N c) N vs) (hx : evO l x = some (.pointer (some (ad.add (i * 1))))) (hy : evO l y = some u) (h1c : u.oneCell' = true) (hi : i < N)
    (h : ∀ w', Own w' e 1 (.slice (some ad) N c) N (vs.set i u) → Mod [ad.block] w w' → w'.heap.size = w.heap.size → WL P ops Q rest n ds l w') :
    WL P ops Q (⟨none, .store T x y, ty, pos, af, none⟩ :: rest) n ds l w := by
  rcases O.2 with ⟨h0, _⟩ | ⟨g, o, cap, cs, hv, hB, hc1, hc2, hc3, hc4⟩
  · cases h0
  injection hv with e1 e2 e3
  injection e1 with e1
  subst e1; subst e3
  have hvl := O.1
  rw [Addr.add_lit, Nat.mul_one] at hx
  refine s_st ht hB hx hy h1c (by omega) fun w' hp => ?_
  refine h w' ⟨by simp [hvl], .inr ⟨g, o, c, _, rfl, hp.blk, hc1, hc2, by simp; omega, ?_⟩⟩ hp.mod hp.size
  subst hc4
  apply List.ext_getElem?
  intro j
  simp only [List.getElem?_take, List.getElem?_drop, List.getElem?_set, List.length_take, List.length_drop]
  repeat' split
  all_goals first
    | omega
    | rfl
    | skip
end
theorem fill_set {c : UInt8} {k N : Nat} (h : k < N) : (((List.replicate k c ++ List.replicate (N - k) 0).map bcells).flatten).set k (B8 c) = ((List.replicate (k + 1) c ++ List.replicate (N - (k + 1)) 0).map bcells).flatten := by
  have h1 : N - k = (N - (k + 1)) + 1 := by omega
  rw [flat_B8, flat_B8, ← List.map_set, List.set_append_right _ _ (by simp), h1, List.replicate_succ, List.replicate_succ']
  simp
end Go.Proofs.YtccjjkdogljmpaaDoor.V
