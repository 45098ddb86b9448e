/-
  A part of the proof: a slice that is built in a region whose order is drawn. No condition of its own.
-/
import Derived.Test.YtccjjkdogljmpaaVH
set_option linter.unusedVariables false
set_option linter.unusedSimpArgs false
namespace Go.Proofs.Ytccjjkdogljmpaa.V
open Go
section
variable {P : Program} {ops : Array Oper} {n : Nat} {l : List (Nat × Value)} {M : List (Nat × (Value → World → Prop))} {w : World} {Fin : Kn → Prop} {rest : List Oper} {d : Nat} {ty : TypeId} {pos : String} {af : Array Edge}
theorem t_bslice {t : TypeId} {ps : List (Nat × Operand)} {us : List (Nat × Value)} {e c sz by_ : Nat} {zs cs : List Value} (V : Value → World → Prop) (hV : ∀ v w1 w2, Mod [] w1 w2 → V v w1 → V v w2) (ht : slB P t e sz by_ = true) (hz : zvB P e zs) (hx : evP l ps = some us)
    (hf : fillF (fun i => some (i * sz, sz)) ((List.replicate c zs).flatten) us = some cs) (hzl : zs.length = sz) (hc : c * sz ≤ 16777216) (hv : ∀ w1 g w2, Mod [] w w1 → New w1 w2 g e cs → V (.slice (some ⟨g, 0, none⟩) c c) w2) (hd : Nat.blt d n = true) (hl : lk d l = none)
    (h : TWL P ops w n Fin rest l ((d, V) :: M)) : TWL P ops w n Fin (⟨some d, .buildSlice t c ps.toArray, ty, pos, af, none⟩ :: rest) l M :=
  tr V hV (fun w1 k => ⟨_, _, r_bslice ht hz hx hf hzl hc, (New.mk' w1 e cs).mod, hv _ _ _ k (New.mk' w1 e cs)⟩) hd rfl hl h
end
end Go.Proofs.Ytccjjkdogljmpaa.V
