/-
  No cell of these rows narrows 'for every input' (looked for: loops, veiled, ifaces, maps, wideKeys, modest, calm, conditions, laid).
  DERIVED. THE GIVEN ROWS OF THIS SEAT. 7 by the template 'for every input the law returns true; each argument reads behind the call as it read before'; 0 by the template 'total and deterministic' (their statements: YthmohmpalbnjoaaTotals.lean).
  GIVEN WITH THE SEED: the statements are not yours to turn. If you find one false, say at which input.
  Laid BY PROGRAM, IN A SANDBOX (cutbox-rows.mjs): the forced cells as the released guide's own fill.sh prints them over the translation b37a0e4c94028e72… (all of the seat's roots in one cut). By AI agents, Wed Nov 11 2026. No macro, syntax, notation, axiom, sorry.
-/
import Derived.Test.YthmohmpalbnjoaaChecked
import GoSem.Claim
import GoSem.ClaimJoined
import GoSem.ClaimMapViews
import Derived.JoinedTies
import Derived.KernelRfl
namespace Go.Proofs.Ythmohmpalbnjoaa
/- THE CELL 'sum', in the pinned program and in every row, IS THE sha256 OF THE DUMP (.gsa) THAT YthmohmpalbnjoaaProg.lean LOADS. Nothing in Lean hashes anything: it is a label: what it is worth is what the hold of that sum in a sandbox is worth. -/
noncomputable def Try.pinned : Pinned := { name := "ythmohmpalbnjoaa", sum := "b37a0e4c94028e72b755f66329e863a56fff11e47abb23b2eb48c94c8173dba1", checked := Try.checked }
namespace Rows
def none {H : Type} : Left H := { results := [], args := [] }

/-- 'hustingslaw17.DagOrders': WHATEVER THE INPUT: true; the input reads as it did. -/
def dagOrdersSpec : ChangeSpec := { name := "dagOrders", fn := fun _ => fun
  | [d1, d2, d3] => { results := [.lit (.bool true)], args := [d1, d2, d3] }
  | _ => none }
def dagOrdersRow : OpenClaim := { program := "ythmohmpalbnjoaa", sum := "b37a0e4c94028e72b755f66329e863a56fff11e47abb23b2eb48c94c8173dba1", func := "hustings/hustingslaw17.DagOrders", spec := "dagOrders", unfollowed := true, recurses := true, apart := false }
def DagOrdersSaid : Prop := dagOrdersRow.holds Try.pinned (OpenSpec.ofChange dagOrdersSpec)

/-- ITS FALSE NEIGHBOUR: 'it returns false'. Refute it at one input. -/
def dagOrdersWrong : ChangeSpec := { name := "dagOrders", fn := fun _ => fun
  | [d1, d2, d3] => { results := [.lit (.bool false)], args := [d1, d2, d3] }
  | _ => none }
def DagOrdersWrongFalsely : Prop := dagOrdersRow.holds Try.pinned (OpenSpec.ofChange dagOrdersWrong)

/-- 'hustingslaw17.DagPasts': WHATEVER THE INPUT: true; the input reads as it did. -/
def dagPastsSpec : ChangeSpec := { name := "dagPasts", fn := fun _ => fun
  | [d1, d2] => { results := [.lit (.bool true)], args := [d1, d2] }
  | _ => none }
def dagPastsRow : OpenClaim := { program := "ythmohmpalbnjoaa", sum := "b37a0e4c94028e72b755f66329e863a56fff11e47abb23b2eb48c94c8173dba1", func := "hustings/hustingslaw17.DagPasts", spec := "dagPasts", unfollowed := true, recurses := true, apart := false }
def DagPastsSaid : Prop := dagPastsRow.holds Try.pinned (OpenSpec.ofChange dagPastsSpec)

/-- ITS FALSE NEIGHBOUR: 'it returns false'. Refute it at one input. -/
def dagPastsWrong : ChangeSpec := { name := "dagPasts", fn := fun _ => fun
  | [d1, d2] => { results := [.lit (.bool false)], args := [d1, d2] }
  | _ => none }
def DagPastsWrongFalsely : Prop := dagPastsRow.holds Try.pinned (OpenSpec.ofChange dagPastsWrong)

/-- 'hustingslaw17.DagSorts': WHATEVER THE INPUT: true; the input reads as it did. -/
def dagSortsSpec : ChangeSpec := { name := "dagSorts", fn := fun _ => fun
  | [d1, d2] => { results := [.lit (.bool true)], args := [d1, d2] }
  | _ => none }
def dagSortsRow : OpenClaim := { program := "ythmohmpalbnjoaa", sum := "b37a0e4c94028e72b755f66329e863a56fff11e47abb23b2eb48c94c8173dba1", func := "hustings/hustingslaw17.DagSorts", spec := "dagSorts", unfollowed := true, recurses := true, apart := false }
def DagSortsSaid : Prop := dagSortsRow.holds Try.pinned (OpenSpec.ofChange dagSortsSpec)

/-- ITS FALSE NEIGHBOUR: 'it returns false'. Refute it at one input. -/
def dagSortsWrong : ChangeSpec := { name := "dagSorts", fn := fun _ => fun
  | [d1, d2] => { results := [.lit (.bool false)], args := [d1, d2] }
  | _ => none }
def DagSortsWrongFalsely : Prop := dagSortsRow.holds Try.pinned (OpenSpec.ofChange dagSortsWrong)

/-- 'hustingslaw17.DagAdds': WHATEVER THE INPUT: true; the input reads as it did. -/
def dagAddsSpec : ChangeSpec := { name := "dagAdds", fn := fun _ => fun
  | [d1, d2] => { results := [.lit (.bool true)], args := [d1, d2] }
  | _ => none }
def dagAddsRow : OpenClaim := { program := "ythmohmpalbnjoaa", sum := "b37a0e4c94028e72b755f66329e863a56fff11e47abb23b2eb48c94c8173dba1", func := "hustings/hustingslaw17.DagAdds", spec := "dagAdds", unfollowed := true, recurses := true, apart := false }
def DagAddsSaid : Prop := dagAddsRow.holds Try.pinned (OpenSpec.ofChange dagAddsSpec)

/-- ITS FALSE NEIGHBOUR: 'it returns false'. Refute it at one input. -/
def dagAddsWrong : ChangeSpec := { name := "dagAdds", fn := fun _ => fun
  | [d1, d2] => { results := [.lit (.bool false)], args := [d1, d2] }
  | _ => none }
def DagAddsWrongFalsely : Prop := dagAddsRow.holds Try.pinned (OpenSpec.ofChange dagAddsWrong)

/-- 'hustingslaw17.DagEnds': WHATEVER THE INPUT: true; the input reads as it did. -/
def dagEndsSpec : ChangeSpec := { name := "dagEnds", fn := fun _ => fun
  | [d1, d2] => { results := [.lit (.bool true)], args := [d1, d2] }
  | _ => none }
def dagEndsRow : OpenClaim := { program := "ythmohmpalbnjoaa", sum := "b37a0e4c94028e72b755f66329e863a56fff11e47abb23b2eb48c94c8173dba1", func := "hustings/hustingslaw17.DagEnds", spec := "dagEnds", unfollowed := true, recurses := true, apart := false }
def DagEndsSaid : Prop := dagEndsRow.holds Try.pinned (OpenSpec.ofChange dagEndsSpec)

/-- ITS FALSE NEIGHBOUR: 'it returns false'. Refute it at one input. -/
def dagEndsWrong : ChangeSpec := { name := "dagEnds", fn := fun _ => fun
  | [d1, d2] => { results := [.lit (.bool false)], args := [d1, d2] }
  | _ => none }
def DagEndsWrongFalsely : Prop := dagEndsRow.holds Try.pinned (OpenSpec.ofChange dagEndsWrong)

/-- 'hustingslaw17.DagKeeps': WHATEVER THE INPUT: true; the input reads as it did. -/
def dagKeepsSpec : ChangeSpec := { name := "dagKeeps", fn := fun _ => fun
  | [d1, d2] => { results := [.lit (.bool true)], args := [d1, d2] }
  | _ => none }
def dagKeepsRow : OpenClaim := { program := "ythmohmpalbnjoaa", sum := "b37a0e4c94028e72b755f66329e863a56fff11e47abb23b2eb48c94c8173dba1", func := "hustings/hustingslaw17.DagKeeps", spec := "dagKeeps", unfollowed := true, recurses := true, apart := false }
def DagKeepsSaid : Prop := dagKeepsRow.holds Try.pinned (OpenSpec.ofChange dagKeepsSpec)

/-- ITS FALSE NEIGHBOUR: 'it returns false'. Refute it at one input. -/
def dagKeepsWrong : ChangeSpec := { name := "dagKeeps", fn := fun _ => fun
  | [d1, d2] => { results := [.lit (.bool false)], args := [d1, d2] }
  | _ => none }
def DagKeepsWrongFalsely : Prop := dagKeepsRow.holds Try.pinned (OpenSpec.ofChange dagKeepsWrong)

/-- 'hustingslaw17.DagPaths': WHATEVER THE INPUT: true; the input reads as it did. -/
def dagPathsSpec : ChangeSpec := { name := "dagPaths", fn := fun _ => fun
  | [d1, d2, d3] => { results := [.lit (.bool true)], args := [d1, d2, d3] }
  | _ => none }
def dagPathsRow : OpenClaim := { program := "ythmohmpalbnjoaa", sum := "b37a0e4c94028e72b755f66329e863a56fff11e47abb23b2eb48c94c8173dba1", func := "hustings/hustingslaw17.DagPaths", spec := "dagPaths", unfollowed := true, recurses := true, apart := false }
def DagPathsSaid : Prop := dagPathsRow.holds Try.pinned (OpenSpec.ofChange dagPathsSpec)

/-- ITS FALSE NEIGHBOUR: 'it returns false'. Refute it at one input. -/
def dagPathsWrong : ChangeSpec := { name := "dagPaths", fn := fun _ => fun
  | [d1, d2, d3] => { results := [.lit (.bool false)], args := [d1, d2, d3] }
  | _ => none }
def DagPathsWrongFalsely : Prop := dagPathsRow.holds Try.pinned (OpenSpec.ofChange dagPathsWrong)

/- THE SECOND FORM. 'bulk': how many values and letters a reading holds, each counted each time it is reached (what is shared counts as often as it is met; a slice's spare places count too). A statement '..UptoSaid' is the law's where the arguments, and the package variables that the reading takes, are together of bulk at most 1048576: NARROWER than '..Said'. Prove '..Said' where nothing that the law and all that it calls make is longer than what came in: it says more and counts as full. Else prove '..UptoSaid'. A law counts once. -/
mutual
def uptoBulk {H : Type} : DataW H → Nat
  | .lit (.string bytes) => bytes.length + 1
  | .lit _ => 1
  | .nil => 1
  | .ptr d => uptoBulk d + 1
  | .slice elems spare => uptoBulkAll elems + uptoBulkAll spare + 1
  | .agg parts => uptoBulkAll parts + 1
  | .iface _ d => uptoBulk d + 1
  | .map entries => uptoBulkEntries entries + 1
  | .held _ => 1
def uptoBulkAll {H : Type} : List (DataW H) → Nat
  | [] => 0
  | d :: r => uptoBulk d + uptoBulkAll r
def uptoBulkEntries {H : Type} : List (Lit × DataW H) → Nat
  | [] => 0
  | x :: r => uptoBulkEntry x + uptoBulkEntries r
def uptoBulkEntry {H : Type} : Lit × DataW H → Nat
  | (.string bytes, d) => bytes.length + uptoBulk d + 1
  | (_, d) => uptoBulk d + 1
 end
def uptoSmall : (H : Type) → List (DataW H) → Bool := fun _ ds => decide (uptoBulkAll ds ≤ 1048576)
def OpenSpec.upto (s : _root_.Go.ChangeSpec) : _root_.Go.OpenSpec := { _root_.Go.OpenSpec.ofChange s with cond := some uptoSmall }

/-- 'hustingslaw17.DagOrders', WHERE WHAT IT READS IS OF BULK AT MOST 1048576: true; the input reads as it did. -/
def dagOrdersUptoRow : OpenClaim := { program := "ythmohmpalbnjoaa", sum := "b37a0e4c94028e72b755f66329e863a56fff11e47abb23b2eb48c94c8173dba1", func := "hustings/hustingslaw17.DagOrders", spec := "dagOrders", unfollowed := true, recurses := true, apart := false, narrowed := true }
def DagOrdersUptoSaid : Prop := dagOrdersUptoRow.holds Try.pinned (OpenSpec.upto dagOrdersSpec)

/-- 'hustingslaw17.DagPasts', WHERE WHAT IT READS IS OF BULK AT MOST 1048576: true; the input reads as it did. -/
def dagPastsUptoRow : OpenClaim := { program := "ythmohmpalbnjoaa", sum := "b37a0e4c94028e72b755f66329e863a56fff11e47abb23b2eb48c94c8173dba1", func := "hustings/hustingslaw17.DagPasts", spec := "dagPasts", unfollowed := true, recurses := true, apart := false, narrowed := true }
def DagPastsUptoSaid : Prop := dagPastsUptoRow.holds Try.pinned (OpenSpec.upto dagPastsSpec)

/-- 'hustingslaw17.DagSorts', WHERE WHAT IT READS IS OF BULK AT MOST 1048576: true; the input reads as it did. -/
def dagSortsUptoRow : OpenClaim := { program := "ythmohmpalbnjoaa", sum := "b37a0e4c94028e72b755f66329e863a56fff11e47abb23b2eb48c94c8173dba1", func := "hustings/hustingslaw17.DagSorts", spec := "dagSorts", unfollowed := true, recurses := true, apart := false, narrowed := true }
def DagSortsUptoSaid : Prop := dagSortsUptoRow.holds Try.pinned (OpenSpec.upto dagSortsSpec)

/-- 'hustingslaw17.DagAdds', WHERE WHAT IT READS IS OF BULK AT MOST 1048576: true; the input reads as it did. -/
def dagAddsUptoRow : OpenClaim := { program := "ythmohmpalbnjoaa", sum := "b37a0e4c94028e72b755f66329e863a56fff11e47abb23b2eb48c94c8173dba1", func := "hustings/hustingslaw17.DagAdds", spec := "dagAdds", unfollowed := true, recurses := true, apart := false, narrowed := true }
def DagAddsUptoSaid : Prop := dagAddsUptoRow.holds Try.pinned (OpenSpec.upto dagAddsSpec)

/-- 'hustingslaw17.DagEnds', WHERE WHAT IT READS IS OF BULK AT MOST 1048576: true; the input reads as it did. -/
def dagEndsUptoRow : OpenClaim := { program := "ythmohmpalbnjoaa", sum := "b37a0e4c94028e72b755f66329e863a56fff11e47abb23b2eb48c94c8173dba1", func := "hustings/hustingslaw17.DagEnds", spec := "dagEnds", unfollowed := true, recurses := true, apart := false, narrowed := true }
def DagEndsUptoSaid : Prop := dagEndsUptoRow.holds Try.pinned (OpenSpec.upto dagEndsSpec)

/-- 'hustingslaw17.DagKeeps', WHERE WHAT IT READS IS OF BULK AT MOST 1048576: true; the input reads as it did. -/
def dagKeepsUptoRow : OpenClaim := { program := "ythmohmpalbnjoaa", sum := "b37a0e4c94028e72b755f66329e863a56fff11e47abb23b2eb48c94c8173dba1", func := "hustings/hustingslaw17.DagKeeps", spec := "dagKeeps", unfollowed := true, recurses := true, apart := false, narrowed := true }
def DagKeepsUptoSaid : Prop := dagKeepsUptoRow.holds Try.pinned (OpenSpec.upto dagKeepsSpec)

/-- 'hustingslaw17.DagPaths', WHERE WHAT IT READS IS OF BULK AT MOST 1048576: true; the input reads as it did. -/
def dagPathsUptoRow : OpenClaim := { program := "ythmohmpalbnjoaa", sum := "b37a0e4c94028e72b755f66329e863a56fff11e47abb23b2eb48c94c8173dba1", func := "hustings/hustingslaw17.DagPaths", spec := "dagPaths", unfollowed := true, recurses := true, apart := false, narrowed := true }
def DagPathsUptoSaid : Prop := dagPathsUptoRow.holds Try.pinned (OpenSpec.upto dagPathsSpec)

end Rows
end Go.Proofs.Ythmohmpalbnjoaa
