/-
  NARROWER THAN 'FOR EVERY INPUT', by the rows' own cells (each row's printed sentence says how): RedactContents: loops · RedactMore: loops.
  DERIVED. THE GIVEN ROWS OF THIS SEAT. 5 by the template 'for every input the law returns true; each argument reads behind the call as it read before'; 0 by the template 'total and deterministic' (their statements: YtccjjkdogljmpaaTotals.lean).
  GIVEN WITH THE SEED: the statements are not yours to turn. If you find one false, say at which input.
  Laid BY PROGRAM, IN A SANDBOX (cutbox-rows.mjs): the forced cells as the released guide's own fill.sh prints them over the translation 627b8441032968ad… (all of the seat's roots in one cut). By AI agents, Wed Nov 11 2026. No macro, syntax, notation, axiom, sorry.
-/
import Derived.Test.YtccjjkdogljmpaaChecked
import GoSem.Claim
import GoSem.ClaimJoined
import GoSem.ClaimMapViews
import Derived.JoinedTies
import Derived.KernelRfl
namespace Go.Proofs.Ytccjjkdogljmpaa
/- THE CELL 'sum', in the pinned program and in every row, IS THE sha256 OF THE DUMP (.gsa) THAT YtccjjkdogljmpaaProg.lean LOADS. Nothing in Lean hashes anything: it is a label: what it is worth is what the hold of that sum in a sandbox is worth. -/
noncomputable def Try.pinned : Pinned := { name := "ytccjjkdogljmpaa", sum := "627b8441032968ad5af2d6fc9b4db03a5488dec370ca164fb95f58d1db3fa900", checked := Try.checked }
namespace Rows
def none {H : Type} : Left H := { results := [], args := [] }

/-- 'hustingslaw16.PickStates': WHATEVER THE INPUT: true; the input reads as it did. -/
def pickStatesSpec : ChangeSpec := { name := "pickStates", fn := fun _ => fun
  | [d1, d2] => { results := [.lit (.bool true)], args := [d1, d2] }
  | _ => none }
def pickStatesRow : OpenClaim := { program := "ytccjjkdogljmpaa", sum := "627b8441032968ad5af2d6fc9b4db03a5488dec370ca164fb95f58d1db3fa900", func := "hustings/hustingslaw16.PickStates", spec := "pickStates", inPlace := ["slices.overlaps[hustings/api.Slot]"], unfollowed := true, recurses := true, apart := false }
def PickStatesSaid : Prop := pickStatesRow.holds Try.pinned (OpenSpec.ofChange pickStatesSpec)

/-- ITS FALSE NEIGHBOUR: 'it returns false'. Refute it at one input. -/
def pickStatesWrong : ChangeSpec := { name := "pickStates", fn := fun _ => fun
  | [d1, d2] => { results := [.lit (.bool false)], args := [d1, d2] }
  | _ => none }
def PickStatesWrongFalsely : Prop := pickStatesRow.holds Try.pinned (OpenSpec.ofChange pickStatesWrong)

/-- 'hustingslaw16.PickFills': WHATEVER THE INPUT: true; the input reads as it did. -/
def pickFillsSpec : ChangeSpec := { name := "pickFills", fn := fun _ => fun
  | [d1, d2] => { results := [.lit (.bool true)], args := [d1, d2] }
  | _ => none }
def pickFillsRow : OpenClaim := { program := "ytccjjkdogljmpaa", sum := "627b8441032968ad5af2d6fc9b4db03a5488dec370ca164fb95f58d1db3fa900", func := "hustings/hustingslaw16.PickFills", spec := "pickFills", inPlace := ["slices.overlaps[hustings/api.Slot]"], unfollowed := true, recurses := true, apart := false }
def PickFillsSaid : Prop := pickFillsRow.holds Try.pinned (OpenSpec.ofChange pickFillsSpec)

/-- ITS FALSE NEIGHBOUR: 'it returns false'. Refute it at one input. -/
def pickFillsWrong : ChangeSpec := { name := "pickFills", fn := fun _ => fun
  | [d1, d2] => { results := [.lit (.bool false)], args := [d1, d2] }
  | _ => none }
def PickFillsWrongFalsely : Prop := pickFillsRow.holds Try.pinned (OpenSpec.ofChange pickFillsWrong)

/-- 'hustingslaw12.RedactContents': WHATEVER THE INPUT: true; the input reads as it did. -/
def redactContentsSpec : ChangeSpec := { name := "redactContents", fn := fun _ => fun
  | [d1, d2] => { results := [.lit (.bool true)], args := [d1, d2] }
  | _ => none }
def redactContentsRow : OpenClaim := { program := "ytccjjkdogljmpaa", sum := "627b8441032968ad5af2d6fc9b4db03a5488dec370ca164fb95f58d1db3fa900", func := "hustings/hustingslaw12.RedactContents", spec := "redactContents", inPlace := ["internal/bytealg.abigen_runtime_cmpstring", "slices.overlaps[hustings/api.Member]"], unfollowed := true, recurses := true, loops := true, apart := false }
def RedactContentsSaid : Prop := redactContentsRow.holds Try.pinned (OpenSpec.ofChange redactContentsSpec)

/-- ITS FALSE NEIGHBOUR: 'it returns false'. Refute it at one input. -/
def redactContentsWrong : ChangeSpec := { name := "redactContents", fn := fun _ => fun
  | [d1, d2] => { results := [.lit (.bool false)], args := [d1, d2] }
  | _ => none }
def RedactContentsWrongFalsely : Prop := redactContentsRow.holds Try.pinned (OpenSpec.ofChange redactContentsWrong)

/-- 'hustingslaw12.RedactMore': WHATEVER THE INPUT: true; the input reads as it did. -/
def redactMoreSpec : ChangeSpec := { name := "redactMore", fn := fun _ => fun
  | [d1, d2, d3, d4] => { results := [.lit (.bool true)], args := [d1, d2, d3, d4] }
  | _ => none }
def redactMoreRow : OpenClaim := { program := "ytccjjkdogljmpaa", sum := "627b8441032968ad5af2d6fc9b4db03a5488dec370ca164fb95f58d1db3fa900", func := "hustings/hustingslaw12.RedactMore", spec := "redactMore", inPlace := ["internal/bytealg.abigen_runtime_cmpstring", "slices.overlaps[hustings/api.Member]"], unfollowed := true, recurses := true, loops := true, apart := false }
def RedactMoreSaid : Prop := redactMoreRow.holds Try.pinned (OpenSpec.ofChange redactMoreSpec)

/-- ITS FALSE NEIGHBOUR: 'it returns false'. Refute it at one input. -/
def redactMoreWrong : ChangeSpec := { name := "redactMore", fn := fun _ => fun
  | [d1, d2, d3, d4] => { results := [.lit (.bool false)], args := [d1, d2, d3, d4] }
  | _ => none }
def RedactMoreWrongFalsely : Prop := redactMoreRow.holds Try.pinned (OpenSpec.ofChange redactMoreWrong)

/-- 'hustingslaw16.PickKeeps': WHATEVER THE INPUT: true; the input reads as it did. -/
def pickKeepsSpec : ChangeSpec := { name := "pickKeeps", fn := fun _ => fun
  | [d1, d2] => { results := [.lit (.bool true)], args := [d1, d2] }
  | _ => none }
def pickKeepsRow : OpenClaim := { program := "ytccjjkdogljmpaa", sum := "627b8441032968ad5af2d6fc9b4db03a5488dec370ca164fb95f58d1db3fa900", func := "hustings/hustingslaw16.PickKeeps", spec := "pickKeeps", inPlace := ["internal/bytealg.abigen_runtime_cmpstring", "slices.overlaps[hustings/api.Slot]"], unfollowed := true, recurses := true, apart := false }
def PickKeepsSaid : Prop := pickKeepsRow.holds Try.pinned (OpenSpec.ofChange pickKeepsSpec)

/-- ITS FALSE NEIGHBOUR: 'it returns false'. Refute it at one input. -/
def pickKeepsWrong : ChangeSpec := { name := "pickKeeps", fn := fun _ => fun
  | [d1, d2] => { results := [.lit (.bool false)], args := [d1, d2] }
  | _ => none }
def PickKeepsWrongFalsely : Prop := pickKeepsRow.holds Try.pinned (OpenSpec.ofChange pickKeepsWrong)

/- THE SECOND FORM. 'bulk': how many values and letters a reading holds, each counted each time it is reached (what is shared counts as often as it is met; a slice's spare places count too). A statement '..UptoSaid' is the law's where the arguments, and the package variables that the reading takes, are together of bulk at most 1048576: NARROWER than '..Said'. Prove '..Said' where nothing that the law and all that it calls make is longer than what came in: it says more and counts as full. Else prove '..UptoSaid'. A law counts once. -/
mutual
def uptoBulk {H : Type} : DataW H → Nat
  | .lit (.string bytes) => bytes.length + 1
  | .lit _ => 1
  | .nil => 1
  | .ptr d => uptoBulk d + 1
  | .slice elems spare => uptoBulkAll elems + uptoBulkAll spare + 1
  | .agg parts => uptoBulkAll parts + 1
  | .iface _ d => uptoBulk d + 1
  | .map entries => uptoBulkEntries entries + 1
  | .held _ => 1
def uptoBulkAll {H : Type} : List (DataW H) → Nat
  | [] => 0
  | d :: r => uptoBulk d + uptoBulkAll r
def uptoBulkEntries {H : Type} : List (Lit × DataW H) → Nat
  | [] => 0
  | x :: r => uptoBulkEntry x + uptoBulkEntries r
def uptoBulkEntry {H : Type} : Lit × DataW H → Nat
  | (.string bytes, d) => bytes.length + uptoBulk d + 1
  | (_, d) => uptoBulk d + 1
 end
def uptoSmall : (H : Type) → List (DataW H) → Bool := fun _ ds => decide (uptoBulkAll ds ≤ 1048576)
def OpenSpec.upto (s : _root_.Go.ChangeSpec) : _root_.Go.OpenSpec := { _root_.Go.OpenSpec.ofChange s with cond := some uptoSmall }

/-- 'hustingslaw16.PickStates', WHERE WHAT IT READS IS OF BULK AT MOST 1048576: true; the input reads as it did. -/
def pickStatesUptoRow : OpenClaim := { program := "ytccjjkdogljmpaa", sum := "627b8441032968ad5af2d6fc9b4db03a5488dec370ca164fb95f58d1db3fa900", func := "hustings/hustingslaw16.PickStates", spec := "pickStates", inPlace := ["slices.overlaps[hustings/api.Slot]"], unfollowed := true, recurses := true, apart := false, narrowed := true }
def PickStatesUptoSaid : Prop := pickStatesUptoRow.holds Try.pinned (OpenSpec.upto pickStatesSpec)

/-- 'hustingslaw16.PickFills', WHERE WHAT IT READS IS OF BULK AT MOST 1048576: true; the input reads as it did. -/
def pickFillsUptoRow : OpenClaim := { program := "ytccjjkdogljmpaa", sum := "627b8441032968ad5af2d6fc9b4db03a5488dec370ca164fb95f58d1db3fa900", func := "hustings/hustingslaw16.PickFills", spec := "pickFills", inPlace := ["slices.overlaps[hustings/api.Slot]"], unfollowed := true, recurses := true, apart := false, narrowed := true }
def PickFillsUptoSaid : Prop := pickFillsUptoRow.holds Try.pinned (OpenSpec.upto pickFillsSpec)

/-- 'hustingslaw12.RedactContents', WHERE WHAT IT READS IS OF BULK AT MOST 1048576: true; the input reads as it did. -/
def redactContentsUptoRow : OpenClaim := { program := "ytccjjkdogljmpaa", sum := "627b8441032968ad5af2d6fc9b4db03a5488dec370ca164fb95f58d1db3fa900", func := "hustings/hustingslaw12.RedactContents", spec := "redactContents", inPlace := ["internal/bytealg.abigen_runtime_cmpstring", "slices.overlaps[hustings/api.Member]"], unfollowed := true, recurses := true, loops := true, apart := false, narrowed := true }
def RedactContentsUptoSaid : Prop := redactContentsUptoRow.holds Try.pinned (OpenSpec.upto redactContentsSpec)

/-- 'hustingslaw12.RedactMore', WHERE WHAT IT READS IS OF BULK AT MOST 1048576: true; the input reads as it did. -/
def redactMoreUptoRow : OpenClaim := { program := "ytccjjkdogljmpaa", sum := "627b8441032968ad5af2d6fc9b4db03a5488dec370ca164fb95f58d1db3fa900", func := "hustings/hustingslaw12.RedactMore", spec := "redactMore", inPlace := ["internal/bytealg.abigen_runtime_cmpstring", "slices.overlaps[hustings/api.Member]"], unfollowed := true, recurses := true, loops := true, apart := false, narrowed := true }
def RedactMoreUptoSaid : Prop := redactMoreUptoRow.holds Try.pinned (OpenSpec.upto redactMoreSpec)

/-- 'hustingslaw16.PickKeeps', WHERE WHAT IT READS IS OF BULK AT MOST 1048576: true; the input reads as it did. -/
def pickKeepsUptoRow : OpenClaim := { program := "ytccjjkdogljmpaa", sum := "627b8441032968ad5af2d6fc9b4db03a5488dec370ca164fb95f58d1db3fa900", func := "hustings/hustingslaw16.PickKeeps", spec := "pickKeeps", inPlace := ["internal/bytealg.abigen_runtime_cmpstring", "slices.overlaps[hustings/api.Slot]"], unfollowed := true, recurses := true, apart := false, narrowed := true }
def PickKeepsUptoSaid : Prop := pickKeepsUptoRow.holds Try.pinned (OpenSpec.upto pickKeepsSpec)

end Rows
end Go.Proofs.Ytccjjkdogljmpaa
