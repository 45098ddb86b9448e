/-
  DERIVED. GIVEN WITH THE SEED: THE CARDS: each row of YtkhbnhdlelmbnaaGreatDoorRows.lean that lists a variable, with what it lists TIED to the program's text (the seventh form; the later family's looks); each row that meets fmt, with fmt's text TOLD by the authors' own Lean function (tested against real Go, not proved from fmt's source: count such statements apart). THE CARD IS WHAT COUNTS. Prove the row's statement (the work); the ties are given (YtkhbnhdlelmbnaaGreatDoorTie.lean); close each card by the builder's one call (the guide's Derived/Test/ToyasCard.lean, 'card_holds'). Laid BY PROGRAM, IN A SANDBOX (cutbox-door.mjs). By AI agents, Wed Nov 11 2026. No macro, syntax, notation, axiom, sorry.
-/
import Derived.Test.YtkhbnhdlelmbnaaGreatDoorRows
import GoSem.ClaimSeven
namespace Go.Proofs.YtkhbnhdlelmbnaaGreatDoor
namespace Rows

/-- THE TIED CARD OF 'hustingslaw12.RedactStrips'. -/
def redactStripsCard : Claim7 := { stood := { row := redactStripsRow, standIns := [], harness := (true, "40ef1214337f460ed5eed3439e7b38cd6e29b19f173cf68e0eb50c27c1266373"), looks := true }, kinds := [], alts := [], laidByText := true, laidKinds := [.data, .data, .data], laidTests := true, laidLooks := .later }
def RedactStripsCardSaid : Prop := Claim7.holds Tryz.pinned (.plain (OpenSpec.ofChange redactStripsSpec)) redactStripsCard

/-- THE TIED CARD OF 'hustingslaw13.SealHashes'. -/
def sealHashesCard : Claim7 := { stood := { row := sealHashesRow, standIns := [], harness := (true, "40ef1214337f460ed5eed3439e7b38cd6e29b19f173cf68e0eb50c27c1266373"), looks := true }, kinds := [], alts := [], laidByText := true, laidKinds := [.data, .data, .data, .data], laidTests := true, laidLooks := .later }
def SealHashesCardSaid : Prop := Claim7.holds Tryz.pinned (.plain (OpenSpec.ofChange sealHashesSpec)) sealHashesCard

/-- THE SECOND FORM's CARD OF 'hustingslaw12.RedactStrips'. -/
def redactStripsUptoCard : Claim7 := { stood := { row := redactStripsUptoRow, standIns := [], harness := (true, "40ef1214337f460ed5eed3439e7b38cd6e29b19f173cf68e0eb50c27c1266373"), looks := true }, kinds := [], alts := [], laidByText := true, laidKinds := [.data, .data, .data], laidTests := true, laidLooks := .later }
def RedactStripsUptoCardSaid : Prop := Claim7.holds Tryz.pinned (.plain (OpenSpec.upto redactStripsSpec)) redactStripsUptoCard

/-- THE SECOND FORM's CARD OF 'hustingslaw13.SealHashes'. -/
def sealHashesUptoCard : Claim7 := { stood := { row := sealHashesUptoRow, standIns := [], harness := (true, "40ef1214337f460ed5eed3439e7b38cd6e29b19f173cf68e0eb50c27c1266373"), looks := true }, kinds := [], alts := [], laidByText := true, laidKinds := [.data, .data, .data, .data], laidTests := true, laidLooks := .later }
def SealHashesUptoCardSaid : Prop := Claim7.holds Tryz.pinned (.plain (OpenSpec.upto sealHashesSpec)) sealHashesUptoCard
end Rows
end Go.Proofs.YtkhbnhdlelmbnaaGreatDoor
