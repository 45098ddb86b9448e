/-
  DERIVED. GIVEN WITH THE SEED: THE CARDS: each row of YtkjgljnkocnnpaaGreatDoorRows.lean that lists a variable, with what it lists TIED to the program's text (the seventh form; the later family's looks); each row that meets fmt, with fmt's text TOLD by the authors' own Lean function (tested against real Go, not proved from fmt's source: count such statements apart). THE CARD IS WHAT COUNTS. Prove the row's statement (the work); the ties are given (YtkjgljnkocnnpaaGreatDoorTie.lean); close each card by the builder's one call (the guide's Derived/Test/ToyasCard.lean, 'card_holds'). Laid BY PROGRAM, IN A SANDBOX (cutbox-door.mjs). By AI agents, Wed Nov 11 2026. No macro, syntax, notation, axiom, sorry.
-/
import Derived.Test.YtkjgljnkocnnpaaGreatDoorRows
import GoSem.ClaimSeven
namespace Go.Proofs.YtkjgljnkocnnpaaGreatDoor
namespace Rows

/-- THE TIED CARD OF 'hustingslaw09.JsonKeeps'. -/
def jsonKeepsCard : Claim7 := { stood := { row := jsonKeepsRow, standIns := [], harness := (true, "65271bbe12cd46c7da2fb8c9a61554c5b64c3c0a24081c8eed78342990a45b96"), looks := true }, kinds := [], alts := [], laidByText := true, laidKinds := [.data, .data, .data, .data, .sentinel, .sentinel, .pinned], laidTests := true, laidLooks := .later }
def JsonKeepsCardSaid : Prop := Claim7.holds Tryz.pinned (.plain (OpenSpec.ofChange jsonKeepsSpec)) jsonKeepsCard

/-- THE TIED CARD OF 'hustingslaw11.EventReads'. -/
def eventReadsCard : Claim7 := { stood := { row := eventReadsRow, standIns := [], harness := (true, "65271bbe12cd46c7da2fb8c9a61554c5b64c3c0a24081c8eed78342990a45b96"), looks := true }, kinds := [], alts := [], laidByText := true, laidKinds := [.data, .data, .data, .data, .sentinel, .sentinel, .pinned], laidTests := true, laidLooks := .later }
def EventReadsCardSaid : Prop := Claim7.holds Tryz.pinned (.plain (OpenSpec.ofChange eventReadsSpec)) eventReadsCard

/-- THE TIED CARD OF 'hustingslaw11.EventKeeps'. -/
def eventKeepsCard : Claim7 := { stood := { row := eventKeepsRow, standIns := [], harness := (true, "65271bbe12cd46c7da2fb8c9a61554c5b64c3c0a24081c8eed78342990a45b96"), looks := true }, kinds := [], alts := [], laidByText := true, laidKinds := [.data, .data, .data, .data, .sentinel, .sentinel, .pinned], laidTests := true, laidLooks := .later }
def EventKeepsCardSaid : Prop := Claim7.holds Tryz.pinned (.plain (OpenSpec.ofChange eventKeepsSpec)) eventKeepsCard

/-- THE SECOND FORM's CARD OF 'hustingslaw09.JsonKeeps'. -/
def jsonKeepsUptoCard : Claim7 := { stood := { row := jsonKeepsUptoRow, standIns := [], harness := (true, "65271bbe12cd46c7da2fb8c9a61554c5b64c3c0a24081c8eed78342990a45b96"), looks := true }, kinds := [], alts := [], laidByText := true, laidKinds := [.data, .data, .data, .data, .sentinel, .sentinel, .pinned], laidTests := true, laidLooks := .later }
def JsonKeepsUptoCardSaid : Prop := Claim7.holds Tryz.pinned (.plain (OpenSpec.upto jsonKeepsSpec)) jsonKeepsUptoCard

/-- THE SECOND FORM's CARD OF 'hustingslaw11.EventReads'. -/
def eventReadsUptoCard : Claim7 := { stood := { row := eventReadsUptoRow, standIns := [], harness := (true, "65271bbe12cd46c7da2fb8c9a61554c5b64c3c0a24081c8eed78342990a45b96"), looks := true }, kinds := [], alts := [], laidByText := true, laidKinds := [.data, .data, .data, .data, .sentinel, .sentinel, .pinned], laidTests := true, laidLooks := .later }
def EventReadsUptoCardSaid : Prop := Claim7.holds Tryz.pinned (.plain (OpenSpec.upto eventReadsSpec)) eventReadsUptoCard

/-- THE SECOND FORM's CARD OF 'hustingslaw11.EventKeeps'. -/
def eventKeepsUptoCard : Claim7 := { stood := { row := eventKeepsUptoRow, standIns := [], harness := (true, "65271bbe12cd46c7da2fb8c9a61554c5b64c3c0a24081c8eed78342990a45b96"), looks := true }, kinds := [], alts := [], laidByText := true, laidKinds := [.data, .data, .data, .data, .sentinel, .sentinel, .pinned], laidTests := true, laidLooks := .later }
def EventKeepsUptoCardSaid : Prop := Claim7.holds Tryz.pinned (.plain (OpenSpec.upto eventKeepsSpec)) eventKeepsUptoCard
end Rows
end Go.Proofs.YtkjgljnkocnnpaaGreatDoor
