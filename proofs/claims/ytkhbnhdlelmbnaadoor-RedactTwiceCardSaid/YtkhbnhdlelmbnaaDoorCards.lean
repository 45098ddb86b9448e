/-
  DERIVED. GIVEN WITH THE SEED: THE CARDS: each row of YtkhbnhdlelmbnaaDoorRows.lean that lists a variable, with what it lists TIED to the program's text (the seventh form; the later family's looks); each row that meets fmt, with fmt's text TOLD by the authors' own Lean function (tested against real Go, not proved from fmt's source: count such statements apart). THE CARD IS WHAT COUNTS. Prove the row's statement (the work); the ties are given (YtkhbnhdlelmbnaaDoorTie.lean); close each card by the builder's one call (the guide's Derived/Test/ToyasCard.lean, 'card_holds'). Laid BY PROGRAM, IN A SANDBOX (cutbox-door.mjs). By AI agents, Wed Nov 11 2026. No macro, syntax, notation, axiom, sorry.
-/
import Derived.Test.YtkhbnhdlelmbnaaDoorRows
import GoSem.ClaimSeven
namespace Go.Proofs.YtkhbnhdlelmbnaaDoor
namespace Rows

/-- THE TIED CARD OF 'hustingslaw09.JsonCanons'. -/
def jsonCanonsCard : Claim7 := { stood := { row := jsonCanonsRow, standIns := [], harness := (true, "15cd0e32bbdc06d9f10a4365679d203026c873383da44fcf678bbff69891d1b4"), looks := true }, kinds := [], alts := [], laidByText := true, laidKinds := [.data, .data, .data], laidTests := true, laidLooks := .later }
def JsonCanonsCardSaid : Prop := Claim7.holds Tryd.pinned (.plain (OpenSpec.ofChange jsonCanonsSpec)) jsonCanonsCard

/-- THE TIED CARD OF 'hustingslaw11.EventChecks'. -/
def eventChecksCard : Claim7 := { stood := { row := eventChecksRow, standIns := [], harness := (true, "15cd0e32bbdc06d9f10a4365679d203026c873383da44fcf678bbff69891d1b4"), looks := true }, kinds := [], alts := [], laidByText := true, laidKinds := [.data, .data, .data], laidTests := true, laidLooks := .later }
def EventChecksCardSaid : Prop := Claim7.holds Tryd.pinned (.plain (OpenSpec.ofChange eventChecksSpec)) eventChecksCard

/-- THE TIED CARD OF 'hustingslaw12.RedactTwice'. -/
def redactTwiceCard : Claim7 := { stood := { row := redactTwiceRow, standIns := [], harness := (true, "15cd0e32bbdc06d9f10a4365679d203026c873383da44fcf678bbff69891d1b4"), looks := true }, kinds := [], alts := [], laidByText := true, laidKinds := [.data, .data, .data], laidTests := true, laidLooks := .later }
def RedactTwiceCardSaid : Prop := Claim7.holds Tryd.pinned (.plain (OpenSpec.ofChange redactTwiceSpec)) redactTwiceCard

/-- THE SECOND FORM's CARD OF 'hustingslaw09.JsonCanons'. -/
def jsonCanonsUptoCard : Claim7 := { stood := { row := jsonCanonsUptoRow, standIns := [], harness := (true, "15cd0e32bbdc06d9f10a4365679d203026c873383da44fcf678bbff69891d1b4"), looks := true }, kinds := [], alts := [], laidByText := true, laidKinds := [.data, .data, .data], laidTests := true, laidLooks := .later }
def JsonCanonsUptoCardSaid : Prop := Claim7.holds Tryd.pinned (.plain (OpenSpec.upto jsonCanonsSpec)) jsonCanonsUptoCard

/-- THE SECOND FORM's CARD OF 'hustingslaw11.EventChecks'. -/
def eventChecksUptoCard : Claim7 := { stood := { row := eventChecksUptoRow, standIns := [], harness := (true, "15cd0e32bbdc06d9f10a4365679d203026c873383da44fcf678bbff69891d1b4"), looks := true }, kinds := [], alts := [], laidByText := true, laidKinds := [.data, .data, .data], laidTests := true, laidLooks := .later }
def EventChecksUptoCardSaid : Prop := Claim7.holds Tryd.pinned (.plain (OpenSpec.upto eventChecksSpec)) eventChecksUptoCard

/-- THE SECOND FORM's CARD OF 'hustingslaw12.RedactTwice'. -/
def redactTwiceUptoCard : Claim7 := { stood := { row := redactTwiceUptoRow, standIns := [], harness := (true, "15cd0e32bbdc06d9f10a4365679d203026c873383da44fcf678bbff69891d1b4"), looks := true }, kinds := [], alts := [], laidByText := true, laidKinds := [.data, .data, .data], laidTests := true, laidLooks := .later }
def RedactTwiceUptoCardSaid : Prop := Claim7.holds Tryd.pinned (.plain (OpenSpec.upto redactTwiceSpec)) redactTwiceUptoCard
end Rows
end Go.Proofs.YtkhbnhdlelmbnaaDoor
