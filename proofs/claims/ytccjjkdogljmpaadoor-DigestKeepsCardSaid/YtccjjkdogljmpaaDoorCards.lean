/-
  DERIVED. GIVEN WITH THE SEED: THE CARDS: each row of YtccjjkdogljmpaaDoorRows.lean that lists a variable, with what it lists TIED to the program's text (the seventh form; the later family's looks); each row that meets fmt, with fmt's text TOLD by the authors' own Lean function (tested against real Go, not proved from fmt's source: count such statements apart). THE CARD IS WHAT COUNTS. Prove the row's statement (the work); the ties are given (YtccjjkdogljmpaaDoorTie.lean); close each card by the builder's one call (the guide's Derived/Test/ToyasCard.lean, 'card_holds'). Laid BY PROGRAM, IN A SANDBOX (cutbox-door.mjs). By AI agents, Wed Nov 11 2026. No macro, syntax, notation, axiom, sorry.
-/
import Derived.Test.YtccjjkdogljmpaaDoorRows
import GoSem.ClaimSeven
namespace Go.Proofs.YtccjjkdogljmpaaDoor
namespace Rows

/-- THE TIED CARD OF 'hustingslaw02.DigestIs'. -/
def digestIsCard : Claim7 := { stood := { row := digestIsRow, standIns := [], harness := (true, "dada2bd4544c38a8e933e18032fef9bdf40c89f5f9fb2f2aa3e61145e2efeac3"), looks := true }, kinds := [], alts := [], laidByText := true, laidKinds := [.data], laidTests := true, laidLooks := .later }
def DigestIsCardSaid : Prop := Claim7.holds Tryd.pinned (.plain (OpenSpec.ofChange digestIsSpec)) digestIsCard

/-- THE TIED CARD OF 'hustingslaw02.DigestEnds'. -/
def digestEndsCard : Claim7 := { stood := { row := digestEndsRow, standIns := [], harness := (true, "dada2bd4544c38a8e933e18032fef9bdf40c89f5f9fb2f2aa3e61145e2efeac3"), looks := true }, kinds := [], alts := [], laidByText := true, laidKinds := [.data], laidTests := true, laidLooks := .later }
def DigestEndsCardSaid : Prop := Claim7.holds Tryd.pinned (.plain (OpenSpec.ofChange digestEndsSpec)) digestEndsCard

/-- THE TIED CARD OF 'hustingslaw02.DigestPieces'. -/
def digestPiecesCard : Claim7 := { stood := { row := digestPiecesRow, standIns := [], harness := (true, "dada2bd4544c38a8e933e18032fef9bdf40c89f5f9fb2f2aa3e61145e2efeac3"), looks := true }, kinds := [], alts := [], laidByText := true, laidKinds := [.data], laidTests := true, laidLooks := .later }
def DigestPiecesCardSaid : Prop := Claim7.holds Tryd.pinned (.plain (OpenSpec.ofChange digestPiecesSpec)) digestPiecesCard

/-- THE TIED CARD OF 'hustingslaw02.DigestKeeps'. -/
def digestKeepsCard : Claim7 := { stood := { row := digestKeepsRow, standIns := [], harness := (true, "dada2bd4544c38a8e933e18032fef9bdf40c89f5f9fb2f2aa3e61145e2efeac3"), looks := true }, kinds := [], alts := [], laidByText := true, laidKinds := [.data], laidTests := true, laidLooks := .later }
def DigestKeepsCardSaid : Prop := Claim7.holds Tryd.pinned (.plain (OpenSpec.ofChange digestKeepsSpec)) digestKeepsCard

/-- THE TIED CARD OF 'hustingslaw09.JsonCanons'. -/
def jsonCanonsCard : Claim7 := { stood := { row := jsonCanonsRow, standIns := [], harness := (true, "dada2bd4544c38a8e933e18032fef9bdf40c89f5f9fb2f2aa3e61145e2efeac3"), looks := true }, kinds := [], alts := [], laidByText := true, laidKinds := [.data, .data, .data], laidTests := true, laidLooks := .later }
def JsonCanonsCardSaid : Prop := Claim7.holds Tryd.pinned (.plain (OpenSpec.ofChange jsonCanonsSpec)) jsonCanonsCard

/-- THE SECOND FORM's CARD OF 'hustingslaw02.DigestIs'. -/
def digestIsUptoCard : Claim7 := { stood := { row := digestIsUptoRow, standIns := [], harness := (true, "dada2bd4544c38a8e933e18032fef9bdf40c89f5f9fb2f2aa3e61145e2efeac3"), looks := true }, kinds := [], alts := [], laidByText := true, laidKinds := [.data], laidTests := true, laidLooks := .later }
def DigestIsUptoCardSaid : Prop := Claim7.holds Tryd.pinned (.plain (OpenSpec.upto digestIsSpec)) digestIsUptoCard

/-- THE SECOND FORM's CARD OF 'hustingslaw02.DigestEnds'. -/
def digestEndsUptoCard : Claim7 := { stood := { row := digestEndsUptoRow, standIns := [], harness := (true, "dada2bd4544c38a8e933e18032fef9bdf40c89f5f9fb2f2aa3e61145e2efeac3"), looks := true }, kinds := [], alts := [], laidByText := true, laidKinds := [.data], laidTests := true, laidLooks := .later }
def DigestEndsUptoCardSaid : Prop := Claim7.holds Tryd.pinned (.plain (OpenSpec.upto digestEndsSpec)) digestEndsUptoCard

/-- THE SECOND FORM's CARD OF 'hustingslaw02.DigestPieces'. -/
def digestPiecesUptoCard : Claim7 := { stood := { row := digestPiecesUptoRow, standIns := [], harness := (true, "dada2bd4544c38a8e933e18032fef9bdf40c89f5f9fb2f2aa3e61145e2efeac3"), looks := true }, kinds := [], alts := [], laidByText := true, laidKinds := [.data], laidTests := true, laidLooks := .later }
def DigestPiecesUptoCardSaid : Prop := Claim7.holds Tryd.pinned (.plain (OpenSpec.upto digestPiecesSpec)) digestPiecesUptoCard

/-- THE SECOND FORM's CARD OF 'hustingslaw02.DigestKeeps'. -/
def digestKeepsUptoCard : Claim7 := { stood := { row := digestKeepsUptoRow, standIns := [], harness := (true, "dada2bd4544c38a8e933e18032fef9bdf40c89f5f9fb2f2aa3e61145e2efeac3"), looks := true }, kinds := [], alts := [], laidByText := true, laidKinds := [.data], laidTests := true, laidLooks := .later }
def DigestKeepsUptoCardSaid : Prop := Claim7.holds Tryd.pinned (.plain (OpenSpec.upto digestKeepsSpec)) digestKeepsUptoCard

/-- THE SECOND FORM's CARD OF 'hustingslaw09.JsonCanons'. -/
def jsonCanonsUptoCard : Claim7 := { stood := { row := jsonCanonsUptoRow, standIns := [], harness := (true, "dada2bd4544c38a8e933e18032fef9bdf40c89f5f9fb2f2aa3e61145e2efeac3"), looks := true }, kinds := [], alts := [], laidByText := true, laidKinds := [.data, .data, .data], laidTests := true, laidLooks := .later }
def JsonCanonsUptoCardSaid : Prop := Claim7.holds Tryd.pinned (.plain (OpenSpec.upto jsonCanonsSpec)) jsonCanonsUptoCard
end Rows
end Go.Proofs.YtccjjkdogljmpaaDoor
