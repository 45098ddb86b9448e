/-
  DERIVED. GIVEN WITH THE SEED: THE CARDS: each row of YtnihidkbkhcfoaaGreatDoorRows.lean that lists a variable, with what it lists TIED to the program's text (the seventh form; the later family's looks); each row that meets fmt, with fmt's text TOLD by the authors' own Lean function (tested against real Go, not proved from fmt's source: count such statements apart). THE CARD IS WHAT COUNTS. Prove the row's statement (the work); the ties are given (YtnihidkbkhcfoaaGreatDoorTie.lean); close each card by the builder's one call (the guide's Derived/Test/ToyasCard.lean, 'card_holds'). Laid BY PROGRAM, IN A SANDBOX (cutbox-door.mjs). By AI agents, Wed Nov 11 2026. No macro, syntax, notation, axiom, sorry.
-/
import Derived.Test.YtnihidkbkhcfoaaGreatDoorRows
import GoSem.ClaimSeven
namespace Go.Proofs.YtnihidkbkhcfoaaGreatDoor
namespace Rows

/-- THE TIED CARD OF 'hustingslaw13.SealHashes'. -/
def sealHashesCard : Claim7 := { stood := { row := sealHashesRow, standIns := [], harness := (true, "700b7a16ebdd8dec0ae550f542b35a837393c74b3aa5c3b8ad19135bd650b548"), looks := true }, kinds := [], alts := [], laidByText := true, laidKinds := [.data, .data, .data, .data], laidTests := true, laidLooks := .later }
def SealHashesCardSaid : Prop := Claim7.holds Tryz.pinned (.plain (OpenSpec.ofChange sealHashesSpec)) sealHashesCard

/-- THE TIED CARD OF 'hustingslaw09.JsonParses'. -/
def jsonParsesCard : Claim7 := { stood := { row := jsonParsesRow, standIns := [], harness := (true, "700b7a16ebdd8dec0ae550f542b35a837393c74b3aa5c3b8ad19135bd650b548"), looks := true }, kinds := [], alts := [], laidByText := true, laidKinds := [.data, .data, .data, .data, .sentinel, .sentinel, .pinned], laidTests := true, laidLooks := .later }
def JsonParsesCardSaid : Prop := Claim7.holds Tryz.pinned (.plain (OpenSpec.ofChange jsonParsesSpec)) jsonParsesCard

/-- THE TIED CARD OF 'hustingslaw09.JsonBack'. -/
def jsonBackCard : Claim7 := { stood := { row := jsonBackRow, standIns := [], harness := (true, "700b7a16ebdd8dec0ae550f542b35a837393c74b3aa5c3b8ad19135bd650b548"), looks := true }, kinds := [], alts := [], laidByText := true, laidKinds := [.data, .data, .data, .data, .sentinel, .sentinel, .pinned], laidTests := true, laidLooks := .later }
def JsonBackCardSaid : Prop := Claim7.holds Tryz.pinned (.plain (OpenSpec.ofChange jsonBackSpec)) jsonBackCard

/-- THE TIED CARD OF 'hustingslaw09.JsonTells'. -/
def jsonTellsCard : Claim7 := { stood := { row := jsonTellsRow, standIns := [], harness := (true, "700b7a16ebdd8dec0ae550f542b35a837393c74b3aa5c3b8ad19135bd650b548"), looks := true }, kinds := [], alts := [], laidByText := true, laidKinds := [.data, .data, .data, .data, .sentinel, .sentinel, .pinned], laidTests := true, laidLooks := .later }
def JsonTellsCardSaid : Prop := Claim7.holds Tryz.pinned (.plain (OpenSpec.ofChange jsonTellsSpec)) jsonTellsCard

/-- THE TIED CARD OF 'hustingslaw09.JsonNumbers'. -/
def jsonNumbersCard : Claim7 := { stood := { row := jsonNumbersRow, standIns := [], harness := (true, "700b7a16ebdd8dec0ae550f542b35a837393c74b3aa5c3b8ad19135bd650b548"), looks := true }, kinds := [], alts := [], laidByText := true, laidKinds := [.data, .data, .data, .data, .sentinel, .sentinel, .pinned], laidTests := true, laidLooks := .later }
def JsonNumbersCardSaid : Prop := Claim7.holds Tryz.pinned (.plain (OpenSpec.ofChange jsonNumbersSpec)) jsonNumbersCard

/-- THE TIED CARD OF 'hustingslaw09.JsonKeeps'. -/
def jsonKeepsCard : Claim7 := { stood := { row := jsonKeepsRow, standIns := [], harness := (true, "700b7a16ebdd8dec0ae550f542b35a837393c74b3aa5c3b8ad19135bd650b548"), looks := true }, kinds := [], alts := [], laidByText := true, laidKinds := [.data, .data, .data, .data, .sentinel, .sentinel, .pinned], laidTests := true, laidLooks := .later }
def JsonKeepsCardSaid : Prop := Claim7.holds Tryz.pinned (.plain (OpenSpec.ofChange jsonKeepsSpec)) jsonKeepsCard

/-- THE TIED CARD OF 'hustingslaw11.EventValues'. -/
def eventValuesCard : Claim7 := { stood := { row := eventValuesRow, standIns := [], harness := (true, "700b7a16ebdd8dec0ae550f542b35a837393c74b3aa5c3b8ad19135bd650b548"), looks := true }, kinds := [], alts := [], laidByText := true, laidKinds := [.data, .data, .data, .data, .sentinel, .sentinel, .pinned], laidTests := true, laidLooks := .later }
def EventValuesCardSaid : Prop := Claim7.holds Tryz.pinned (.plain (OpenSpec.ofChange eventValuesSpec)) eventValuesCard

/-- THE TIED CARD OF 'hustingslaw11.EventReads'. -/
def eventReadsCard : Claim7 := { stood := { row := eventReadsRow, standIns := [], harness := (true, "700b7a16ebdd8dec0ae550f542b35a837393c74b3aa5c3b8ad19135bd650b548"), looks := true }, kinds := [], alts := [], laidByText := true, laidKinds := [.data, .data, .data, .data, .sentinel, .sentinel, .pinned], laidTests := true, laidLooks := .later }
def EventReadsCardSaid : Prop := Claim7.holds Tryz.pinned (.plain (OpenSpec.ofChange eventReadsSpec)) eventReadsCard

/-- THE TIED CARD OF 'hustingslaw11.EventKeeps'. -/
def eventKeepsCard : Claim7 := { stood := { row := eventKeepsRow, standIns := [], harness := (true, "700b7a16ebdd8dec0ae550f542b35a837393c74b3aa5c3b8ad19135bd650b548"), looks := true }, kinds := [], alts := [], laidByText := true, laidKinds := [.data, .data, .data, .data, .sentinel, .sentinel, .pinned], laidTests := true, laidLooks := .later }
def EventKeepsCardSaid : Prop := Claim7.holds Tryz.pinned (.plain (OpenSpec.ofChange eventKeepsSpec)) eventKeepsCard

/-- THE TIED CARD OF 'hustingslaw11.EventBack'. -/
def eventBackCard : Claim7 := { stood := { row := eventBackRow, standIns := [], harness := (true, "700b7a16ebdd8dec0ae550f542b35a837393c74b3aa5c3b8ad19135bd650b548"), looks := true }, kinds := [], alts := [], laidByText := true, laidKinds := [.data, .data, .data, .data, .sentinel, .sentinel, .pinned], laidTests := true, laidLooks := .later }
def EventBackCardSaid : Prop := Claim7.holds Tryz.pinned (.plain (OpenSpec.ofChange eventBackSpec)) eventBackCard

/-- THE TIED CARD OF 'hustingslaw11.EventSames'. -/
def eventSamesCard : Claim7 := { stood := { row := eventSamesRow, standIns := [], harness := (true, "700b7a16ebdd8dec0ae550f542b35a837393c74b3aa5c3b8ad19135bd650b548"), looks := true }, kinds := [], alts := [], laidByText := true, laidKinds := [.data, .data, .data, .data, .sentinel, .sentinel, .pinned], laidTests := true, laidLooks := .later }
def EventSamesCardSaid : Prop := Claim7.holds Tryz.pinned (.plain (OpenSpec.ofChange eventSamesSpec)) eventSamesCard

/-- THE SECOND FORM's CARD OF 'hustingslaw13.SealHashes'. -/
def sealHashesUptoCard : Claim7 := { stood := { row := sealHashesUptoRow, standIns := [], harness := (true, "700b7a16ebdd8dec0ae550f542b35a837393c74b3aa5c3b8ad19135bd650b548"), looks := true }, kinds := [], alts := [], laidByText := true, laidKinds := [.data, .data, .data, .data], laidTests := true, laidLooks := .later }
def SealHashesUptoCardSaid : Prop := Claim7.holds Tryz.pinned (.plain (OpenSpec.upto sealHashesSpec)) sealHashesUptoCard

/-- THE SECOND FORM's CARD OF 'hustingslaw09.JsonParses'. -/
def jsonParsesUptoCard : Claim7 := { stood := { row := jsonParsesUptoRow, standIns := [], harness := (true, "700b7a16ebdd8dec0ae550f542b35a837393c74b3aa5c3b8ad19135bd650b548"), looks := true }, kinds := [], alts := [], laidByText := true, laidKinds := [.data, .data, .data, .data, .sentinel, .sentinel, .pinned], laidTests := true, laidLooks := .later }
def JsonParsesUptoCardSaid : Prop := Claim7.holds Tryz.pinned (.plain (OpenSpec.upto jsonParsesSpec)) jsonParsesUptoCard

/-- THE SECOND FORM's CARD OF 'hustingslaw09.JsonBack'. -/
def jsonBackUptoCard : Claim7 := { stood := { row := jsonBackUptoRow, standIns := [], harness := (true, "700b7a16ebdd8dec0ae550f542b35a837393c74b3aa5c3b8ad19135bd650b548"), looks := true }, kinds := [], alts := [], laidByText := true, laidKinds := [.data, .data, .data, .data, .sentinel, .sentinel, .pinned], laidTests := true, laidLooks := .later }
def JsonBackUptoCardSaid : Prop := Claim7.holds Tryz.pinned (.plain (OpenSpec.upto jsonBackSpec)) jsonBackUptoCard

/-- THE SECOND FORM's CARD OF 'hustingslaw09.JsonTells'. -/
def jsonTellsUptoCard : Claim7 := { stood := { row := jsonTellsUptoRow, standIns := [], harness := (true, "700b7a16ebdd8dec0ae550f542b35a837393c74b3aa5c3b8ad19135bd650b548"), looks := true }, kinds := [], alts := [], laidByText := true, laidKinds := [.data, .data, .data, .data, .sentinel, .sentinel, .pinned], laidTests := true, laidLooks := .later }
def JsonTellsUptoCardSaid : Prop := Claim7.holds Tryz.pinned (.plain (OpenSpec.upto jsonTellsSpec)) jsonTellsUptoCard

/-- THE SECOND FORM's CARD OF 'hustingslaw09.JsonNumbers'. -/
def jsonNumbersUptoCard : Claim7 := { stood := { row := jsonNumbersUptoRow, standIns := [], harness := (true, "700b7a16ebdd8dec0ae550f542b35a837393c74b3aa5c3b8ad19135bd650b548"), looks := true }, kinds := [], alts := [], laidByText := true, laidKinds := [.data, .data, .data, .data, .sentinel, .sentinel, .pinned], laidTests := true, laidLooks := .later }
def JsonNumbersUptoCardSaid : Prop := Claim7.holds Tryz.pinned (.plain (OpenSpec.upto jsonNumbersSpec)) jsonNumbersUptoCard

/-- THE SECOND FORM's CARD OF 'hustingslaw09.JsonKeeps'. -/
def jsonKeepsUptoCard : Claim7 := { stood := { row := jsonKeepsUptoRow, standIns := [], harness := (true, "700b7a16ebdd8dec0ae550f542b35a837393c74b3aa5c3b8ad19135bd650b548"), looks := true }, kinds := [], alts := [], laidByText := true, laidKinds := [.data, .data, .data, .data, .sentinel, .sentinel, .pinned], laidTests := true, laidLooks := .later }
def JsonKeepsUptoCardSaid : Prop := Claim7.holds Tryz.pinned (.plain (OpenSpec.upto jsonKeepsSpec)) jsonKeepsUptoCard

/-- THE SECOND FORM's CARD OF 'hustingslaw11.EventValues'. -/
def eventValuesUptoCard : Claim7 := { stood := { row := eventValuesUptoRow, standIns := [], harness := (true, "700b7a16ebdd8dec0ae550f542b35a837393c74b3aa5c3b8ad19135bd650b548"), looks := true }, kinds := [], alts := [], laidByText := true, laidKinds := [.data, .data, .data, .data, .sentinel, .sentinel, .pinned], laidTests := true, laidLooks := .later }
def EventValuesUptoCardSaid : Prop := Claim7.holds Tryz.pinned (.plain (OpenSpec.upto eventValuesSpec)) eventValuesUptoCard

/-- THE SECOND FORM's CARD OF 'hustingslaw11.EventReads'. -/
def eventReadsUptoCard : Claim7 := { stood := { row := eventReadsUptoRow, standIns := [], harness := (true, "700b7a16ebdd8dec0ae550f542b35a837393c74b3aa5c3b8ad19135bd650b548"), looks := true }, kinds := [], alts := [], laidByText := true, laidKinds := [.data, .data, .data, .data, .sentinel, .sentinel, .pinned], laidTests := true, laidLooks := .later }
def EventReadsUptoCardSaid : Prop := Claim7.holds Tryz.pinned (.plain (OpenSpec.upto eventReadsSpec)) eventReadsUptoCard

/-- THE SECOND FORM's CARD OF 'hustingslaw11.EventKeeps'. -/
def eventKeepsUptoCard : Claim7 := { stood := { row := eventKeepsUptoRow, standIns := [], harness := (true, "700b7a16ebdd8dec0ae550f542b35a837393c74b3aa5c3b8ad19135bd650b548"), looks := true }, kinds := [], alts := [], laidByText := true, laidKinds := [.data, .data, .data, .data, .sentinel, .sentinel, .pinned], laidTests := true, laidLooks := .later }
def EventKeepsUptoCardSaid : Prop := Claim7.holds Tryz.pinned (.plain (OpenSpec.upto eventKeepsSpec)) eventKeepsUptoCard

/-- THE SECOND FORM's CARD OF 'hustingslaw11.EventBack'. -/
def eventBackUptoCard : Claim7 := { stood := { row := eventBackUptoRow, standIns := [], harness := (true, "700b7a16ebdd8dec0ae550f542b35a837393c74b3aa5c3b8ad19135bd650b548"), looks := true }, kinds := [], alts := [], laidByText := true, laidKinds := [.data, .data, .data, .data, .sentinel, .sentinel, .pinned], laidTests := true, laidLooks := .later }
def EventBackUptoCardSaid : Prop := Claim7.holds Tryz.pinned (.plain (OpenSpec.upto eventBackSpec)) eventBackUptoCard

/-- THE SECOND FORM's CARD OF 'hustingslaw11.EventSames'. -/
def eventSamesUptoCard : Claim7 := { stood := { row := eventSamesUptoRow, standIns := [], harness := (true, "700b7a16ebdd8dec0ae550f542b35a837393c74b3aa5c3b8ad19135bd650b548"), looks := true }, kinds := [], alts := [], laidByText := true, laidKinds := [.data, .data, .data, .data, .sentinel, .sentinel, .pinned], laidTests := true, laidLooks := .later }
def EventSamesUptoCardSaid : Prop := Claim7.holds Tryz.pinned (.plain (OpenSpec.upto eventSamesSpec)) eventSamesUptoCard
end Rows
end Go.Proofs.YtnihidkbkhcfoaaGreatDoor
