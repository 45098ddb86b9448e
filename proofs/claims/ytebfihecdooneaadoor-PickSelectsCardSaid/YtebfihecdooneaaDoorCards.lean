/-
  DERIVED. GIVEN WITH THE SEED: THE CARDS: each row of YtebfihecdooneaaDoorRows.lean that lists a variable, with what it lists TIED to the program's text (the seventh form; the later family's looks); each row that meets fmt, with fmt's text TOLD by the authors' own Lean function (tested against real Go, not proved from fmt's source: count such statements apart). THE CARD IS WHAT COUNTS. Prove the row's statement (the work); the ties are given (YtebfihecdooneaaDoorTie.lean); close each card by the builder's one call (the guide's Derived/Test/ToyasCard.lean, 'card_holds'). Laid BY PROGRAM, IN A SANDBOX (cutbox-door.mjs). By AI agents, Wed Nov 11 2026. No macro, syntax, notation, axiom, sorry.
-/
import Derived.Test.YtebfihecdooneaaDoorRows
import GoSem.ClaimSeven
namespace Go.Proofs.YtebfihecdooneaaDoor
namespace Rows

/-- THE TIED CARD OF 'hustingslaw16.PickNeeds'. -/
def pickNeedsCard : Claim7 := { stood := { row := pickNeedsRow, standIns := [], harness := (true, "a02315ef23402c1c89e33bbe861447a17b7e355ff653c96a97f2618dad9dc3c0"), looks := false }, kinds := [], alts := [], laidByText := true, laidKinds := [.data, .data, .data], laidTests := true, laidLooks := .later }
def PickNeedsCardSaid : Prop := Claim7.holds Tryd.pinned (.plain (OpenSpec.ofChange pickNeedsSpec)) pickNeedsCard

/-- THE TIED CARD OF 'hustingslaw16.PickSelects'. -/
def pickSelectsCard : Claim7 := { stood := { row := pickSelectsRow, standIns := [], harness := (true, "a02315ef23402c1c89e33bbe861447a17b7e355ff653c96a97f2618dad9dc3c0"), looks := false }, kinds := [], alts := [], laidByText := true, laidKinds := [.data, .data, .data], laidTests := true, laidLooks := .later }
def PickSelectsCardSaid : Prop := Claim7.holds Tryd.pinned (.plain (OpenSpec.ofChange pickSelectsSpec)) pickSelectsCard

/-- THE TIED CARD OF 'hustingslaw16.PickRights'. -/
def pickRightsCard : Claim7 := { stood := { row := pickRightsRow, standIns := [], harness := (true, "a02315ef23402c1c89e33bbe861447a17b7e355ff653c96a97f2618dad9dc3c0"), looks := false }, kinds := [], alts := [], laidByText := true, laidKinds := [.data, .data, .data], laidTests := true, laidLooks := .later }
def PickRightsCardSaid : Prop := Claim7.holds Tryd.pinned (.plain (OpenSpec.ofChange pickRightsSpec)) pickRightsCard

/-- THE SECOND FORM's CARD OF 'hustingslaw16.PickNeeds'. -/
def pickNeedsUptoCard : Claim7 := { stood := { row := pickNeedsUptoRow, standIns := [], harness := (true, "a02315ef23402c1c89e33bbe861447a17b7e355ff653c96a97f2618dad9dc3c0"), looks := false }, kinds := [], alts := [], laidByText := true, laidKinds := [.data, .data, .data], laidTests := true, laidLooks := .later }
def PickNeedsUptoCardSaid : Prop := Claim7.holds Tryd.pinned (.plain (OpenSpec.upto pickNeedsSpec)) pickNeedsUptoCard

/-- THE SECOND FORM's CARD OF 'hustingslaw16.PickSelects'. -/
def pickSelectsUptoCard : Claim7 := { stood := { row := pickSelectsUptoRow, standIns := [], harness := (true, "a02315ef23402c1c89e33bbe861447a17b7e355ff653c96a97f2618dad9dc3c0"), looks := false }, kinds := [], alts := [], laidByText := true, laidKinds := [.data, .data, .data], laidTests := true, laidLooks := .later }
def PickSelectsUptoCardSaid : Prop := Claim7.holds Tryd.pinned (.plain (OpenSpec.upto pickSelectsSpec)) pickSelectsUptoCard

/-- THE SECOND FORM's CARD OF 'hustingslaw16.PickRights'. -/
def pickRightsUptoCard : Claim7 := { stood := { row := pickRightsUptoRow, standIns := [], harness := (true, "a02315ef23402c1c89e33bbe861447a17b7e355ff653c96a97f2618dad9dc3c0"), looks := false }, kinds := [], alts := [], laidByText := true, laidKinds := [.data, .data, .data], laidTests := true, laidLooks := .later }
def PickRightsUptoCardSaid : Prop := Claim7.holds Tryd.pinned (.plain (OpenSpec.upto pickRightsSpec)) pickRightsUptoCard
end Rows
end Go.Proofs.YtebfihecdooneaaDoor
