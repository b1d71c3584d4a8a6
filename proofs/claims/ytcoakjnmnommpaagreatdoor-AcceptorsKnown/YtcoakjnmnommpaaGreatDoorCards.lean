/-
  DERIVED. GIVEN WITH THE SEED: THE CARDS: each row of YtcoakjnmnommpaaGreatDoorRows.lean that lists a variable, with what it lists TIED to the program's text (the seventh form; the later family's looks); each row that meets fmt, with fmt's text TOLD by the authors' own Lean function (tested against real Go, not proved from fmt's source: count such statements apart). THE CARD IS WHAT COUNTS. Prove the row's statement (the work); the ties are given (YtcoakjnmnommpaaGreatDoorTie.lean); close each card by the builder's one call (the guide's Derived/Test/ToyasCard.lean, 'card_holds'). Laid BY PROGRAM, IN A SANDBOX (cutbox-door.mjs). By AI agents, Wed Nov 11 2026. No macro, syntax, notation, axiom, sorry.
-/
import Derived.Test.YtcoakjnmnommpaaGreatDoorRows
import GoSem.ClaimSeven
namespace Go.Proofs.YtcoakjnmnommpaaGreatDoor
namespace Rows

/-- THE TIED CARD OF 'gauntletlaw23.AcceptorsTrim'. -/
def acceptorsTrimCard : Claim7 := { stood := { row := acceptorsTrimRow, standIns := [], harness := (true, "b881dd6a43df0542c466f996ca8bae238ea8176a907b42ffefefc31480fbe749"), looks := true }, kinds := [], alts := [], laidByText := true, laidKinds := [.data, .data, .data, .data, .sentinel, .sentinel, .pinned], laidTests := true, laidLooks := .later }
def AcceptorsTrimCardSaid : Prop := Claim7.holds Tryz.pinned (.plain (OpenSpec.ofChange acceptorsTrimSpec)) acceptorsTrimCard

/-- THE TIED CARD OF 'gauntletlaw23.AcceptorsErrors'. -/
def acceptorsErrorsCard : Claim7 := { stood := { row := acceptorsErrorsRow, standIns := [], harness := (true, "b881dd6a43df0542c466f996ca8bae238ea8176a907b42ffefefc31480fbe749"), looks := true }, kinds := [], alts := [], laidByText := true, laidKinds := [.data, .data, .data, .data, .sentinel, .sentinel, .pinned], laidTests := true, laidLooks := .later }
def AcceptorsErrorsCardSaid : Prop := Claim7.holds Tryz.pinned (.plain (OpenSpec.ofChange acceptorsErrorsSpec)) acceptorsErrorsCard

/-- THE TIED CARD OF 'gauntletlaw23.AcceptorsKnown'. -/
def acceptorsKnownCard : Claim7 := { stood := { row := acceptorsKnownRow, standIns := [], harness := (true, "b881dd6a43df0542c466f996ca8bae238ea8176a907b42ffefefc31480fbe749"), looks := true }, kinds := [], alts := [], laidByText := true, laidKinds := [.data, .data, .data, .data, .sentinel, .sentinel, .pinned], laidTests := true, laidLooks := .later }
def AcceptorsKnownCardSaid : Prop := Claim7.holds Tryz.pinned (.plain (OpenSpec.ofChange acceptorsKnownSpec)) acceptorsKnownCard

/-- THE SECOND FORM's CARD OF 'gauntletlaw23.AcceptorsTrim'. -/
def acceptorsTrimUptoCard : Claim7 := { stood := { row := acceptorsTrimUptoRow, standIns := [], harness := (true, "b881dd6a43df0542c466f996ca8bae238ea8176a907b42ffefefc31480fbe749"), looks := true }, kinds := [], alts := [], laidByText := true, laidKinds := [.data, .data, .data, .data, .sentinel, .sentinel, .pinned], laidTests := true, laidLooks := .later }
def AcceptorsTrimUptoCardSaid : Prop := Claim7.holds Tryz.pinned (.plain (OpenSpec.upto acceptorsTrimSpec)) acceptorsTrimUptoCard

/-- THE SECOND FORM's CARD OF 'gauntletlaw23.AcceptorsErrors'. -/
def acceptorsErrorsUptoCard : Claim7 := { stood := { row := acceptorsErrorsUptoRow, standIns := [], harness := (true, "b881dd6a43df0542c466f996ca8bae238ea8176a907b42ffefefc31480fbe749"), looks := true }, kinds := [], alts := [], laidByText := true, laidKinds := [.data, .data, .data, .data, .sentinel, .sentinel, .pinned], laidTests := true, laidLooks := .later }
def AcceptorsErrorsUptoCardSaid : Prop := Claim7.holds Tryz.pinned (.plain (OpenSpec.upto acceptorsErrorsSpec)) acceptorsErrorsUptoCard

/-- THE SECOND FORM's CARD OF 'gauntletlaw23.AcceptorsKnown'. -/
def acceptorsKnownUptoCard : Claim7 := { stood := { row := acceptorsKnownUptoRow, standIns := [], harness := (true, "b881dd6a43df0542c466f996ca8bae238ea8176a907b42ffefefc31480fbe749"), looks := true }, kinds := [], alts := [], laidByText := true, laidKinds := [.data, .data, .data, .data, .sentinel, .sentinel, .pinned], laidTests := true, laidLooks := .later }
def AcceptorsKnownUptoCardSaid : Prop := Claim7.holds Tryz.pinned (.plain (OpenSpec.upto acceptorsKnownSpec)) acceptorsKnownUptoCard
end Rows
end Go.Proofs.YtcoakjnmnommpaaGreatDoor
