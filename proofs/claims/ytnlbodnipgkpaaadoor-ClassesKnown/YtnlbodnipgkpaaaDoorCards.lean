/-
  DERIVED. GIVEN WITH THE SEED: THE CARDS: each row of YtnlbodnipgkpaaaDoorRows.lean that lists a variable, with what it lists TIED to the program's text (the seventh form; the later family's looks); each row that meets fmt, with fmt's text TOLD by the authors' own Lean function (tested against real Go, not proved from fmt's source: count such statements apart). THE CARD IS WHAT COUNTS. Prove the row's statement (the work); the ties are given (YtnlbodnipgkpaaaDoorTie.lean); close each card by the builder's one call (the guide's Derived/Test/ToyasCard.lean, 'card_holds'). Laid BY PROGRAM, IN A SANDBOX (cutbox-door.mjs). By AI agents, Wed Nov 11 2026. No macro, syntax, notation, axiom, sorry.
-/
import Derived.Test.YtnlbodnipgkpaaaDoorRows
import GoSem.ClaimSeven
namespace Go.Proofs.YtnlbodnipgkpaaaDoor
namespace Rows

/-- THE TIED CARD OF 'gauntletlaw02.ClassesCheck'. -/
def classesCheckCard : Claim7 := { stood := { row := classesCheckRow, standIns := [], harness := (true, "fbee8483b300ccf96f640632ec3b6cd595efd62cee67930a3294ae7e701127a1"), looks := true }, kinds := [], alts := [], laidByText := true, laidKinds := [.data, .data, .data, .data, .sentinel, .sentinel, .pinned], laidTests := true, laidLooks := .later }
def ClassesCheckCardSaid : Prop := Claim7.holds Tryd.pinned (.plain (OpenSpec.ofChange classesCheckSpec)) classesCheckCard

/-- THE TIED CARD OF 'gauntletlaw02.ClassesOf'. -/
def classesOfCard : Claim7 := { stood := { row := classesOfRow, standIns := [], harness := (true, "fbee8483b300ccf96f640632ec3b6cd595efd62cee67930a3294ae7e701127a1"), looks := true }, kinds := [], alts := [], laidByText := true, laidKinds := [.data, .data, .data, .data, .sentinel, .sentinel, .pinned], laidTests := true, laidLooks := .later }
def ClassesOfCardSaid : Prop := Claim7.holds Tryd.pinned (.plain (OpenSpec.ofChange classesOfSpec)) classesOfCard

/-- THE TIED CARD OF 'gauntletlaw02.ClassesClose'. -/
def classesCloseCard : Claim7 := { stood := { row := classesCloseRow, standIns := [], harness := (true, "fbee8483b300ccf96f640632ec3b6cd595efd62cee67930a3294ae7e701127a1"), looks := true }, kinds := [], alts := [], laidByText := true, laidKinds := [.data, .data, .data, .data, .sentinel, .sentinel, .pinned], laidTests := true, laidLooks := .later }
def ClassesCloseCardSaid : Prop := Claim7.holds Tryd.pinned (.plain (OpenSpec.ofChange classesCloseSpec)) classesCloseCard

/-- THE TIED CARD OF 'gauntletlaw02.ClassesMeet'. -/
def classesMeetCard : Claim7 := { stood := { row := classesMeetRow, standIns := [], harness := (true, "fbee8483b300ccf96f640632ec3b6cd595efd62cee67930a3294ae7e701127a1"), looks := true }, kinds := [], alts := [], laidByText := true, laidKinds := [.data, .data, .data, .data, .sentinel, .sentinel, .pinned], laidTests := true, laidLooks := .later }
def ClassesMeetCardSaid : Prop := Claim7.holds Tryd.pinned (.plain (OpenSpec.ofChange classesMeetSpec)) classesMeetCard

/-- THE TIED CARD OF 'gauntletlaw02.ClassesLattice'. -/
def classesLatticeCard : Claim7 := { stood := { row := classesLatticeRow, standIns := [], harness := (true, "fbee8483b300ccf96f640632ec3b6cd595efd62cee67930a3294ae7e701127a1"), looks := true }, kinds := [], alts := [], laidByText := true, laidKinds := [.data, .data, .data, .data, .sentinel, .sentinel, .pinned], laidTests := true, laidLooks := .later }
def ClassesLatticeCardSaid : Prop := Claim7.holds Tryd.pinned (.plain (OpenSpec.ofChange classesLatticeSpec)) classesLatticeCard

/-- THE TIED CARD OF 'gauntletlaw02.ClassesText'. -/
def classesTextCard : Claim7 := { stood := { row := classesTextRow, standIns := [], harness := (true, "fbee8483b300ccf96f640632ec3b6cd595efd62cee67930a3294ae7e701127a1"), looks := true }, kinds := [], alts := [], laidByText := true, laidKinds := [.data, .data, .data, .data, .sentinel, .sentinel, .pinned], laidTests := true, laidLooks := .later }
def ClassesTextCardSaid : Prop := Claim7.holds Tryd.pinned (.plain (OpenSpec.ofChange classesTextSpec)) classesTextCard

/-- THE TIED CARD OF 'gauntletlaw02.ClassesKnown'. -/
def classesKnownCard : Claim7 := { stood := { row := classesKnownRow, standIns := [], harness := (true, "fbee8483b300ccf96f640632ec3b6cd595efd62cee67930a3294ae7e701127a1"), looks := true }, kinds := [], alts := [], laidByText := true, laidKinds := [.data, .data, .data, .data, .sentinel, .sentinel, .pinned], laidTests := true, laidLooks := .later }
def ClassesKnownCardSaid : Prop := Claim7.holds Tryd.pinned (.plain (OpenSpec.ofChange classesKnownSpec)) classesKnownCard

/-- THE SECOND FORM's CARD OF 'gauntletlaw02.ClassesCheck'. -/
def classesCheckUptoCard : Claim7 := { stood := { row := classesCheckUptoRow, standIns := [], harness := (true, "fbee8483b300ccf96f640632ec3b6cd595efd62cee67930a3294ae7e701127a1"), looks := true }, kinds := [], alts := [], laidByText := true, laidKinds := [.data, .data, .data, .data, .sentinel, .sentinel, .pinned], laidTests := true, laidLooks := .later }
def ClassesCheckUptoCardSaid : Prop := Claim7.holds Tryd.pinned (.plain (OpenSpec.upto classesCheckSpec)) classesCheckUptoCard

/-- THE SECOND FORM's CARD OF 'gauntletlaw02.ClassesOf'. -/
def classesOfUptoCard : Claim7 := { stood := { row := classesOfUptoRow, standIns := [], harness := (true, "fbee8483b300ccf96f640632ec3b6cd595efd62cee67930a3294ae7e701127a1"), looks := true }, kinds := [], alts := [], laidByText := true, laidKinds := [.data, .data, .data, .data, .sentinel, .sentinel, .pinned], laidTests := true, laidLooks := .later }
def ClassesOfUptoCardSaid : Prop := Claim7.holds Tryd.pinned (.plain (OpenSpec.upto classesOfSpec)) classesOfUptoCard

/-- THE SECOND FORM's CARD OF 'gauntletlaw02.ClassesClose'. -/
def classesCloseUptoCard : Claim7 := { stood := { row := classesCloseUptoRow, standIns := [], harness := (true, "fbee8483b300ccf96f640632ec3b6cd595efd62cee67930a3294ae7e701127a1"), looks := true }, kinds := [], alts := [], laidByText := true, laidKinds := [.data, .data, .data, .data, .sentinel, .sentinel, .pinned], laidTests := true, laidLooks := .later }
def ClassesCloseUptoCardSaid : Prop := Claim7.holds Tryd.pinned (.plain (OpenSpec.upto classesCloseSpec)) classesCloseUptoCard

/-- THE SECOND FORM's CARD OF 'gauntletlaw02.ClassesMeet'. -/
def classesMeetUptoCard : Claim7 := { stood := { row := classesMeetUptoRow, standIns := [], harness := (true, "fbee8483b300ccf96f640632ec3b6cd595efd62cee67930a3294ae7e701127a1"), looks := true }, kinds := [], alts := [], laidByText := true, laidKinds := [.data, .data, .data, .data, .sentinel, .sentinel, .pinned], laidTests := true, laidLooks := .later }
def ClassesMeetUptoCardSaid : Prop := Claim7.holds Tryd.pinned (.plain (OpenSpec.upto classesMeetSpec)) classesMeetUptoCard

/-- THE SECOND FORM's CARD OF 'gauntletlaw02.ClassesLattice'. -/
def classesLatticeUptoCard : Claim7 := { stood := { row := classesLatticeUptoRow, standIns := [], harness := (true, "fbee8483b300ccf96f640632ec3b6cd595efd62cee67930a3294ae7e701127a1"), looks := true }, kinds := [], alts := [], laidByText := true, laidKinds := [.data, .data, .data, .data, .sentinel, .sentinel, .pinned], laidTests := true, laidLooks := .later }
def ClassesLatticeUptoCardSaid : Prop := Claim7.holds Tryd.pinned (.plain (OpenSpec.upto classesLatticeSpec)) classesLatticeUptoCard

/-- THE SECOND FORM's CARD OF 'gauntletlaw02.ClassesText'. -/
def classesTextUptoCard : Claim7 := { stood := { row := classesTextUptoRow, standIns := [], harness := (true, "fbee8483b300ccf96f640632ec3b6cd595efd62cee67930a3294ae7e701127a1"), looks := true }, kinds := [], alts := [], laidByText := true, laidKinds := [.data, .data, .data, .data, .sentinel, .sentinel, .pinned], laidTests := true, laidLooks := .later }
def ClassesTextUptoCardSaid : Prop := Claim7.holds Tryd.pinned (.plain (OpenSpec.upto classesTextSpec)) classesTextUptoCard

/-- THE SECOND FORM's CARD OF 'gauntletlaw02.ClassesKnown'. -/
def classesKnownUptoCard : Claim7 := { stood := { row := classesKnownUptoRow, standIns := [], harness := (true, "fbee8483b300ccf96f640632ec3b6cd595efd62cee67930a3294ae7e701127a1"), looks := true }, kinds := [], alts := [], laidByText := true, laidKinds := [.data, .data, .data, .data, .sentinel, .sentinel, .pinned], laidTests := true, laidLooks := .later }
def ClassesKnownUptoCardSaid : Prop := Claim7.holds Tryd.pinned (.plain (OpenSpec.upto classesKnownSpec)) classesKnownUptoCard
end Rows
end Go.Proofs.YtnlbodnipgkpaaaDoor
