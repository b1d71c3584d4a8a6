/-
  DERIVED. GIVEN WITH THE SEED: THE CARDS: each row of YtbgdagokjfmcbaaGreatDoorRows.lean that lists a variable, with what it lists TIED to the program's text (the seventh form; the later family's looks); each row that meets fmt, with fmt's text TOLD by the authors' own Lean function (tested against real Go, not proved from fmt's source: count such statements apart). THE CARD IS WHAT COUNTS. Prove the row's statement (the work); the ties are given (YtbgdagokjfmcbaaGreatDoorTie.lean); close each card by the builder's one call (the guide's Derived/Test/ToyasCard.lean, 'card_holds'). Laid BY PROGRAM, IN A SANDBOX (cutbox-door.mjs). By AI agents, Wed Nov 11 2026. No macro, syntax, notation, axiom, sorry.
-/
import Derived.Test.YtbgdagokjfmcbaaGreatDoorRows
import GoSem.ClaimSeven
namespace Go.Proofs.YtbgdagokjfmcbaaGreatDoor
namespace Rows

/-- THE TIED CARD OF 'gauntletlaw42.DiffsText'. -/
def diffsTextCard : Claim7 := { stood := { row := diffsTextRow, standIns := [], harness := (true, "c1cb1f0f427ce1f70609a70fad4bde30c1bb77293ad82b71161f5f0619b60d88"), looks := false }, kinds := [], alts := [], laidByText := true, laidKinds := [.data, .data, .data, .data, .data, .pinned], laidTests := true, laidLooks := .later }
def DiffsTextCardSaid : Prop := Claim7.holds Tryz.pinned (.plain (OpenSpec.ofChange diffsTextSpec)) diffsTextCard

/-- THE TIED CARD OF 'gauntletlaw42.DiffsKnown'. -/
def diffsKnownCard : Claim7 := { stood := { row := diffsKnownRow, standIns := [], harness := (true, "c1cb1f0f427ce1f70609a70fad4bde30c1bb77293ad82b71161f5f0619b60d88"), looks := false }, kinds := [], alts := [], laidByText := true, laidKinds := [.data, .data, .data, .data, .data, .pinned], laidTests := true, laidLooks := .later }
def DiffsKnownCardSaid : Prop := Claim7.holds Tryz.pinned (.plain (OpenSpec.ofChange diffsKnownSpec)) diffsKnownCard

/-- THE SECOND FORM's CARD OF 'gauntletlaw42.DiffsText'. -/
def diffsTextUptoCard : Claim7 := { stood := { row := diffsTextUptoRow, standIns := [], harness := (true, "c1cb1f0f427ce1f70609a70fad4bde30c1bb77293ad82b71161f5f0619b60d88"), looks := false }, kinds := [], alts := [], laidByText := true, laidKinds := [.data, .data, .data, .data, .data, .pinned], laidTests := true, laidLooks := .later }
def DiffsTextUptoCardSaid : Prop := Claim7.holds Tryz.pinned (.plain (OpenSpec.upto diffsTextSpec)) diffsTextUptoCard

/-- THE SECOND FORM's CARD OF 'gauntletlaw42.DiffsKnown'. -/
def diffsKnownUptoCard : Claim7 := { stood := { row := diffsKnownUptoRow, standIns := [], harness := (true, "c1cb1f0f427ce1f70609a70fad4bde30c1bb77293ad82b71161f5f0619b60d88"), looks := false }, kinds := [], alts := [], laidByText := true, laidKinds := [.data, .data, .data, .data, .data, .pinned], laidTests := true, laidLooks := .later }
def DiffsKnownUptoCardSaid : Prop := Claim7.holds Tryz.pinned (.plain (OpenSpec.upto diffsKnownSpec)) diffsKnownUptoCard
end Rows
end Go.Proofs.YtbgdagokjfmcbaaGreatDoor
