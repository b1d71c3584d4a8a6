/-
  DERIVED. GIVEN WITH THE SEED: THE CARDS: each row of YtcoakjnmnommpaaDoorRows.lean that lists a variable, with what it lists TIED to the program's text (the seventh form; the later family's looks); each row that meets fmt, with fmt's text TOLD by the authors' own Lean function (tested against real Go, not proved from fmt's source: count such statements apart). THE CARD IS WHAT COUNTS. Prove the row's statement (the work); the ties are given (YtcoakjnmnommpaaDoorTie.lean); close each card by the builder's one call (the guide's Derived/Test/ToyasCard.lean, 'card_holds'). Laid BY PROGRAM, IN A SANDBOX (cutbox-door.mjs). By AI agents, Wed Nov 11 2026. No macro, syntax, notation, axiom, sorry.
-/
import Derived.Test.YtcoakjnmnommpaaDoorRows
import GoSem.ClaimSeven
namespace Go.Proofs.YtcoakjnmnommpaaDoor
namespace Rows

/-- THE TIED CARD OF 'gauntletlaw23.AcceptorsNames'. -/
def acceptorsNamesCard : Claim7 := { stood := { row := acceptorsNamesRow, standIns := [], harness := (true, "91ba22267624e71839f2d2ac4aa1cd079d7bffcf3187cdb79ca2e7cf29b2fb66"), looks := true }, kinds := [], alts := [], laidByText := true, laidKinds := [.data, .data, .data, .data, .sentinel, .sentinel, .pinned], laidTests := true, laidLooks := .later }
def AcceptorsNamesCardSaid : Prop := Claim7.holds Tryd.pinned (.plain (OpenSpec.ofChange acceptorsNamesSpec)) acceptorsNamesCard

/-- THE TIED CARD OF 'gauntletlaw23.AcceptorsText'. -/
def acceptorsTextCard : Claim7 := { stood := { row := acceptorsTextRow, standIns := [], harness := (true, "91ba22267624e71839f2d2ac4aa1cd079d7bffcf3187cdb79ca2e7cf29b2fb66"), looks := true }, kinds := [], alts := [], laidByText := true, laidKinds := [.data, .data, .data, .data, .sentinel, .sentinel, .pinned], laidTests := true, laidLooks := .later }
def AcceptorsTextCardSaid : Prop := Claim7.holds Tryd.pinned (.plain (OpenSpec.ofChange acceptorsTextSpec)) acceptorsTextCard

/-- THE TIED CARD OF 'gauntletlaw23.AcceptorsParse'. -/
def acceptorsParseCard : Claim7 := { stood := { row := acceptorsParseRow, standIns := [], harness := (true, "91ba22267624e71839f2d2ac4aa1cd079d7bffcf3187cdb79ca2e7cf29b2fb66"), looks := true }, kinds := [], alts := [], laidByText := true, laidKinds := [.data, .data, .data, .data, .sentinel, .sentinel, .pinned], laidTests := true, laidLooks := .later }
def AcceptorsParseCardSaid : Prop := Claim7.holds Tryd.pinned (.plain (OpenSpec.ofChange acceptorsParseSpec)) acceptorsParseCard

/-- THE TIED CARD OF 'gauntletlaw23.AcceptorsSets'. -/
def acceptorsSetsCard : Claim7 := { stood := { row := acceptorsSetsRow, standIns := [], harness := (true, "91ba22267624e71839f2d2ac4aa1cd079d7bffcf3187cdb79ca2e7cf29b2fb66"), looks := true }, kinds := [], alts := [], laidByText := true, laidKinds := [.data, .data, .data, .data, .sentinel, .sentinel, .pinned], laidTests := true, laidLooks := .later }
def AcceptorsSetsCardSaid : Prop := Claim7.holds Tryd.pinned (.plain (OpenSpec.ofChange acceptorsSetsSpec)) acceptorsSetsCard

/-- THE TIED CARD OF 'gauntletlaw23.AcceptorsMinimal'. -/
def acceptorsMinimalCard : Claim7 := { stood := { row := acceptorsMinimalRow, standIns := [], harness := (true, "91ba22267624e71839f2d2ac4aa1cd079d7bffcf3187cdb79ca2e7cf29b2fb66"), looks := true }, kinds := [], alts := [], laidByText := true, laidKinds := [.data, .data, .data, .data, .sentinel, .sentinel, .pinned], laidTests := true, laidLooks := .later }
def AcceptorsMinimalCardSaid : Prop := Claim7.holds Tryd.pinned (.plain (OpenSpec.ofChange acceptorsMinimalSpec)) acceptorsMinimalCard

/-- THE TIED CARD OF 'gauntletlaw23.AcceptorsWords'. -/
def acceptorsWordsCard : Claim7 := { stood := { row := acceptorsWordsRow, standIns := [], harness := (true, "91ba22267624e71839f2d2ac4aa1cd079d7bffcf3187cdb79ca2e7cf29b2fb66"), looks := true }, kinds := [], alts := [], laidByText := true, laidKinds := [.data, .data, .data, .data, .sentinel, .sentinel, .pinned], laidTests := true, laidLooks := .later }
def AcceptorsWordsCardSaid : Prop := Claim7.holds Tryd.pinned (.plain (OpenSpec.ofChange acceptorsWordsSpec)) acceptorsWordsCard

/-- THE SECOND FORM's CARD OF 'gauntletlaw23.AcceptorsNames'. -/
def acceptorsNamesUptoCard : Claim7 := { stood := { row := acceptorsNamesUptoRow, standIns := [], harness := (true, "91ba22267624e71839f2d2ac4aa1cd079d7bffcf3187cdb79ca2e7cf29b2fb66"), looks := true }, kinds := [], alts := [], laidByText := true, laidKinds := [.data, .data, .data, .data, .sentinel, .sentinel, .pinned], laidTests := true, laidLooks := .later }
def AcceptorsNamesUptoCardSaid : Prop := Claim7.holds Tryd.pinned (.plain (OpenSpec.upto acceptorsNamesSpec)) acceptorsNamesUptoCard

/-- THE SECOND FORM's CARD OF 'gauntletlaw23.AcceptorsText'. -/
def acceptorsTextUptoCard : Claim7 := { stood := { row := acceptorsTextUptoRow, standIns := [], harness := (true, "91ba22267624e71839f2d2ac4aa1cd079d7bffcf3187cdb79ca2e7cf29b2fb66"), looks := true }, kinds := [], alts := [], laidByText := true, laidKinds := [.data, .data, .data, .data, .sentinel, .sentinel, .pinned], laidTests := true, laidLooks := .later }
def AcceptorsTextUptoCardSaid : Prop := Claim7.holds Tryd.pinned (.plain (OpenSpec.upto acceptorsTextSpec)) acceptorsTextUptoCard

/-- THE SECOND FORM's CARD OF 'gauntletlaw23.AcceptorsParse'. -/
def acceptorsParseUptoCard : Claim7 := { stood := { row := acceptorsParseUptoRow, standIns := [], harness := (true, "91ba22267624e71839f2d2ac4aa1cd079d7bffcf3187cdb79ca2e7cf29b2fb66"), looks := true }, kinds := [], alts := [], laidByText := true, laidKinds := [.data, .data, .data, .data, .sentinel, .sentinel, .pinned], laidTests := true, laidLooks := .later }
def AcceptorsParseUptoCardSaid : Prop := Claim7.holds Tryd.pinned (.plain (OpenSpec.upto acceptorsParseSpec)) acceptorsParseUptoCard

/-- THE SECOND FORM's CARD OF 'gauntletlaw23.AcceptorsSets'. -/
def acceptorsSetsUptoCard : Claim7 := { stood := { row := acceptorsSetsUptoRow, standIns := [], harness := (true, "91ba22267624e71839f2d2ac4aa1cd079d7bffcf3187cdb79ca2e7cf29b2fb66"), looks := true }, kinds := [], alts := [], laidByText := true, laidKinds := [.data, .data, .data, .data, .sentinel, .sentinel, .pinned], laidTests := true, laidLooks := .later }
def AcceptorsSetsUptoCardSaid : Prop := Claim7.holds Tryd.pinned (.plain (OpenSpec.upto acceptorsSetsSpec)) acceptorsSetsUptoCard

/-- THE SECOND FORM's CARD OF 'gauntletlaw23.AcceptorsMinimal'. -/
def acceptorsMinimalUptoCard : Claim7 := { stood := { row := acceptorsMinimalUptoRow, standIns := [], harness := (true, "91ba22267624e71839f2d2ac4aa1cd079d7bffcf3187cdb79ca2e7cf29b2fb66"), looks := true }, kinds := [], alts := [], laidByText := true, laidKinds := [.data, .data, .data, .data, .sentinel, .sentinel, .pinned], laidTests := true, laidLooks := .later }
def AcceptorsMinimalUptoCardSaid : Prop := Claim7.holds Tryd.pinned (.plain (OpenSpec.upto acceptorsMinimalSpec)) acceptorsMinimalUptoCard

/-- THE SECOND FORM's CARD OF 'gauntletlaw23.AcceptorsWords'. -/
def acceptorsWordsUptoCard : Claim7 := { stood := { row := acceptorsWordsUptoRow, standIns := [], harness := (true, "91ba22267624e71839f2d2ac4aa1cd079d7bffcf3187cdb79ca2e7cf29b2fb66"), looks := true }, kinds := [], alts := [], laidByText := true, laidKinds := [.data, .data, .data, .data, .sentinel, .sentinel, .pinned], laidTests := true, laidLooks := .later }
def AcceptorsWordsUptoCardSaid : Prop := Claim7.holds Tryd.pinned (.plain (OpenSpec.upto acceptorsWordsSpec)) acceptorsWordsUptoCard
end Rows
end Go.Proofs.YtcoakjnmnommpaaDoor
