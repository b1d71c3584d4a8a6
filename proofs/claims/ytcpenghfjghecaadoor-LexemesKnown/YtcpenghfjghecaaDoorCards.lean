/-
  DERIVED. GIVEN WITH THE SEED: THE CARDS: each row of YtcpenghfjghecaaDoorRows.lean that lists a variable, with what it lists TIED to the program's text (the seventh form; the later family's looks); each row that meets fmt, with fmt's text TOLD by the authors' own Lean function (tested against real Go, not proved from fmt's source: count such statements apart). THE CARD IS WHAT COUNTS. Prove the row's statement (the work); the ties are given (YtcpenghfjghecaaDoorTie.lean); close each card by the builder's one call (the guide's Derived/Test/ToyasCard.lean, 'card_holds'). Laid BY PROGRAM, IN A SANDBOX (cutbox-door.mjs). By AI agents, Wed Nov 11 2026. No macro, syntax, notation, axiom, sorry.
-/
import Derived.Test.YtcpenghfjghecaaDoorRows
import GoSem.ClaimSeven
namespace Go.Proofs.YtcpenghfjghecaaDoor
namespace Rows

/-- THE TIED CARD OF 'gauntletlaw03.LexemesOf'. -/
def lexemesOfCard : Claim7 := { stood := { row := lexemesOfRow, standIns := [], harness := (true, "8cbb319528681ecaad954f5f051e913dba663b7b86ab79e75a6dc88fe0834823"), looks := true }, kinds := [], alts := [], laidByText := true, laidKinds := [.data, .data, .data, .data, .sentinel, .sentinel, .data, .pinned], laidTests := true, laidLooks := .later }
def LexemesOfCardSaid : Prop := Claim7.holds Tryd.pinned (.plain (OpenSpec.ofChange lexemesOfSpec)) lexemesOfCard

/-- THE TIED CARD OF 'gauntletlaw03.LexemesPlaces'. -/
def lexemesPlacesCard : Claim7 := { stood := { row := lexemesPlacesRow, standIns := [], harness := (true, "8cbb319528681ecaad954f5f051e913dba663b7b86ab79e75a6dc88fe0834823"), looks := true }, kinds := [], alts := [], laidByText := true, laidKinds := [.data, .data, .data, .data, .sentinel, .sentinel, .data, .pinned], laidTests := true, laidLooks := .later }
def LexemesPlacesCardSaid : Prop := Claim7.holds Tryd.pinned (.plain (OpenSpec.ofChange lexemesPlacesSpec)) lexemesPlacesCard

/-- THE TIED CARD OF 'gauntletlaw03.LexemesGlue'. -/
def lexemesGlueCard : Claim7 := { stood := { row := lexemesGlueRow, standIns := [], harness := (true, "8cbb319528681ecaad954f5f051e913dba663b7b86ab79e75a6dc88fe0834823"), looks := true }, kinds := [], alts := [], laidByText := true, laidKinds := [.data, .data, .data, .data, .sentinel, .sentinel, .data, .pinned], laidTests := true, laidLooks := .later }
def LexemesGlueCardSaid : Prop := Claim7.holds Tryd.pinned (.plain (OpenSpec.ofChange lexemesGlueSpec)) lexemesGlueCard

/-- THE TIED CARD OF 'gauntletlaw03.LexemesKnown'. -/
def lexemesKnownCard : Claim7 := { stood := { row := lexemesKnownRow, standIns := [], harness := (true, "8cbb319528681ecaad954f5f051e913dba663b7b86ab79e75a6dc88fe0834823"), looks := true }, kinds := [], alts := [], laidByText := true, laidKinds := [.data, .data, .data, .data, .sentinel, .sentinel, .data, .pinned], laidTests := true, laidLooks := .later }
def LexemesKnownCardSaid : Prop := Claim7.holds Tryd.pinned (.plain (OpenSpec.ofChange lexemesKnownSpec)) lexemesKnownCard

/-- THE TIED CARD OF 'gauntletlaw03.LexemesText'. -/
def lexemesTextCard : Claim7 := { stood := { row := lexemesTextRow, standIns := [], harness := (true, "8cbb319528681ecaad954f5f051e913dba663b7b86ab79e75a6dc88fe0834823"), looks := true }, kinds := [], alts := [], laidByText := true, laidKinds := [.data, .data, .data, .data, .sentinel, .sentinel, .data, .pinned], laidTests := true, laidLooks := .later }
def LexemesTextCardSaid : Prop := Claim7.holds Tryd.pinned (.plain (OpenSpec.ofChange lexemesTextSpec)) lexemesTextCard

/-- THE TIED CARD OF 'gauntletlaw03.LexemesSame'. -/
def lexemesSameCard : Claim7 := { stood := { row := lexemesSameRow, standIns := [], harness := (true, "8cbb319528681ecaad954f5f051e913dba663b7b86ab79e75a6dc88fe0834823"), looks := true }, kinds := [], alts := [], laidByText := true, laidKinds := [.data, .data, .data, .data, .sentinel, .sentinel, .data, .pinned], laidTests := true, laidLooks := .later }
def LexemesSameCardSaid : Prop := Claim7.holds Tryd.pinned (.plain (OpenSpec.ofChange lexemesSameSpec)) lexemesSameCard

/-- THE SECOND FORM's CARD OF 'gauntletlaw03.LexemesOf'. -/
def lexemesOfUptoCard : Claim7 := { stood := { row := lexemesOfUptoRow, standIns := [], harness := (true, "8cbb319528681ecaad954f5f051e913dba663b7b86ab79e75a6dc88fe0834823"), looks := true }, kinds := [], alts := [], laidByText := true, laidKinds := [.data, .data, .data, .data, .sentinel, .sentinel, .data, .pinned], laidTests := true, laidLooks := .later }
def LexemesOfUptoCardSaid : Prop := Claim7.holds Tryd.pinned (.plain (OpenSpec.upto lexemesOfSpec)) lexemesOfUptoCard

/-- THE SECOND FORM's CARD OF 'gauntletlaw03.LexemesPlaces'. -/
def lexemesPlacesUptoCard : Claim7 := { stood := { row := lexemesPlacesUptoRow, standIns := [], harness := (true, "8cbb319528681ecaad954f5f051e913dba663b7b86ab79e75a6dc88fe0834823"), looks := true }, kinds := [], alts := [], laidByText := true, laidKinds := [.data, .data, .data, .data, .sentinel, .sentinel, .data, .pinned], laidTests := true, laidLooks := .later }
def LexemesPlacesUptoCardSaid : Prop := Claim7.holds Tryd.pinned (.plain (OpenSpec.upto lexemesPlacesSpec)) lexemesPlacesUptoCard

/-- THE SECOND FORM's CARD OF 'gauntletlaw03.LexemesGlue'. -/
def lexemesGlueUptoCard : Claim7 := { stood := { row := lexemesGlueUptoRow, standIns := [], harness := (true, "8cbb319528681ecaad954f5f051e913dba663b7b86ab79e75a6dc88fe0834823"), looks := true }, kinds := [], alts := [], laidByText := true, laidKinds := [.data, .data, .data, .data, .sentinel, .sentinel, .data, .pinned], laidTests := true, laidLooks := .later }
def LexemesGlueUptoCardSaid : Prop := Claim7.holds Tryd.pinned (.plain (OpenSpec.upto lexemesGlueSpec)) lexemesGlueUptoCard

/-- THE SECOND FORM's CARD OF 'gauntletlaw03.LexemesKnown'. -/
def lexemesKnownUptoCard : Claim7 := { stood := { row := lexemesKnownUptoRow, standIns := [], harness := (true, "8cbb319528681ecaad954f5f051e913dba663b7b86ab79e75a6dc88fe0834823"), looks := true }, kinds := [], alts := [], laidByText := true, laidKinds := [.data, .data, .data, .data, .sentinel, .sentinel, .data, .pinned], laidTests := true, laidLooks := .later }
def LexemesKnownUptoCardSaid : Prop := Claim7.holds Tryd.pinned (.plain (OpenSpec.upto lexemesKnownSpec)) lexemesKnownUptoCard

/-- THE SECOND FORM's CARD OF 'gauntletlaw03.LexemesText'. -/
def lexemesTextUptoCard : Claim7 := { stood := { row := lexemesTextUptoRow, standIns := [], harness := (true, "8cbb319528681ecaad954f5f051e913dba663b7b86ab79e75a6dc88fe0834823"), looks := true }, kinds := [], alts := [], laidByText := true, laidKinds := [.data, .data, .data, .data, .sentinel, .sentinel, .data, .pinned], laidTests := true, laidLooks := .later }
def LexemesTextUptoCardSaid : Prop := Claim7.holds Tryd.pinned (.plain (OpenSpec.upto lexemesTextSpec)) lexemesTextUptoCard

/-- THE SECOND FORM's CARD OF 'gauntletlaw03.LexemesSame'. -/
def lexemesSameUptoCard : Claim7 := { stood := { row := lexemesSameUptoRow, standIns := [], harness := (true, "8cbb319528681ecaad954f5f051e913dba663b7b86ab79e75a6dc88fe0834823"), looks := true }, kinds := [], alts := [], laidByText := true, laidKinds := [.data, .data, .data, .data, .sentinel, .sentinel, .data, .pinned], laidTests := true, laidLooks := .later }
def LexemesSameUptoCardSaid : Prop := Claim7.holds Tryd.pinned (.plain (OpenSpec.upto lexemesSameSpec)) lexemesSameUptoCard
end Rows
end Go.Proofs.YtcpenghfjghecaaDoor
