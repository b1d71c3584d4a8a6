/-
  DERIVED. GIVEN WITH THE SEED: THE CARDS: each row of YtlpjemobbjijdaaGreatDoorRows.lean that lists a variable, with what it lists TIED to the program's text (the seventh form; the later family's looks); each row that meets fmt, with fmt's text TOLD by the authors' own Lean function (tested against real Go, not proved from fmt's source: count such statements apart). THE CARD IS WHAT COUNTS. Prove the row's statement (the work); the ties are given (YtlpjemobbjijdaaGreatDoorTie.lean); close each card by the builder's one call (the guide's Derived/Test/ToyasCard.lean, 'card_holds'). Laid BY PROGRAM, IN A SANDBOX (cutbox-door.mjs). By AI agents, Wed Nov 11 2026. No macro, syntax, notation, axiom, sorry.
-/
import Derived.Test.YtlpjemobbjijdaaGreatDoorRows
import GoSem.ClaimSeven
namespace Go.Proofs.YtlpjemobbjijdaaGreatDoor
namespace Rows

/-- THE TIED CARD OF 'gauntletlaw05.SpecsCheck'. -/
def specsCheckCard : Claim7 := { stood := { row := specsCheckRow, standIns := [], harness := (true, "480965f791bf9564e64e0f2450405549a3f02fe585192cc85a6e8abebaf390ec"), looks := true }, kinds := [], alts := [], laidByText := true, laidKinds := [.data, .data, .pinned], laidTests := true, laidLooks := .later }
def SpecsCheckCardSaid : Prop := Claim7.holds Tryz.pinned (.plain (OpenSpec.ofChange specsCheckSpec)) specsCheckCard

/-- THE TIED CARD OF 'gauntletlaw05.SpecsText'. -/
def specsTextCard : Claim7 := { stood := { row := specsTextRow, standIns := [], harness := (true, "480965f791bf9564e64e0f2450405549a3f02fe585192cc85a6e8abebaf390ec"), looks := true }, kinds := [], alts := [], laidByText := true, laidKinds := [.data, .data, .pinned], laidTests := true, laidLooks := .later }
def SpecsTextCardSaid : Prop := Claim7.holds Tryz.pinned (.plain (OpenSpec.ofChange specsTextSpec)) specsTextCard

/-- THE TIED CARD OF 'gauntletlaw05.SpecsParse'. -/
def specsParseCard : Claim7 := { stood := { row := specsParseRow, standIns := [], harness := (true, "480965f791bf9564e64e0f2450405549a3f02fe585192cc85a6e8abebaf390ec"), looks := true }, kinds := [], alts := [], laidByText := true, laidKinds := [.data, .data, .pinned], laidTests := true, laidLooks := .later }
def SpecsParseCardSaid : Prop := Claim7.holds Tryz.pinned (.plain (OpenSpec.ofChange specsParseSpec)) specsParseCard

/-- THE TIED CARD OF 'gauntletlaw05.SpecsOrder'. -/
def specsOrderCard : Claim7 := { stood := { row := specsOrderRow, standIns := [], harness := (true, "480965f791bf9564e64e0f2450405549a3f02fe585192cc85a6e8abebaf390ec"), looks := true }, kinds := [], alts := [], laidByText := true, laidKinds := [.data, .data, .pinned], laidTests := true, laidLooks := .later }
def SpecsOrderCardSaid : Prop := Claim7.holds Tryz.pinned (.plain (OpenSpec.ofChange specsOrderSpec)) specsOrderCard

/-- THE TIED CARD OF 'gauntletlaw05.SpecsWords'. -/
def specsWordsCard : Claim7 := { stood := { row := specsWordsRow, standIns := [], harness := (true, "480965f791bf9564e64e0f2450405549a3f02fe585192cc85a6e8abebaf390ec"), looks := true }, kinds := [], alts := [], laidByText := true, laidKinds := [.data, .data, .pinned], laidTests := true, laidLooks := .later }
def SpecsWordsCardSaid : Prop := Claim7.holds Tryz.pinned (.plain (OpenSpec.ofChange specsWordsSpec)) specsWordsCard

/-- THE TIED CARD OF 'gauntletlaw05.SpecsOuts'. -/
def specsOutsCard : Claim7 := { stood := { row := specsOutsRow, standIns := [], harness := (true, "480965f791bf9564e64e0f2450405549a3f02fe585192cc85a6e8abebaf390ec"), looks := true }, kinds := [], alts := [], laidByText := true, laidKinds := [.data, .data, .pinned], laidTests := true, laidLooks := .later }
def SpecsOutsCardSaid : Prop := Claim7.holds Tryz.pinned (.plain (OpenSpec.ofChange specsOutsSpec)) specsOutsCard

/-- THE TIED CARD OF 'gauntletlaw05.SpecsKnown'. -/
def specsKnownCard : Claim7 := { stood := { row := specsKnownRow, standIns := [], harness := (true, "480965f791bf9564e64e0f2450405549a3f02fe585192cc85a6e8abebaf390ec"), looks := true }, kinds := [], alts := [], laidByText := true, laidKinds := [.data, .data, .pinned], laidTests := true, laidLooks := .later }
def SpecsKnownCardSaid : Prop := Claim7.holds Tryz.pinned (.plain (OpenSpec.ofChange specsKnownSpec)) specsKnownCard

/-- THE SECOND FORM's CARD OF 'gauntletlaw05.SpecsCheck'. -/
def specsCheckUptoCard : Claim7 := { stood := { row := specsCheckUptoRow, standIns := [], harness := (true, "480965f791bf9564e64e0f2450405549a3f02fe585192cc85a6e8abebaf390ec"), looks := true }, kinds := [], alts := [], laidByText := true, laidKinds := [.data, .data, .pinned], laidTests := true, laidLooks := .later }
def SpecsCheckUptoCardSaid : Prop := Claim7.holds Tryz.pinned (.plain (OpenSpec.upto specsCheckSpec)) specsCheckUptoCard

/-- THE SECOND FORM's CARD OF 'gauntletlaw05.SpecsText'. -/
def specsTextUptoCard : Claim7 := { stood := { row := specsTextUptoRow, standIns := [], harness := (true, "480965f791bf9564e64e0f2450405549a3f02fe585192cc85a6e8abebaf390ec"), looks := true }, kinds := [], alts := [], laidByText := true, laidKinds := [.data, .data, .pinned], laidTests := true, laidLooks := .later }
def SpecsTextUptoCardSaid : Prop := Claim7.holds Tryz.pinned (.plain (OpenSpec.upto specsTextSpec)) specsTextUptoCard

/-- THE SECOND FORM's CARD OF 'gauntletlaw05.SpecsParse'. -/
def specsParseUptoCard : Claim7 := { stood := { row := specsParseUptoRow, standIns := [], harness := (true, "480965f791bf9564e64e0f2450405549a3f02fe585192cc85a6e8abebaf390ec"), looks := true }, kinds := [], alts := [], laidByText := true, laidKinds := [.data, .data, .pinned], laidTests := true, laidLooks := .later }
def SpecsParseUptoCardSaid : Prop := Claim7.holds Tryz.pinned (.plain (OpenSpec.upto specsParseSpec)) specsParseUptoCard

/-- THE SECOND FORM's CARD OF 'gauntletlaw05.SpecsOrder'. -/
def specsOrderUptoCard : Claim7 := { stood := { row := specsOrderUptoRow, standIns := [], harness := (true, "480965f791bf9564e64e0f2450405549a3f02fe585192cc85a6e8abebaf390ec"), looks := true }, kinds := [], alts := [], laidByText := true, laidKinds := [.data, .data, .pinned], laidTests := true, laidLooks := .later }
def SpecsOrderUptoCardSaid : Prop := Claim7.holds Tryz.pinned (.plain (OpenSpec.upto specsOrderSpec)) specsOrderUptoCard

/-- THE SECOND FORM's CARD OF 'gauntletlaw05.SpecsWords'. -/
def specsWordsUptoCard : Claim7 := { stood := { row := specsWordsUptoRow, standIns := [], harness := (true, "480965f791bf9564e64e0f2450405549a3f02fe585192cc85a6e8abebaf390ec"), looks := true }, kinds := [], alts := [], laidByText := true, laidKinds := [.data, .data, .pinned], laidTests := true, laidLooks := .later }
def SpecsWordsUptoCardSaid : Prop := Claim7.holds Tryz.pinned (.plain (OpenSpec.upto specsWordsSpec)) specsWordsUptoCard

/-- THE SECOND FORM's CARD OF 'gauntletlaw05.SpecsOuts'. -/
def specsOutsUptoCard : Claim7 := { stood := { row := specsOutsUptoRow, standIns := [], harness := (true, "480965f791bf9564e64e0f2450405549a3f02fe585192cc85a6e8abebaf390ec"), looks := true }, kinds := [], alts := [], laidByText := true, laidKinds := [.data, .data, .pinned], laidTests := true, laidLooks := .later }
def SpecsOutsUptoCardSaid : Prop := Claim7.holds Tryz.pinned (.plain (OpenSpec.upto specsOutsSpec)) specsOutsUptoCard

/-- THE SECOND FORM's CARD OF 'gauntletlaw05.SpecsKnown'. -/
def specsKnownUptoCard : Claim7 := { stood := { row := specsKnownUptoRow, standIns := [], harness := (true, "480965f791bf9564e64e0f2450405549a3f02fe585192cc85a6e8abebaf390ec"), looks := true }, kinds := [], alts := [], laidByText := true, laidKinds := [.data, .data, .pinned], laidTests := true, laidLooks := .later }
def SpecsKnownUptoCardSaid : Prop := Claim7.holds Tryz.pinned (.plain (OpenSpec.upto specsKnownSpec)) specsKnownUptoCard
end Rows
end Go.Proofs.YtlpjemobbjijdaaGreatDoor
