/-
  DERIVED. GIVEN WITH THE SEED: THE CARDS: each row of YtjoldnonnjleoaaDoorRows.lean that lists a variable, with what it lists TIED to the program's text (the seventh form; the later family's looks); each row that meets fmt, with fmt's text TOLD by the authors' own Lean function (tested against real Go, not proved from fmt's source: count such statements apart). THE CARD IS WHAT COUNTS. Prove the row's statement (the work); the ties are given (YtjoldnonnjleoaaDoorTie.lean); close each card by the builder's one call (the guide's Derived/Test/ToyasCard.lean, 'card_holds'). Laid BY PROGRAM, IN A SANDBOX (cutbox-door.mjs). By AI agents, Wed Nov 11 2026. No macro, syntax, notation, axiom, sorry.
-/
import Derived.Test.YtjoldnonnjleoaaDoorRows
import GoSem.ClaimSeven
namespace Go.Proofs.YtjoldnonnjleoaaDoor
namespace Rows

/-- THE TIED CARD OF 'gauntletlaw01.WordsCompare'. -/
def wordsCompareCard : Claim7 := { stood := { row := wordsCompareRow, standIns := [], harness := (true, "55d5a41889db73496d44117fdd812056dfcd927ce8a50afb72c6aaa6c885d939"), looks := true }, kinds := [], alts := [], laidByText := true, laidKinds := [.data, .data, .data, .data, .sentinel, .sentinel, .pinned], laidTests := true, laidLooks := .later }
def WordsCompareCardSaid : Prop := Claim7.holds Tryd.pinned (.plain (OpenSpec.ofChange wordsCompareSpec)) wordsCompareCard

/-- THE TIED CARD OF 'gauntletlaw01.WordsNext'. -/
def wordsNextCard : Claim7 := { stood := { row := wordsNextRow, standIns := [], harness := (true, "55d5a41889db73496d44117fdd812056dfcd927ce8a50afb72c6aaa6c885d939"), looks := true }, kinds := [], alts := [], laidByText := true, laidKinds := [.data, .data, .data, .data, .sentinel, .sentinel, .pinned], laidTests := true, laidLooks := .later }
def WordsNextCardSaid : Prop := Claim7.holds Tryd.pinned (.plain (OpenSpec.ofChange wordsNextSpec)) wordsNextCard

/-- THE TIED CARD OF 'gauntletlaw01.WordsRank'. -/
def wordsRankCard : Claim7 := { stood := { row := wordsRankRow, standIns := [], harness := (true, "55d5a41889db73496d44117fdd812056dfcd927ce8a50afb72c6aaa6c885d939"), looks := true }, kinds := [], alts := [], laidByText := true, laidKinds := [.data, .data, .data, .data, .sentinel, .sentinel, .pinned], laidTests := true, laidLooks := .later }
def WordsRankCardSaid : Prop := Claim7.holds Tryd.pinned (.plain (OpenSpec.ofChange wordsRankSpec)) wordsRankCard

/-- THE TIED CARD OF 'gauntletlaw01.WordsRaw'. -/
def wordsRawCard : Claim7 := { stood := { row := wordsRawRow, standIns := [], harness := (true, "55d5a41889db73496d44117fdd812056dfcd927ce8a50afb72c6aaa6c885d939"), looks := true }, kinds := [], alts := [], laidByText := true, laidKinds := [.data, .data, .data, .data, .sentinel, .sentinel, .pinned], laidTests := true, laidLooks := .later }
def WordsRawCardSaid : Prop := Claim7.holds Tryd.pinned (.plain (OpenSpec.ofChange wordsRawSpec)) wordsRawCard

/-- THE TIED CARD OF 'gauntletlaw01.WordsText'. -/
def wordsTextCard : Claim7 := { stood := { row := wordsTextRow, standIns := [], harness := (true, "55d5a41889db73496d44117fdd812056dfcd927ce8a50afb72c6aaa6c885d939"), looks := true }, kinds := [], alts := [], laidByText := true, laidKinds := [.data, .data, .data, .data, .sentinel, .sentinel, .pinned], laidTests := true, laidLooks := .later }
def WordsTextCardSaid : Prop := Claim7.holds Tryd.pinned (.plain (OpenSpec.ofChange wordsTextSpec)) wordsTextCard

/-- THE TIED CARD OF 'gauntletlaw01.WordsCheck'. -/
def wordsCheckCard : Claim7 := { stood := { row := wordsCheckRow, standIns := [], harness := (true, "55d5a41889db73496d44117fdd812056dfcd927ce8a50afb72c6aaa6c885d939"), looks := true }, kinds := [], alts := [], laidByText := true, laidKinds := [.data, .data, .data, .data, .sentinel, .sentinel, .pinned], laidTests := true, laidLooks := .later }
def WordsCheckCardSaid : Prop := Claim7.holds Tryd.pinned (.plain (OpenSpec.ofChange wordsCheckSpec)) wordsCheckCard

/-- THE TIED CARD OF 'gauntletlaw01.WordsConcat'. -/
def wordsConcatCard : Claim7 := { stood := { row := wordsConcatRow, standIns := [], harness := (true, "55d5a41889db73496d44117fdd812056dfcd927ce8a50afb72c6aaa6c885d939"), looks := true }, kinds := [], alts := [], laidByText := true, laidKinds := [.data, .data, .data, .data, .sentinel, .sentinel, .pinned], laidTests := true, laidLooks := .later }
def WordsConcatCardSaid : Prop := Claim7.holds Tryd.pinned (.plain (OpenSpec.ofChange wordsConcatSpec)) wordsConcatCard

/-- THE TIED CARD OF 'gauntletlaw01.WordsKnown'. -/
def wordsKnownCard : Claim7 := { stood := { row := wordsKnownRow, standIns := [], harness := (true, "55d5a41889db73496d44117fdd812056dfcd927ce8a50afb72c6aaa6c885d939"), looks := true }, kinds := [], alts := [], laidByText := true, laidKinds := [.data, .data, .data, .data, .sentinel, .sentinel, .pinned], laidTests := true, laidLooks := .later }
def WordsKnownCardSaid : Prop := Claim7.holds Tryd.pinned (.plain (OpenSpec.ofChange wordsKnownSpec)) wordsKnownCard

/-- THE SECOND FORM's CARD OF 'gauntletlaw01.WordsCompare'. -/
def wordsCompareUptoCard : Claim7 := { stood := { row := wordsCompareUptoRow, standIns := [], harness := (true, "55d5a41889db73496d44117fdd812056dfcd927ce8a50afb72c6aaa6c885d939"), looks := true }, kinds := [], alts := [], laidByText := true, laidKinds := [.data, .data, .data, .data, .sentinel, .sentinel, .pinned], laidTests := true, laidLooks := .later }
def WordsCompareUptoCardSaid : Prop := Claim7.holds Tryd.pinned (.plain (OpenSpec.upto wordsCompareSpec)) wordsCompareUptoCard

/-- THE SECOND FORM's CARD OF 'gauntletlaw01.WordsNext'. -/
def wordsNextUptoCard : Claim7 := { stood := { row := wordsNextUptoRow, standIns := [], harness := (true, "55d5a41889db73496d44117fdd812056dfcd927ce8a50afb72c6aaa6c885d939"), looks := true }, kinds := [], alts := [], laidByText := true, laidKinds := [.data, .data, .data, .data, .sentinel, .sentinel, .pinned], laidTests := true, laidLooks := .later }
def WordsNextUptoCardSaid : Prop := Claim7.holds Tryd.pinned (.plain (OpenSpec.upto wordsNextSpec)) wordsNextUptoCard

/-- THE SECOND FORM's CARD OF 'gauntletlaw01.WordsRank'. -/
def wordsRankUptoCard : Claim7 := { stood := { row := wordsRankUptoRow, standIns := [], harness := (true, "55d5a41889db73496d44117fdd812056dfcd927ce8a50afb72c6aaa6c885d939"), looks := true }, kinds := [], alts := [], laidByText := true, laidKinds := [.data, .data, .data, .data, .sentinel, .sentinel, .pinned], laidTests := true, laidLooks := .later }
def WordsRankUptoCardSaid : Prop := Claim7.holds Tryd.pinned (.plain (OpenSpec.upto wordsRankSpec)) wordsRankUptoCard

/-- THE SECOND FORM's CARD OF 'gauntletlaw01.WordsRaw'. -/
def wordsRawUptoCard : Claim7 := { stood := { row := wordsRawUptoRow, standIns := [], harness := (true, "55d5a41889db73496d44117fdd812056dfcd927ce8a50afb72c6aaa6c885d939"), looks := true }, kinds := [], alts := [], laidByText := true, laidKinds := [.data, .data, .data, .data, .sentinel, .sentinel, .pinned], laidTests := true, laidLooks := .later }
def WordsRawUptoCardSaid : Prop := Claim7.holds Tryd.pinned (.plain (OpenSpec.upto wordsRawSpec)) wordsRawUptoCard

/-- THE SECOND FORM's CARD OF 'gauntletlaw01.WordsText'. -/
def wordsTextUptoCard : Claim7 := { stood := { row := wordsTextUptoRow, standIns := [], harness := (true, "55d5a41889db73496d44117fdd812056dfcd927ce8a50afb72c6aaa6c885d939"), looks := true }, kinds := [], alts := [], laidByText := true, laidKinds := [.data, .data, .data, .data, .sentinel, .sentinel, .pinned], laidTests := true, laidLooks := .later }
def WordsTextUptoCardSaid : Prop := Claim7.holds Tryd.pinned (.plain (OpenSpec.upto wordsTextSpec)) wordsTextUptoCard

/-- THE SECOND FORM's CARD OF 'gauntletlaw01.WordsCheck'. -/
def wordsCheckUptoCard : Claim7 := { stood := { row := wordsCheckUptoRow, standIns := [], harness := (true, "55d5a41889db73496d44117fdd812056dfcd927ce8a50afb72c6aaa6c885d939"), looks := true }, kinds := [], alts := [], laidByText := true, laidKinds := [.data, .data, .data, .data, .sentinel, .sentinel, .pinned], laidTests := true, laidLooks := .later }
def WordsCheckUptoCardSaid : Prop := Claim7.holds Tryd.pinned (.plain (OpenSpec.upto wordsCheckSpec)) wordsCheckUptoCard

/-- THE SECOND FORM's CARD OF 'gauntletlaw01.WordsConcat'. -/
def wordsConcatUptoCard : Claim7 := { stood := { row := wordsConcatUptoRow, standIns := [], harness := (true, "55d5a41889db73496d44117fdd812056dfcd927ce8a50afb72c6aaa6c885d939"), looks := true }, kinds := [], alts := [], laidByText := true, laidKinds := [.data, .data, .data, .data, .sentinel, .sentinel, .pinned], laidTests := true, laidLooks := .later }
def WordsConcatUptoCardSaid : Prop := Claim7.holds Tryd.pinned (.plain (OpenSpec.upto wordsConcatSpec)) wordsConcatUptoCard

/-- THE SECOND FORM's CARD OF 'gauntletlaw01.WordsKnown'. -/
def wordsKnownUptoCard : Claim7 := { stood := { row := wordsKnownUptoRow, standIns := [], harness := (true, "55d5a41889db73496d44117fdd812056dfcd927ce8a50afb72c6aaa6c885d939"), looks := true }, kinds := [], alts := [], laidByText := true, laidKinds := [.data, .data, .data, .data, .sentinel, .sentinel, .pinned], laidTests := true, laidLooks := .later }
def WordsKnownUptoCardSaid : Prop := Claim7.holds Tryd.pinned (.plain (OpenSpec.upto wordsKnownSpec)) wordsKnownUptoCard
end Rows
end Go.Proofs.YtjoldnonnjleoaaDoor
