/-
  NARROWER THAN 'FOR EVERY INPUT', by the rows' own cells (each row's printed sentence says how): SpecsCheck: laid · SpecsText: laid · SpecsParse: laid · SpecsOrder: laid · SpecsWords: laid · SpecsOuts: laid · SpecsKnown: laid.
  DERIVED. THE GIVEN ROWS OF THIS SEAT. 7 by the template 'for every input the law returns true; each argument reads behind the call as it read before'; 0 by the template 'total and deterministic' (their statements: YtlpjemobbjijdaaGreatDoorTotals.lean).
  GIVEN WITH THE SEED: the statements are not yours to turn. If you find one false, say at which input.
  Laid BY PROGRAM, IN A SANDBOX (cutbox-rows.mjs): the forced cells as the released guide's own fill.sh prints them over the translation cf4f6f260211b581… (all of the seat's roots in one cut). By AI agents, Wed Nov 11 2026. No macro, syntax, notation, axiom, sorry.
-/
import Derived.Test.YtlpjemobbjijdaaGreatDoorChecked
import GoSem.PinnedTables
import GoSem.Claim
import GoSem.ClaimJoined
import GoSem.ClaimMapViews
import Derived.JoinedTies
import Derived.KernelRfl
namespace Go.Proofs.YtlpjemobbjijdaaGreatDoor
/- THE CELL 'sum', in the pinned program and in every row, IS THE sha256 OF THE DUMP (.gsa) THAT YtlpjemobbjijdaaGreatDoorProg.lean LOADS. Nothing in Lean hashes anything: it is a label: what it is worth is what the hold of that sum in a sandbox is worth. -/
noncomputable def Tryz.pinned : Pinned := { name := "ytlpjemobbjijdaagreatdoor", sum := "cf4f6f260211b5810c4d69723ba2ce1f3efd5b374ab5c46bd2d92dae062f5478", checked := Tryz.checked }
namespace Rows
def none {H : Type} : Left H := { results := [], args := [] }

/- WHAT THE LISTED PACKAGE-LEVEL VARIABLES READ AS WHEN THE CALL BEGINS. Each datum BY PROGRAM (the guide's laid-datum.mjs) off the statement by which the dump's own 'gosem.cut.vars' lays the variable. In a bare row this is a premise. The card (YtlpjemobbjijdaaGreatDoorCards.lean) ties it to the program's text. -/
def laid_unicode_utf8_acceptRanges {H : Type} : DataW H := .agg [.agg [.lit (.int .u8 128), .lit (.int .u8 191)], .agg [.lit (.int .u8 160), .lit (.int .u8 191)], .agg [.lit (.int .u8 128), .lit (.int .u8 159)], .agg [.lit (.int .u8 144), .lit (.int .u8 191)], .agg [.lit (.int .u8 128), .lit (.int .u8 143)], .agg [.lit (.int .u8 0), .lit (.int .u8 0)], .agg [.lit (.int .u8 0), .lit (.int .u8 0)], .agg [.lit (.int .u8 0), .lit (.int .u8 0)], .agg [.lit (.int .u8 0), .lit (.int .u8 0)], .agg [.lit (.int .u8 0), .lit (.int .u8 0)], .agg [.lit (.int .u8 0), .lit (.int .u8 0)], .agg [.lit (.int .u8 0), .lit (.int .u8 0)], .agg [.lit (.int .u8 0), .lit (.int .u8 0)], .agg [.lit (.int .u8 0), .lit (.int .u8 0)], .agg [.lit (.int .u8 0), .lit (.int .u8 0)], .agg [.lit (.int .u8 0), .lit (.int .u8 0)]]
def laid_gauntlet_lexemes_pairs {H : Type} : DataW H := .agg [.lit (.string [45, 62]), .lit (.string [60, 61]), .lit (.string [62, 61]), .lit (.string [33, 61]), .lit (.string [58, 61])]
/-- One of Go's own tables, pinned by name: the form's constant. -/
def laid_unicode_utf8_first : DataW Unit := Go.Pinned.utf8First

/-- 'gauntletlaw05.SpecsCheck': WHATEVER THE INPUT: true; the input reads as it did. -/
def specsCheckSpec : ChangeSpec := { name := "specsCheck", fn := fun _ => fun
  | [d] => { results := [.lit (.bool true)], args := [d] }
  | _ => none }
def specsCheckRow : OpenClaim := { program := "ytlpjemobbjijdaagreatdoor", sum := "cf4f6f260211b5810c4d69723ba2ce1f3efd5b374ab5c46bd2d92dae062f5478", func := "gauntlet/gauntletlaw05.SpecsCheck", spec := "specsCheck", inPlace := ["internal/bytealg.IndexByteString", "internal/bytealg.IndexString", "internal/abi.NoEscape", "internal/bytealg.MakeNoZero", "internal/bytealg.CountString"], unfollowed := true, recurses := true, named := ["unicode/utf8.first", "unicode/utf8.acceptRanges", "gauntlet/lexemes.pairs", "internal/bytealg.MaxLen"], apart := false, laid := [("unicode/utf8.acceptRanges", laid_unicode_utf8_acceptRanges), ("gauntlet/lexemes.pairs", laid_gauntlet_lexemes_pairs), ("unicode/utf8.first", laid_unicode_utf8_first)] }
def SpecsCheckSaid : Prop := specsCheckRow.holds Tryz.pinned (OpenSpec.ofChange specsCheckSpec)

/-- ITS FALSE NEIGHBOUR: 'it returns false'. Refute it at one input. -/
def specsCheckWrong : ChangeSpec := { name := "specsCheck", fn := fun _ => fun
  | [d] => { results := [.lit (.bool false)], args := [d] }
  | _ => none }
def SpecsCheckWrongFalsely : Prop := specsCheckRow.holds Tryz.pinned (OpenSpec.ofChange specsCheckWrong)

/-- 'gauntletlaw05.SpecsText': WHATEVER THE INPUT: true; the input reads as it did. -/
def specsTextSpec : ChangeSpec := { name := "specsText", fn := fun _ => fun
  | [d1, d2] => { results := [.lit (.bool true)], args := [d1, d2] }
  | _ => none }
def specsTextRow : OpenClaim := { program := "ytlpjemobbjijdaagreatdoor", sum := "cf4f6f260211b5810c4d69723ba2ce1f3efd5b374ab5c46bd2d92dae062f5478", func := "gauntlet/gauntletlaw05.SpecsText", spec := "specsText", inPlace := ["internal/bytealg.IndexByteString", "internal/bytealg.IndexString", "internal/abi.NoEscape", "internal/bytealg.MakeNoZero", "internal/bytealg.CountString"], unfollowed := true, recurses := true, named := ["unicode/utf8.first", "unicode/utf8.acceptRanges", "gauntlet/lexemes.pairs", "internal/bytealg.MaxLen"], apart := false, laid := [("unicode/utf8.acceptRanges", laid_unicode_utf8_acceptRanges), ("gauntlet/lexemes.pairs", laid_gauntlet_lexemes_pairs), ("unicode/utf8.first", laid_unicode_utf8_first)] }
def SpecsTextSaid : Prop := specsTextRow.holds Tryz.pinned (OpenSpec.ofChange specsTextSpec)

/-- ITS FALSE NEIGHBOUR: 'it returns false'. Refute it at one input. -/
def specsTextWrong : ChangeSpec := { name := "specsText", fn := fun _ => fun
  | [d1, d2] => { results := [.lit (.bool false)], args := [d1, d2] }
  | _ => none }
def SpecsTextWrongFalsely : Prop := specsTextRow.holds Tryz.pinned (OpenSpec.ofChange specsTextWrong)

/-- 'gauntletlaw05.SpecsParse': WHATEVER THE INPUT: true; the input reads as it did. -/
def specsParseSpec : ChangeSpec := { name := "specsParse", fn := fun _ => fun
  | [d] => { results := [.lit (.bool true)], args := [d] }
  | _ => none }
def specsParseRow : OpenClaim := { program := "ytlpjemobbjijdaagreatdoor", sum := "cf4f6f260211b5810c4d69723ba2ce1f3efd5b374ab5c46bd2d92dae062f5478", func := "gauntlet/gauntletlaw05.SpecsParse", spec := "specsParse", inPlace := ["internal/bytealg.CountString", "internal/bytealg.IndexByteString", "internal/bytealg.IndexString", "internal/abi.NoEscape", "internal/bytealg.MakeNoZero"], unfollowed := true, recurses := true, named := ["internal/bytealg.MaxLen", "unicode/utf8.first", "unicode/utf8.acceptRanges", "gauntlet/lexemes.pairs"], apart := false, laid := [("unicode/utf8.acceptRanges", laid_unicode_utf8_acceptRanges), ("gauntlet/lexemes.pairs", laid_gauntlet_lexemes_pairs), ("unicode/utf8.first", laid_unicode_utf8_first)] }
def SpecsParseSaid : Prop := specsParseRow.holds Tryz.pinned (OpenSpec.ofChange specsParseSpec)

/-- ITS FALSE NEIGHBOUR: 'it returns false'. Refute it at one input. -/
def specsParseWrong : ChangeSpec := { name := "specsParse", fn := fun _ => fun
  | [d] => { results := [.lit (.bool false)], args := [d] }
  | _ => none }
def SpecsParseWrongFalsely : Prop := specsParseRow.holds Tryz.pinned (OpenSpec.ofChange specsParseWrong)

/-- 'gauntletlaw05.SpecsOrder': WHATEVER THE INPUT: true; the input reads as it did. -/
def specsOrderSpec : ChangeSpec := { name := "specsOrder", fn := fun _ => fun
  | [d1, d2, d3] => { results := [.lit (.bool true)], args := [d1, d2, d3] }
  | _ => none }
def specsOrderRow : OpenClaim := { program := "ytlpjemobbjijdaagreatdoor", sum := "cf4f6f260211b5810c4d69723ba2ce1f3efd5b374ab5c46bd2d92dae062f5478", func := "gauntlet/gauntletlaw05.SpecsOrder", spec := "specsOrder", inPlace := ["internal/bytealg.CountString", "internal/bytealg.IndexByteString", "internal/bytealg.IndexString", "internal/abi.NoEscape", "internal/bytealg.MakeNoZero"], unfollowed := true, recurses := true, named := ["internal/bytealg.MaxLen", "unicode/utf8.first", "unicode/utf8.acceptRanges", "gauntlet/lexemes.pairs"], apart := false, laid := [("unicode/utf8.acceptRanges", laid_unicode_utf8_acceptRanges), ("gauntlet/lexemes.pairs", laid_gauntlet_lexemes_pairs), ("unicode/utf8.first", laid_unicode_utf8_first)] }
def SpecsOrderSaid : Prop := specsOrderRow.holds Tryz.pinned (OpenSpec.ofChange specsOrderSpec)

/-- ITS FALSE NEIGHBOUR: 'it returns false'. Refute it at one input. -/
def specsOrderWrong : ChangeSpec := { name := "specsOrder", fn := fun _ => fun
  | [d1, d2, d3] => { results := [.lit (.bool false)], args := [d1, d2, d3] }
  | _ => none }
def SpecsOrderWrongFalsely : Prop := specsOrderRow.holds Tryz.pinned (OpenSpec.ofChange specsOrderWrong)

/-- 'gauntletlaw05.SpecsWords': WHATEVER THE INPUT: true; the input reads as it did. -/
def specsWordsSpec : ChangeSpec := { name := "specsWords", fn := fun _ => fun
  | [d1, d2, d3] => { results := [.lit (.bool true)], args := [d1, d2, d3] }
  | _ => none }
def specsWordsRow : OpenClaim := { program := "ytlpjemobbjijdaagreatdoor", sum := "cf4f6f260211b5810c4d69723ba2ce1f3efd5b374ab5c46bd2d92dae062f5478", func := "gauntlet/gauntletlaw05.SpecsWords", spec := "specsWords", inPlace := ["internal/bytealg.IndexByteString", "internal/bytealg.IndexString", "internal/abi.NoEscape", "internal/bytealg.MakeNoZero", "internal/bytealg.CountString"], unfollowed := true, recurses := true, named := ["unicode/utf8.first", "unicode/utf8.acceptRanges", "gauntlet/lexemes.pairs", "internal/bytealg.MaxLen"], apart := false, laid := [("unicode/utf8.acceptRanges", laid_unicode_utf8_acceptRanges), ("gauntlet/lexemes.pairs", laid_gauntlet_lexemes_pairs), ("unicode/utf8.first", laid_unicode_utf8_first)] }
def SpecsWordsSaid : Prop := specsWordsRow.holds Tryz.pinned (OpenSpec.ofChange specsWordsSpec)

/-- ITS FALSE NEIGHBOUR: 'it returns false'. Refute it at one input. -/
def specsWordsWrong : ChangeSpec := { name := "specsWords", fn := fun _ => fun
  | [d1, d2, d3] => { results := [.lit (.bool false)], args := [d1, d2, d3] }
  | _ => none }
def SpecsWordsWrongFalsely : Prop := specsWordsRow.holds Tryz.pinned (OpenSpec.ofChange specsWordsWrong)

/-- 'gauntletlaw05.SpecsOuts': WHATEVER THE INPUT: true; the input reads as it did. -/
def specsOutsSpec : ChangeSpec := { name := "specsOuts", fn := fun _ => fun
  | [d1, d2, d3] => { results := [.lit (.bool true)], args := [d1, d2, d3] }
  | _ => none }
def specsOutsRow : OpenClaim := { program := "ytlpjemobbjijdaagreatdoor", sum := "cf4f6f260211b5810c4d69723ba2ce1f3efd5b374ab5c46bd2d92dae062f5478", func := "gauntlet/gauntletlaw05.SpecsOuts", spec := "specsOuts", inPlace := ["internal/bytealg.IndexByteString", "internal/bytealg.IndexString", "internal/abi.NoEscape", "internal/bytealg.MakeNoZero", "internal/bytealg.CountString"], unfollowed := true, recurses := true, named := ["unicode/utf8.first", "unicode/utf8.acceptRanges", "gauntlet/lexemes.pairs", "internal/bytealg.MaxLen"], apart := false, laid := [("unicode/utf8.acceptRanges", laid_unicode_utf8_acceptRanges), ("gauntlet/lexemes.pairs", laid_gauntlet_lexemes_pairs), ("unicode/utf8.first", laid_unicode_utf8_first)] }
def SpecsOutsSaid : Prop := specsOutsRow.holds Tryz.pinned (OpenSpec.ofChange specsOutsSpec)

/-- ITS FALSE NEIGHBOUR: 'it returns false'. Refute it at one input. -/
def specsOutsWrong : ChangeSpec := { name := "specsOuts", fn := fun _ => fun
  | [d1, d2, d3] => { results := [.lit (.bool false)], args := [d1, d2, d3] }
  | _ => none }
def SpecsOutsWrongFalsely : Prop := specsOutsRow.holds Tryz.pinned (OpenSpec.ofChange specsOutsWrong)

/-- 'gauntletlaw05.SpecsKnown': WHATEVER THE INPUT: true; the input reads as it did. -/
def specsKnownSpec : ChangeSpec := { name := "specsKnown", fn := fun _ => fun
  | [] => { results := [.lit (.bool true)], args := [] }
  | _ => none }
def specsKnownRow : OpenClaim := { program := "ytlpjemobbjijdaagreatdoor", sum := "cf4f6f260211b5810c4d69723ba2ce1f3efd5b374ab5c46bd2d92dae062f5478", func := "gauntlet/gauntletlaw05.SpecsKnown", spec := "specsKnown", inPlace := ["internal/bytealg.CountString", "internal/bytealg.IndexByteString", "internal/bytealg.IndexString", "internal/abi.NoEscape", "internal/bytealg.MakeNoZero"], unfollowed := true, recurses := true, named := ["internal/bytealg.MaxLen", "unicode/utf8.first", "unicode/utf8.acceptRanges", "gauntlet/lexemes.pairs"], apart := false, laid := [("unicode/utf8.acceptRanges", laid_unicode_utf8_acceptRanges), ("gauntlet/lexemes.pairs", laid_gauntlet_lexemes_pairs), ("unicode/utf8.first", laid_unicode_utf8_first)] }
def SpecsKnownSaid : Prop := specsKnownRow.holds Tryz.pinned (OpenSpec.ofChange specsKnownSpec)

/-- ITS FALSE NEIGHBOUR: 'it returns false'. Refute it at one input. -/
def specsKnownWrong : ChangeSpec := { name := "specsKnown", fn := fun _ => fun
  | [] => { results := [.lit (.bool false)], args := [] }
  | _ => none }
def SpecsKnownWrongFalsely : Prop := specsKnownRow.holds Tryz.pinned (OpenSpec.ofChange specsKnownWrong)

/- THE SECOND FORM. 'bulk': how many values and letters a reading holds, each counted each time it is reached (what is shared counts as often as it is met; a slice's spare places count too). A statement '..UptoSaid' is the law's where the arguments, and the package variables that the reading takes, are together of bulk at most 1048576: NARROWER than '..Said'. Prove '..Said' where nothing that the law and all that it calls make is longer than what came in: it says more and counts as full. Else prove '..UptoSaid'. A law counts once. -/
mutual
def uptoBulk {H : Type} : DataW H → Nat
  | .lit (.string bytes) => bytes.length + 1
  | .lit _ => 1
  | .nil => 1
  | .ptr d => uptoBulk d + 1
  | .slice elems spare => uptoBulkAll elems + uptoBulkAll spare + 1
  | .agg parts => uptoBulkAll parts + 1
  | .iface _ d => uptoBulk d + 1
  | .map entries => uptoBulkEntries entries + 1
  | .held _ => 1
def uptoBulkAll {H : Type} : List (DataW H) → Nat
  | [] => 0
  | d :: r => uptoBulk d + uptoBulkAll r
def uptoBulkEntries {H : Type} : List (Lit × DataW H) → Nat
  | [] => 0
  | x :: r => uptoBulkEntry x + uptoBulkEntries r
def uptoBulkEntry {H : Type} : Lit × DataW H → Nat
  | (.string bytes, d) => bytes.length + uptoBulk d + 1
  | (_, d) => uptoBulk d + 1
 end
def uptoSmall : (H : Type) → List (DataW H) → Bool := fun _ ds => decide (uptoBulkAll ds ≤ 1048576)
def OpenSpec.upto (s : _root_.Go.ChangeSpec) : _root_.Go.OpenSpec := { _root_.Go.OpenSpec.ofChange s with cond := some uptoSmall }

/-- 'gauntletlaw05.SpecsCheck', WHERE WHAT IT READS IS OF BULK AT MOST 1048576: true; the input reads as it did. -/
def specsCheckUptoRow : OpenClaim := { program := "ytlpjemobbjijdaagreatdoor", sum := "cf4f6f260211b5810c4d69723ba2ce1f3efd5b374ab5c46bd2d92dae062f5478", func := "gauntlet/gauntletlaw05.SpecsCheck", spec := "specsCheck", inPlace := ["internal/bytealg.IndexByteString", "internal/bytealg.IndexString", "internal/abi.NoEscape", "internal/bytealg.MakeNoZero", "internal/bytealg.CountString"], unfollowed := true, recurses := true, named := ["unicode/utf8.first", "unicode/utf8.acceptRanges", "gauntlet/lexemes.pairs", "internal/bytealg.MaxLen"], apart := false, laid := [("unicode/utf8.acceptRanges", laid_unicode_utf8_acceptRanges), ("gauntlet/lexemes.pairs", laid_gauntlet_lexemes_pairs), ("unicode/utf8.first", laid_unicode_utf8_first)], narrowed := true }
def SpecsCheckUptoSaid : Prop := specsCheckUptoRow.holds Tryz.pinned (OpenSpec.upto specsCheckSpec)

/-- 'gauntletlaw05.SpecsText', WHERE WHAT IT READS IS OF BULK AT MOST 1048576: true; the input reads as it did. -/
def specsTextUptoRow : OpenClaim := { program := "ytlpjemobbjijdaagreatdoor", sum := "cf4f6f260211b5810c4d69723ba2ce1f3efd5b374ab5c46bd2d92dae062f5478", func := "gauntlet/gauntletlaw05.SpecsText", spec := "specsText", inPlace := ["internal/bytealg.IndexByteString", "internal/bytealg.IndexString", "internal/abi.NoEscape", "internal/bytealg.MakeNoZero", "internal/bytealg.CountString"], unfollowed := true, recurses := true, named := ["unicode/utf8.first", "unicode/utf8.acceptRanges", "gauntlet/lexemes.pairs", "internal/bytealg.MaxLen"], apart := false, laid := [("unicode/utf8.acceptRanges", laid_unicode_utf8_acceptRanges), ("gauntlet/lexemes.pairs", laid_gauntlet_lexemes_pairs), ("unicode/utf8.first", laid_unicode_utf8_first)], narrowed := true }
def SpecsTextUptoSaid : Prop := specsTextUptoRow.holds Tryz.pinned (OpenSpec.upto specsTextSpec)

/-- 'gauntletlaw05.SpecsParse', WHERE WHAT IT READS IS OF BULK AT MOST 1048576: true; the input reads as it did. -/
def specsParseUptoRow : OpenClaim := { program := "ytlpjemobbjijdaagreatdoor", sum := "cf4f6f260211b5810c4d69723ba2ce1f3efd5b374ab5c46bd2d92dae062f5478", func := "gauntlet/gauntletlaw05.SpecsParse", spec := "specsParse", inPlace := ["internal/bytealg.CountString", "internal/bytealg.IndexByteString", "internal/bytealg.IndexString", "internal/abi.NoEscape", "internal/bytealg.MakeNoZero"], unfollowed := true, recurses := true, named := ["internal/bytealg.MaxLen", "unicode/utf8.first", "unicode/utf8.acceptRanges", "gauntlet/lexemes.pairs"], apart := false, laid := [("unicode/utf8.acceptRanges", laid_unicode_utf8_acceptRanges), ("gauntlet/lexemes.pairs", laid_gauntlet_lexemes_pairs), ("unicode/utf8.first", laid_unicode_utf8_first)], narrowed := true }
def SpecsParseUptoSaid : Prop := specsParseUptoRow.holds Tryz.pinned (OpenSpec.upto specsParseSpec)

/-- 'gauntletlaw05.SpecsOrder', WHERE WHAT IT READS IS OF BULK AT MOST 1048576: true; the input reads as it did. -/
def specsOrderUptoRow : OpenClaim := { program := "ytlpjemobbjijdaagreatdoor", sum := "cf4f6f260211b5810c4d69723ba2ce1f3efd5b374ab5c46bd2d92dae062f5478", func := "gauntlet/gauntletlaw05.SpecsOrder", spec := "specsOrder", inPlace := ["internal/bytealg.CountString", "internal/bytealg.IndexByteString", "internal/bytealg.IndexString", "internal/abi.NoEscape", "internal/bytealg.MakeNoZero"], unfollowed := true, recurses := true, named := ["internal/bytealg.MaxLen", "unicode/utf8.first", "unicode/utf8.acceptRanges", "gauntlet/lexemes.pairs"], apart := false, laid := [("unicode/utf8.acceptRanges", laid_unicode_utf8_acceptRanges), ("gauntlet/lexemes.pairs", laid_gauntlet_lexemes_pairs), ("unicode/utf8.first", laid_unicode_utf8_first)], narrowed := true }
def SpecsOrderUptoSaid : Prop := specsOrderUptoRow.holds Tryz.pinned (OpenSpec.upto specsOrderSpec)

/-- 'gauntletlaw05.SpecsWords', WHERE WHAT IT READS IS OF BULK AT MOST 1048576: true; the input reads as it did. -/
def specsWordsUptoRow : OpenClaim := { program := "ytlpjemobbjijdaagreatdoor", sum := "cf4f6f260211b5810c4d69723ba2ce1f3efd5b374ab5c46bd2d92dae062f5478", func := "gauntlet/gauntletlaw05.SpecsWords", spec := "specsWords", inPlace := ["internal/bytealg.IndexByteString", "internal/bytealg.IndexString", "internal/abi.NoEscape", "internal/bytealg.MakeNoZero", "internal/bytealg.CountString"], unfollowed := true, recurses := true, named := ["unicode/utf8.first", "unicode/utf8.acceptRanges", "gauntlet/lexemes.pairs", "internal/bytealg.MaxLen"], apart := false, laid := [("unicode/utf8.acceptRanges", laid_unicode_utf8_acceptRanges), ("gauntlet/lexemes.pairs", laid_gauntlet_lexemes_pairs), ("unicode/utf8.first", laid_unicode_utf8_first)], narrowed := true }
def SpecsWordsUptoSaid : Prop := specsWordsUptoRow.holds Tryz.pinned (OpenSpec.upto specsWordsSpec)

/-- 'gauntletlaw05.SpecsOuts', WHERE WHAT IT READS IS OF BULK AT MOST 1048576: true; the input reads as it did. -/
def specsOutsUptoRow : OpenClaim := { program := "ytlpjemobbjijdaagreatdoor", sum := "cf4f6f260211b5810c4d69723ba2ce1f3efd5b374ab5c46bd2d92dae062f5478", func := "gauntlet/gauntletlaw05.SpecsOuts", spec := "specsOuts", inPlace := ["internal/bytealg.IndexByteString", "internal/bytealg.IndexString", "internal/abi.NoEscape", "internal/bytealg.MakeNoZero", "internal/bytealg.CountString"], unfollowed := true, recurses := true, named := ["unicode/utf8.first", "unicode/utf8.acceptRanges", "gauntlet/lexemes.pairs", "internal/bytealg.MaxLen"], apart := false, laid := [("unicode/utf8.acceptRanges", laid_unicode_utf8_acceptRanges), ("gauntlet/lexemes.pairs", laid_gauntlet_lexemes_pairs), ("unicode/utf8.first", laid_unicode_utf8_first)], narrowed := true }
def SpecsOutsUptoSaid : Prop := specsOutsUptoRow.holds Tryz.pinned (OpenSpec.upto specsOutsSpec)

/-- 'gauntletlaw05.SpecsKnown', WHERE WHAT IT READS IS OF BULK AT MOST 1048576: true; the input reads as it did. -/
def specsKnownUptoRow : OpenClaim := { program := "ytlpjemobbjijdaagreatdoor", sum := "cf4f6f260211b5810c4d69723ba2ce1f3efd5b374ab5c46bd2d92dae062f5478", func := "gauntlet/gauntletlaw05.SpecsKnown", spec := "specsKnown", inPlace := ["internal/bytealg.CountString", "internal/bytealg.IndexByteString", "internal/bytealg.IndexString", "internal/abi.NoEscape", "internal/bytealg.MakeNoZero"], unfollowed := true, recurses := true, named := ["internal/bytealg.MaxLen", "unicode/utf8.first", "unicode/utf8.acceptRanges", "gauntlet/lexemes.pairs"], apart := false, laid := [("unicode/utf8.acceptRanges", laid_unicode_utf8_acceptRanges), ("gauntlet/lexemes.pairs", laid_gauntlet_lexemes_pairs), ("unicode/utf8.first", laid_unicode_utf8_first)], narrowed := true }
def SpecsKnownUptoSaid : Prop := specsKnownUptoRow.holds Tryz.pinned (OpenSpec.upto specsKnownSpec)

end Rows
end Go.Proofs.YtlpjemobbjijdaaGreatDoor
