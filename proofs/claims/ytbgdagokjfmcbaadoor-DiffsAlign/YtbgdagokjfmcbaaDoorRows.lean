/-
  NARROWER THAN 'FOR EVERY INPUT', by the rows' own cells (each row's printed sentence says how): DiffsDiff: laid · DiffsThen: laid · DiffsAlign: laid · DiffsAffected: laid · DiffsApply: laid · DiffsPatch: laid · DiffsBoth: laid.
  DERIVED. THE GIVEN ROWS OF THIS SEAT. 7 by the template 'for every input the law returns true; each argument reads behind the call as it read before'; 0 by the template 'total and deterministic' (their statements: YtbgdagokjfmcbaaDoorTotals.lean).
  GIVEN WITH THE SEED: the statements are not yours to turn. If you find one false, say at which input.
  Laid BY PROGRAM, IN A SANDBOX (cutbox-rows.mjs): the forced cells as the released guide's own fill.sh prints them over the translation cabe7c255de68807… (all of the seat's roots in one cut). By AI agents, Wed Nov 11 2026. No macro, syntax, notation, axiom, sorry.
-/
import Derived.Test.YtbgdagokjfmcbaaDoorChecked
import GoSem.Claim
import GoSem.ClaimJoined
import GoSem.ClaimMapViews
import Derived.JoinedTies
import Derived.KernelRfl
namespace Go.Proofs.YtbgdagokjfmcbaaDoor
/- THE CELL 'sum', in the pinned program and in every row, IS THE sha256 OF THE DUMP (.gsa) THAT YtbgdagokjfmcbaaDoorProg.lean LOADS. Nothing in Lean hashes anything: it is a label: what it is worth is what the hold of that sum in a sandbox is worth. -/
noncomputable def Tryd.pinned : Pinned := { name := "ytbgdagokjfmcbaadoor", sum := "cabe7c255de68807e31fd1cf60aec6b5970bd2724b363db8cace0f1b65d7bc7f", checked := Tryd.checked }
namespace Rows
def none {H : Type} : Left H := { results := [], args := [] }

/- WHAT THE LISTED PACKAGE-LEVEL VARIABLES READ AS WHEN THE CALL BEGINS. Each datum BY PROGRAM (the guide's laid-datum.mjs) off the statement by which the dump's own 'gosem.cut.vars' lays the variable. In a bare row this is a premise. The card (YtbgdagokjfmcbaaDoorCards.lean) ties it to the program's text. -/
def laid_math_bits_deBruijn32tab {H : Type} : DataW H := .agg [.lit (.int .u8 0), .lit (.int .u8 1), .lit (.int .u8 28), .lit (.int .u8 2), .lit (.int .u8 29), .lit (.int .u8 14), .lit (.int .u8 24), .lit (.int .u8 3), .lit (.int .u8 30), .lit (.int .u8 22), .lit (.int .u8 20), .lit (.int .u8 15), .lit (.int .u8 25), .lit (.int .u8 17), .lit (.int .u8 4), .lit (.int .u8 8), .lit (.int .u8 31), .lit (.int .u8 27), .lit (.int .u8 13), .lit (.int .u8 23), .lit (.int .u8 21), .lit (.int .u8 19), .lit (.int .u8 16), .lit (.int .u8 7), .lit (.int .u8 26), .lit (.int .u8 12), .lit (.int .u8 18), .lit (.int .u8 6), .lit (.int .u8 11), .lit (.int .u8 5), .lit (.int .u8 10), .lit (.int .u8 9)]
def laid_math_bits_deBruijn64tab {H : Type} : DataW H := .agg [.lit (.int .u8 0), .lit (.int .u8 1), .lit (.int .u8 56), .lit (.int .u8 2), .lit (.int .u8 57), .lit (.int .u8 49), .lit (.int .u8 28), .lit (.int .u8 3), .lit (.int .u8 61), .lit (.int .u8 58), .lit (.int .u8 42), .lit (.int .u8 50), .lit (.int .u8 38), .lit (.int .u8 29), .lit (.int .u8 17), .lit (.int .u8 4), .lit (.int .u8 62), .lit (.int .u8 47), .lit (.int .u8 59), .lit (.int .u8 36), .lit (.int .u8 45), .lit (.int .u8 43), .lit (.int .u8 51), .lit (.int .u8 22), .lit (.int .u8 53), .lit (.int .u8 39), .lit (.int .u8 33), .lit (.int .u8 30), .lit (.int .u8 24), .lit (.int .u8 18), .lit (.int .u8 12), .lit (.int .u8 5), .lit (.int .u8 63), .lit (.int .u8 55), .lit (.int .u8 48), .lit (.int .u8 27), .lit (.int .u8 60), .lit (.int .u8 41), .lit (.int .u8 37), .lit (.int .u8 16), .lit (.int .u8 46), .lit (.int .u8 35), .lit (.int .u8 44), .lit (.int .u8 21), .lit (.int .u8 52), .lit (.int .u8 32), .lit (.int .u8 23), .lit (.int .u8 11), .lit (.int .u8 54), .lit (.int .u8 26), .lit (.int .u8 40), .lit (.int .u8 15), .lit (.int .u8 34), .lit (.int .u8 20), .lit (.int .u8 31), .lit (.int .u8 10), .lit (.int .u8 25), .lit (.int .u8 14), .lit (.int .u8 19), .lit (.int .u8 9), .lit (.int .u8 13), .lit (.int .u8 8), .lit (.int .u8 7), .lit (.int .u8 6)]
def laid_internal_strconv_uint64pow10 {H : Type} : DataW H := .agg [.lit (.int .u64 1), .lit (.int .u64 10), .lit (.int .u64 100), .lit (.int .u64 1000), .lit (.int .u64 10000), .lit (.int .u64 100000), .lit (.int .u64 1000000), .lit (.int .u64 10000000), .lit (.int .u64 100000000), .lit (.int .u64 1000000000), .lit (.int .u64 10000000000), .lit (.int .u64 100000000000), .lit (.int .u64 1000000000000), .lit (.int .u64 10000000000000), .lit (.int .u64 100000000000000), .lit (.int .u64 1000000000000000), .lit (.int .u64 10000000000000000), .lit (.int .u64 100000000000000000), .lit (.int .u64 1000000000000000000), .lit (.int .u64 10000000000000000000)]
def laid_gauntlet_diffs_none {H : Type} : DataW H := .agg [.lit (.int .i64 (-1)), .lit (.int .i64 (-1))]

/-- 'gauntletlaw42.DiffsDiff': WHATEVER THE INPUT: true; the input reads as it did. -/
def diffsDiffSpec : ChangeSpec := { name := "diffsDiff", fn := fun _ => fun
  | [d1, d2, d3] => { results := [.lit (.bool true)], args := [d1, d2, d3] }
  | _ => none }
def diffsDiffRow : OpenClaim := { program := "ytbgdagokjfmcbaadoor", sum := "cabe7c255de68807e31fd1cf60aec6b5970bd2724b363db8cace0f1b65d7bc7f", func := "gauntlet/gauntletlaw42.DiffsDiff", spec := "diffsDiff", inPlace := ["internal/abi.NoEscape"], unfollowed := true, recurses := true, named := ["gauntlet/diffs.none", "internal/strconv.uint64pow10", "math/bits.deBruijn32tab", "math/bits.deBruijn64tab"], plainKeys := false, apart := false, laid := [("math/bits.deBruijn32tab", laid_math_bits_deBruijn32tab), ("math/bits.deBruijn64tab", laid_math_bits_deBruijn64tab), ("internal/strconv.uint64pow10", laid_internal_strconv_uint64pow10), ("gauntlet/diffs.none", laid_gauntlet_diffs_none)] }
def DiffsDiffSaid : Prop := diffsDiffRow.holds Tryd.pinned (OpenSpec.ofChange diffsDiffSpec)

/-- ITS FALSE NEIGHBOUR: 'it returns false'. Refute it at one input. -/
def diffsDiffWrong : ChangeSpec := { name := "diffsDiff", fn := fun _ => fun
  | [d1, d2, d3] => { results := [.lit (.bool false)], args := [d1, d2, d3] }
  | _ => none }
def DiffsDiffWrongFalsely : Prop := diffsDiffRow.holds Tryd.pinned (OpenSpec.ofChange diffsDiffWrong)

/-- 'gauntletlaw42.DiffsThen': WHATEVER THE INPUT: true; the input reads as it did. -/
def diffsThenSpec : ChangeSpec := { name := "diffsThen", fn := fun _ => fun
  | [d1, d2] => { results := [.lit (.bool true)], args := [d1, d2] }
  | _ => none }
def diffsThenRow : OpenClaim := { program := "ytbgdagokjfmcbaadoor", sum := "cabe7c255de68807e31fd1cf60aec6b5970bd2724b363db8cace0f1b65d7bc7f", func := "gauntlet/gauntletlaw42.DiffsThen", spec := "diffsThen", inPlace := ["internal/abi.NoEscape"], unfollowed := true, recurses := true, named := ["gauntlet/diffs.none", "internal/strconv.uint64pow10", "math/bits.deBruijn32tab", "math/bits.deBruijn64tab"], plainKeys := false, apart := false, laid := [("math/bits.deBruijn32tab", laid_math_bits_deBruijn32tab), ("math/bits.deBruijn64tab", laid_math_bits_deBruijn64tab), ("internal/strconv.uint64pow10", laid_internal_strconv_uint64pow10), ("gauntlet/diffs.none", laid_gauntlet_diffs_none)] }
def DiffsThenSaid : Prop := diffsThenRow.holds Tryd.pinned (OpenSpec.ofChange diffsThenSpec)

/-- ITS FALSE NEIGHBOUR: 'it returns false'. Refute it at one input. -/
def diffsThenWrong : ChangeSpec := { name := "diffsThen", fn := fun _ => fun
  | [d1, d2] => { results := [.lit (.bool false)], args := [d1, d2] }
  | _ => none }
def DiffsThenWrongFalsely : Prop := diffsThenRow.holds Tryd.pinned (OpenSpec.ofChange diffsThenWrong)

/-- 'gauntletlaw42.DiffsAlign': WHATEVER THE INPUT: true; the input reads as it did. -/
def diffsAlignSpec : ChangeSpec := { name := "diffsAlign", fn := fun _ => fun
  | [d1, d2, d3] => { results := [.lit (.bool true)], args := [d1, d2, d3] }
  | _ => none }
def diffsAlignRow : OpenClaim := { program := "ytbgdagokjfmcbaadoor", sum := "cabe7c255de68807e31fd1cf60aec6b5970bd2724b363db8cace0f1b65d7bc7f", func := "gauntlet/gauntletlaw42.DiffsAlign", spec := "diffsAlign", inPlace := ["internal/abi.NoEscape"], unfollowed := true, recurses := true, named := ["gauntlet/diffs.none", "internal/strconv.uint64pow10", "math/bits.deBruijn32tab", "math/bits.deBruijn64tab"], plainKeys := false, apart := false, laid := [("math/bits.deBruijn32tab", laid_math_bits_deBruijn32tab), ("math/bits.deBruijn64tab", laid_math_bits_deBruijn64tab), ("internal/strconv.uint64pow10", laid_internal_strconv_uint64pow10), ("gauntlet/diffs.none", laid_gauntlet_diffs_none)] }
def DiffsAlignSaid : Prop := diffsAlignRow.holds Tryd.pinned (OpenSpec.ofChange diffsAlignSpec)

/-- ITS FALSE NEIGHBOUR: 'it returns false'. Refute it at one input. -/
def diffsAlignWrong : ChangeSpec := { name := "diffsAlign", fn := fun _ => fun
  | [d1, d2, d3] => { results := [.lit (.bool false)], args := [d1, d2, d3] }
  | _ => none }
def DiffsAlignWrongFalsely : Prop := diffsAlignRow.holds Tryd.pinned (OpenSpec.ofChange diffsAlignWrong)

/-- 'gauntletlaw42.DiffsAffected': WHATEVER THE INPUT: true; the input reads as it did. -/
def diffsAffectedSpec : ChangeSpec := { name := "diffsAffected", fn := fun _ => fun
  | [d1, d2] => { results := [.lit (.bool true)], args := [d1, d2] }
  | _ => none }
def diffsAffectedRow : OpenClaim := { program := "ytbgdagokjfmcbaadoor", sum := "cabe7c255de68807e31fd1cf60aec6b5970bd2724b363db8cace0f1b65d7bc7f", func := "gauntlet/gauntletlaw42.DiffsAffected", spec := "diffsAffected", inPlace := ["internal/abi.NoEscape"], unfollowed := true, recurses := true, named := ["gauntlet/diffs.none", "internal/strconv.uint64pow10", "math/bits.deBruijn32tab", "math/bits.deBruijn64tab"], plainKeys := false, apart := false, laid := [("math/bits.deBruijn32tab", laid_math_bits_deBruijn32tab), ("math/bits.deBruijn64tab", laid_math_bits_deBruijn64tab), ("internal/strconv.uint64pow10", laid_internal_strconv_uint64pow10), ("gauntlet/diffs.none", laid_gauntlet_diffs_none)] }
def DiffsAffectedSaid : Prop := diffsAffectedRow.holds Tryd.pinned (OpenSpec.ofChange diffsAffectedSpec)

/-- ITS FALSE NEIGHBOUR: 'it returns false'. Refute it at one input. -/
def diffsAffectedWrong : ChangeSpec := { name := "diffsAffected", fn := fun _ => fun
  | [d1, d2] => { results := [.lit (.bool false)], args := [d1, d2] }
  | _ => none }
def DiffsAffectedWrongFalsely : Prop := diffsAffectedRow.holds Tryd.pinned (OpenSpec.ofChange diffsAffectedWrong)

/-- 'gauntletlaw42.DiffsApply': WHATEVER THE INPUT: true; the input reads as it did. -/
def diffsApplySpec : ChangeSpec := { name := "diffsApply", fn := fun _ => fun
  | [d] => { results := [.lit (.bool true)], args := [d] }
  | _ => none }
def diffsApplyRow : OpenClaim := { program := "ytbgdagokjfmcbaadoor", sum := "cabe7c255de68807e31fd1cf60aec6b5970bd2724b363db8cace0f1b65d7bc7f", func := "gauntlet/gauntletlaw42.DiffsApply", spec := "diffsApply", inPlace := ["internal/abi.NoEscape"], unfollowed := true, recurses := true, named := ["gauntlet/diffs.none", "internal/strconv.uint64pow10", "math/bits.deBruijn32tab", "math/bits.deBruijn64tab"], plainKeys := false, apart := false, laid := [("math/bits.deBruijn32tab", laid_math_bits_deBruijn32tab), ("math/bits.deBruijn64tab", laid_math_bits_deBruijn64tab), ("internal/strconv.uint64pow10", laid_internal_strconv_uint64pow10), ("gauntlet/diffs.none", laid_gauntlet_diffs_none)] }
def DiffsApplySaid : Prop := diffsApplyRow.holds Tryd.pinned (OpenSpec.ofChange diffsApplySpec)

/-- ITS FALSE NEIGHBOUR: 'it returns false'. Refute it at one input. -/
def diffsApplyWrong : ChangeSpec := { name := "diffsApply", fn := fun _ => fun
  | [d] => { results := [.lit (.bool false)], args := [d] }
  | _ => none }
def DiffsApplyWrongFalsely : Prop := diffsApplyRow.holds Tryd.pinned (OpenSpec.ofChange diffsApplyWrong)

/-- 'gauntletlaw42.DiffsPatch': WHATEVER THE INPUT: true; the input reads as it did. -/
def diffsPatchSpec : ChangeSpec := { name := "diffsPatch", fn := fun _ => fun
  | [d1, d2] => { results := [.lit (.bool true)], args := [d1, d2] }
  | _ => none }
def diffsPatchRow : OpenClaim := { program := "ytbgdagokjfmcbaadoor", sum := "cabe7c255de68807e31fd1cf60aec6b5970bd2724b363db8cace0f1b65d7bc7f", func := "gauntlet/gauntletlaw42.DiffsPatch", spec := "diffsPatch", inPlace := ["internal/abi.NoEscape"], unfollowed := true, recurses := true, named := ["gauntlet/diffs.none", "internal/strconv.uint64pow10", "math/bits.deBruijn32tab", "math/bits.deBruijn64tab"], plainKeys := false, apart := false, laid := [("math/bits.deBruijn32tab", laid_math_bits_deBruijn32tab), ("math/bits.deBruijn64tab", laid_math_bits_deBruijn64tab), ("internal/strconv.uint64pow10", laid_internal_strconv_uint64pow10), ("gauntlet/diffs.none", laid_gauntlet_diffs_none)] }
def DiffsPatchSaid : Prop := diffsPatchRow.holds Tryd.pinned (OpenSpec.ofChange diffsPatchSpec)

/-- ITS FALSE NEIGHBOUR: 'it returns false'. Refute it at one input. -/
def diffsPatchWrong : ChangeSpec := { name := "diffsPatch", fn := fun _ => fun
  | [d1, d2] => { results := [.lit (.bool false)], args := [d1, d2] }
  | _ => none }
def DiffsPatchWrongFalsely : Prop := diffsPatchRow.holds Tryd.pinned (OpenSpec.ofChange diffsPatchWrong)

/-- 'gauntletlaw42.DiffsBoth': WHATEVER THE INPUT: true; the input reads as it did. -/
def diffsBothSpec : ChangeSpec := { name := "diffsBoth", fn := fun _ => fun
  | [d1, d2, d3] => { results := [.lit (.bool true)], args := [d1, d2, d3] }
  | _ => none }
def diffsBothRow : OpenClaim := { program := "ytbgdagokjfmcbaadoor", sum := "cabe7c255de68807e31fd1cf60aec6b5970bd2724b363db8cace0f1b65d7bc7f", func := "gauntlet/gauntletlaw42.DiffsBoth", spec := "diffsBoth", inPlace := ["internal/abi.NoEscape"], unfollowed := true, recurses := true, named := ["gauntlet/diffs.none", "internal/strconv.uint64pow10", "math/bits.deBruijn32tab", "math/bits.deBruijn64tab"], plainKeys := false, apart := false, laid := [("math/bits.deBruijn32tab", laid_math_bits_deBruijn32tab), ("math/bits.deBruijn64tab", laid_math_bits_deBruijn64tab), ("internal/strconv.uint64pow10", laid_internal_strconv_uint64pow10), ("gauntlet/diffs.none", laid_gauntlet_diffs_none)] }
def DiffsBothSaid : Prop := diffsBothRow.holds Tryd.pinned (OpenSpec.ofChange diffsBothSpec)

/-- ITS FALSE NEIGHBOUR: 'it returns false'. Refute it at one input. -/
def diffsBothWrong : ChangeSpec := { name := "diffsBoth", fn := fun _ => fun
  | [d1, d2, d3] => { results := [.lit (.bool false)], args := [d1, d2, d3] }
  | _ => none }
def DiffsBothWrongFalsely : Prop := diffsBothRow.holds Tryd.pinned (OpenSpec.ofChange diffsBothWrong)

/- THE SECOND FORM. 'bulk': how many values and letters a reading holds, each counted each time it is reached (what is shared counts as often as it is met; a slice's spare places count too). A statement '..UptoSaid' is the law's where the arguments, and the package variables that the reading takes, are together of bulk at most 1048576: NARROWER than '..Said'. Prove '..Said' where nothing that the law and all that it calls make is longer than what came in: it says more and counts as full. Else prove '..UptoSaid'. A law counts once. -/
mutual
def uptoBulk {H : Type} : DataW H → Nat
  | .lit (.string bytes) => bytes.length + 1
  | .lit _ => 1
  | .nil => 1
  | .ptr d => uptoBulk d + 1
  | .slice elems spare => uptoBulkAll elems + uptoBulkAll spare + 1
  | .agg parts => uptoBulkAll parts + 1
  | .iface _ d => uptoBulk d + 1
  | .map entries => uptoBulkEntries entries + 1
  | .held _ => 1
def uptoBulkAll {H : Type} : List (DataW H) → Nat
  | [] => 0
  | d :: r => uptoBulk d + uptoBulkAll r
def uptoBulkEntries {H : Type} : List (Lit × DataW H) → Nat
  | [] => 0
  | x :: r => uptoBulkEntry x + uptoBulkEntries r
def uptoBulkEntry {H : Type} : Lit × DataW H → Nat
  | (.string bytes, d) => bytes.length + uptoBulk d + 1
  | (_, d) => uptoBulk d + 1
 end
def uptoSmall : (H : Type) → List (DataW H) → Bool := fun _ ds => decide (uptoBulkAll ds ≤ 1048576)
def OpenSpec.upto (s : _root_.Go.ChangeSpec) : _root_.Go.OpenSpec := { _root_.Go.OpenSpec.ofChange s with cond := some uptoSmall }

/-- 'gauntletlaw42.DiffsDiff', WHERE WHAT IT READS IS OF BULK AT MOST 1048576: true; the input reads as it did. -/
def diffsDiffUptoRow : OpenClaim := { program := "ytbgdagokjfmcbaadoor", sum := "cabe7c255de68807e31fd1cf60aec6b5970bd2724b363db8cace0f1b65d7bc7f", func := "gauntlet/gauntletlaw42.DiffsDiff", spec := "diffsDiff", inPlace := ["internal/abi.NoEscape"], unfollowed := true, recurses := true, named := ["gauntlet/diffs.none", "internal/strconv.uint64pow10", "math/bits.deBruijn32tab", "math/bits.deBruijn64tab"], plainKeys := false, apart := false, laid := [("math/bits.deBruijn32tab", laid_math_bits_deBruijn32tab), ("math/bits.deBruijn64tab", laid_math_bits_deBruijn64tab), ("internal/strconv.uint64pow10", laid_internal_strconv_uint64pow10), ("gauntlet/diffs.none", laid_gauntlet_diffs_none)], narrowed := true }
def DiffsDiffUptoSaid : Prop := diffsDiffUptoRow.holds Tryd.pinned (OpenSpec.upto diffsDiffSpec)

/-- 'gauntletlaw42.DiffsThen', WHERE WHAT IT READS IS OF BULK AT MOST 1048576: true; the input reads as it did. -/
def diffsThenUptoRow : OpenClaim := { program := "ytbgdagokjfmcbaadoor", sum := "cabe7c255de68807e31fd1cf60aec6b5970bd2724b363db8cace0f1b65d7bc7f", func := "gauntlet/gauntletlaw42.DiffsThen", spec := "diffsThen", inPlace := ["internal/abi.NoEscape"], unfollowed := true, recurses := true, named := ["gauntlet/diffs.none", "internal/strconv.uint64pow10", "math/bits.deBruijn32tab", "math/bits.deBruijn64tab"], plainKeys := false, apart := false, laid := [("math/bits.deBruijn32tab", laid_math_bits_deBruijn32tab), ("math/bits.deBruijn64tab", laid_math_bits_deBruijn64tab), ("internal/strconv.uint64pow10", laid_internal_strconv_uint64pow10), ("gauntlet/diffs.none", laid_gauntlet_diffs_none)], narrowed := true }
def DiffsThenUptoSaid : Prop := diffsThenUptoRow.holds Tryd.pinned (OpenSpec.upto diffsThenSpec)

/-- 'gauntletlaw42.DiffsAlign', WHERE WHAT IT READS IS OF BULK AT MOST 1048576: true; the input reads as it did. -/
def diffsAlignUptoRow : OpenClaim := { program := "ytbgdagokjfmcbaadoor", sum := "cabe7c255de68807e31fd1cf60aec6b5970bd2724b363db8cace0f1b65d7bc7f", func := "gauntlet/gauntletlaw42.DiffsAlign", spec := "diffsAlign", inPlace := ["internal/abi.NoEscape"], unfollowed := true, recurses := true, named := ["gauntlet/diffs.none", "internal/strconv.uint64pow10", "math/bits.deBruijn32tab", "math/bits.deBruijn64tab"], plainKeys := false, apart := false, laid := [("math/bits.deBruijn32tab", laid_math_bits_deBruijn32tab), ("math/bits.deBruijn64tab", laid_math_bits_deBruijn64tab), ("internal/strconv.uint64pow10", laid_internal_strconv_uint64pow10), ("gauntlet/diffs.none", laid_gauntlet_diffs_none)], narrowed := true }
def DiffsAlignUptoSaid : Prop := diffsAlignUptoRow.holds Tryd.pinned (OpenSpec.upto diffsAlignSpec)

/-- 'gauntletlaw42.DiffsAffected', WHERE WHAT IT READS IS OF BULK AT MOST 1048576: true; the input reads as it did. -/
def diffsAffectedUptoRow : OpenClaim := { program := "ytbgdagokjfmcbaadoor", sum := "cabe7c255de68807e31fd1cf60aec6b5970bd2724b363db8cace0f1b65d7bc7f", func := "gauntlet/gauntletlaw42.DiffsAffected", spec := "diffsAffected", inPlace := ["internal/abi.NoEscape"], unfollowed := true, recurses := true, named := ["gauntlet/diffs.none", "internal/strconv.uint64pow10", "math/bits.deBruijn32tab", "math/bits.deBruijn64tab"], plainKeys := false, apart := false, laid := [("math/bits.deBruijn32tab", laid_math_bits_deBruijn32tab), ("math/bits.deBruijn64tab", laid_math_bits_deBruijn64tab), ("internal/strconv.uint64pow10", laid_internal_strconv_uint64pow10), ("gauntlet/diffs.none", laid_gauntlet_diffs_none)], narrowed := true }
def DiffsAffectedUptoSaid : Prop := diffsAffectedUptoRow.holds Tryd.pinned (OpenSpec.upto diffsAffectedSpec)

/-- 'gauntletlaw42.DiffsApply', WHERE WHAT IT READS IS OF BULK AT MOST 1048576: true; the input reads as it did. -/
def diffsApplyUptoRow : OpenClaim := { program := "ytbgdagokjfmcbaadoor", sum := "cabe7c255de68807e31fd1cf60aec6b5970bd2724b363db8cace0f1b65d7bc7f", func := "gauntlet/gauntletlaw42.DiffsApply", spec := "diffsApply", inPlace := ["internal/abi.NoEscape"], unfollowed := true, recurses := true, named := ["gauntlet/diffs.none", "internal/strconv.uint64pow10", "math/bits.deBruijn32tab", "math/bits.deBruijn64tab"], plainKeys := false, apart := false, laid := [("math/bits.deBruijn32tab", laid_math_bits_deBruijn32tab), ("math/bits.deBruijn64tab", laid_math_bits_deBruijn64tab), ("internal/strconv.uint64pow10", laid_internal_strconv_uint64pow10), ("gauntlet/diffs.none", laid_gauntlet_diffs_none)], narrowed := true }
def DiffsApplyUptoSaid : Prop := diffsApplyUptoRow.holds Tryd.pinned (OpenSpec.upto diffsApplySpec)

/-- 'gauntletlaw42.DiffsPatch', WHERE WHAT IT READS IS OF BULK AT MOST 1048576: true; the input reads as it did. -/
def diffsPatchUptoRow : OpenClaim := { program := "ytbgdagokjfmcbaadoor", sum := "cabe7c255de68807e31fd1cf60aec6b5970bd2724b363db8cace0f1b65d7bc7f", func := "gauntlet/gauntletlaw42.DiffsPatch", spec := "diffsPatch", inPlace := ["internal/abi.NoEscape"], unfollowed := true, recurses := true, named := ["gauntlet/diffs.none", "internal/strconv.uint64pow10", "math/bits.deBruijn32tab", "math/bits.deBruijn64tab"], plainKeys := false, apart := false, laid := [("math/bits.deBruijn32tab", laid_math_bits_deBruijn32tab), ("math/bits.deBruijn64tab", laid_math_bits_deBruijn64tab), ("internal/strconv.uint64pow10", laid_internal_strconv_uint64pow10), ("gauntlet/diffs.none", laid_gauntlet_diffs_none)], narrowed := true }
def DiffsPatchUptoSaid : Prop := diffsPatchUptoRow.holds Tryd.pinned (OpenSpec.upto diffsPatchSpec)

/-- 'gauntletlaw42.DiffsBoth', WHERE WHAT IT READS IS OF BULK AT MOST 1048576: true; the input reads as it did. -/
def diffsBothUptoRow : OpenClaim := { program := "ytbgdagokjfmcbaadoor", sum := "cabe7c255de68807e31fd1cf60aec6b5970bd2724b363db8cace0f1b65d7bc7f", func := "gauntlet/gauntletlaw42.DiffsBoth", spec := "diffsBoth", inPlace := ["internal/abi.NoEscape"], unfollowed := true, recurses := true, named := ["gauntlet/diffs.none", "internal/strconv.uint64pow10", "math/bits.deBruijn32tab", "math/bits.deBruijn64tab"], plainKeys := false, apart := false, laid := [("math/bits.deBruijn32tab", laid_math_bits_deBruijn32tab), ("math/bits.deBruijn64tab", laid_math_bits_deBruijn64tab), ("internal/strconv.uint64pow10", laid_internal_strconv_uint64pow10), ("gauntlet/diffs.none", laid_gauntlet_diffs_none)], narrowed := true }
def DiffsBothUptoSaid : Prop := diffsBothUptoRow.holds Tryd.pinned (OpenSpec.upto diffsBothSpec)

end Rows
end Go.Proofs.YtbgdagokjfmcbaaDoor
