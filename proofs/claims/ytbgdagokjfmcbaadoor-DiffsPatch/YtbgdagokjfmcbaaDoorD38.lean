import Derived.Test.YtbgdagokjfmcbaaDoorD37
import Derived.Test.YtbgdagokjfmcbaaDoorD30
/- Diffs: the law of Apply. -/
namespace Go.Proofs
open Go Go.V
set_option linter.unusedVariables false
set_option linter.unusedSimpArgs false
set_option maxHeartbeats 0
/-- Rows of which each has a capacity. -/
def rowsI (T : Rs) (I : Nat) : List Row := T.map fun r => (r, some I)
theorem edgesOf_rowsI (T : Rs) (I : Nat) : edgesOf (rowsI T I) = T := by simp [edgesOf, rowsI, Function.comp_def]
theorem length_rowsI (T : Rs) (I : Nat) : (rowsI T I).length = T.length := by simp [rowsI]
end Go.Proofs
