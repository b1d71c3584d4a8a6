import Derived.Test.YtcoakjnmnommpaaDoorA40
namespace Go.Proofs
open Go Go.V Go.RowKit
set_option linter.unusedVariables false
set_option linter.unusedSimpArgs false
set_option maxHeartbeats 0
end Go.Proofs
