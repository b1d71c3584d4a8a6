import Derived.Test.YtcoakjnmnommpaaDoorA28
namespace Go.Proofs
open Go Go.V
set_option linter.unusedVariables false
set_option linter.unusedSimpArgs false
set_option maxHeartbeats 0
end Go.Proofs
