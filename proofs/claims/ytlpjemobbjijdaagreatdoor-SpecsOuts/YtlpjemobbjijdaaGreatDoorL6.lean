import Derived.Test.YtlpjemobbjijdaaGreatDoorL5
namespace Go.Proofs
open Go Go.V
set_option linter.unusedVariables false
set_option linter.unusedSimpArgs false
set_option maxHeartbeats 0
set_option maxRecDepth 100000
def refC (s : Bs) : Option Nat := if (ofS s).2.2.2 = 0 then none else some 0
def refA (s : Bs) : AV := .tup [.sl 4 (tks (ofS s).1) (refC s), .int .i64 (ofS s).2.1, .int .i64 (ofS s).2.2.1, .int .i64 (ofS s).2.2.2]
end Go.Proofs
