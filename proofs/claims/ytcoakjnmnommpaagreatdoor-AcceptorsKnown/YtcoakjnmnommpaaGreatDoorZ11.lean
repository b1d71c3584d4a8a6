import Derived.Test.YtcoakjnmnommpaaGreatDoorZ10
import Derived.Test.YtcoakjnmnommpaaGreatDoorV51
namespace Go.Proofs
open Go Go.V Go.RowKit
set_option linter.unusedVariables false
set_option linter.unusedSimpArgs false
set_option maxHeartbeats 0
set_option maxRecDepth 100000
def sucL (l : List RC) (s a : Nat) : List Nat := natL (lstC l s a).1
def capR (S : List Nat) : Option Nat := if S = [] then some 0 else none
end Go.Proofs
