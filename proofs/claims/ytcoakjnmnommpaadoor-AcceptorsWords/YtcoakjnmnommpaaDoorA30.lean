import Derived.Test.YtcoakjnmnommpaaDoorA29
namespace Go.Proofs
open Go Go.V
set_option linter.unusedVariables false
set_option linter.unusedSimpArgs false
set_option maxHeartbeats 0
def accsN (acc : Nat → Bool) (l : List Nat) (i : Nat) : List Bool := (l.take i).map acc
noncomputable def minH (A : Nat) (l : List LC) (ac : List Bool) (N : Nat) : AV :=
 dA A 1 (dRowN (stX (dlt l) (eqW (dlt l) (fun s => ac.getD s false) A) A 0 N).2) none 1 ((stX (dlt l) (eqW (dlt l) (fun s => ac.getD s false) A) A 0 N).1.map fun s => ac.getD s false) none
end Go.Proofs
