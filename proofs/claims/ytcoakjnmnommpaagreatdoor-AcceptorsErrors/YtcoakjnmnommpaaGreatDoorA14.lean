import Derived.Test.YtcoakjnmnommpaaGreatDoorA13
namespace Go.Proofs
open Go Go.V
set_option linter.unusedVariables false
set_option linter.unusedSimpArgs false
set_option maxHeartbeats 0
def bitS (b m : Nat) : List Nat := (List.range m).filter fun s => b.testBit s
def wrdN (w : List Nat) (A : Nat) : List Nat := (w.take 40).map fun x => x % A
def u8s (w : List Nat) : List (List AV) := w.map fun x => [.int .u8 (x : Nat)]
end Go.Proofs
