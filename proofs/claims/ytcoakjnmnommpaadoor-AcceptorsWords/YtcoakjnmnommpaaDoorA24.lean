import Derived.Test.YtcoakjnmnommpaaDoorA23
import Derived.Test.YtcoakjnmnommpaaDoorAR3
namespace Go.Proofs
open Go Go.V
set_option linter.unusedVariables false
set_option linter.unusedSimpArgs false
set_option maxHeartbeats 0
theorem FiltF.len {n : Nat} {S : List Nat} (h : FiltF n S) : S.length ≤ n := by
 obtain ⟨p, rfl⟩ := h
 have := List.length_filter_le p (List.range n)
 rwa [List.length_range] at this
def refSets (l : List (List Nat)) : List LC := l.map fun S => (intN S, none)
def dRowN (l : List (List Nat)) : List LC := l.map fun r => (intN r, none)
def anyF (F S : List Nat) (k : Nat) : Bool := (S.take k).any fun s => F.contains s
def detH (A : Nat) (x : Nf) (N : Nat) : AV := dA A 1 (dRowN (detR x A N)) none 1 (detA x A N) none
end Go.Proofs
