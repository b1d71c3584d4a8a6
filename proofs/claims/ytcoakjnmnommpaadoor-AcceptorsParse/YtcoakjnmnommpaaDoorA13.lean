import Derived.Test.YtcoakjnmnommpaaDoorA7
import Derived.Test.YtcoakjnmnommpaaDoorA11
namespace Go.Proofs
open Go Go.V
set_option linter.unusedVariables false
set_option linter.unusedSimpArgs false
set_option maxHeartbeats 0
def intN (S : List Nat) : List Int := S.map fun t : Nat => (t : Int)
theorem intN_len (S : List Nat) : (intN S).length = S.length := by simp [intN]
theorem intN_get (S : List Nat) (k : Nat) (h : k < S.length) : (intN S).getD k 0 = (S.getD k 0 : Nat) := by simp [intN, h]
theorem intN_snoc (S : List Nat) (t : Nat) : intN (S ++ [t]) = intN S ++ [(t : Int)] := by simp [intN]
theorem intN_natL {l : List Int} (h : ∀ x ∈ l, 0 ≤ x) : intN (natL l) = l := by
 rw [intN, natL, List.map_map]
 exact (List.map_congr_left fun x hx => Int.toNat_of_nonneg (h x hx)).trans (List.map_id l)
def stepL (l : List RC) (S : List Nat) (a t : Nat) : List Nat := (List.range t).filter fun t => S.any fun s => (lstC l s a).1.contains (t : Int)
def anyK (l : List RC) (S : List Nat) (a t k : Nat) : Bool := (S.take k).any fun s => (lstC l s a).1.contains (t : Int)
end Go.Proofs
