import Derived.Test.YtbgdagokjfmcbaaGreatDoorD29
import Derived.Test.YtbgdagokjfmcbaaGreatDoorD14
namespace Go.Proofs
open Go Go.V
set_option linter.unusedVariables false
set_option linter.unusedSimpArgs false
def posE (f g : Nat → Edg) (I q : Nat) : Ed := ⟨(q / I : Nat), (q % I : Nat), f q, g q⟩
def DE (f g : Nat → Edg) (I : Nat) (ps : List Nat) : List Ed := (ps.map (posE f g I)).filter differs
theorem differs_iff (x : Ed) : differs x = true ↔ x.old ≠ x.new := by
 simp only [differs, Bool.not_eq_true', Bool.and_eq_false_iff, decide_eq_false_iff_not, ne_eq, Prod.ext_iff]
 omega
def edgeAt (l : List Row) (I q : Nat) : Edg := edgeM l (q / I : Nat) (q % I : Nat)
end Go.Proofs
