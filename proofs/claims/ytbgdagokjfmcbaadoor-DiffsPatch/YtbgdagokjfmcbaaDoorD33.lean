import Derived.Test.YtbgdagokjfmcbaaDoorD29
import Derived.Test.YtbgdagokjfmcbaaDoorD14
/- Diffs: two steps, one behind the other: plain. -/
namespace Go.Proofs
open Go Go.V
set_option linter.unusedVariables false
set_option linter.unusedSimpArgs false
def posE (f g : Nat → Edg) (I q : Nat) : Ed := ⟨(q / I : Nat), (q % I : Nat), f q, g q⟩
def DE (f g : Nat → Edg) (I : Nat) (ps : List Nat) : List Ed := (ps.map (posE f g I)).filter differs
/-- The edge at place q, where all edges of a machine stand one behind the other. -/
def edgeAt (l : List Row) (I q : Nat) : Edg := edgeM l (q / I : Nat) (q % I : Nat)
end Go.Proofs
