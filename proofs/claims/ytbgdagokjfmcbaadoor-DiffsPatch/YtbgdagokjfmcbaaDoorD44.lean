import Derived.Test.YtbgdagokjfmcbaaDoorD42
/- Diffs: the document's Then. -/
namespace Go.Proofs
open Go Go.V
set_option linter.unusedVariables false
set_option linter.unusedSimpArgs false
set_option maxHeartbeats 0
/-- What the document says of two valid patches. -/
def refThenM (p q : Pt) (I : Nat) : Pt × Int := if p.inp ≠ q.inp then (pZ, 5) else if p.o1 ≠ q.o0 ∨ p.s1 ≠ q.s0 then (pZ, 6) else
  match accF p.ed q.ed I (64 * I) with
  | none => (pZ, 18)
  | some l => if checkP (thenHead p q l) ≠ 0 then (pZ, 18) else (thenHead p q l, 0)
def resQ (r : Pt × Int) : AV := .tup [pA r.1 (if r.2 = 0 then 6 else 0) (if r.2 = 0 then none else some 0), .int .i64 r.2]
end Go.Proofs
