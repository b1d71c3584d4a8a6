import Derived.Test.YtbgdagokjfmcbaaGreatDoorD3
namespace Go.Proofs
open Go Go.V
set_option linter.unusedVariables false
set_option linter.unusedSimpArgs false
set_option maxHeartbeats 0
def patch3 (p : Pt) (z : Nat) (c : Option Nat) : Blk := .row 6 36 [[.int .i64 p.inp, .int .i64 p.o0, .int .i64 p.o1, .int .i64 p.s0, .int .i64 p.s1, .sl z (edsA p.ed) c]]
end Go.Proofs
