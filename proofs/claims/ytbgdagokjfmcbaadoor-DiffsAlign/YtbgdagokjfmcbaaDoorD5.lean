import Derived.Test.YtbgdagokjfmcbaaDoorD3
namespace Go.Proofs
open Go Go.V
set_option linter.unusedVariables false
set_option linter.unusedSimpArgs false
set_option maxHeartbeats 0
def wdG9 (p : Pt) (z : Nat) (c : Option Nat) : Blk := .row 6 36 [[.int .i64 p.inp, .int .i64 p.o0, .int .i64 p.o1, .int .i64 p.s0, .int .i64 p.s1, .sl z (edsA p.ed) c]]
def eD : Ed := ⟨0, 0, (0, 0), (0, 0)⟩
def isAt (s i : Int) (x : Ed) : Bool := decide (x.s = s) && decide (x.i = i)
def qdH9 (l : List Ed) (s i : Int) : Int := match l.findIdx? (isAt s i) with|some k => k|none => -1
def wcZ9 (a o n : Int) (p : Pt) : Int := if p.inp ≠ a then 5 else if p.o0 ≠ o ∨ p.s0 ≠ n then 6 else 0
def invE (x : Ed) : Ed := ⟨x.s, x.i, x.new, x.old⟩
def invM (p : Pt) : Pt := ⟨p.inp, p.o1, p.o0, p.s1, p.s0, p.ed.map invE⟩
end Go.Proofs
