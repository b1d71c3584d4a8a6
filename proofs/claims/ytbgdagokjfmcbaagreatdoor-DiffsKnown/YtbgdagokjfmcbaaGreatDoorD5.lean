import Derived.Test.YtbgdagokjfmcbaaGreatDoorD2
namespace Go.Proofs
open Go Go.V
set_option linter.unusedVariables false
set_option linter.unusedSimpArgs false
set_option maxHeartbeats 0
def eD : Ed := ⟨0, 0, (0, 0), (0, 0)⟩
def isAt (s i : Int) (x : Ed) : Bool := decide (x.s = s) && decide (x.i = i)
def findM (l : List Ed) (s i : Int) : Int := match l.findIdx? (isAt s i) with|some k => k|none => -1
def fitsM (a o n : Int) (p : Pt) : Int := if p.inp ≠ a then 5 else if p.o0 ≠ o ∨ p.s0 ≠ n then 6 else 0
def invE (x : Ed) : Ed := ⟨x.s, x.i, x.new, x.old⟩
def invM (p : Pt) : Pt := ⟨p.inp, p.o1, p.o0, p.s1, p.s0, p.ed.map invE⟩
end Go.Proofs
