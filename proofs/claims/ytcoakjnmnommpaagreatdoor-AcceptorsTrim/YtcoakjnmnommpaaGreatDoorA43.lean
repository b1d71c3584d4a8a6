import Derived.Test.YtcoakjnmnommpaaGreatDoorA42
namespace Go.Proofs
open Go Go.V Go.RowKit
set_option linter.unusedVariables false
set_option linter.unusedSimpArgs false
set_option maxHeartbeats 0
set_option maxRecDepth 100000
def errR (a b w : Int) : Int := if 16 < a ∨ 256 < b then 3 else if w = 1 then 1 else 0
def bI (b : Bool) : Int := if b = true then 1 else 0
def wA (sym : Int) (l : List LC) (m : Nat) : Bool := decide (sym < 1) || (decide (l.length = 0) || decide ((m : Int) ≠ l.length))
def wB (sym : Int) (l : List LC) (m s : Nat) : Bool := wA sym l m || (l.take s).any fun r => !wG0 sym l.length r.1
def wR (w : Bool) (sym n : Int) (r : List Int) (a : Nat) : Bool := (w || decide ((r.length : Int) ≠ sym)) || (r.take a).any fun x => !toOk n x
end Go.Proofs
