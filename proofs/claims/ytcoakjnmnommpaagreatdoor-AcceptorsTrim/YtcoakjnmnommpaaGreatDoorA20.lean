import Derived.Test.YtcoakjnmnommpaaGreatDoorA19
import Derived.Test.YtcoakjnmnommpaaGreatDoorA12
namespace Go.Proofs
open Go Go.V
set_option linter.unusedVariables false
set_option linter.unusedSimpArgs false
set_option maxHeartbeats 0
def wdP9 (r : List Int) (k : Nat) : List LC := (r.take k).map fun n => ([n], some 1)
def ofRC (l : List LC) (k : Nat) : List RC := (l.take k).map fun r => (wdP9 r.1 r.1.length, some r.1.length)
def accK (ac : List Bool) (k : Nat) : List Nat := (List.range k).filter fun s => ac.getD s false
def nA0 : AV := .agg [.int .i64 0, .sl 0 [] (some 0), .sl 0 [] (some 0), .sl 0 [] (some 0)]
def dA0 : AV := .agg [.int .i64 0, .sl 0 [] (some 0), .sl 0 [] (some 0)]
def ofDV (sym : Int) (l : List LC) (ac : List Bool) : AV :=
 if vl0 sym (vm0 l) ac.length ≠ 0 then .tup [nA0, .int .i64 (vl0 sym (vm0 l) ac.length)]
 else .tup [nA sym 1 (ofRC l l.length) (some l.length) 1 [0] (some 1) 1 (intN (accK ac l.length)) (some (accK ac l.length).length), .int .i64 0]
end Go.Proofs
