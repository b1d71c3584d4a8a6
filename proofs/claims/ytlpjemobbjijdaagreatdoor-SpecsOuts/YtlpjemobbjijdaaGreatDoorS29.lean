import Derived.Test.YtlpjemobbjijdaaGreatDoorS28
namespace Go.Proofs
open Go Go.V
set_option linter.unusedVariables false
set_option linter.unusedSimpArgs false
set_option maxHeartbeats 0
set_option maxRecDepth 100000
def cmK (l : List Bs) (k : Nat) : Bs := Lib.join (l.take k) [44, 32]
def edL (x : GS) (s i : Nat) (e : Edg) : List Bs := if e.1 = -1 then [] else [eLn x s i e]
def zdc9 (x : GS) (s k : Nat) : List Bs := (List.range k).flatMap fun i => edL x s i ((x.row s).getD i (0, 0))
def xdc9 (x : GS) (s : Nat) : List Bs := (List.range s).flatMap fun s => zdc9 x s (x.row s).length
def lS (x : GS) (s k : Nat) : List Bs := xdc9 x s ++ zdc9 x s k
end Go.Proofs
