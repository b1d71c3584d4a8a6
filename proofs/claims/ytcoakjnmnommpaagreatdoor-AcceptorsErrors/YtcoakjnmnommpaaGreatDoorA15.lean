import Derived.Test.YtcoakjnmnommpaaGreatDoorA14
namespace Go.Proofs
open Go Go.V
set_option linter.unusedVariables false
set_option linter.unusedSimpArgs false
set_option maxHeartbeats 0
structure ND where
 sy : Nat
 many : Nat
 arcs : List (Nat × Nat × Nat)
 st : Nat
 ac : Nat
def ND.A (x : ND) : Nat := 1 + x.sy % 3
def ND.n (x : ND) : Nat := x.many % 7
def ND.hit (x : ND) (s a t : Nat) (e : Nat × Nat × Nat) : Bool := decide (e.1 % x.n = s) && (decide (e.2.1 % x.A = a) && decide (e.2.2 % x.n = t))
def ND.dK (x : ND) (s a t k : Nat) : Bool := (x.arcs.take k).any (x.hit s a t)
def ND.d (x : ND) (s a t : Nat) : Bool := x.dK s a t (min 60 x.arcs.length)
def ND.lst (x : ND) (s a t : Nat) : List Nat := (List.range t).filter fun t => x.d s a t
def ND.row (x : ND) (s a : Nat) : List LC := (List.range a).map fun a => (intN (x.lst s a x.n), none)
def ND.rows (x : ND) (s : Nat) : List RC := (List.range s).map fun s => (x.row s x.A, none)
structure ND.Ok (x : ND) : Prop where
 sy : x.sy < 256
 many : x.many < 256
 st : x.st < 256
 ac : x.ac < 256
 arcs : ∀ e ∈ x.arcs, e.1 < 256 ∧ e.2.1 < 256 ∧ e.2.2 < 256
 len : x.arcs.length ≤ 9223372036854775807
def arcsA (l : List (Nat × Nat × Nat)) : List (List AV) := l.map fun e => [.int .u8 (e.1 : Nat), .int .u8 (e.2.1 : Nat), .int .u8 (e.2.2 : Nat)]
def ndC (x : ND) (z : Nat) (c : Option Nat) : List AV := [.int .u8 x.sy, .int .u8 x.many, .sl z (arcsA x.arcs) c, .int .u8 x.st, .int .u8 x.ac]
end Go.Proofs
