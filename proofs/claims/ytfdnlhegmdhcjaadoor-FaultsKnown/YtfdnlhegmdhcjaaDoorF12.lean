import Derived.Test.YtfdnlhegmdhcjaaDoorF4
namespace Go.Proofs
open Go Go.V
set_option linter.unusedVariables false
set_option linter.unusedSimpArgs false
set_option maxHeartbeats 0
def lv5 (R : RR) (I O : Nat) (k s i t a : Int) : List Flt := (List.range O).flatMap fun (o : Nat) => isL R I O ⟨k, s, i, t, a, o⟩
def p6 (R : RR) (I O : Nat) (k s i t a : Int) (n : Nat) : List Flt := (List.range n).flatMap fun (o : Nat) => isL R I O ⟨k, s, i, t, a, o⟩
def p5 (R : RR) (I O : Nat) (k s i t : Int) (n : Nat) : List Flt := (List.range n).flatMap fun (a : Nat) => lv5 R I O k s i t a
def p4 (R : RR) (I O : Nat) (k s i : Int) (n : Nat) : List Flt := (List.range n).flatMap fun (t : Nat) => lv4 R I O k s i t
def p3 (R : RR) (I O : Nat) (k s : Int) (n : Nat) : List Flt := (List.range n).flatMap fun (i : Nat) => lv3 R I O k s i
def p2 (R : RR) (I O : Nat) (k : Int) (n : Nat) : List Flt := (List.range n).flatMap fun (s : Nat) => lv2 R I O k s
def p1 (R : RR) (I O : Nat) (ks : List Int) (n : Nat) : List Flt := (ks.take n).flatMap (lv1 R I O)
end Go.Proofs
