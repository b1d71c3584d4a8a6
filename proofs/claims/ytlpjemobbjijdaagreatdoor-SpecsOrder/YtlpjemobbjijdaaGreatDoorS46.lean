import Derived.Test.YtlpjemobbjijdaaGreatDoorS44
import Derived.Test.YtlpjemobbjijdaaGreatDoorS12
import Derived.Test.YtlpjemobbjijdaaGreatDoorS13
namespace Go.Proofs
open Go Go.V
set_option linter.unusedVariables false
set_option linter.unusedSimpArgs false
set_option maxHeartbeats 0
set_option maxRecDepth 100000
def lsG (l : List Tk) (most : Nat) : Nat → List Bs → Nat → RS × List Bs
 | 0, _, i => ((i, 4), [])
 | f + 1, o, i => match ql0 l i with
  | .no k e => ((k, e), [])
  | .ok s => if o.contains s = true then ((i, 8), []) else if o.length = most then ((i, 3), []) else
   if i + 1 < l.length ∧ (l.getD (i + 1) tk0).t = [44] then lsG l most f (o ++ [s]) (i + 2) else (ky0 l [59] (i + 1, 0), o ++ [s])
def kdh9 (l : List Tk) (w : Bs) (most : Nat) (r : RS) : RS × List Bs := if (ky0 l w r).2 ≠ 0 then (ky0 l w r, []) else lsG l most (l.length + 1) [] (ky0 l w r).1
def zB (l : List Bs) : Nat := if l = [] then 0 else 1
def cB (l : List Bs) : Option Nat := if l = [] then some 0 else none
section
variable (ts : List Tk) (c : Option Nat) (g : RX)
def zR : List AV := [.sl 0 [] (some 0), .int .i64 0, .int .i64 0, .str [], .int .i64 0, .int .i64 0, .sl 0 [] (some 0), .sl 0 [] (some 0), .sl 0 [] (some 0), .sl 0 [] (some 0)]
end
end Go.Proofs
namespace Go.Proofs
open Go Go.V
set_option linter.unusedVariables false
set_option linter.unusedSimpArgs false
def qaN9 (l : List Tk) (ins outs sts : List Bs) (r : RS) : RS × (Nat × Nat × Nat × Nat) :=
 (ky0 l [59] (ofS' l sts (ky0 l [45, 62] (ofS' l outs (ky0 l [47] (ofS' l ins (ofS' l sts r).1).1)).1)).1,
  (ofS' l sts r).2, (ofS' l ins (ofS' l sts r).1).2, (ofS' l outs (ky0 l [47] (ofS' l ins (ofS' l sts r).1).1)).2,
  (ofS' l sts (ky0 l [45, 62] (ofS' l outs (ky0 l [47] (ofS' l ins (ofS' l sts r).1).1)).1)).2)
def edS (l : List Tk) (ins outs sts : List Bs) : Nat → ER → RS → ER × RS
 | 0, R, r => (R, r)
 | f + 1, R, r => if r.2 = 0 ∧ (r.1 = l.length ∨ (l.getD r.1 tk0).t ≠ kEnd) then
   if (qaN9 l ins outs sts r).1.2 = 0 then
    if 0 ≤ (getE R (qaN9 l ins outs sts r).2.1 (qaN9 l ins outs sts r).2.2.1).1 then edS l ins outs sts f R (r.1, 8)
    else edS l ins outs sts f (setE R (qaN9 l ins outs sts r).2.1 (qaN9 l ins outs sts r).2.2.1 (((qaN9 l ins outs sts r).2.2.2.2 : Int), ((qaN9 l ins outs sts r).2.2.2.1 : Int))) (qaN9 l ins outs sts r).1
   else edS l ins outs sts f R (qaN9 l ins outs sts r).1
  else (R, r)
def GE (R : ER) : Prop := ∀ s a, (getE R s a).1 = -1 ∨ 0 ≤ (getE R s a).1
section
variable (l : List Tk)
def rdN : RS × Bs := vem9 l (ky0 l kMac (0, 0))
def rdI : RS × List Bs := kdh9 l kIns 16 (ky0 l [59] (rdN l).1)
def rdO : RS × List Bs := kdh9 l xn0 16 (rdI l).1
def rdQ : RS × List Bs := kdh9 l kSts 64 (rdO l).1
def rdE : ER × RS := edS l (rdI l).2 (rdO l).2 (rdQ l).2 (l.length + 1) (List.replicate (rdQ l).2.length (row0 (rdI l).2.length)) (rdQ l).1
def rdT : RS := ky0 l [59] (ky0 l kEnd (rdE l).2)
def rdF : RS := if (rdT l).2 = 0 ∧ (rdT l).1 < l.length then ((rdT l).1, 4) else rdT l
end
end Go.Proofs
