import Derived.Test.YtbgdagokjfmcbaaDoorD37
namespace Go.Proofs
open Go Go.V
set_option linter.unusedVariables false
set_option linter.unusedSimpArgs false
set_option maxHeartbeats 0
def stepR (l : List Row) (p : Pt) (s i : Nat) : Option Edg :=
 let e := edgeM l s i
 let k := findM p.ed s i
 if 0 ≤ k then if (p.ed.getD k.toNat eD).old = e then if sideM s (p.ed.getD k.toNat eD).new p.s1 p.o1 = true then some (p.ed.getD k.toNat eD).new else none else none
 else if sideM s e p.s1 p.o1 = true then some e else none
def rowR (l : List Row) (p : Pt) (s : Nat) : Nat → Option (List Edg)
 | 0 => some []
 | i + 1 => (rowR l p s i).bind fun r => (stepR l p s i).map fun e => r ++ [e]
def refA (l : List Row) (p : Pt) (I : Nat) : Nat → Option Rs
 | 0 => some []
 | s + 1 => (refA l p I s).bind fun R => (rowR l p s I).map fun r => if (s : Int) < p.s1 then R ++ [r] else R
theorem rowR_none {l : List Row} {p : Pt} {s i : Nat} (h : rowR l p s i = none) : ∀ m, i ≤ m → rowR l p s m = none := by
 intro m hm
 obtain ⟨d, rfl⟩ : ∃ d, m = i + d := ⟨m - i, by omega⟩
 clear hm
 induction d with
 | zero => exact h
 | succ d ih => rw [← Nat.add_assoc, rowR, ih]; rfl
theorem refA_none {l : List Row} {p : Pt} {I s : Nat} (h : refA l p I s = none) : ∀ m, s ≤ m → refA l p I m = none := by
 intro m hm
 obtain ⟨d, rfl⟩ : ∃ d, m = s + d := ⟨m - s, by omega⟩
 clear hm
 induction d with
 | zero => exact h
 | succ d ih => rw [← Nat.add_assoc, refA, ih]; rfl
def refH (I : Nat) (o : Int) (l : List Row) (c : Option Nat) (p : Pt) (z : Nat) (d : Option Nat) (R : Rs) : List Blk :=
 [.row 3 30 [[.int .i64 I, .int .i64 o, .sl 1 (rowsA l) c]], .row 6 36 [[.int .i64 p.inp, .int .i64 p.o0, .int .i64 p.o1, .int .i64 p.s0, .int .i64 p.s1, .sl z (edsA p.ed) d]], .row 3 30 [[.int .i64 0, .int .i64 0, .sl 0 [] (some 0)]], .row 3 30 [[.int .i64 I, .int .i64 p.o1, .own 4 R.length R.length none]], .row 1 97 (rowsA (rowsN R))]
end Go.Proofs
