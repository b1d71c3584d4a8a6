import Derived.Test.YtbgdagokjfmcbaaDoorD35
import Derived.Test.YtbgdagokjfmcbaaDoorD33
/- Diffs: a difference, applied: plain. -/
namespace Go.Proofs
open Go Go.V
set_option linter.unusedVariables false
set_option linter.unusedSimpArgs false
def goL : Rs → List Ed → Option Rs
  | R, [] => some R
  | R, x :: ed => (stepA R x).bind fun T => goL T ed
theorem goL_snoc (R : Rs) (ed : List Ed) (x : Ed) : goL R (ed ++ [x]) = (goL R ed).bind fun T => stepA T x := by
  induction ed generalizing R with
  | nil => simp only [List.nil_append, goL, Option.bind_some]; cases stepA R x <;> rfl
  | cons y ed ih =>
    simp only [List.cons_append, goL]
    cases stepA R y with
    | none => rfl
    | some T => simp only [Option.bind_some, ih]
theorem goA_take (R : Rs) (ed : List Ed) : ∀ k, k ≤ ed.length → goA R ed k = goL R (ed.take k)
  | 0, _ => rfl
  | k + 1, h => by
    rw [goA, goA_take R ed k (by omega), List.take_add_one, List.getElem?_eq_getElem (by omega), Option.toList_some, goL_snoc]
    rw [List.getD_eq_getElem?_getD, List.getElem?_eq_getElem (by omega)]; rfl
theorem goA_all (R : Rs) (ed : List Ed) : goA R ed ed.length = goL R ed := by
  rw [goA_take R ed _ (Nat.le_refl _), List.take_length]
/-- The rows, of which the first q edges are those of r. -/
def mixR (l r : List Row) (I S q : Nat) : Rs := (List.range S).map fun s => (List.range I).map fun i => if s * I + i < q then edgeM r s i else edgeM l s i
theorem stepA_yes {R : Rs} {x : Ed} (h : (R.getD x.s.toNat []).getD x.i.toNat (0, 0) = x.old) : stepA R x = some (R.set x.s.toNat ((R.getD x.s.toNat []).set x.i.toNat x.new)) := if_pos h
end Go.Proofs
