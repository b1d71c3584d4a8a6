import Derived.Test.YtbgdagokjfmcbaaDoorD35
import Derived.Test.YtbgdagokjfmcbaaDoorD33
namespace Go.Proofs
open Go Go.V
set_option linter.unusedVariables false
set_option linter.unusedSimpArgs false
def goL : Rs → List Ed → Option Rs
 | R, [] => some R
 | R, x :: ed => (stepA R x).bind fun T => goL T ed
theorem goL_snoc (R : Rs) (ed : List Ed) (x : Ed) : goL R (ed ++ [x]) = (goL R ed).bind fun T => stepA T x := by
 induction ed generalizing R with
 | nil => simp only [List.nil_append, goL, Option.bind_some]; cases stepA R x <;> rfl
 | cons y ed ih =>
  simp only [List.cons_append, goL]
  cases stepA R y with
  | none => rfl
  | some T => simp only [Option.bind_some, ih]
theorem goA_take (R : Rs) (ed : List Ed) : ∀ k, k ≤ ed.length → goA R ed k = goL R (ed.take k)
 | 0, _ => rfl
 | k + 1, h => by
  rw [goA, goA_take R ed k (by omega), List.take_add_one, List.getElem?_eq_getElem (by omega), Option.toList_some, goL_snoc]
  rw [List.getD_eq_getElem?_getD, List.getElem?_eq_getElem (by omega)]; rfl
theorem goA_all (R : Rs) (ed : List Ed) : goA R ed ed.length = goL R ed := by
 rw [goA_take R ed _ (Nat.le_refl _), List.take_length]
def mixR (l r : List Row) (I S q : Nat) : Rs := (List.range S).map fun s => (List.range I).map fun i => if s * I + i < q then edgeM r s i else edgeM l s i
theorem stepA_yes {R : Rs} {x : Ed} (h : (R.getD x.s.toNat []).getD x.i.toNat (0, 0) = x.old) : stepA R x = some (R.set x.s.toNat ((R.getD x.s.toNat []).set x.i.toNat x.new)) := if_pos h
theorem rows0_eq {i : Int} {r : List Row} (I : Nat) (hi : i = I) (hw : Wide i r) (n : Nat) (hn : n ≤ r.length) : rows0 r I n = (edgesOf r).take n := by
 refine List.ext_getElem (by simp [rows0, edgesOf]; omega) fun a h1 h2 => ?_
 have ha : a < n := by simpa [rows0] using h1
 have hwa := hw a (by omega)
 simp only [rows0, List.getElem_map, List.getElem_range, rowE, List.getElem_take, edgesOf]
 have hra : r.getD a ([], none) = r[a] := by rw [List.getD_eq_getElem?_getD, List.getElem?_eq_getElem (by omega)]; rfl
 rw [hra] at hwa
 refine List.ext_getElem (by simp; omega) fun b g1 g2 => ?_
 simp only [List.getElem_map, List.getElem_range, edgeM]
 rw [if_neg (by omega), Int.toNat_natCast, Int.toNat_natCast, hra, List.getD_eq_getElem?_getD, List.getElem?_eq_getElem g2]; rfl
end Go.Proofs
