import Derived.Test.YtfdnlhegmdhcjaaDoorF41
namespace Go.Proofs
open Go Go.V
set_option linter.unusedVariables false
set_option linter.unusedSimpArgs false
theorem applyR_split {R : RR} {f : Flt} (hs : f.s.toNat < R.length) : applyR R f = setE R f.s f.i (newE R f) ++ newR R f := by
 rw [applyR, setE, setE, getD_left _ _ _ _ hs, List.set_append_left _ _ hs]
def rowsN (R : RR) : List Row := R.map fun r => (r, none)
theorem edgesOf_rowsN (R : RR) : edgesOf (rowsN R) = R := by simp [edgesOf, rowsN, Function.comp_def]
theorem rowsN_len (R : RR) : (rowsN R).length = R.length := by simp [rowsN]
theorem rowsN_cells (R : RR) : rowsA (rowsN R) = cellsF (fun s => .sl 2 (rowA (R.getD s [])) none) R.length := by
 refine List.ext_getElem (by simp [rowsA, rowsN, cellsF]) fun k h1 h2 => ?_
 have : k < R.length := by simpa [cellsF] using h2
 simp [rowsA, rowsN, cellsF, this]
theorem arX_cells (R : RR) (I : Nat) (f : Flt) : arX R I f = cellsF (fun s => if s < R.length then .own (s + 5) I I none else .own (R.length + 6) I I none) (R.length + (newR R f).length) := by
 have h0 : cellsF (fun s => if s < R.length then .own (s + 5) I I none else .own (R.length + 6) I I none) R.length = ownR 5 I none R.length := by
  refine List.ext_getElem (by simp [cellsF, ownR]) fun k h1 h2 => ?_
  have : k < R.length := by simpa [ownR] using h2
  simp [cellsF, ownR, this]
 unfold arX
 rw [newR_len]
 split
 ·rw [← cellsF_snoc, h0]; simp
 ·simp only [Nat.add_zero, h0]
theorem refApply15P (i o : Int) (l : List Row) (c : Option Nat) (f : Flt) (I : Nat) (hI : i = I) (hm : machOk i o l = 0) (hf : isA i o l f = true) :
  PC Tryd.prog G0 15 [mA i o l c, .agg (flA f)] (.agg [.int .i64 i, .int .i64 o, .sl 1 (rowsA (rowsN (applyR (edgesOf l) f))) none]) := by
 have hA := refApply15 i o l c f I hI hm hf
 have hM := applyR_rows hm hf
 obtain ⟨d1, d2, d3, d4, d5⟩ := isF_def (show isF (edgesOf l) i.toNat o.toNat f = true from hf)
 have hsp := applyR_split (R := edgesOf l) (f := f) (by omega)
 have hX := arX_cells (edgesOf l) I f
 have hK : (newR (edgesOf l) f).length = 1 → (arK (edgesOf l) I f)[1]? = some (.row 2 46 (rowA ((newR (edgesOf l) f).getD 0 []))) := fun h => by
  rw [newR_len] at h
  have h' : f.k = 3 ∨ f.k = 4 := by
   by_cases q : f.k = 3 ∨ f.k = 4
   ·exact q
   ·rw [if_neg q] at h; omega
  unfold arK
  rw [if_pos h']; rfl
 have hn1 : (newR (edgesOf l) f).length ≤ 1 := by rw [newR_len]; split <;> omega
 generalize arK (edgesOf l) I f = K at *
 generalize arX (edgesOf l) I f = X at *
 have hSl : (setE (edgesOf l) f.s f.i (newE (edgesOf l) f)).length = (edgesOf l).length := setE_len _ _ _ _
 generalize setE (edgesOf l) f.s f.i (newE (edgesOf l) f) = S at *
 generalize newR (edgesOf l) f = N at *
 have hAl : (applyR (edgesOf l) f).length = (edgesOf l).length + N.length := by rw [hsp, List.length_append, hSl]
 generalize applyR (edgesOf l) f = R at *
 generalize (edgesOf l).length = n at *
 have hw : ∀ s, s < R.length → (R.getD s []).length = I := fun s hs => by
  rw [List.getD_eq_getElem?_getD, List.getElem?_eq_getElem hs, Option.getD_some, hM.row _ (List.getElem_mem hs)]
  omega
 have hSm : (S.map rowA).length = n := by rw [List.length_map, hSl]
 have hH : ∀ s, s < n + N.length → (arH i o l c f R.length X (S.map rowA) K)[(fun s => if s < n then s + 5 else n + 6) s]? = some (.row 2 46 (rowA (R.getD s []))) := fun s hs => by
  dsimp only
  by_cases q : s < n
  ·rw [if_pos q]
   show (rowBs 2 46 (S.map rowA) ++ K)[s]? = _
   rw [rb_getK K hSm q, getD_mapA, hsp, getD_left _ _ _ _ (by omega)]
  ·rw [if_neg q]
   show (rowBs 2 46 (S.map rowA) ++ K)[n + 1]? = _
   have hN1 : N.length = 1 := by omega
   rw [rb_at K hSm 1, hK hN1]
   obtain rfl : s = n := by omega
   have := getD_right S N 0 []
   rw [Nat.add_zero, hSl] at this
   rw [hsp, this]
 have hb : (arH i o l c f R.length X (S.map rowA) K)[4]? = some (.row 1 44 X) := rfl
 have hXt : X.take R.length = X := List.take_of_length_le (by rw [hX, length_cellsF]; omega)
 have hf' : ∀ s, s < n + N.length → (fun s => if s < n then AV.own (s + 5) I I none else .own (n + 6) I I none) s = .own ((fun s => if s < n then s + 5 else n + 6) s) (rowA (R.getD s [])).length (rowA (R.getD s [])).length ((fun _ => none) s) := fun s hs => by
  rw [length_rowA, hw s (by omega)]
  dsimp only
  split <;> rfl
 have hXl : X.length = R.length := by rw [hX, length_cellsF]; omega
 have o1 : okC (arH i o l c f R.length X (S.map rowA) K) 2 (.own 4 R.length R.length none) = true := by
  have := ok_cellsP (c := fun _ => none) (π := fun s => if s < n then s + 5 else n + 6) hf' hH (fun s hs => idsE_rowA _ _)
  rw [← hX] at this
  simp only [okC, isLen, shOf, hb, hXl, hXt]
  simp only [this, beq_self_eq_true, Bool.and_self]
 have o2 : closeC (arH i o l c f R.length X (S.map rowA) K) 2 (.own 4 R.length R.length none) = .sl 1 (rowsA (rowsN R)) none := by
  have := close_cellsP (c := fun _ => none) (π := fun s => if s < n then s + 5 else n + 6) hf' hH
  rw [← hX] at this
  simp only [closeC, hb, hXt]
  rw [this, rowsN_cells, hAl]
 refine pc_of_ac 2 hA ?_ ?_
 ·simp only [okR, okA, List.all_cons, List.all_nil, o1, Bool.and_true]
  rfl
 ·simp only [closeR, closeA, List.map_cons, List.map_nil, o2]
  rfl
end Go.Proofs
