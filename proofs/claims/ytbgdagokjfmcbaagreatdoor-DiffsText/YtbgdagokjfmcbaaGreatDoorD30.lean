import Derived.Test.YtbgdagokjfmcbaaGreatDoorD29
import Derived.Test.YtbgdagokjfmcbaaGreatDoorD27
namespace Go.Proofs
open Go Go.V
set_option linter.unusedVariables false
set_option linter.unusedSimpArgs false
set_option maxHeartbeats 0
theorem refDiff_ok (i o : Int) (l : List Row) (c : Option Nat) (o' : Int) (r : List Row) (d : Option Nat) (hl : machOk i o l = 0) (hr : machOk i o' r = 0) : PC Tryz.prog G0 6 [mA i o l c, mA i o' r d] (pA (diffM i o l o' r) 6 none) := by
 obtain ⟨h1, h2, h3, h4, h5⟩ := machOk_zero hl
 obtain ⟨g1, g2, g3, g4, g5⟩ := machOk_zero hr
 exact refDiff13 i o l c i o' r d (by omega) (by omega) (by omega) h4 g4
theorem diff_small {i o : Int} {l : List Row} {o' : Int} {r : List Row} (hl : machOk i o l = 0) (hr : machOk i o' r = 0) : (diffM i o l o' r).ed.length ≤ 1024 := by
 obtain ⟨h1, h2, h3, h4, h5⟩ := machOk_zero hl
 obtain ⟨g1, g2, g3, g4, g5⟩ := machOk_zero hr
 exact diffEds_len (by omega) (by omega) (by omega)
theorem same_self (p : Pt) (c d : Option Nat) (hl : p.ed.length ≤ 1000000) : PC Tryz.prog G0 9 [pA p 6 c, pA p 6 d] (.bool true) := by
 have h := refSame12 p p 6 6 c d (.inr rfl) (.inr rfl) hl hl
 rw [decide_eq_true rfl] at h
 exact h
end Go.Proofs
