import Derived.Test.YtbgdagokjfmcbaaDoorD37
import Derived.Test.YtbgdagokjfmcbaaDoorD30
namespace Go.Proofs
open Go Go.V
set_option linter.unusedVariables false
set_option linter.unusedSimpArgs false
set_option maxHeartbeats 0
def rowsI (T : Rs) (I : Nat) : List Row := T.map fun r => (r, some I)
theorem edgesOf_rowsI (T : Rs) (I : Nat) : edgesOf (rowsI T I) = T := by simp [edgesOf, rowsI, Function.comp_def]
theorem length_rowsI (T : Rs) (I : Nat) : (rowsI T I).length = T.length := by simp [rowsI]
theorem same_mach (i o : Int) (l r : List Row) (c d : Option Nat) (hl : machOk i o l = 0) (he : edgesOf r = edgesOf l) : PC Tryd.prog G0 21 [mA i o r c, mA i o l d] (.bool true) := by
 obtain ⟨h1, h2, h3, h4, h5⟩ := machOk_zero hl
 have hlen : r.length = l.length := by have := congrArg List.length he; simpa [edgesOf] using this
 have hw : ∀ j, j < l.length → (l.getD j ([], none)).1.length ≤ 1000000 := fun j hj => by have := h4 j hj; omega
 have h := refSame21 i o r 1 c i o l 1 d (.inr rfl) (.inr rfl) (by omega) (by omega) (fun j hj => by
  rw [← getD_edgesOf, he, getD_edgesOf]; exact hw j (by omega)) hw
 rw [decide_eq_true ⟨rfl, rfl, he⟩] at h
 exact h
end Go.Proofs
