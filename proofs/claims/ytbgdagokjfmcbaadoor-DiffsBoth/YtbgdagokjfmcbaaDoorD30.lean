import Derived.Test.YtbgdagokjfmcbaaDoorD29
import Derived.Test.YtbgdagokjfmcbaaDoorD27
namespace Go.Proofs
open Go Go.V
set_option linter.unusedVariables false
set_option linter.unusedSimpArgs false
set_option maxHeartbeats 0
theorem mach_small {i o : Int} {l : List Row} (h : machOk i o l = 0) : l.length ≤ 1000 ∧ ∀ j, j < l.length → (l.getD j ([], none)).1.length ≤ 1000 := by
 obtain ⟨h1, h2, h3, h4, h5⟩ := machOk_zero h
 exact ⟨by omega, fun j hj => by have := h4 j hj; omega⟩
theorem same_self (p : Pt) (c d : Option Nat) (hl : p.ed.length ≤ 1000000) : PC Tryd.prog G0 12 [pA p 6 c, pA p 6 d] (.bool true) := by
 have h := refSame12 p p 6 6 c d (.inr rfl) (.inr rfl) hl hl
 rw [decide_eq_true rfl] at h
 exact h
end Go.Proofs
