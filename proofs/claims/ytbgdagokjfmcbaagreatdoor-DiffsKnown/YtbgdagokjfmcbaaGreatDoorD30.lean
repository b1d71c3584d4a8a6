import Derived.Test.YtbgdagokjfmcbaaGreatDoorD29
import Derived.Test.YtbgdagokjfmcbaaGreatDoorD27
namespace Go.Proofs
open Go Go.V
set_option linter.unusedVariables false
set_option linter.unusedSimpArgs false
set_option maxHeartbeats 0
theorem mach_small {i o : Int} {l : List Row} (h : machOk i o l = 0) : l.length ≤ 1000 ∧ ∀ j, j < l.length → (l.getD j ([], none)).1.length ≤ 1000 := by
 obtain ⟨h1, h2, h3, h4, h5⟩ := machOk_zero h
 exact ⟨by omega, fun j hj => by have := h4 j hj; omega⟩
theorem diff_ok (i o : Int) (l : List Row) (c : Option Nat) (o' : Int) (r : List Row) (d : Option Nat) (hl : machOk i o l = 0) (hr : machOk i o' r = 0) : PC Tryz.prog G0 11 [mA i o l c, mA i o' r d] (.tup [pA (diffM i o l o' r) 6 (some (diffM i o l o' r).ed.length), .int .i64 0]) := by
 obtain ⟨s1, s2⟩ := mach_small hl
 obtain ⟨s3, s4⟩ := mach_small hr
 have h := diff11 i o l c i o' r d (by omega) (by omega) (fun j hj => by have := s2 j hj; omega) (fun j hj => by have := s4 j hj; omega)
 rw [if_pos (pairErr_zero hl hr)] at h
 exact h
theorem diff_small {i o : Int} {l : List Row} {o' : Int} {r : List Row} (hl : machOk i o l = 0) (hr : machOk i o' r = 0) : (diffM i o l o' r).ed.length ≤ 1024 := by
 obtain ⟨h1, h2, h3, h4, h5⟩ := machOk_zero hl
 obtain ⟨g1, g2, g3, g4, g5⟩ := machOk_zero hr
 exact diffEds_len (by omega) (by omega) (by omega)
end Go.Proofs
