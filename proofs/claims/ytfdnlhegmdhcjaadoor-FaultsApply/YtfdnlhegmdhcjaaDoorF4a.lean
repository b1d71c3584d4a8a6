import Derived.Test.YtfdnlhegmdhcjaaDoorF4
namespace Go.Proofs
open Go Go.V
set_option linter.unusedVariables false
set_option linter.unusedSimpArgs false
set_option maxHeartbeats 0
theorem ev_g0 (n : Nat) (s : Nat → AV) : evS G0 n s (.global 0) = .iptr tableG 0 := rfl
def chkA (i o : Int) (l : List Row) (f : Flt) : Int := if machOk i o l ≠ 0 then machOk i o l else chkF (edgesOf l) i.toNat o.toNat f
theorem okA_at {i o : Int} {l : List Row} {k t a o' : Int} {u v : Nat} {x1 x2 : Int} (ho : 0 ≤ o) (hd : defA i l u v = true) (hx : (l.getD u ([], none)).1.getD v (0, 0) = (x1, x2)) :
  isA i o l ⟨k, u, v, t, a, o'⟩ = (plainF ⟨k, u, v, t, a, o'⟩ && ((!hasT k || (decide (0 ≤ t) && decide (t < l.length))) && ((!hasO k || (decide (0 ≤ o') && decide (o' < o))) && ((!hasA k || defA i l x1 a) &&
   !((decide (k = 0) && decide (o' = x2)) || ((decide (k = 1) && decide (t = x1)) || (decide (k = 4) && decide (o' = (edR (edgesOf l) x1 a).2)))))))) := by
 rw [isA, ← okP_isF, okP]
 dsimp only
 unfold defA at hd ⊢
 rw [hd, edR_rows, hx, edgesOf_len, inN_int _ o ho]
 have ht : inN t l.length = (decide (0 ≤ t) && decide (t < l.length)) := rfl
 rw [ht, Bool.true_and]
end Go.Proofs
