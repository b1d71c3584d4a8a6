import Derived.Test.YtcoakjnmnommpaaDoorA52
import Derived.Test.YtcoakjnmnommpaaDoorA13
import Derived.Test.YtcoakjnmnommpaaDoorA15
import Derived.Test.YtcoakjnmnommpaaDoorA16
import Derived.Test.YtcoakjnmnommpaaDoorA18
import Derived.Test.YtcoakjnmnommpaaDoorA24
namespace Go.Proofs
open Go Go.V Go.RowKit
set_option linter.unusedVariables false
set_option linter.unusedSimpArgs false
set_option maxHeartbeats 0
set_option maxRecDepth 100000
end Go.Proofs
namespace Go.Proofs
open Go Go.V Go.RowKit
set_option linter.unusedVariables false
set_option linter.unusedSimpArgs false
set_option maxHeartbeats 0
set_option maxRecDepth 100000
theorem same12 {A B : Int} {l : List LC} {c : Option Nat} {a : List Bool} {ca : Option Nat} {r : List LC} {c' : Option Nat} {b : List Bool} {cb : Option Nat} (h1 : SizeD 1 l 1 a) (h2 : SizeD 1 r 1 b) (hl : l.length ≤ 1000 ∧ a.length ≤ 1000 ∧ r.length ≤ 1000 ∧ b.length ≤ 1000) (hA : A = B) (hr : rowsD l = rowsD r) (hab : a = b) :
  PC Tryd.prog G0 12 [dA A 1 l c 1 a ca, dA B 1 r c' 1 b cb] (.int .i64 1) := by
 have h := refSame12 A 1 l c 1 a ca B 1 r c' 1 b cb (.inr rfl) (.inr rfl) (.inr rfl) (.inr rfl) (by omega) (by omega) (by omega) (by omega) h1.br h2.br
 rwa [if_pos (by exact ⟨hA, hr, hab⟩)] at h
end Go.Proofs
