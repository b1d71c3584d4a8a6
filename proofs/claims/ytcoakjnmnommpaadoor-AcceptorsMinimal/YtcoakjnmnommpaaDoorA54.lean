import Derived.Test.YtcoakjnmnommpaaDoorA52
import Derived.Test.YtcoakjnmnommpaaDoorA13
import Derived.Test.YtcoakjnmnommpaaDoorA15
import Derived.Test.YtcoakjnmnommpaaDoorA16
import Derived.Test.YtcoakjnmnommpaaDoorA18
import Derived.Test.YtcoakjnmnommpaaDoorA24
namespace Go.Proofs
open Go Go.V Go.RowKit
set_option linter.unusedVariables false
set_option linter.unusedSimpArgs false
set_option maxHeartbeats 0
set_option maxRecDepth 100000
theorem qdb9 {x : Nf} {A N : Nat} (hA : 1 ≤ A ∧ A ≤ 16) (hN : N ≤ 256) (h : (detS x A N).length = N) : OkDv A (wf0 (dRow A (detR x A N))) (detA x A N).length ∧ SizeD 1 (dRow A (detR x A N)) 1 (detA x A N) ∧ (dRow A (detR x A N)).length = N := by
 have h1 := wcz9 hA hN h
 have h2 := vbJ9 h
 have h3 : (detR x A N).length = N := (vbg9 x A N h).len
 refine ⟨by rw [qcz9, h2]; exact h1, xP0 (by rw [xH0, h3]; omega) (by rw [h2]; omega) (fun r hr => ?_), by rw [xH0, h3]⟩
 obtain ⟨q, hq, rfl⟩ := List.mem_map.1 hr
 have := xw0 x.S N q hq
 simp only [intN_len]; omega
end Go.Proofs
namespace Go.Proofs
open Go Go.V Go.RowKit
set_option linter.unusedVariables false
set_option linter.unusedSimpArgs false
set_option maxHeartbeats 0
set_option maxRecDepth 100000
theorem kdH9 {x : Nf} {A N : Nat} (hA : 1 ≤ A ∧ A ≤ 16) (hN : N ≤ 256) (h : (detS x A N).length = N) : OkDv A (wf0 (xl0 (detR x A N))) (detA x A N).length ∧ SizeD 1 (xl0 (detR x A N)) 1 (detA x A N) ∧ (xl0 (detR x A N)).length = N := by
 have h1 := wcz9 hA hN h
 have h2 := vbJ9 h
 have h3 : (detR x A N).length = N := (vbg9 x A N h).len
 refine ⟨by rw [zcz9, h2]; exact h1, xP0 (by rw [wE0, h3]; omega) (by rw [h2]; omega) (fun r hr => ?_), by rw [wE0, h3]⟩
 obtain ⟨q, hq, rfl⟩ := List.mem_map.1 hr
 have := xw0 x.S N q hq
 simp only [intN_len]; omega
theorem zdb9 {A B : Int} {l : List LC} {c : Option Nat} {a : List Bool} {ca : Option Nat} {r : List LC} {c' : Option Nat} {b : List Bool} {cb : Option Nat} (h1 : SizeD 1 l 1 a) (h2 : SizeD 1 r 1 b) (hl : l.length ≤ 1000 ∧ a.length ≤ 1000 ∧ r.length ≤ 1000 ∧ b.length ≤ 1000) (hA : A = B) (hr : wf0 l = wf0 r) (hab : a = b) :
  PC Tryd.prog G0 12 [dA A 1 l c 1 a ca, dA B 1 r c' 1 b cb] (.int .i64 1) := by
 have h := kbj9 A 1 l c 1 a ca B 1 r c' 1 b cb (.inr rfl) (.inr rfl) (.inr rfl) (.inr rfl) (by omega) (by omega) (by omega) (by omega) h1.br h2.br
 rwa [if_pos (by exact ⟨hA, hr, hab⟩)] at h
end Go.Proofs
