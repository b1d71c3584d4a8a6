import Derived.Test.YtcoakjnmnommpaaDoorA11
namespace Go.Proofs
open Go Go.V
set_option linter.unusedVariables false
set_option linter.unusedSimpArgs false
set_option maxHeartbeats 0
def vR0 (l : List LC) : List (List Nat) := (wf0 l).map natL
theorem qbV9 (l : List LC) (s a : Nat) (hs : s < l.length) (ha : a < (l.getD s ([], none)).1.length) : ((vR0 l).getD s []).getD a 0 = ((l.getD s ([], none)).1.getD a 0).toNat := by
 simp [vR0, wf0, natL, hs] at ha ⊢
 simp [ha]
structure SizeD (zr : Nat) (l : List LC) (za : Nat) (ac : List Bool) : Prop where
 zl : l = [] ∨ zr = 1
 zac : ac = [] ∨ za = 1
 bl : l.length ≤ 140737488355328
 bac : ac.length ≤ 140737488355328
 br : ∀ s, s < l.length → (l.getD s ([], none)).1.length ≤ 140737488355328
theorem SizeD.check {sym : Int} {zr : Nat} {l : List LC} {c : Option Nat} {za : Nat} {ac : List Bool} {ca : Option Nat} (h : SizeD zr l za ac) : PC Tryd.prog G0 40 [dA sym zr l c za ac ca] (.int .i64 (qi0 sym (wf0 l) ac.length)) :=
 xcq9 sym zr l c za ac ca h.zl h.bl h.bac h.br
theorem OkDv.row {A : Nat} {l : List LC} {m : Nat} (h : OkDv A (wf0 l) m) {s : Nat} (hs : s < l.length) : (l.getD s ([], none)).1.length = A := by
 have := h.len s (by rw [qd0]; exact hs)
 rw [kac9 l s hs] at this
 exact this
theorem OkDv.at {A : Nat} {l : List LC} {m : Nat} (h : OkDv A (wf0 l) m) {s a : Nat} (hs : s < l.length) (ha : a < A) : 0 ≤ (l.getD s ([], none)).1.getD a 0 ∧ (l.getD s ([], none)).1.getD a 0 < l.length := by
 have := h.to s a (by rw [qd0]; exact hs) ha
 rw [kac9 l s hs, qd0] at this
 exact this
def accD (sym : Int) (l : List LC) (ac : List Bool) (w : List Int) : AV :=
 if qi0 sym (wf0 l) ac.length ≠ 0 then .tup [.bool false, .int .i64 (qi0 sym (wf0 l) ac.length)]
 else if wR0 sym w ≠ 0 then .tup [.bool false, .int .i64 (wR0 sym w)]
 else .tup [.bool (ac.getD (runD (vR0 l) 0 (natL w)) false), .int .i64 0]
end Go.Proofs
