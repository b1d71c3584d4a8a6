import Derived.Test.YtcoakjnmnommpaaGreatDoorA11
namespace Go.Proofs
open Go Go.V
set_option linter.unusedVariables false
set_option linter.unusedSimpArgs false
set_option maxHeartbeats 0
def zbL9 (l : List LC) : List (List Nat) := (vm0 l).map natL
theorem wcb9 (l : List LC) (s a : Nat) (hs : s < l.length) (ha : a < (l.getD s ([], none)).1.length) : ((zbL9 l).getD s []).getD a 0 = ((l.getD s ([], none)).1.getD a 0).toNat := by
 simp [zbL9, vm0, natL, hs] at ha ⊢
 simp [ha]
structure SizeD (zr : Nat) (l : List LC) (za : Nat) (ac : List Bool) : Prop where
 zl : l = [] ∨ zr = 1
 zac : ac = [] ∨ za = 1
 bl : l.length ≤ 9223372036854775807
 bac : ac.length ≤ 9223372036854775807
 br : ∀ s, s < l.length → (l.getD s ([], none)).1.length ≤ 9223372036854775807
theorem SizeD.check {sym : Int} {zr : Nat} {l : List LC} {c : Option Nat} {za : Nat} {ac : List Bool} {ca : Option Nat} (h : SizeD zr l za ac) : PC Tryz.prog G0 21 [dA sym zr l c za ac ca] (.int .i64 (vl0 sym (vm0 l) ac.length)) :=
 kcw9 sym zr l c za ac ca h.zl h.bl h.bac h.br
theorem OkDv.row {A : Nat} {l : List LC} {m : Nat} (h : OkDv A (vm0 l) m) {s : Nat} (hs : s < l.length) : (l.getD s ([], none)).1.length = A := by
 have := h.len s (by rw [kg0]; exact hs)
 rw [vac9 l s hs] at this
 exact this
theorem OkDv.at {A : Nat} {l : List LC} {m : Nat} (h : OkDv A (vm0 l) m) {s a : Nat} (hs : s < l.length) (ha : a < A) : 0 ≤ (l.getD s ([], none)).1.getD a 0 ∧ (l.getD s ([], none)).1.getD a 0 < l.length := by
 have := h.to s a (by rw [kg0]; exact hs) ha
 rw [vac9 l s hs, kg0] at this
 exact this
def accD (sym : Int) (l : List LC) (ac : List Bool) (w : List Int) : AV :=
 if vl0 sym (vm0 l) ac.length ≠ 0 then .tup [.bool false, .int .i64 (vl0 sym (vm0 l) ac.length)]
 else if kG0 sym w ≠ 0 then .tup [.bool false, .int .i64 (kG0 sym w)]
 else .tup [.bool (ac.getD (runD (zbL9 l) 0 (natL w)) false), .int .i64 0]
end Go.Proofs
