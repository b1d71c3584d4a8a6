import Derived.Test.YtlpjemobbjijdaaGreatDoorL5
import Derived.Test.YtlpjemobbjijdaaGreatDoorAP9
import Derived.Test.YtlpjemobbjijdaaGreatDoorNUM
namespace Go.Proofs
open Go Go.V
set_option linter.unusedVariables false
set_option linter.unusedSimpArgs false
set_option maxHeartbeats 0
set_option maxRecDepth 100000
def refC (s : Bs) : Option Nat := if (ofS s).2.2.2 = 0 then none else some 0
def refA (s : Bs) : AV := .tup [.sl 4 (tks (ofS s).1) (refC s), .int .i64 (ofS s).2.1, .int .i64 (ofS s).2.2.1, .int .i64 (ofS s).2.2.2]
end Go.Proofs
namespace Go.Proofs
open Go Go.V
set_option linter.unusedVariables false
set_option linter.unusedSimpArgs false
set_option maxHeartbeats 0
set_option maxRecDepth 100000
theorem wda9 (t : Tk) (hs : t.t.length ≤ 1000000) : PC Tryz.prog G0 84 [.agg (tkA t)] (.int .i64 (chkT t.k t.t)) := by
 obtain ⟨k, w, l, c⟩ := t
 simp only at hs
 have h1 := zcf9 w hs
 by_cases hw : w = []
 ·rw [hw, wcA9]
  refine xd0 0 30 [.tmp 2] Tryz.func84 rfl rfl rfl (by simp) ?_
  intro s ⟨a0, hz⟩
  clear hz
  repeat' (first|refine nv ?_|(with_reducible first|refine gG ?_ ?_|(refine And.intro (fun h => ?_) (fun h => ?_)) <;> try omega|refine andG ?_)|simp (disch := try exact discB) only [push_cast, simprocAttr, a0, tkA])
 ·have p1 := xcd9 k w
  have p2 := xcZ9 k w hw
  simp only [tkA]
  generalize w.take (tokS w).2.1 = x at *
  generalize tokS w = T at *
  obtain ⟨tk, n, e⟩ := T
  simp only at *
  by_cases h : e ≠ 0 ∨ x ≠ w ∨ tk ≠ k
  ·rw [p1 h]
   have hq : (decide (e = 0) && decide (x = w) && decide (tk = k)) = false := by
    rw [Bool.eq_false_iff]; simp only [Bool.and_eq_true, decide_eq_true_eq, ne_eq]; rintro ⟨⟨a, b⟩, d⟩; rcases h with h|h|h <;> contradiction
   by_cases c1 : e = 0
   ·by_cases c2 : x = w
    ·have c3 : ¬ tk = k := by rcases h with h|h|h; exact absurd c1 h; exact absurd c2 h; exact h
     refine xd0 0 30 [.tmp 2] Tryz.func84 rfl rfl rfl (by simp) ?_
     intro s ⟨a0, hz⟩
     clear hz
     repeat' (first|refine nv ?_|(with_reducible first|refine gG ?_ ?_|(refine And.intro (fun h => ?_) (fun h => ?_)) <;> try omega|refine andG ?_)|refine cp h1 ?_|simp (disch := try exact discB) only [push_cast, simprocAttr, a0, hw, c1, c2, c3])
    ·refine xd0 0 30 [.tmp 2] Tryz.func84 rfl rfl rfl (by simp) ?_
     intro s ⟨a0, hz⟩
     clear hz
     repeat' (first|refine nv ?_|(with_reducible first|refine gG ?_ ?_|(refine And.intro (fun h => ?_) (fun h => ?_)) <;> try omega|refine andG ?_)|refine cp h1 ?_|simp (disch := try exact discB) only [push_cast, simprocAttr, a0, hw, c1, c2])
   ·refine xd0 0 30 [.tmp 2] Tryz.func84 rfl rfl rfl (by simp) ?_
    intro s ⟨a0, hz⟩
    clear hz
    repeat' (first|refine nv ?_|(with_reducible first|refine gG ?_ ?_|(refine And.intro (fun h => ?_) (fun h => ?_)) <;> try omega|refine andG ?_)|refine cp h1 ?_|simp (disch := try exact discB) only [push_cast, simprocAttr, a0, hw, c1])
  ·have c1 : e = 0 := Decidable.not_not.1 fun q => h (.inl q)
   have c2 : x = w := Decidable.not_not.1 fun q => h (.inr (.inl q))
   have c3 : tk = k := Decidable.not_not.1 fun q => h (.inr (.inr q))
   rw [p2 c1 c2 c3]
   subst c1 c2 c3
   refine xd0 0 30 [.tmp 2] Tryz.func84 rfl rfl rfl (by simp) ?_
   intro s ⟨a0, hz⟩
   clear hz
   repeat' (first|refine nv ?_|(with_reducible first|refine gG ?_ ?_|(refine And.intro (fun h => ?_) (fun h => ?_)) <;> try omega|refine andG ?_)|refine cp h1 ?_|simp (disch := try exact discB) only [push_cast, simprocAttr, a0, hw])
def ven9 (a b : List Tk) : Bool := decide (a = b)
def valM (k : Int) (w : Bs) : Int × Int := if chkT k w = 0 ∧ k = 2 then ((vcU9 w).1, 0) else (0, 1)
end Go.Proofs
