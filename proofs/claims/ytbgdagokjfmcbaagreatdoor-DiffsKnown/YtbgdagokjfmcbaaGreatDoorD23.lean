import Derived.Test.YtbgdagokjfmcbaaGreatDoorDShelf
import Derived.Lib.ItoaLen
import Derived.Test.YtbgdagokjfmcbaaGreatDoorD21
import Derived.Test.YtbgdagokjfmcbaaGreatDoorD4
namespace Go.Proofs
open Go Go.V
set_option linter.unusedVariables false
set_option linter.unusedSimpArgs false
set_option maxHeartbeats 0
theorem itoa76 (n : Int) (h0 : -9223372036854775808 ≤ n) (h1 : n ≤ 9223372036854775807) (H : List Blk) : ACalls Tryz.prog G0 20 [.int .i64 n] H (.str (Lib.itoa n)) H :=
 itoa_ac (g := 1) (by kernel_rfl) rfl (fun n h0 h1 w ht => Tryz.strconv_Itoa n h0 h1 w ht) n h0 h1
def textE (e : Edg) : List UInt8 := if e = (-1, -1) then [45] else Lib.itoa e.1 ++ [47] ++ Lib.itoa e.2
set_option maxRecDepth 100000 in
theorem text78 (e : Edg) (h : (-1000000 ≤ e.1 ∧ e.1 ≤ 1000000) ∧ -1000000 ≤ e.2 ∧ e.2 ≤ 1000000) : PC Tryz.prog G0 22 [.agg (eA e)] (.str (textE e)) := by
 obtain ⟨x, y⟩ := e
 dsimp only at h
 unfold eA
 by_cases hh : x = -1 ∧ y = -1
 ·obtain ⟨rfl, rfl⟩ := hh
  refine pc_go 0 14 [.tmp 2] Tryz.func22 rfl rfl rfl (by simp) ?_
  intro s ⟨a0, hz⟩
  clear hz
  repeat' (first|(first|(refine a0_ ?_; first|refine a1_ rfl rfl ?_|refine a2_ rfl ?_|refine a3_ rfl rfl ?_|refine a4_ rfl ?_|refine a5_ rfl rfl rfl ?_|refine a6_ rfl rfl ?_)|(refine g0_ ?_; first|refine g1_ rfl ?_|refine g2_ rfl rfl ?_|refine go_draw (dr := allQ) rfl rfl mixed (by first|assumption|kernel_rfl) ?_|refine g4_ rfl ?_|refine g5_ rfl ?_|refine g6_ rfl ?_|refine g7_ rfl ?_|refine g8_ rfl ?_)|(refine o0_ ?_; first|refine o1_ ?_|refine o2_ ?_|refine o3_ ?_|refine o4_ ?_|refine o5_ ?_|refine o6_ rfl ?_|refine o7_ rfl ?_|refine o8_ ?_|refine o9_ ?_|refine oa_ ?_|refine ob_ ?_|refine oc_ ?_|refine od_ ?_|refine oe_ ?_|refine of_ ?_|refine og_ ?_))|refine at_go ?_|(with_reducible refine And.intro (at_go ?_) (at_go ?_))|((with_reducible refine And.intro (fun h => ?_) (fun h => ?_)) <;> try (exfalso; omega))|(with_reducible refine And.intro (by first|omega|(simp only [maxLen]; omega)) ?_)|fail|simp (disch := first|omega|(simp only [length_u8s, length_edsA, List.length_set, List.length_reverse, List.length_replicate, List.length_append, List.length_cons, List.length_nil, List.length_map]; omega)) only [push_cast, ↓reduceIte, reduceIte, reduceCtorEq, Nat.reduceAdd, Nat.reduceLT, Nat.reduceEqDiff, Nat.reduceLeDiff, Int.reduceAdd, Int.reduceLT, Int.reduceLE, Nat.reduceMul, a0, evS, G0_0, Int.reduceNeg, Int.reduceEq])
  all_goals (try omega)
  rfl
 ·have hA : (decide (x = -1) && decide (y = -1)) = false := by simpa using hh
  have h1 := fun H => itoa76 x (by omega) (by omega) H
  have h2 := fun H => itoa76 y (by omega) (by omega) H
  rw [textE, if_neg (by simpa using hh)]
  have l1 := Lib.itoa_length_le x (by omega) (by omega)
  have l2 := Lib.itoa_length_le y (by omega) (by omega)
  refine pc_go 0 14 [.tmp 2] Tryz.func22 rfl rfl rfl (by simp) ?_
  intro s ⟨a0, hz⟩
  clear hz
  repeat' (first|(first|(refine a0_ ?_; first|refine a1_ rfl rfl ?_|refine a2_ rfl ?_|refine a3_ rfl rfl ?_|refine a4_ rfl ?_|refine a5_ rfl rfl rfl ?_|refine a6_ rfl rfl ?_)|(refine g0_ ?_; first|refine g1_ rfl ?_|refine g2_ rfl rfl ?_|refine go_draw (dr := allQ) rfl rfl mixed (by first|assumption|kernel_rfl) ?_|refine g4_ rfl ?_|refine g5_ rfl ?_|refine g6_ rfl ?_|refine g7_ rfl ?_|refine g8_ rfl ?_)|(refine o0_ ?_; first|refine o1_ ?_|refine o2_ ?_|refine o3_ ?_|refine o4_ ?_|refine o5_ ?_|refine o6_ rfl ?_|refine o7_ rfl ?_|refine o8_ ?_|refine o9_ ?_|refine oa_ ?_|refine ob_ ?_|refine oc_ ?_|refine od_ ?_|refine oe_ ?_|refine of_ ?_|refine og_ ?_))|refine at_go ?_|(with_reducible refine And.intro (at_go ?_) (at_go ?_))|((with_reducible refine And.intro (fun h => ?_) (fun h => ?_)) <;> try (exfalso; omega))|(with_reducible refine And.intro (by first|omega|(simp only [maxLen]; omega)) ?_)|(first|(refine ⟨_, _, h1 _, ?_⟩)|(refine ⟨_, h1 _, ?_⟩)|(refine ⟨_, fun _ => h1 _, ?_⟩)|(refine ⟨_, _, h2 _, ?_⟩)|(refine ⟨_, h2 _, ?_⟩)|(refine ⟨_, fun _ => h2 _, ?_⟩))|simp (disch := first|omega|(simp only [length_u8s, length_edsA, List.length_set, List.length_reverse, List.length_replicate, List.length_append, List.length_cons, List.length_nil, List.length_map]; omega)) only [push_cast, ↓reduceIte, reduceIte, reduceCtorEq, Nat.reduceAdd, Nat.reduceLT, Nat.reduceEqDiff, Nat.reduceLeDiff, Int.reduceAdd, Int.reduceLT, Int.reduceLE, Nat.reduceMul, a0, evS, G0_0, hA, maxLen])
  omega
end Go.Proofs
