import Derived.Test.YtbgdagokjfmcbaaGreatDoorD18
namespace Go.Proofs
open Go Go.V
set_option linter.unusedVariables false
set_option linter.unusedSimpArgs false
set_option maxHeartbeats 0
theorem lexI_zero : ∀ (xs ys : List Int), xs.length = ys.length → (lexI xs ys = 0 ↔ xs = ys)
 | [], [], _ => by simp [lexI]
 | [], _ :: _, h => by simp at h
 | _ :: _, [], h => by simp at h
 | x :: xs, y :: ys, h => by
  have ih := lexI_zero xs ys (by simpa using h)
  rw [lexI]
  by_cases h1 : x < y
  ·rw [if_pos h1]; simp; omega
  ·rw [if_neg h1]
   by_cases h2 : y < x
   ·rw [if_pos h2]; simp; omega
   ·rw [if_neg h2, ih]
    have : x = y := by omega
    simp [this]
theorem cmpM_zero (xs ys : List Int) : cmpM xs ys = 0 ↔ xs = ys := by
 rw [cmpM]
 by_cases h1 : xs.length < ys.length
 ·rw [if_pos h1]; simp; intro h; rw [h] at h1; omega
 ·rw [if_neg h1]
  by_cases h2 : ys.length < xs.length
  ·rw [if_pos h2]; simp; intro h; rw [h] at h2; omega
  ·rw [if_neg h2]; exact lexI_zero xs ys (by omega)
set_option maxRecDepth 100000 in
theorem refCompare66 (xs ys : List Int) (z y : Nat) (c d : Option Nat) (hz : xs = [] ∨ z = 1) (hy : ys = [] ∨ y = 1) (hx : xs.length ≤ 1000000) (hl : ys.length ≤ 1000000) : PC Tryz.prog G0 61 [.sl z (ints xs) c, .sl y (ints ys) d] (.int .i64 (cmpM xs ys)) := by
 refine pc_go 0 40 [.tmp 4] Tryz.func61 rfl rfl rfl (by simp) ?_
 intro s ⟨a0, a1, hz⟩
 simp only [Nat.zero_add, Nat.reduceAdd] at a1
 clear hz
 repeat' (first|(first|(refine a0_ ?_; first|refine a1_ rfl rfl ?_|refine a2_ rfl ?_|refine a3_ rfl rfl ?_|refine a4_ rfl ?_|refine a5_ rfl rfl rfl ?_|refine a6_ rfl rfl ?_)|(refine g0_ ?_; first|refine g1_ rfl ?_|refine g2_ rfl rfl ?_|refine go_draw (dr := allQ) rfl rfl mixed (by first|assumption|kernel_rfl) ?_|refine g4_ rfl ?_|refine g5_ rfl ?_|refine g6_ rfl ?_|refine g7_ rfl ?_|refine g8_ rfl ?_)|(refine o0_ ?_; first|refine o1_ ?_|refine o2_ ?_|refine o3_ ?_|refine o4_ ?_|refine o5_ ?_|refine o6_ rfl ?_|refine o7_ rfl ?_|refine o8_ ?_|refine o9_ ?_|refine oa_ ?_|refine ob_ ?_|refine oc_ ?_|refine od_ ?_|refine oe_ ?_|refine of_ ?_|refine og_ ?_))|refine at_go ?_|(with_reducible refine And.intro (at_go ?_) (at_go ?_))|((with_reducible refine And.intro (fun h => ?_) (fun h => ?_)) <;> try (exfalso; omega))|(with_reducible refine And.intro (by first|omega|(simp only [maxLen]; omega)) ?_)|fail|simp (disch := first|omega|(simp only [length_ints, length_wsA, List.length_set, List.length_reverse, List.length_replicate, List.length_append, List.length_cons, List.length_nil, List.length_map]; omega)) only [push_cast, ↓reduceIte, reduceIte, reduceCtorEq, Nat.reduceAdd, Nat.reduceLT, Nat.reduceEqDiff, Nat.reduceLeDiff, Int.reduceAdd, Int.reduceLT, Int.reduceLE, Nat.reduceMul, a0, a1])
 ·rw [cmpM, if_pos (by omega)]
 ·rw [cmpM, if_neg (by omega), if_pos (by omega)]
 ·have hlen : xs.length = ys.length := by omega
  have hcm : cmpM xs ys = lexI xs ys := by rw [cmpM, if_neg (by omega), if_neg (by omega)]
  rw [hcm]
  refine go_loop rfl (fun mz s' H' => ∃ k : Nat, k ≤ xs.length ∧ mz = xs.length - k ∧ H' = [] ∧ s' 0 = .sl z (ints xs) c ∧ s' 1 = .sl y (ints ys) d ∧ s' 5 = .int .i64 k ∧ lexI xs ys = lexI (xs.drop k) (ys.drop k)) (m := xs.length) (by (first|trivial|((repeat' apply And.intro) <;> first|trivial|assumption|omega|(simp only [maxLen]; omega)|(simp only [length_ints, length_wsA, List.length_replicate, List.length_append, List.length_cons, List.length_nil, List.length_map, List.length_take, List.length_drop, List.length_set, List.length_reverse, maxLen] <;> omega)))) (Weak.refl _ _) ⟨0, by omega, by omega, (by first|rfl|simp [List.drop_zero]), ?_⟩ ?_
  ·simp (disch := first|omega|(simp only [length_ints, length_wsA, List.length_set, List.length_reverse, List.length_replicate, List.length_append, List.length_cons, List.length_nil, List.length_map]; omega)) only [push_cast, ↓reduceIte, reduceIte, reduceCtorEq, Nat.reduceAdd, Nat.reduceLT, Nat.reduceEqDiff, Nat.reduceLeDiff, Int.reduceAdd, Int.reduceLT, Int.reduceLE, Nat.reduceMul, a0, a1]
  ·rintro mz s' H' ⟨k, hk, rfl, rfl, b0, b1, b5, ik⟩
   rcases Nat.lt_or_ge k xs.length with hlt|hge
   ·have hlt2 : k < ys.length := by omega
    obtain rfl := hz.resolve_left (by rintro rfl; simp at hlt)
    obtain rfl := hy.resolve_left (by rintro rfl; simp at hlt2)
    have e1 := getD_ints xs k hlt
    have e2 := getD_ints ys k hlt2
    rw [lexI_drop xs ys k hlt hlt2] at ik
    generalize xs.getD k 0 = a at *
    generalize ys.getD k 0 = b at *
    repeat' (first|(first|(refine a0_ ?_; first|refine a1_ rfl rfl ?_|refine a2_ rfl ?_|refine a3_ rfl rfl ?_|refine a4_ rfl ?_|refine a5_ rfl rfl rfl ?_|refine a6_ rfl rfl ?_)|(refine g0_ ?_; first|refine g1_ rfl ?_|refine g2_ rfl rfl ?_|refine go_draw (dr := allQ) rfl rfl mixed (by first|assumption|kernel_rfl) ?_|refine g4_ rfl ?_|refine g5_ rfl ?_|refine g6_ rfl ?_|refine g7_ rfl ?_|refine g8_ rfl ?_)|(refine o0_ ?_; first|refine o1_ ?_|refine o2_ ?_|refine o3_ ?_|refine o4_ ?_|refine o5_ ?_|refine o6_ rfl ?_|refine o7_ rfl ?_|refine o8_ ?_|refine o9_ ?_|refine oa_ ?_|refine ob_ ?_|refine oc_ ?_|refine od_ ?_|refine oe_ ?_|refine of_ ?_|refine og_ ?_))|refine at_go ?_|(with_reducible refine And.intro (at_go ?_) (at_go ?_))|((with_reducible refine And.intro (fun h => ?_) (fun h => ?_)) <;> try (exfalso; omega))|(with_reducible refine And.intro (by first|omega|(simp only [maxLen]; omega)) ?_)|fail|simp (disch := first|omega|(simp only [length_ints, length_wsA, List.length_set, List.length_reverse, List.length_replicate, List.length_append, List.length_cons, List.length_nil, List.length_map]; omega)) only [push_cast, ↓reduceIte, reduceIte, reduceCtorEq, Nat.reduceAdd, Nat.reduceLT, Nat.reduceEqDiff, Nat.reduceLeDiff, Int.reduceAdd, Int.reduceLT, Int.reduceLE, Nat.reduceMul, b0, b1, b5, e1, e2])
    ·rw [ik, if_pos h]
    ·rename_i h2
     rw [ik, if_neg h2, if_pos h]
    ·rename_i h2
     rw [if_neg (by omega), if_neg (by omega)] at ik
     refine out_round (xs.length - (k + 1)) (by omega) (by (first|trivial|((repeat' apply And.intro) <;> first|trivial|assumption|omega|(simp only [maxLen]; omega)|(simp only [length_ints, length_wsA, List.length_replicate, List.length_append, List.length_cons, List.length_nil, List.length_map, List.length_take, List.length_drop, List.length_set, List.length_reverse, maxLen] <;> omega)))) ⟨k + 1, by omega, rfl, rfl, ?_⟩
     simp (disch := first|omega|(simp only [length_ints, length_wsA, List.length_set, List.length_reverse, List.length_replicate, List.length_append, List.length_cons, List.length_nil, List.length_map]; omega)) only [push_cast, ↓reduceIte, reduceIte, reduceCtorEq, Nat.reduceAdd, Nat.reduceLT, Nat.reduceEqDiff, Nat.reduceLeDiff, Int.reduceAdd, Int.reduceLT, Int.reduceLE, Nat.reduceMul, b0, b1, b5, e1, e2]
     exact ik
   ·obtain rfl : k = xs.length := by omega
    repeat' (first|(first|(refine a0_ ?_; first|refine a1_ rfl rfl ?_|refine a2_ rfl ?_|refine a3_ rfl rfl ?_|refine a4_ rfl ?_|refine a5_ rfl rfl rfl ?_|refine a6_ rfl rfl ?_)|(refine g0_ ?_; first|refine g1_ rfl ?_|refine g2_ rfl rfl ?_|refine go_draw (dr := allQ) rfl rfl mixed (by first|assumption|kernel_rfl) ?_|refine g4_ rfl ?_|refine g5_ rfl ?_|refine g6_ rfl ?_|refine g7_ rfl ?_|refine g8_ rfl ?_)|(refine o0_ ?_; first|refine o1_ ?_|refine o2_ ?_|refine o3_ ?_|refine o4_ ?_|refine o5_ ?_|refine o6_ rfl ?_|refine o7_ rfl ?_|refine o8_ ?_|refine o9_ ?_|refine oa_ ?_|refine ob_ ?_|refine oc_ ?_|refine od_ ?_|refine oe_ ?_|refine of_ ?_|refine og_ ?_))|refine at_go ?_|(with_reducible refine And.intro (at_go ?_) (at_go ?_))|((with_reducible refine And.intro (fun h => ?_) (fun h => ?_)) <;> try (exfalso; omega))|(with_reducible refine And.intro (by first|omega|(simp only [maxLen]; omega)) ?_)|fail|simp (disch := first|omega|(simp only [length_ints, length_wsA, List.length_set, List.length_reverse, List.length_replicate, List.length_append, List.length_cons, List.length_nil, List.length_map]; omega)) only [push_cast, ↓reduceIte, reduceIte, reduceCtorEq, Nat.reduceAdd, Nat.reduceLT, Nat.reduceEqDiff, Nat.reduceLeDiff, Int.reduceAdd, Int.reduceLT, Int.reduceLE, Nat.reduceMul, b0, b1, b5])
    rw [ik, List.drop_length, hlen, List.drop_length]; rfl
def wordsOf (l : List Wd) : List (List Int) := l.map (·.1)
theorem getD_wordsOf (l : List Wd) (k : Nat) : (wordsOf l).getD k [] = (l.getD k wD).1 := by
 rw [wordsOf, List.getD_eq_getElem?_getD, List.getD_eq_getElem?_getD, List.getElem?_map]
 cases l[k]? <;> rfl
set_option maxRecDepth 100000 in
theorem refSame31 (l r : List Wd) (z y : Nat) (c d : Option Nat) (hz : l = [] ∨ z = 1) (hy : r = [] ∨ y = 1) (hl : l.length ≤ 1000000) (hr : r.length ≤ 1000000) (sl : Short l) (sr : Short r) : PC Tryz.prog G0 35 [.sl z (wsA l) c, .sl y (wsA r) d] (.bool (decide (wordsOf l = wordsOf r))) := by
 refine pc_go 0 27 [.tmp 4] Tryz.func35 rfl rfl rfl (by simp) ?_
 intro s ⟨a0, a1, hz⟩
 simp only [Nat.zero_add, Nat.reduceAdd] at a1
 clear hz
 repeat' (first|(first|(refine a0_ ?_; first|refine a1_ rfl rfl ?_|refine a2_ rfl ?_|refine a3_ rfl rfl ?_|refine a4_ rfl ?_|refine a5_ rfl rfl rfl ?_|refine a6_ rfl rfl ?_)|(refine g0_ ?_; first|refine g1_ rfl ?_|refine g2_ rfl rfl ?_|refine go_draw (dr := allQ) rfl rfl mixed (by first|assumption|kernel_rfl) ?_|refine g4_ rfl ?_|refine g5_ rfl ?_|refine g6_ rfl ?_|refine g7_ rfl ?_|refine g8_ rfl ?_)|(refine o0_ ?_; first|refine o1_ ?_|refine o2_ ?_|refine o3_ ?_|refine o4_ ?_|refine o5_ ?_|refine o6_ rfl ?_|refine o7_ rfl ?_|refine o8_ ?_|refine o9_ ?_|refine oa_ ?_|refine ob_ ?_|refine oc_ ?_|refine od_ ?_|refine oe_ ?_|refine of_ ?_|refine og_ ?_))|refine at_go ?_|(with_reducible refine And.intro (at_go ?_) (at_go ?_))|((with_reducible refine And.intro (fun h => ?_) (fun h => ?_)) <;> try (exfalso; omega))|(with_reducible refine And.intro (by first|omega|(simp only [maxLen]; omega)) ?_)|fail|simp (disch := first|omega|(simp only [length_ints, length_wsA, List.length_set, List.length_reverse, List.length_replicate, List.length_append, List.length_cons, List.length_nil, List.length_map]; omega)) only [push_cast, ↓reduceIte, reduceIte, reduceCtorEq, Nat.reduceAdd, Nat.reduceLT, Nat.reduceEqDiff, Nat.reduceLeDiff, Int.reduceAdd, Int.reduceLT, Int.reduceLE, Nat.reduceMul, a0, a1])
 ·rw [decide_eq_false]
  intro hh
  have := congrArg List.length hh
  simp [wordsOf] at this
  omega
 ·refine go_loop rfl (fun mz s' H' => ∃ k : Nat, k ≤ l.length ∧ mz = l.length - k ∧ H' = [] ∧ s' 0 = .sl z (wsA l) c ∧ s' 1 = .sl y (wsA r) d ∧ s' 5 = .int .i64 k ∧ ∀ j, j < k → (l.getD j wD).1 = (r.getD j wD).1) (m := l.length) (by (first|trivial|((repeat' apply And.intro) <;> first|trivial|assumption|omega|(simp only [maxLen]; omega)|(simp only [length_ints, length_wsA, List.length_replicate, List.length_append, List.length_cons, List.length_nil, List.length_map, List.length_take, List.length_drop, List.length_set, List.length_reverse, maxLen] <;> omega)))) (Weak.refl _ _) ⟨0, by omega, by omega, (by first|rfl|simp [List.drop_zero]), ?_⟩ ?_
  ·simp (disch := first|omega|(simp only [length_ints, length_wsA, List.length_set, List.length_reverse, List.length_replicate, List.length_append, List.length_cons, List.length_nil, List.length_map]; omega)) only [push_cast, ↓reduceIte, reduceIte, reduceCtorEq, Nat.reduceAdd, Nat.reduceLT, Nat.reduceEqDiff, Nat.reduceLeDiff, Int.reduceAdd, Int.reduceLT, Int.reduceLE, Nat.reduceMul, a0, a1]
   exact fun j hj => by omega
  ·rintro mz s' H' ⟨k, hk, rfl, rfl, b0, b1, b5, ik⟩
   rcases Nat.lt_or_ge k l.length with hlt|hge
   ·have hlt2 : k < r.length := by omega
    obtain rfl := hz.resolve_left (by rintro rfl; simp at hlt)
    obtain rfl := hy.resolve_left (by rintro rfl; simp at hlt2)
    have e1 := getD_wsA l k hlt
    have e2 := getD_wsA r k hlt2
    have hC := refCompare66 (l.getD k wD).1 (r.getD k wD).1 1 1 (l.getD k wD).2 (r.getD k wD).2 (.inr rfl) (.inr rfl) (sl k hlt) (sr k hlt2)
    have hs := snocB (P := fun j => (l.getD j wD).1 = (r.getD j wD).1) (k := k) ik
    have hno : (l.getD k wD).1 ≠ (r.getD k wD).1 → wordsOf l ≠ wordsOf r := fun h hh => h (by rw [← getD_wordsOf, ← getD_wordsOf, hh])
    have hcz := cmpM_zero (l.getD k wD).1 (r.getD k wD).1
    generalize cmpM (l.getD k wD).1 (r.getD k wD).1 = e at *
    generalize (l.getD k wD).1 = a at *
    generalize (l.getD k wD).2 = ca at *
    generalize (r.getD k wD).1 = b at *
    generalize (r.getD k wD).2 = cb at *
    repeat' (first|(first|(refine a0_ ?_; first|refine a1_ rfl rfl ?_|refine a2_ rfl ?_|refine a3_ rfl rfl ?_|refine a4_ rfl ?_|refine a5_ rfl rfl rfl ?_|refine a6_ rfl rfl ?_)|(refine g0_ ?_; first|refine g1_ rfl ?_|refine g2_ rfl rfl ?_|refine go_draw (dr := allQ) rfl rfl mixed (by first|assumption|kernel_rfl) ?_|refine g4_ rfl ?_|refine g5_ rfl ?_|refine g6_ rfl ?_|refine g7_ rfl ?_|refine g8_ rfl ?_)|(refine o0_ ?_; first|refine o1_ ?_|refine o2_ ?_|refine o3_ ?_|refine o4_ ?_|refine o5_ ?_|refine o6_ rfl ?_|refine o7_ rfl ?_|refine o8_ ?_|refine o9_ ?_|refine oa_ ?_|refine ob_ ?_|refine oc_ ?_|refine od_ ?_|refine oe_ ?_|refine of_ ?_|refine og_ ?_))|refine at_go ?_|(with_reducible refine And.intro (at_go ?_) (at_go ?_))|((with_reducible refine And.intro (fun h => ?_) (fun h => ?_)) <;> try (exfalso; omega))|(with_reducible refine And.intro (by first|omega|(simp only [maxLen]; omega)) ?_)|(first|(refine ⟨_, _, pc_lift (hC) (by (simp [idsL, idsE, AV.ids, Nat.add_zero])) _, ?_⟩)|(refine ⟨_, pc_lift (hC) (by (simp [idsL, idsE, AV.ids, Nat.add_zero])) _, ?_⟩)|(refine ⟨_, fun _ => pc_lift (hC) (by (simp [idsL, idsE, AV.ids, Nat.add_zero])) _, ?_⟩))|simp (disch := first|omega|(simp only [length_ints, length_wsA, List.length_set, List.length_reverse, List.length_replicate, List.length_append, List.length_cons, List.length_nil, List.length_map]; omega)) only [push_cast, ↓reduceIte, reduceIte, reduceCtorEq, Nat.reduceAdd, Nat.reduceLT, Nat.reduceEqDiff, Nat.reduceLeDiff, Int.reduceAdd, Int.reduceLT, Int.reduceLE, Nat.reduceMul, b0, b1, b5, e1, e2])
    ·rw [decide_eq_false (hno fun hh => h (hcz.2 hh))]
    ·refine out_round (l.length - (k + 1)) (by omega) (by (first|trivial|((repeat' apply And.intro) <;> first|trivial|assumption|omega|(simp only [maxLen]; omega)|(simp only [length_ints, length_wsA, List.length_replicate, List.length_append, List.length_cons, List.length_nil, List.length_map, List.length_take, List.length_drop, List.length_set, List.length_reverse, maxLen] <;> omega)))) ⟨k + 1, by omega, rfl, rfl, ?_⟩
     simp (disch := first|omega|(simp only [length_ints, length_wsA, List.length_set, List.length_reverse, List.length_replicate, List.length_append, List.length_cons, List.length_nil, List.length_map]; omega)) only [push_cast, ↓reduceIte, reduceIte, reduceCtorEq, Nat.reduceAdd, Nat.reduceLT, Nat.reduceEqDiff, Nat.reduceLeDiff, Int.reduceAdd, Int.reduceLT, Int.reduceLE, Nat.reduceMul, b0, b1, b5, e1, e2]
     exact hs (hcz.1 (by omega))
   ·obtain rfl : k = l.length := by omega
    repeat' (first|(first|(refine a0_ ?_; first|refine a1_ rfl rfl ?_|refine a2_ rfl ?_|refine a3_ rfl rfl ?_|refine a4_ rfl ?_|refine a5_ rfl rfl rfl ?_|refine a6_ rfl rfl ?_)|(refine g0_ ?_; first|refine g1_ rfl ?_|refine g2_ rfl rfl ?_|refine go_draw (dr := allQ) rfl rfl mixed (by first|assumption|kernel_rfl) ?_|refine g4_ rfl ?_|refine g5_ rfl ?_|refine g6_ rfl ?_|refine g7_ rfl ?_|refine g8_ rfl ?_)|(refine o0_ ?_; first|refine o1_ ?_|refine o2_ ?_|refine o3_ ?_|refine o4_ ?_|refine o5_ ?_|refine o6_ rfl ?_|refine o7_ rfl ?_|refine o8_ ?_|refine o9_ ?_|refine oa_ ?_|refine ob_ ?_|refine oc_ ?_|refine od_ ?_|refine oe_ ?_|refine of_ ?_|refine og_ ?_))|refine at_go ?_|(with_reducible refine And.intro (at_go ?_) (at_go ?_))|((with_reducible refine And.intro (fun h => ?_) (fun h => ?_)) <;> try (exfalso; omega))|(with_reducible refine And.intro (by first|omega|(simp only [maxLen]; omega)) ?_)|(first|(refine ⟨_, _, pc_lift (hC) (by (simp [idsL, idsE, AV.ids, Nat.add_zero])) _, ?_⟩)|(refine ⟨_, pc_lift (hC) (by (simp [idsL, idsE, AV.ids, Nat.add_zero])) _, ?_⟩)|(refine ⟨_, fun _ => pc_lift (hC) (by (simp [idsL, idsE, AV.ids, Nat.add_zero])) _, ?_⟩))|simp (disch := first|omega|(simp only [length_ints, length_wsA, List.length_set, List.length_reverse, List.length_replicate, List.length_append, List.length_cons, List.length_nil, List.length_map]; omega)) only [push_cast, ↓reduceIte, reduceIte, reduceCtorEq, Nat.reduceAdd, Nat.reduceLT, Nat.reduceEqDiff, Nat.reduceLeDiff, Int.reduceAdd, Int.reduceLT, Int.reduceLE, Nat.reduceMul, b0, b1, b5])
    rw [decide_eq_true]
    refine ext_getD [] (by simp [wordsOf]; omega) fun j hj => ?_
    rw [getD_wordsOf, getD_wordsOf]
    exact ik j (by simpa [wordsOf] using hj)
end Go.Proofs
