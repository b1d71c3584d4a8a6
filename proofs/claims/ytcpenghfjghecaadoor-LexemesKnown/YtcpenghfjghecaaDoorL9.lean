import Derived.Test.YtcpenghfjghecaaDoorL8
import Derived.KernelRfl
/- Lexemes: the examples of the chapter (printed by mkL9.py). -/
namespace Go.Proofs
open Go Go.V
set_option linter.unusedVariables false
set_option linter.unusedSimpArgs false
set_option maxHeartbeats 0
set_option maxRecDepth 100000
theorem tokens32 (l w : List Tk) (n : Nat) (d : Option Nat) (x y e : Int) (hl : l.length ≤ 1000000) (hw : w.length ≤ 1000000) : PC Tryd.prog G0 32 [.sl 4 (tks l) (some n), .int .i64 x, .int .i64 y, .int .i64 e, .sl 4 (tks w) d] (.bool (decide (e = 0) && decide (x = 0) && decide (y = 0) && decide (l = w) && decide (n = l.length))) := by
  have h11 := refEqual11 l w (some n) d hl hw
  have e1 := bI_one
  by_cases c1 : e = 0
  · by_cases c2 : x = 0
    · by_cases c3 : y = 0
      · by_cases c4 : l = w
        · rw [decide_eq_true c4] at h11 ⊢
          subst c1 c2 c3
          refine pc_go 0 34 [.tmp 10] Tryd.func32 rfl rfl rfl (by simp) ?_
          intro s ⟨a0, a1, a2, a3, a4, hz⟩
          simp only [Nat.zero_add, Nat.reduceAdd] at a1 a2 a3 a4
          clear hz
          repeat' (first | (first | (refine a0_ ?_; first | refine a1_ rfl rfl ?_ | refine a2_ rfl ?_ | refine a3_ rfl rfl ?_ | refine a4_ rfl ?_ | refine a5_ rfl rfl rfl ?_ | refine a6_ rfl rfl ?_ | refine a7_ rfl rfl ?_ | refine a8_ rfl rfl ?_ | refine a9_ rfl rfl rfl ?_) | (refine g0_ ?_; first | refine g1_ rfl ?_ | refine g2_ rfl rfl ?_ | refine go_draw (dr := allQ) rfl rfl mixed (by first | assumption | kernel_rfl) ?_ | refine g4_ rfl ?_ | refine g5_ rfl ?_ | refine g6_ rfl ?_ | refine g7_ rfl ?_ | refine g8_ rfl ?_ | refine ga_ rfl ?_ | refine gb_ rfl ?_) | (refine o0_ ?_; first | refine o1_ ?_ | refine o2_ ?_ | refine o3_ ?_ | refine o4_ ?_ | refine o5_ ?_ | refine o6_ rfl ?_ | refine o7_ rfl ?_ | refine o8_ ?_ | refine o9_ ?_ | refine oa_ ?_ | refine ob_ ?_ | refine oc_ ?_ | refine od_ ?_ | refine oe_ ?_ | refine of_ ?_ | refine og_ ?_ | refine oh_ ?_ | refine oi_ ?_ | refine oj_ ?_ | refine ok_ ?_)) | refine at_go ?_ | (with_reducible refine And.intro (at_go ?_) (at_go ?_)) | ((with_reducible refine And.intro (fun h => ?_) (fun h => ?_)) <;> try (exfalso; omega)) | (with_reducible refine And.intro (by first | omega | (simp only [maxLen]; omega)) ?_) | (first | (refine ⟨_, _, pc_lift (h11) (by (simp [idsL, idsE, AV.ids, Nat.add_zero])) _, ?_⟩) | (refine ⟨_, pc_lift (h11) (by (simp [idsL, idsE, AV.ids, Nat.add_zero])) _, ?_⟩) | (refine ⟨_, fun _ => pc_lift (h11) (by (simp [idsL, idsE, AV.ids, Nat.add_zero])) _, ?_⟩)) | simp (disch := first | omega | (simp only [length_tks, List.length_set, List.length_reverse, List.length_replicate, List.length_append, List.length_cons, List.length_nil, List.length_map]; omega)) only [push_cast, ↓reduceIte, reduceIte, reduceCtorEq, Nat.reduceAdd, Nat.reduceLT, Nat.reduceEqDiff, Nat.reduceLeDiff, Int.reduceAdd, Int.reduceLT, Int.reduceLE, Nat.reduceMul, a0, a1, a2, a3, a4, e1, Int.reduceEq])
          first | done | (simp; done) | (congr 1; rw [Bool.eq_iff_iff]; simp; omega)
        · rw [decide_eq_false c4] at h11 ⊢
          subst c1 c2 c3
          refine pc_go 0 34 [.tmp 10] Tryd.func32 rfl rfl rfl (by simp) ?_
          intro s ⟨a0, a1, a2, a3, a4, hz⟩
          simp only [Nat.zero_add, Nat.reduceAdd] at a1 a2 a3 a4
          clear hz
          repeat' (first | (first | (refine a0_ ?_; first | refine a1_ rfl rfl ?_ | refine a2_ rfl ?_ | refine a3_ rfl rfl ?_ | refine a4_ rfl ?_ | refine a5_ rfl rfl rfl ?_ | refine a6_ rfl rfl ?_ | refine a7_ rfl rfl ?_ | refine a8_ rfl rfl ?_ | refine a9_ rfl rfl rfl ?_) | (refine g0_ ?_; first | refine g1_ rfl ?_ | refine g2_ rfl rfl ?_ | refine go_draw (dr := allQ) rfl rfl mixed (by first | assumption | kernel_rfl) ?_ | refine g4_ rfl ?_ | refine g5_ rfl ?_ | refine g6_ rfl ?_ | refine g7_ rfl ?_ | refine g8_ rfl ?_ | refine ga_ rfl ?_ | refine gb_ rfl ?_) | (refine o0_ ?_; first | refine o1_ ?_ | refine o2_ ?_ | refine o3_ ?_ | refine o4_ ?_ | refine o5_ ?_ | refine o6_ rfl ?_ | refine o7_ rfl ?_ | refine o8_ ?_ | refine o9_ ?_ | refine oa_ ?_ | refine ob_ ?_ | refine oc_ ?_ | refine od_ ?_ | refine oe_ ?_ | refine of_ ?_ | refine og_ ?_ | refine oh_ ?_ | refine oi_ ?_ | refine oj_ ?_ | refine ok_ ?_)) | refine at_go ?_ | (with_reducible refine And.intro (at_go ?_) (at_go ?_)) | ((with_reducible refine And.intro (fun h => ?_) (fun h => ?_)) <;> try (exfalso; omega)) | (with_reducible refine And.intro (by first | omega | (simp only [maxLen]; omega)) ?_) | (first | (refine ⟨_, _, pc_lift (h11) (by (simp [idsL, idsE, AV.ids, Nat.add_zero])) _, ?_⟩) | (refine ⟨_, pc_lift (h11) (by (simp [idsL, idsE, AV.ids, Nat.add_zero])) _, ?_⟩) | (refine ⟨_, fun _ => pc_lift (h11) (by (simp [idsL, idsE, AV.ids, Nat.add_zero])) _, ?_⟩)) | simp (disch := first | omega | (simp only [length_tks, List.length_set, List.length_reverse, List.length_replicate, List.length_append, List.length_cons, List.length_nil, List.length_map]; omega)) only [push_cast, ↓reduceIte, reduceIte, reduceCtorEq, Nat.reduceAdd, Nat.reduceLT, Nat.reduceEqDiff, Nat.reduceLeDiff, Int.reduceAdd, Int.reduceLT, Int.reduceLE, Nat.reduceMul, a0, a1, a2, a3, a4, e1, Int.reduceEq])
          all_goals simp
      · rw [decide_eq_false c3]
        refine pc_go 0 34 [.tmp 10] Tryd.func32 rfl rfl rfl (by simp) ?_
        intro s ⟨a0, a1, a2, a3, a4, hz⟩
        simp only [Nat.zero_add, Nat.reduceAdd] at a1 a2 a3 a4
        clear hz
        repeat' (first | (first | (refine a0_ ?_; first | refine a1_ rfl rfl ?_ | refine a2_ rfl ?_ | refine a3_ rfl rfl ?_ | refine a4_ rfl ?_ | refine a5_ rfl rfl rfl ?_ | refine a6_ rfl rfl ?_ | refine a7_ rfl rfl ?_ | refine a8_ rfl rfl ?_ | refine a9_ rfl rfl rfl ?_) | (refine g0_ ?_; first | refine g1_ rfl ?_ | refine g2_ rfl rfl ?_ | refine go_draw (dr := allQ) rfl rfl mixed (by first | assumption | kernel_rfl) ?_ | refine g4_ rfl ?_ | refine g5_ rfl ?_ | refine g6_ rfl ?_ | refine g7_ rfl ?_ | refine g8_ rfl ?_ | refine ga_ rfl ?_ | refine gb_ rfl ?_) | (refine o0_ ?_; first | refine o1_ ?_ | refine o2_ ?_ | refine o3_ ?_ | refine o4_ ?_ | refine o5_ ?_ | refine o6_ rfl ?_ | refine o7_ rfl ?_ | refine o8_ ?_ | refine o9_ ?_ | refine oa_ ?_ | refine ob_ ?_ | refine oc_ ?_ | refine od_ ?_ | refine oe_ ?_ | refine of_ ?_ | refine og_ ?_ | refine oh_ ?_ | refine oi_ ?_ | refine oj_ ?_ | refine ok_ ?_)) | refine at_go ?_ | (with_reducible refine And.intro (at_go ?_) (at_go ?_)) | ((with_reducible refine And.intro (fun h => ?_) (fun h => ?_)) <;> try (exfalso; omega)) | (with_reducible refine And.intro (by first | omega | (simp only [maxLen]; omega)) ?_) | (first | (refine ⟨AV.str [], ?_⟩; refine acc_id ?_)) | simp (disch := first | omega | (simp only [length_tks, List.length_set, List.length_reverse, List.length_replicate, List.length_append, List.length_cons, List.length_nil, List.length_map]; omega)) only [push_cast, ↓reduceIte, reduceIte, reduceCtorEq, Nat.reduceAdd, Nat.reduceLT, Nat.reduceEqDiff, Nat.reduceLeDiff, Int.reduceAdd, Int.reduceLT, Int.reduceLE, Nat.reduceMul, a0, a1, a2, a3, a4, c1, c2, c3])
        all_goals simp
    · rw [decide_eq_false c2]
      refine pc_go 0 34 [.tmp 10] Tryd.func32 rfl rfl rfl (by simp) ?_
      intro s ⟨a0, a1, a2, a3, a4, hz⟩
      simp only [Nat.zero_add, Nat.reduceAdd] at a1 a2 a3 a4
      clear hz
      repeat' (first | (first | (refine a0_ ?_; first | refine a1_ rfl rfl ?_ | refine a2_ rfl ?_ | refine a3_ rfl rfl ?_ | refine a4_ rfl ?_ | refine a5_ rfl rfl rfl ?_ | refine a6_ rfl rfl ?_ | refine a7_ rfl rfl ?_ | refine a8_ rfl rfl ?_ | refine a9_ rfl rfl rfl ?_) | (refine g0_ ?_; first | refine g1_ rfl ?_ | refine g2_ rfl rfl ?_ | refine go_draw (dr := allQ) rfl rfl mixed (by first | assumption | kernel_rfl) ?_ | refine g4_ rfl ?_ | refine g5_ rfl ?_ | refine g6_ rfl ?_ | refine g7_ rfl ?_ | refine g8_ rfl ?_ | refine ga_ rfl ?_ | refine gb_ rfl ?_) | (refine o0_ ?_; first | refine o1_ ?_ | refine o2_ ?_ | refine o3_ ?_ | refine o4_ ?_ | refine o5_ ?_ | refine o6_ rfl ?_ | refine o7_ rfl ?_ | refine o8_ ?_ | refine o9_ ?_ | refine oa_ ?_ | refine ob_ ?_ | refine oc_ ?_ | refine od_ ?_ | refine oe_ ?_ | refine of_ ?_ | refine og_ ?_ | refine oh_ ?_ | refine oi_ ?_ | refine oj_ ?_ | refine ok_ ?_)) | refine at_go ?_ | (with_reducible refine And.intro (at_go ?_) (at_go ?_)) | ((with_reducible refine And.intro (fun h => ?_) (fun h => ?_)) <;> try (exfalso; omega)) | (with_reducible refine And.intro (by first | omega | (simp only [maxLen]; omega)) ?_) | (first | (refine ⟨AV.str [], ?_⟩; refine acc_id ?_)) | simp (disch := first | omega | (simp only [length_tks, List.length_set, List.length_reverse, List.length_replicate, List.length_append, List.length_cons, List.length_nil, List.length_map]; omega)) only [push_cast, ↓reduceIte, reduceIte, reduceCtorEq, Nat.reduceAdd, Nat.reduceLT, Nat.reduceEqDiff, Nat.reduceLeDiff, Int.reduceAdd, Int.reduceLT, Int.reduceLE, Nat.reduceMul, a0, a1, a2, a3, a4, c1, c2])
      all_goals simp
  · rw [decide_eq_false c1]
    refine pc_go 0 34 [.tmp 10] Tryd.func32 rfl rfl rfl (by simp) ?_
    intro s ⟨a0, a1, a2, a3, a4, hz⟩
    simp only [Nat.zero_add, Nat.reduceAdd] at a1 a2 a3 a4
    clear hz
    repeat' (first | (first | (refine a0_ ?_; first | refine a1_ rfl rfl ?_ | refine a2_ rfl ?_ | refine a3_ rfl rfl ?_ | refine a4_ rfl ?_ | refine a5_ rfl rfl rfl ?_ | refine a6_ rfl rfl ?_ | refine a7_ rfl rfl ?_ | refine a8_ rfl rfl ?_ | refine a9_ rfl rfl rfl ?_) | (refine g0_ ?_; first | refine g1_ rfl ?_ | refine g2_ rfl rfl ?_ | refine go_draw (dr := allQ) rfl rfl mixed (by first | assumption | kernel_rfl) ?_ | refine g4_ rfl ?_ | refine g5_ rfl ?_ | refine g6_ rfl ?_ | refine g7_ rfl ?_ | refine g8_ rfl ?_ | refine ga_ rfl ?_ | refine gb_ rfl ?_) | (refine o0_ ?_; first | refine o1_ ?_ | refine o2_ ?_ | refine o3_ ?_ | refine o4_ ?_ | refine o5_ ?_ | refine o6_ rfl ?_ | refine o7_ rfl ?_ | refine o8_ ?_ | refine o9_ ?_ | refine oa_ ?_ | refine ob_ ?_ | refine oc_ ?_ | refine od_ ?_ | refine oe_ ?_ | refine of_ ?_ | refine og_ ?_ | refine oh_ ?_ | refine oi_ ?_ | refine oj_ ?_ | refine ok_ ?_)) | refine at_go ?_ | (with_reducible refine And.intro (at_go ?_) (at_go ?_)) | ((with_reducible refine And.intro (fun h => ?_) (fun h => ?_)) <;> try (exfalso; omega)) | (with_reducible refine And.intro (by first | omega | (simp only [maxLen]; omega)) ?_) | (first | (refine ⟨AV.str [], ?_⟩; refine acc_id ?_)) | simp (disch := first | omega | (simp only [length_tks, List.length_set, List.length_reverse, List.length_replicate, List.length_append, List.length_cons, List.length_nil, List.length_map]; omega)) only [push_cast, ↓reduceIte, reduceIte, reduceCtorEq, Nat.reduceAdd, Nat.reduceLT, Nat.reduceEqDiff, Nat.reduceLeDiff, Int.reduceAdd, Int.reduceLT, Int.reduceLE, Nat.reduceMul, a0, a1, a2, a3, a4, c1])
    all_goals simp
theorem lv1 : PC Tryd.prog G0 9 [.str [115, 48, 32, 97, 47, 120, 45, 62, 116, 59, 32, 35, 32, 121, 101, 115]] (.tup [.sl 4 [[.int .u8 1, .str [115, 48], .int .i64 1, .int .i64 1], [.int .u8 1, .str [97], .int .i64 1, .int .i64 4], [.int .u8 3, .str [47], .int .i64 1, .int .i64 5], [.int .u8 1, .str [120], .int .i64 1, .int .i64 6], [.int .u8 3, .str [45, 62], .int .i64 1, .int .i64 7], [.int .u8 1, .str [116], .int .i64 1, .int .i64 9], [.int .u8 3, .str [59], .int .i64 1, .int .i64 10]] (some 7), .int .i64 0, .int .i64 0, .int .i64 0]) := by
  have h := of9 [115, 48, 32, 97, 47, 120, 45, 62, 116, 59, 32, 35, 32, 121, 101, 115] (by decide)
  have e : ofA [115, 48, 32, 97, 47, 120, 45, 62, 116, 59, 32, 35, 32, 121, 101, 115] = .tup [.sl 4 [[.int .u8 1, .str [115, 48], .int .i64 1, .int .i64 1], [.int .u8 1, .str [97], .int .i64 1, .int .i64 4], [.int .u8 3, .str [47], .int .i64 1, .int .i64 5], [.int .u8 1, .str [120], .int .i64 1, .int .i64 6], [.int .u8 3, .str [45, 62], .int .i64 1, .int .i64 7], [.int .u8 1, .str [116], .int .i64 1, .int .i64 9], [.int .u8 3, .str [59], .int .i64 1, .int .i64 10]] (some 7), .int .i64 0, .int .i64 0, .int .i64 0] := by kernel_rfl
  rw [e] at h
  exact h
theorem lv2 : PC Tryd.prog G0 9 [.str [97, 10, 32, 32, 60, 61, 49, 50]] (.tup [.sl 4 [[.int .u8 1, .str [97], .int .i64 1, .int .i64 1], [.int .u8 3, .str [60, 61], .int .i64 2, .int .i64 3], [.int .u8 2, .str [49, 50], .int .i64 2, .int .i64 5]] (some 3), .int .i64 0, .int .i64 0, .int .i64 0]) := by
  have h := of9 [97, 10, 32, 32, 60, 61, 49, 50] (by decide)
  have e : ofA [97, 10, 32, 32, 60, 61, 49, 50] = .tup [.sl 4 [[.int .u8 1, .str [97], .int .i64 1, .int .i64 1], [.int .u8 3, .str [60, 61], .int .i64 2, .int .i64 3], [.int .u8 2, .str [49, 50], .int .i64 2, .int .i64 5]] (some 3), .int .i64 0, .int .i64 0, .int .i64 0] := by kernel_rfl
  rw [e] at h
  exact h
theorem lv3 : PC Tryd.prog G0 9 [.str [97, 32, 48, 49]] (.tup [.sl 4 [] (some 0), .int .i64 1, .int .i64 3, .int .i64 4]) := by
  have h := of9 [97, 32, 48, 49] (by decide)
  have e : ofA [97, 32, 48, 49] = .tup [.sl 4 [] (some 0), .int .i64 1, .int .i64 3, .int .i64 4] := by kernel_rfl
  rw [e] at h
  exact h
theorem lv4 : PC Tryd.prog G0 9 [.str [97, 98, 32, 36, 32, 95]] (.tup [.sl 4 [] (some 0), .int .i64 1, .int .i64 6, .int .i64 4]) := by
  have h := of9 [97, 98, 32, 36, 32, 95] (by decide)
  have e : ofA [97, 98, 32, 36, 32, 95] = .tup [.sl 4 [] (some 0), .int .i64 1, .int .i64 6, .int .i64 4] := by kernel_rfl
  rw [e] at h
  exact h
theorem lv5 : PC Tryd.prog G0 9 [.str [97, 98, 99, 100, 101, 102, 103, 104, 105, 106, 107, 108, 109, 110, 111, 112, 113]] (.tup [.sl 4 [] (some 0), .int .i64 1, .int .i64 1, .int .i64 10]) := by
  have h := of9 [97, 98, 99, 100, 101, 102, 103, 104, 105, 106, 107, 108, 109, 110, 111, 112, 113] (by decide)
  have e : ofA [97, 98, 99, 100, 101, 102, 103, 104, 105, 106, 107, 108, 109, 110, 111, 112, 113] = .tup [.sl 4 [] (some 0), .int .i64 1, .int .i64 1, .int .i64 10] := by kernel_rfl
  rw [e] at h
  exact h
theorem lt1 : PC Tryd.prog G0 32 [.sl 4 [[.int .u8 1, .str [115, 48], .int .i64 1, .int .i64 1], [.int .u8 1, .str [97], .int .i64 1, .int .i64 4], [.int .u8 3, .str [47], .int .i64 1, .int .i64 5], [.int .u8 1, .str [120], .int .i64 1, .int .i64 6], [.int .u8 3, .str [45, 62], .int .i64 1, .int .i64 7], [.int .u8 1, .str [116], .int .i64 1, .int .i64 9], [.int .u8 3, .str [59], .int .i64 1, .int .i64 10]] (some 7), .int .i64 0, .int .i64 0, .int .i64 0, .sl 4 [[.int .u8 1, .str [115, 48], .int .i64 1, .int .i64 1], [.int .u8 1, .str [97], .int .i64 1, .int .i64 4], [.int .u8 3, .str [47], .int .i64 1, .int .i64 5], [.int .u8 1, .str [120], .int .i64 1, .int .i64 6], [.int .u8 3, .str [45, 62], .int .i64 1, .int .i64 7], [.int .u8 1, .str [116], .int .i64 1, .int .i64 9], [.int .u8 3, .str [59], .int .i64 1, .int .i64 10]] (some 7)] (.bool true) := by
  have h := tokens32 [⟨1, [115, 48], 1, 1⟩, ⟨1, [97], 1, 4⟩, ⟨3, [47], 1, 5⟩, ⟨1, [120], 1, 6⟩, ⟨3, [45, 62], 1, 7⟩, ⟨1, [116], 1, 9⟩, ⟨3, [59], 1, 10⟩] [⟨1, [115, 48], 1, 1⟩, ⟨1, [97], 1, 4⟩, ⟨3, [47], 1, 5⟩, ⟨1, [120], 1, 6⟩, ⟨3, [45, 62], 1, 7⟩, ⟨1, [116], 1, 9⟩, ⟨3, [59], 1, 10⟩] 7 (some 7) 0 0 0 (by decide) (by decide)
  simp only [decide_true, Bool.and_self] at h
  exact h
theorem lt2 : PC Tryd.prog G0 32 [.sl 4 [[.int .u8 1, .str [97], .int .i64 1, .int .i64 1], [.int .u8 3, .str [60, 61], .int .i64 2, .int .i64 3], [.int .u8 2, .str [49, 50], .int .i64 2, .int .i64 5]] (some 3), .int .i64 0, .int .i64 0, .int .i64 0, .sl 4 [[.int .u8 1, .str [97], .int .i64 1, .int .i64 1], [.int .u8 3, .str [60, 61], .int .i64 2, .int .i64 3], [.int .u8 2, .str [49, 50], .int .i64 2, .int .i64 5]] (some 3)] (.bool true) := by
  have h := tokens32 [⟨1, [97], 1, 1⟩, ⟨3, [60, 61], 2, 3⟩, ⟨2, [49, 50], 2, 5⟩] [⟨1, [97], 1, 1⟩, ⟨3, [60, 61], 2, 3⟩, ⟨2, [49, 50], 2, 5⟩] 3 (some 3) 0 0 0 (by decide) (by decide)
  simp only [decide_true, Bool.and_self] at h
  exact h
theorem lx1 : PC Tryd.prog G0 16 [.sl 4 [[.int .u8 1, .str [97], .int .i64 0, .int .i64 0], [.int .u8 3, .str [45], .int .i64 0, .int .i64 0], [.int .u8 3, .str [62], .int .i64 0, .int .i64 0]] (some 3)] (.tup [.str [97, 32, 45, 32, 62], .int .i64 0]) := by
  have h := text16 [⟨1, [97], 0, 0⟩, ⟨3, [45], 0, 0⟩, ⟨3, [62], 0, 0⟩] (some 3) (by decide) (by decide)
  have e : (if goodT [⟨1, [97], 0, 0⟩, ⟨3, [45], 0, 0⟩, ⟨3, [62], 0, 0⟩] = true then jn (txts [⟨1, [97], 0, 0⟩, ⟨3, [45], 0, 0⟩, ⟨3, [62], 0, 0⟩]) else []) = [97, 32, 45, 32, 62] := by kernel_rfl
  have e2 : (if goodT [⟨1, [97], 0, 0⟩, ⟨3, [45], 0, 0⟩, ⟨3, [62], 0, 0⟩] = true then (0 : Int) else 1) = 0 := by kernel_rfl
  rw [e, e2] at h
  exact h
theorem lx2 : PC Tryd.prog G0 16 [.sl 4 [[.int .u8 1, .str [97], .int .i64 0, .int .i64 0], [.int .u8 3, .str [45, 62], .int .i64 0, .int .i64 0]] (some 2)] (.tup [.str [97, 32, 45, 62], .int .i64 0]) := by
  have h := text16 [⟨1, [97], 0, 0⟩, ⟨3, [45, 62], 0, 0⟩] (some 2) (by decide) (by decide)
  have e : (if goodT [⟨1, [97], 0, 0⟩, ⟨3, [45, 62], 0, 0⟩] = true then jn (txts [⟨1, [97], 0, 0⟩, ⟨3, [45, 62], 0, 0⟩]) else []) = [97, 32, 45, 62] := by kernel_rfl
  have e2 : (if goodT [⟨1, [97], 0, 0⟩, ⟨3, [45, 62], 0, 0⟩] = true then (0 : Int) else 1) = 0 := by kernel_rfl
  rw [e, e2] at h
  exact h
theorem lw1 : PC Tryd.prog G0 18 [.agg [.int .u8 2, .str [49, 50], .int .i64 0, .int .i64 0]] (.tup [.int .i64 12, .int .i64 0]) := by
  have h := value18 ⟨2, [49, 50], 0, 0⟩ (by decide)
  have e : valM 2 [49, 50] = (12, 0) := by kernel_rfl
  simp only [e] at h
  exact h
theorem lw2 : PC Tryd.prog G0 18 [.agg [.int .u8 1, .str [97], .int .i64 0, .int .i64 0]] (.tup [.int .i64 0, .int .i64 1]) := by
  have h := value18 ⟨1, [97], 0, 0⟩ (by decide)
  have e : valM 1 [97] = (0, 1) := by kernel_rfl
  simp only [e] at h
  exact h
theorem lives12 : PC Tryd.prog G0 12 [] (.bool true) := by
  refine pc_go 0 166 [.tmp 0] Tryd.func12 rfl rfl rfl (by simp) ?_
  intro s hz
  clear hz
  repeat' (first | (first | (refine a0_ ?_; first | refine a1_ rfl rfl ?_ | refine a2_ rfl ?_ | refine a3_ rfl rfl ?_ | refine a4_ rfl ?_ | refine a5_ rfl rfl rfl ?_ | refine a6_ rfl rfl ?_ | refine a7_ rfl rfl ?_ | refine a8_ rfl rfl ?_ | refine a9_ rfl rfl rfl ?_) | (refine g0_ ?_; first | refine g1_ rfl ?_ | refine g2_ rfl rfl ?_ | refine go_draw (dr := allQ) rfl rfl mixed (by first | assumption | kernel_rfl) ?_ | refine g4_ rfl ?_ | refine g5_ rfl ?_ | refine g6_ rfl ?_ | refine g7_ rfl ?_ | refine g8_ rfl ?_ | refine ga_ rfl ?_ | refine gb_ rfl ?_) | (refine o0_ ?_; first | refine o1_ ?_ | refine o2_ ?_ | refine o3_ ?_ | refine o4_ ?_ | refine o5_ ?_ | refine o6_ rfl ?_ | refine o7_ rfl ?_ | refine o8_ ?_ | refine o9_ ?_ | refine oa_ ?_ | refine ob_ ?_ | refine oc_ ?_ | refine od_ ?_ | refine oe_ ?_ | refine of_ ?_ | refine og_ ?_ | refine oh_ ?_ | refine oi_ ?_ | refine oj_ ?_ | refine ok_ ?_)) | refine at_go ?_ | (with_reducible refine And.intro (at_go ?_) (at_go ?_)) | ((with_reducible refine And.intro (fun h => ?_) (fun h => ?_)) <;> try (exfalso; omega)) | (with_reducible refine And.intro (by first | omega | (simp only [maxLen]; omega)) ?_) | (first | (refine ⟨_, _, pc_lift (lv1) (by (simp [idsL, idsE, AV.ids, Nat.add_zero])) _, ?_⟩) | (refine ⟨_, pc_lift (lv1) (by (simp [idsL, idsE, AV.ids, Nat.add_zero])) _, ?_⟩) | (refine ⟨_, fun _ => pc_lift (lv1) (by (simp [idsL, idsE, AV.ids, Nat.add_zero])) _, ?_⟩) | (refine ⟨_, _, pc_lift (lv2) (by (simp [idsL, idsE, AV.ids, Nat.add_zero])) _, ?_⟩) | (refine ⟨_, pc_lift (lv2) (by (simp [idsL, idsE, AV.ids, Nat.add_zero])) _, ?_⟩) | (refine ⟨_, fun _ => pc_lift (lv2) (by (simp [idsL, idsE, AV.ids, Nat.add_zero])) _, ?_⟩) | (refine ⟨_, _, pc_lift (lv3) (by (simp [idsL, idsE, AV.ids, Nat.add_zero])) _, ?_⟩) | (refine ⟨_, pc_lift (lv3) (by (simp [idsL, idsE, AV.ids, Nat.add_zero])) _, ?_⟩) | (refine ⟨_, fun _ => pc_lift (lv3) (by (simp [idsL, idsE, AV.ids, Nat.add_zero])) _, ?_⟩) | (refine ⟨_, _, pc_lift (lv4) (by (simp [idsL, idsE, AV.ids, Nat.add_zero])) _, ?_⟩) | (refine ⟨_, pc_lift (lv4) (by (simp [idsL, idsE, AV.ids, Nat.add_zero])) _, ?_⟩) | (refine ⟨_, fun _ => pc_lift (lv4) (by (simp [idsL, idsE, AV.ids, Nat.add_zero])) _, ?_⟩) | (refine ⟨_, _, pc_lift (lv5) (by (simp [idsL, idsE, AV.ids, Nat.add_zero])) _, ?_⟩) | (refine ⟨_, pc_lift (lv5) (by (simp [idsL, idsE, AV.ids, Nat.add_zero])) _, ?_⟩) | (refine ⟨_, fun _ => pc_lift (lv5) (by (simp [idsL, idsE, AV.ids, Nat.add_zero])) _, ?_⟩) | (refine ⟨_, _, pc_lift (lt1) (by (simp [idsL, idsE, AV.ids, Nat.add_zero])) _, ?_⟩) | (refine ⟨_, pc_lift (lt1) (by (simp [idsL, idsE, AV.ids, Nat.add_zero])) _, ?_⟩) | (refine ⟨_, fun _ => pc_lift (lt1) (by (simp [idsL, idsE, AV.ids, Nat.add_zero])) _, ?_⟩) | (refine ⟨_, _, pc_lift (lt2) (by (simp [idsL, idsE, AV.ids, Nat.add_zero])) _, ?_⟩) | (refine ⟨_, pc_lift (lt2) (by (simp [idsL, idsE, AV.ids, Nat.add_zero])) _, ?_⟩) | (refine ⟨_, fun _ => pc_lift (lt2) (by (simp [idsL, idsE, AV.ids, Nat.add_zero])) _, ?_⟩) | (refine ⟨_, _, pc_lift (lx1) (by (simp [idsL, idsE, AV.ids, Nat.add_zero])) _, ?_⟩) | (refine ⟨_, pc_lift (lx1) (by (simp [idsL, idsE, AV.ids, Nat.add_zero])) _, ?_⟩) | (refine ⟨_, fun _ => pc_lift (lx1) (by (simp [idsL, idsE, AV.ids, Nat.add_zero])) _, ?_⟩) | (refine ⟨_, _, pc_lift (lx2) (by (simp [idsL, idsE, AV.ids, Nat.add_zero])) _, ?_⟩) | (refine ⟨_, pc_lift (lx2) (by (simp [idsL, idsE, AV.ids, Nat.add_zero])) _, ?_⟩) | (refine ⟨_, fun _ => pc_lift (lx2) (by (simp [idsL, idsE, AV.ids, Nat.add_zero])) _, ?_⟩) | (refine ⟨_, _, pc_lift (lw1) (by (simp [idsL, idsE, AV.ids, Nat.add_zero])) _, ?_⟩) | (refine ⟨_, pc_lift (lw1) (by (simp [idsL, idsE, AV.ids, Nat.add_zero])) _, ?_⟩) | (refine ⟨_, fun _ => pc_lift (lw1) (by (simp [idsL, idsE, AV.ids, Nat.add_zero])) _, ?_⟩) | (refine ⟨_, _, pc_lift (lw2) (by (simp [idsL, idsE, AV.ids, Nat.add_zero])) _, ?_⟩) | (refine ⟨_, pc_lift (lw2) (by (simp [idsL, idsE, AV.ids, Nat.add_zero])) _, ?_⟩) | (refine ⟨_, fun _ => pc_lift (lw2) (by (simp [idsL, idsE, AV.ids, Nat.add_zero])) _, ?_⟩) | (refine ⟨_, _, pc_lift (token14 _ _ _ _) (by (simp [idsL, idsE, AV.ids, Nat.add_zero])) _, ?_⟩) | (refine ⟨_, pc_lift (token14 _ _ _ _) (by (simp [idsL, idsE, AV.ids, Nat.add_zero])) _, ?_⟩) | (refine ⟨_, fun _ => pc_lift (token14 _ _ _ _) (by (simp [idsL, idsE, AV.ids, Nat.add_zero])) _, ?_⟩)) | simp (disch := first | omega | (simp only [length_tks, List.length_set, List.length_reverse, List.length_replicate, List.length_append, List.length_cons, List.length_nil, List.length_map]; omega)) only [push_cast, ↓reduceIte, reduceIte, reduceCtorEq, Nat.reduceAdd, Nat.reduceLT, Nat.reduceEqDiff, Nat.reduceLeDiff, Int.reduceAdd, Int.reduceLT, Int.reduceLE, Nat.reduceMul, Nat.add_zero, tkA, Int.reduceEq])
end Go.Proofs
