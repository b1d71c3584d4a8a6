import Derived.Test.YtbgdagokjfmcbaaGreatDoorD17
import Derived.Test.YtbgdagokjfmcbaaGreatDoorD13
import Derived.Test.YtbgdagokjfmcbaaGreatDoorV42
namespace Go.Proofs
open Go Go.V
set_option linter.unusedVariables false
set_option linter.unusedSimpArgs false
set_option maxHeartbeats 0
def oneM : List Row := ringM [(1, 0), (2, 0), (0, 1)]
def twoM : List Row := ringM [(2, 0), (0, 1), (1, 0)]
theorem leads1 : Leads 1 oneM.length oneM := fun s j hs hj => by
 have h1 : s < 3 := hs
 obtain rfl : j = 0 := by omega
 rcases (show s = 0 ∨ s = 1 ∨ s = 2 by omega) with rfl|rfl|rfl <;> decide
theorem leads2 : Leads 1 twoM.length twoM := fun s j hs hj => by
 have h1 : s < 3 := hs
 obtain rfl : j = 0 := by omega
 rcases (show s = 0 ∨ s = 1 ∨ s = 2 by omega) with rfl|rfl|rfl <;> decide
theorem wide1 : ∀ s, s < oneM.length → (oneM.getD s ([], none)).1.length = 1 := fun s hs => by
 have h1 : s < 3 := hs
 rcases (show s = 0 ∨ s = 1 ∨ s = 2 by omega) with rfl|rfl|rfl <;> rfl
theorem wide2 : ∀ s, s < twoM.length → (twoM.getD s ([], none)).1.length = 1 := fun s hs => by
 have h1 : s < 3 := hs
 rcases (show s = 0 ∨ s = 1 ∨ s = 2 by omega) with rfl|rfl|rfl <;> rfl
theorem pairs12 : outM twoM.length (pairsP oneM twoM 1) = [0, 2, 1] := by decide
theorem err12 : pairErr 1 2 oneM 1 2 twoM = 0 := by decide
set_option maxRecDepth 100000 in
theorem align19c : PC Tryz.prog G0 37 [mA 1 2 oneM none, mA 1 2 twoM none] (.tup [mA 1 2 oneM (some 3), .sl 1 (ints [0, 2, 1]) (some 3), .int .i64 0]) := by
 have hC := check40 1 2 oneM none 1 2 twoM none (by decide) (by decide) (fun j hj => by have := wide1 j hj; omega) (fun j hj => by have := wide2 j hj; omega)
 have hM := matched50 1 2 oneM none 1 2 twoM none 1 (by omega) (by decide) (by decide) wide1 wide2 leads1 leads2
 rw [err12] at hC
 rw [pairs12] at hM
 have hM2 := fun H => ac_new (r' := .own H.length 3 3 (some 3)) (es' := ints [0, 2, 1]) 0 2 H hM (by simp [idsL, AV.ids, mA]) rfl (by simp [okC, AV.closed, AV.ids, ints]) (by simp [closeC, ints]) (by simp [okRenR, okRen]) (by simp [renR, renA, twoM, ringM])
 clear hM
 unfold mA at *
 have e1 : rowsA oneM = [[.sl 2 [[.int .i64 1, .int .i64 0]] (some 1)], [.sl 2 [[.int .i64 2, .int .i64 0]] (some 1)], [.sl 2 [[.int .i64 0, .int .i64 1]] (some 1)]] := rfl
 have e2 : rowsA twoM = [[.sl 2 [[.int .i64 2, .int .i64 0]] (some 1)], [.sl 2 [[.int .i64 0, .int .i64 1]] (some 1)], [.sl 2 [[.int .i64 1, .int .i64 0]] (some 1)]] := rfl
 have e3 : ints [0, 2, 1] = [[.int .i64 0], [.int .i64 2], [.int .i64 1]] := rfl
 rw [e1, e2] at *
 rw [e3] at *
 refine pc_go 2 128 [.cell 4 30, .tmp 5, .tmp 6] Tryz.func37 rfl rfl rfl (by simp) ?_
 intro s ⟨a0, a1, hz⟩
 simp only [Nat.zero_add, Nat.reduceAdd] at a1
 clear hz
 have m3 : (3 ≤ maxLen) = True := eq_true (by unfold maxLen; omega)
 have m1 : (1 ≤ maxLen) = True := eq_true (by unfold maxLen; omega)
 repeat' (first|(((first|(refine a0_ ?_; first|refine a1_ rfl rfl ?_|refine a2_ rfl ?_|refine a3_ rfl rfl ?_|refine a4_ rfl ?_|refine a5_ rfl rfl rfl ?_|refine a6_ rfl rfl ?_)|(refine g0_ ?_; first|refine g1_ rfl ?_|refine g2_ rfl rfl ?_|refine go_drawN (dr := allQ) (p := [0, 1, 1, 1, 1, 1, 1]) [(74, 3), (75, 74), (76, 3), (77, 76)] [(80, none)] [(8, 9)] rfl rfl mixed (by kernel_rfl) ?_|refine go_draw (dr := allQ) rfl rfl mixed (by first|assumption|kernel_rfl) ?_|refine g4_ rfl ?_|refine g5_ rfl ?_|refine g6_ rfl ?_|refine g7_ rfl ?_|refine g8_ rfl ?_|refine go_unroll 10 rfl ?_)|(refine o0_ ?_; first|refine o1_ ?_|refine o2_ ?_|refine o3_ ?_|refine o4_ ?_|refine o5_ ?_|refine o6_ rfl ?_|refine o7_ rfl ?_|refine o8_ ?_|refine o9_ ?_|refine oa_ ?_|refine ob_ ?_|refine oc_ ?_|refine od_ ?_|refine oe_ ?_|refine of_ ?_|refine og_ ?_))) <;> (try simp (disch := first|omega|(simp only [List.length_nil, List.length_set, List.length_reverse, List.length_replicate, List.length_append, List.length_cons, List.length_nil, List.length_map]; omega)) only [push_cast, ↓reduceIte, reduceIte, reduceCtorEq, Nat.reduceAdd, Nat.reduceLT, Nat.reduceEqDiff, Nat.reduceLeDiff, Int.reduceAdd, Int.reduceLT, Int.reduceLE, Nat.reduceMul, a0, a1, m1, m3, Int.reduceToNat, ints, Nat.reduceSub, Int.reduceNeg, Int.reduceEq, Nat.reduceLeDiff, Nat.reduceMul]))|refine at_go ?_|(with_reducible refine And.intro (at_go ?_) (at_go ?_))|((with_reducible refine And.intro (fun h => ?_) (fun h => ?_)) <;> try (exfalso; omega))|(with_reducible refine And.intro (by first|omega|(simp only [maxLen]; omega)) ?_)|(first|(refine ⟨_, _, pc_lift (hC) (by (simp [idsL, idsE, AV.ids, Nat.add_zero])) _, ?_⟩)|(refine ⟨_, pc_lift (hC) (by (simp [idsL, idsE, AV.ids, Nat.add_zero])) _, ?_⟩)|(refine ⟨_, fun _ => pc_lift (hC) (by (simp [idsL, idsE, AV.ids, Nat.add_zero])) _, ?_⟩)|(refine ⟨_, _, hM2 _, ?_⟩)|(refine ⟨_, hM2 _, ?_⟩)|(refine ⟨_, fun _ => hM2 _, ?_⟩))|simp (disch := first|omega|(simp only [List.length_nil, List.length_set, List.length_reverse, List.length_replicate, List.length_append, List.length_cons, List.length_nil, List.length_map]; omega)) only [push_cast, ↓reduceIte, reduceIte, reduceCtorEq, Nat.reduceAdd, Nat.reduceLT, Nat.reduceEqDiff, Nat.reduceLeDiff, Int.reduceAdd, Int.reduceLT, Int.reduceLE, Nat.reduceMul, a0, a1, m1, m3, Int.reduceToNat, ints, Nat.reduceSub, Int.reduceNeg, Int.reduceEq, Nat.reduceLeDiff, Nat.reduceMul])
end Go.Proofs
