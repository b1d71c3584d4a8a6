import Derived.Test.YtbgdagokjfmcbaaGreatDoorDB
namespace Go.Proofs
open Go Go.V
set_option linter.unusedVariables false
set_option linter.unusedSimpArgs false
set_option maxHeartbeats 0
set_option maxRecDepth 100000
theorem idsE_ints0 (xs : List Int) : idsE none_ (ints xs) = true := idsE_ints _ xs
theorem getD_set_same {α : Type} (l : List α) (i : Nat) (v d : α) (h : i < l.length) : (l.set i v).getD i d = v := by simp [List.getD_eq_getElem?_getD, h]
theorem drop_getD (xs : List Int) (k : Nat) (h : k < xs.length) : xs.drop k = xs.getD k 0 :: xs.drop (k + 1) := by
 rw [List.drop_eq_getElem_cons h]; simp [h]
def lexI : List Int → List Int → Int
 | x :: xs, y :: ys => if x < y then -1 else if y < x then 1 else lexI xs ys
 | _, _ => 0
def cmpM (xs ys : List Int) : Int := if xs.length < ys.length then -1 else if ys.length < xs.length then 1 else lexI xs ys
theorem lexI_drop (xs ys : List Int) (k : Nat) (h1 : k < xs.length) (h2 : k < ys.length) : lexI (xs.drop k) (ys.drop k) = if xs.getD k 0 < ys.getD k 0 then -1 else if ys.getD k 0 < xs.getD k 0 then 1 else lexI (xs.drop (k + 1)) (ys.drop (k + 1)) := by
 rw [List.drop_eq_getElem_cons h1, List.drop_eq_getElem_cons h2]; simp [lexI, h1, h2]
set_option maxRecDepth 100000 in
theorem refCompare (xs ys : List Int) (c d : Option Nat) (hx : xs.length ≤ 1000000) (hy : ys.length ≤ 1000000) : PC Tryz.prog G0 64 [.sl 1 (ints xs) c, .sl 1 (ints ys) d] (.int .i64 (cmpM xs ys)) := by
 refine pc_go 0 40 [.tmp 4] Tryz.func64 rfl rfl rfl (by simp) ?_
 intro s ⟨a0, a1, hz⟩
 simp only [Nat.zero_add] at a1
 clear hz
 repeat' (first|(first|(refine a0_ ?_; first|refine a1_ rfl rfl ?_|refine a2_ rfl ?_|refine a3_ rfl rfl ?_|refine a4_ rfl ?_|refine a5_ rfl rfl rfl ?_|refine a6_ rfl rfl ?_)|(refine g0_ ?_; first|refine g1_ rfl ?_|refine g2_ rfl rfl ?_|refine go_draw (dr := allQ) rfl rfl mixed (by first|assumption|kernel_rfl) ?_|refine g4_ rfl ?_|refine g5_ rfl ?_|refine g6_ rfl ?_|refine g7_ rfl ?_|refine g8_ rfl ?_)|(refine o0_ ?_; first|refine o1_ ?_|refine o2_ ?_|refine o3_ ?_|refine o4_ ?_|refine o5_ ?_|refine o6_ rfl ?_|refine o7_ rfl ?_|refine o8_ ?_|refine o9_ ?_|refine oa_ ?_|refine ob_ ?_|refine oc_ ?_|refine od_ ?_|refine oe_ ?_|refine of_ ?_|refine og_ ?_))|refine at_go ?_|(with_reducible refine And.intro (at_go ?_) (at_go ?_))|((with_reducible refine And.intro (fun h => ?_) (fun h => ?_)) <;> try (exfalso; omega))|(with_reducible refine And.intro (by first|omega|(simp only [maxLen]; omega)) ?_)|fail|simp (disch := first|omega|(simp only [length_ints, List.length_set, List.length_reverse, List.length_replicate, List.length_append, List.length_cons, List.length_nil, List.length_map]; omega)) only [push_cast, ↓reduceIte, reduceIte, reduceCtorEq, Nat.reduceAdd, Nat.reduceLT, Nat.reduceEqDiff, Nat.reduceLeDiff, Int.reduceAdd, Int.reduceLT, Int.reduceLE, Nat.reduceMul, a0, a1, length_ints, getD_ints, wrap64])
 ·simp only [cmpM, if_pos h]
 ·rename_i h1
  simp only [cmpM, if_neg h1, if_pos h]
 ·rename_i h1
  have hlen : xs.length = ys.length := by omega
  have hcm : cmpM xs ys = lexI xs ys := by simp only [cmpM, if_neg h1, if_neg h]
  refine go_loop rfl (fun m s H => ∃ k, k ≤ xs.length ∧ m = xs.length - k ∧ H = [] ∧ s 0 = .sl 1 (ints xs) c ∧ s 1 = .sl 1 (ints ys) d ∧ s 5 = .int .i64 (k : Int) ∧ lexI xs ys = lexI (xs.drop k) (ys.drop k)) trivial (Weak.refl _ _) ⟨0, by omega, rfl, rfl, ?_⟩ ?_
  ·(simp (disch := first|omega|(simp only [length_ints, List.length_set, List.length_reverse, List.length_replicate, List.length_append, List.length_cons, List.length_nil, List.length_map]; omega)) only [push_cast, ↓reduceIte, reduceIte, reduceCtorEq, Nat.reduceAdd, Nat.reduceLT, Nat.reduceEqDiff, Nat.reduceLeDiff, Int.reduceAdd, Int.reduceLT, Int.reduceLE, Nat.reduceMul, a0, a1, length_ints, getD_ints, wrap64]) <;> (first|rfl|exact ⟨rfl, rfl⟩|omega|(congr 1; omega)|(simp; done)|((repeat' apply And.intro) <;> first|rfl|omega|(congr 1; omega)))
  ·rintro m s H ⟨k, hk, rfl, rfl, a0, a1, a5, hlex⟩
   repeat' (first|(first|(refine a0_ ?_; first|refine a1_ rfl rfl ?_|refine a2_ rfl ?_|refine a3_ rfl rfl ?_|refine a4_ rfl ?_|refine a5_ rfl rfl rfl ?_|refine a6_ rfl rfl ?_)|(refine g0_ ?_; first|refine g1_ rfl ?_|refine g2_ rfl rfl ?_|refine go_draw (dr := allQ) rfl rfl mixed (by first|assumption|kernel_rfl) ?_|refine g4_ rfl ?_|refine g5_ rfl ?_|refine g6_ rfl ?_|refine g7_ rfl ?_|refine g8_ rfl ?_)|(refine o0_ ?_; first|refine o1_ ?_|refine o2_ ?_|refine o3_ ?_|refine o4_ ?_|refine o5_ ?_|refine o6_ rfl ?_|refine o7_ rfl ?_|refine o8_ ?_|refine o9_ ?_|refine oa_ ?_|refine ob_ ?_|refine oc_ ?_|refine od_ ?_|refine oe_ ?_|refine of_ ?_|refine og_ ?_))|refine at_go ?_|(with_reducible refine And.intro (at_go ?_) (at_go ?_))|((with_reducible refine And.intro (fun h => ?_) (fun h => ?_)) <;> try (exfalso; omega))|(with_reducible refine And.intro (by first|omega|(simp only [maxLen]; omega)) ?_)|fail|simp (disch := first|omega|(simp only [length_ints, List.length_set, List.length_reverse, List.length_replicate, List.length_append, List.length_cons, List.length_nil, List.length_map]; omega)) only [push_cast, ↓reduceIte, reduceIte, reduceCtorEq, Nat.reduceAdd, Nat.reduceLT, Nat.reduceEqDiff, Nat.reduceLeDiff, Int.reduceAdd, Int.reduceLT, Int.reduceLE, Nat.reduceMul, a0, a1, a5, length_ints, getD_ints, wrap64])
   ·have h3 := lexI_drop xs ys k (by omega) (by omega)
    rw [hcm, hlex, h3, if_pos h]
   ·rename_i h2
    have h3 := lexI_drop xs ys k (by omega) (by omega)
    rw [hcm, hlex, h3, if_neg h2, if_pos h]
   ·rename_i h2
    have h3 := lexI_drop xs ys k (by omega) (by omega)
    refine out_thenS ⟨trivial, xs.length - (k + 1), _, _, by omega, Weak.refl _ _, k + 1, by omega, rfl, rfl, ?_⟩
    simp (disch := first|omega|(simp only [length_ints, List.length_set, List.length_reverse, List.length_replicate, List.length_append, List.length_cons, List.length_nil, List.length_map]; omega)) only [push_cast, ↓reduceIte, reduceIte, reduceCtorEq, Nat.reduceAdd, Nat.reduceLT, Nat.reduceEqDiff, Nat.reduceLeDiff, Int.reduceAdd, Int.reduceLT, Int.reduceLE, Nat.reduceMul, a0, a1, a5, length_ints, getD_ints, wrap64]
    rw [hlex, h3, if_neg h2, if_neg h]
    try rfl
   ·have : k = xs.length := by omega
    subst this
    rw [hcm, hlex, List.drop_length]
    cases ys.drop xs.length <;> rfl
def sameM (xs ys : List Int) : Bool := decide (cmpM xs ys = 0)
set_option maxRecDepth 100000 in
theorem refSame (xs ys : List Int) (c d : Option Nat) (hx : xs.length ≤ 1000000) (hy : ys.length ≤ 1000000) : PC Tryz.prog G0 38 [.sl 1 (ints xs) c, .sl 1 (ints ys) d] (.bool (sameM xs ys)) := by
 refine pc_go 0 9 [.tmp 4] Tryz.func38 rfl rfl rfl (by simp) ?_
 intro s ⟨a0, a1, hz⟩
 simp only [Nat.zero_add] at a1
 clear hz
 repeat' (first|(first|(refine a0_ ?_; first|refine a1_ rfl rfl ?_|refine a2_ rfl ?_|refine a3_ rfl rfl ?_|refine a4_ rfl ?_|refine a5_ rfl rfl rfl ?_|refine a6_ rfl rfl ?_)|(refine g0_ ?_; first|refine g1_ rfl ?_|refine g2_ rfl rfl ?_|refine go_draw (dr := allQ) rfl rfl mixed (by first|assumption|kernel_rfl) ?_|refine g4_ rfl ?_|refine g5_ rfl ?_|refine g6_ rfl ?_|refine g7_ rfl ?_|refine g8_ rfl ?_)|(refine o0_ ?_; first|refine o1_ ?_|refine o2_ ?_|refine o3_ ?_|refine o4_ ?_|refine o5_ ?_|refine o6_ rfl ?_|refine o7_ rfl ?_|refine o8_ ?_|refine o9_ ?_|refine oa_ ?_|refine ob_ ?_|refine oc_ ?_|refine od_ ?_|refine oe_ ?_|refine of_ ?_|refine og_ ?_))|refine at_go ?_|(with_reducible refine And.intro (at_go ?_) (at_go ?_))|((with_reducible refine And.intro (fun h => ?_) (fun h => ?_)) <;> try (exfalso; omega))|(with_reducible refine And.intro (by first|omega|(simp only [maxLen]; omega)) ?_)|(refine ⟨_, _, pc_lift (refCompare xs ys c d hx hy) (by simp [idsL, AV.ids, idsE_ints0]) _, ?_⟩)|simp (disch := first|omega|(simp only [length_ints, List.length_set, List.length_reverse, List.length_replicate, List.length_append, List.length_cons, List.length_nil, List.length_map]; omega)) only [push_cast, ↓reduceIte, reduceIte, reduceCtorEq, Nat.reduceAdd, Nat.reduceLT, Nat.reduceEqDiff, Nat.reduceLeDiff, Int.reduceAdd, Int.reduceLT, Int.reduceLE, Nat.reduceMul, a0, a1, en64, idsE_ints0])
 rfl
def badI (n x : Int) : Bool := decide (x < 0) || decide (n ≤ x)
def checkM (w : List Int) (n : Int) : Int := if 16 < n ∨ 256 < w.length then 3 else if n < 1 then 1 else if w.any (badI n) then 1 else 0
set_option maxRecDepth 100000 in
theorem isNaN50 (x : Int) : PC Tryz.prog G0 113 [.int .i64 x] (.bool false) := by
 refine pc_go 0 6 [.tmp 2] Tryz.func113 rfl rfl rfl (by simp) ?_
 intro s ⟨a0, hz⟩
 clear hz
 repeat' (first|(first|(refine a0_ ?_; first|refine a1_ rfl rfl ?_|refine a2_ rfl ?_|refine a3_ rfl rfl ?_|refine a4_ rfl ?_|refine a5_ rfl rfl rfl ?_|refine a6_ rfl rfl ?_)|(refine g0_ ?_; first|refine g1_ rfl ?_|refine g2_ rfl rfl ?_|refine go_draw (dr := allQ) rfl rfl mixed (by first|assumption|kernel_rfl) ?_|refine g4_ rfl ?_|refine g5_ rfl ?_|refine g6_ rfl ?_|refine g7_ rfl ?_|refine g8_ rfl ?_)|(refine o0_ ?_; first|refine o1_ ?_|refine o2_ ?_|refine o3_ ?_|refine o4_ ?_|refine o5_ ?_|refine o6_ rfl ?_|refine o7_ rfl ?_|refine o8_ ?_|refine o9_ ?_|refine oa_ ?_|refine ob_ ?_|refine oc_ ?_|refine od_ ?_|refine oe_ ?_|refine of_ ?_|refine og_ ?_))|refine at_go ?_|(with_reducible refine And.intro (at_go ?_) (at_go ?_))|((with_reducible refine And.intro (fun h => ?_) (fun h => ?_)) <;> try (exfalso; omega))|(with_reducible refine And.intro (by first|omega|(simp only [maxLen]; omega)) ?_)|(refine ⟨_, _, pc_lift (refCompare xs ys c d hx hy) (by simp [idsL, AV.ids, idsE_ints0]) _, ?_⟩)|simp (disch := first|omega|(simp only [length_ints, List.length_set, List.length_reverse, List.length_replicate, List.length_append, List.length_cons, List.length_nil, List.length_map]; omega)) only [push_cast, ↓reduceIte, reduceIte, reduceCtorEq, Nat.reduceAdd, Nat.reduceLT, Nat.reduceEqDiff, Nat.reduceLeDiff, Int.reduceAdd, Int.reduceLT, Int.reduceLE, Nat.reduceMul, a0])
def cmpI (x y : Int) : Int := if x < y then -1 else if y < x then 1 else 0
set_option maxRecDepth 100000 in
theorem cmp34 (x y : Int) : PC Tryz.prog G0 106 [.int .i64 x, .int .i64 y] (.int .i64 (cmpI x y)) := by
 refine pc_go 0 20 [.tmp 4] Tryz.func106 rfl rfl rfl (by simp) ?_
 intro s ⟨a0, a1, hz⟩
 simp only [Nat.zero_add] at a1
 clear hz
 repeat' (first|(first|(refine a0_ ?_; first|refine a1_ rfl rfl ?_|refine a2_ rfl ?_|refine a3_ rfl rfl ?_|refine a4_ rfl ?_|refine a5_ rfl rfl rfl ?_|refine a6_ rfl rfl ?_)|(refine g0_ ?_; first|refine g1_ rfl ?_|refine g2_ rfl rfl ?_|refine go_draw (dr := allQ) rfl rfl mixed (by first|assumption|kernel_rfl) ?_|refine g4_ rfl ?_|refine g5_ rfl ?_|refine g6_ rfl ?_|refine g7_ rfl ?_|refine g8_ rfl ?_)|(refine o0_ ?_; first|refine o1_ ?_|refine o2_ ?_|refine o3_ ?_|refine o4_ ?_|refine o5_ ?_|refine o6_ rfl ?_|refine o7_ rfl ?_|refine o8_ ?_|refine o9_ ?_|refine oa_ ?_|refine ob_ ?_|refine oc_ ?_|refine od_ ?_|refine oe_ ?_|refine of_ ?_|refine og_ ?_))|refine at_go ?_|(with_reducible refine And.intro (at_go ?_) (at_go ?_))|((with_reducible refine And.intro (fun h => ?_) (fun h => ?_)) <;> try (exfalso; omega))|(with_reducible refine And.intro (by first|omega|(simp only [maxLen]; omega)) ?_)|(refine ⟨_, _, pc_lift (isNaN50 _) (by simp [idsL, AV.ids]) _, ?_⟩)|simp (disch := first|omega|(simp only [length_ints, List.length_set, List.length_reverse, List.length_replicate, List.length_append, List.length_cons, List.length_nil, List.length_map]; omega)) only [push_cast, ↓reduceIte, reduceIte, reduceCtorEq, Nat.reduceAdd, Nat.reduceLT, Nat.reduceEqDiff, Nat.reduceLeDiff, Int.reduceAdd, Int.reduceLT, Int.reduceLE, Nat.reduceMul, a0, a1, en113])
 ·rw [cmpI, if_pos h]
 ·rename_i h1; rw [cmpI, if_neg h1, if_pos h]
 ·rename_i h1; rw [cmpI, if_neg h1, if_neg h]
def orM : List Int → Int
 | [] => 0
 | x :: xs => if x = 0 then orM xs else x
set_option maxRecDepth 100000 in
theorem or33 (xs : List Int) (c : Option Nat) (hx : xs.length ≤ 1000000) : PC Tryz.prog G0 105 [.sl 1 (ints xs) c] (.int .i64 (orM xs)) := by
 refine pc_go 0 18 [.tmp 2] Tryz.func105 rfl rfl rfl (by simp) ?_
 intro s ⟨a0, hz⟩
 clear hz
 repeat' (first|(first|(refine a0_ ?_; first|refine a1_ rfl rfl ?_|refine a2_ rfl ?_|refine a3_ rfl rfl ?_|refine a4_ rfl ?_|refine a5_ rfl rfl rfl ?_|refine a6_ rfl rfl ?_)|(refine g0_ ?_; first|refine g1_ rfl ?_|refine g2_ rfl rfl ?_|refine go_draw (dr := allQ) rfl rfl mixed (by first|assumption|kernel_rfl) ?_|refine g4_ rfl ?_|refine g5_ rfl ?_|refine g6_ rfl ?_|refine g7_ rfl ?_|refine g8_ rfl ?_)|(refine o0_ ?_; first|refine o1_ ?_|refine o2_ ?_|refine o3_ ?_|refine o4_ ?_|refine o5_ ?_|refine o6_ rfl ?_|refine o7_ rfl ?_|refine o8_ ?_|refine o9_ ?_|refine oa_ ?_|refine ob_ ?_|refine oc_ ?_|refine od_ ?_|refine oe_ ?_|refine of_ ?_|refine og_ ?_))|refine at_go ?_|(with_reducible refine And.intro (at_go ?_) (at_go ?_))|((with_reducible refine And.intro (fun h => ?_) (fun h => ?_)) <;> try (exfalso; omega))|(with_reducible refine And.intro (by first|omega|(simp only [maxLen]; omega)) ?_)|fail|simp (disch := first|omega|(simp only [length_ints, List.length_set, List.length_reverse, List.length_replicate, List.length_append, List.length_cons, List.length_nil, List.length_map]; omega)) only [push_cast, ↓reduceIte, reduceIte, reduceCtorEq, Nat.reduceAdd, Nat.reduceLT, Nat.reduceEqDiff, Nat.reduceLeDiff, Int.reduceAdd, Int.reduceLT, Int.reduceLE, Nat.reduceMul, a0, length_ints, getD_ints, wrap64])
 refine go_loop rfl (fun m s H => ∃ k, k ≤ xs.length ∧ m = xs.length - k ∧ H = [] ∧ s 3 = .int .i64 0 ∧ s 6 = .sl 1 (ints xs) c ∧ s 7 = .int .i64 xs.length ∧ s 8 = .int .i64 (k : Int) ∧ orM xs = orM (xs.drop k)) trivial (Weak.refl _ _) ⟨0, by omega, rfl, rfl, ?_⟩ ?_
 ·(simp (disch := first|omega|(simp only [length_ints, List.length_set, List.length_reverse, List.length_replicate, List.length_append, List.length_cons, List.length_nil, List.length_map]; omega)) only [push_cast, ↓reduceIte, reduceIte, reduceCtorEq, Nat.reduceAdd, Nat.reduceLT, Nat.reduceEqDiff, Nat.reduceLeDiff, Int.reduceAdd, Int.reduceLT, Int.reduceLE, Nat.reduceMul, a0, length_ints, getD_ints, wrap64]) <;> (first|rfl|exact ⟨rfl, rfl⟩|omega|(congr 1; omega)|(simp; done)|((repeat' apply And.intro) <;> first|rfl|omega|(congr 1; omega)))
 ·rintro m s H ⟨k, hk, rfl, rfl, a3, a6, a7, a8, hm⟩
  repeat' (first|(first|(refine a0_ ?_; first|refine a1_ rfl rfl ?_|refine a2_ rfl ?_|refine a3_ rfl rfl ?_|refine a4_ rfl ?_|refine a5_ rfl rfl rfl ?_|refine a6_ rfl rfl ?_)|(refine g0_ ?_; first|refine g1_ rfl ?_|refine g2_ rfl rfl ?_|refine go_draw (dr := allQ) rfl rfl mixed (by first|assumption|kernel_rfl) ?_|refine g4_ rfl ?_|refine g5_ rfl ?_|refine g6_ rfl ?_|refine g7_ rfl ?_|refine g8_ rfl ?_)|(refine o0_ ?_; first|refine o1_ ?_|refine o2_ ?_|refine o3_ ?_|refine o4_ ?_|refine o5_ ?_|refine o6_ rfl ?_|refine o7_ rfl ?_|refine o8_ ?_|refine o9_ ?_|refine oa_ ?_|refine ob_ ?_|refine oc_ ?_|refine od_ ?_|refine oe_ ?_|refine of_ ?_|refine og_ ?_))|refine at_go ?_|(with_reducible refine And.intro (at_go ?_) (at_go ?_))|((with_reducible refine And.intro (fun h => ?_) (fun h => ?_)) <;> try (exfalso; omega))|(with_reducible refine And.intro (by first|omega|(simp only [maxLen]; omega)) ?_)|fail|simp (disch := first|omega|(simp only [length_ints, List.length_set, List.length_reverse, List.length_replicate, List.length_append, List.length_cons, List.length_nil, List.length_map]; omega)) only [push_cast, ↓reduceIte, reduceIte, reduceCtorEq, Nat.reduceAdd, Nat.reduceLT, Nat.reduceEqDiff, Nat.reduceLeDiff, Int.reduceAdd, Int.reduceLT, Int.reduceLE, Nat.reduceMul, a3, a6, a7, a8, length_ints, getD_ints, wrap64])
  ·have h2 := drop_getD xs k (by omega)
   rw [hm, h2, orM, if_neg h]
  ·have h2 := drop_getD xs k (by omega)
   refine out_thenS ⟨by first|trivial|omega, xs.length - (k + 1), _, _, by omega, Weak.refl _ _, k + 1, by omega, rfl, rfl, ?_⟩
   simp (disch := first|omega|(simp only [length_ints, List.length_set, List.length_reverse, List.length_replicate, List.length_append, List.length_cons, List.length_nil, List.length_map]; omega)) only [push_cast, ↓reduceIte, reduceIte, reduceCtorEq, Nat.reduceAdd, Nat.reduceLT, Nat.reduceEqDiff, Nat.reduceLeDiff, Int.reduceAdd, Int.reduceLT, Int.reduceLE, Nat.reduceMul, a3, a6, a7, a8, length_ints, getD_ints, wrap64]
   rw [hm, h2, orM, if_pos h]
  ·have : k = xs.length := by omega
   subst this
   rw [hm, List.drop_length]
   rfl
def scM : List Int → List Int → Int
 | [], [] => 0
 | [], _ :: _ => -1
 | _ :: _, [] => 1
 | x :: xs, y :: ys => if cmpI x y = 0 then scM xs ys else cmpI x y
set_option maxRecDepth 100000 in
theorem compare35 (xs ys : List Int) (c d : Option Nat) (hx : xs.length ≤ 1000000) (hy : ys.length ≤ 1000000) : PC Tryz.prog G0 107 [.sl 1 (ints xs) c, .sl 1 (ints ys) d] (.int .i64 (scM xs ys)) := by
 refine pc_go 0 36 [.tmp 4] Tryz.func107 rfl rfl rfl (by simp) ?_
 intro s ⟨a0, a1, hz⟩
 simp only [Nat.zero_add] at a1
 clear hz
 repeat' (first|(first|(refine a0_ ?_; first|refine a1_ rfl rfl ?_|refine a2_ rfl ?_|refine a3_ rfl rfl ?_|refine a4_ rfl ?_|refine a5_ rfl rfl rfl ?_|refine a6_ rfl rfl ?_)|(refine g0_ ?_; first|refine g1_ rfl ?_|refine g2_ rfl rfl ?_|refine go_draw (dr := allQ) rfl rfl mixed (by first|assumption|kernel_rfl) ?_|refine g4_ rfl ?_|refine g5_ rfl ?_|refine g6_ rfl ?_|refine g7_ rfl ?_|refine g8_ rfl ?_)|(refine o0_ ?_; first|refine o1_ ?_|refine o2_ ?_|refine o3_ ?_|refine o4_ ?_|refine o5_ ?_|refine o6_ rfl ?_|refine o7_ rfl ?_|refine o8_ ?_|refine o9_ ?_|refine oa_ ?_|refine ob_ ?_|refine oc_ ?_|refine od_ ?_|refine oe_ ?_|refine of_ ?_|refine og_ ?_))|refine at_go ?_|(with_reducible refine And.intro (at_go ?_) (at_go ?_))|((with_reducible refine And.intro (fun h => ?_) (fun h => ?_)) <;> try (exfalso; omega))|(with_reducible refine And.intro (by first|omega|(simp only [maxLen]; omega)) ?_)|fail|simp (disch := first|omega|(simp only [length_ints, List.length_set, List.length_reverse, List.length_replicate, List.length_append, List.length_cons, List.length_nil, List.length_map]; omega)) only [push_cast, ↓reduceIte, reduceIte, reduceCtorEq, Nat.reduceAdd, Nat.reduceLT, Nat.reduceEqDiff, Nat.reduceLeDiff, Int.reduceAdd, Int.reduceLT, Int.reduceLE, Nat.reduceMul, a0, a1, length_ints, getD_ints, wrap64])
 refine go_loop rfl (fun m s H => ∃ k, k ≤ xs.length ∧ k ≤ ys.length ∧ m = xs.length - k ∧ H = [] ∧ s 0 = .sl 1 (ints xs) c ∧ s 1 = .sl 1 (ints ys) d ∧ s 9 = .sl 1 (ints xs) c ∧ s 10 = .int .i64 xs.length ∧ s 11 = .int .i64 (k : Int) ∧ scM xs ys = scM (xs.drop k) (ys.drop k)) trivial (Weak.refl _ _) ⟨0, by omega, by omega, rfl, rfl, ?_⟩ ?_
 ·(simp (disch := first|omega|(simp only [length_ints, List.length_set, List.length_reverse, List.length_replicate, List.length_append, List.length_cons, List.length_nil, List.length_map]; omega)) only [push_cast, ↓reduceIte, reduceIte, reduceCtorEq, Nat.reduceAdd, Nat.reduceLT, Nat.reduceEqDiff, Nat.reduceLeDiff, Int.reduceAdd, Int.reduceLT, Int.reduceLE, Nat.reduceMul, a0, a1, length_ints, getD_ints, wrap64]) <;> (first|rfl|exact ⟨rfl, rfl⟩|omega|(congr 1; omega)|(simp; done)|((repeat' apply And.intro) <;> first|rfl|omega|(congr 1; omega)))
 ·rintro m s H ⟨k, hk, hk2, rfl, rfl, a0, a1, a9, a10, a11, hm⟩
  repeat' (first|(first|(refine a0_ ?_; first|refine a1_ rfl rfl ?_|refine a2_ rfl ?_|refine a3_ rfl rfl ?_|refine a4_ rfl ?_|refine a5_ rfl rfl rfl ?_|refine a6_ rfl rfl ?_)|(refine g0_ ?_; first|refine g1_ rfl ?_|refine g2_ rfl rfl ?_|refine go_draw (dr := allQ) rfl rfl mixed (by first|assumption|kernel_rfl) ?_|refine g4_ rfl ?_|refine g5_ rfl ?_|refine g6_ rfl ?_|refine g7_ rfl ?_|refine g8_ rfl ?_)|(refine o0_ ?_; first|refine o1_ ?_|refine o2_ ?_|refine o3_ ?_|refine o4_ ?_|refine o5_ ?_|refine o6_ rfl ?_|refine o7_ rfl ?_|refine o8_ ?_|refine o9_ ?_|refine oa_ ?_|refine ob_ ?_|refine oc_ ?_|refine od_ ?_|refine oe_ ?_|refine of_ ?_|refine og_ ?_))|refine at_go ?_|(with_reducible refine And.intro (at_go ?_) (at_go ?_))|((with_reducible refine And.intro (fun h => ?_) (fun h => ?_)) <;> try (exfalso; omega))|(with_reducible refine And.intro (by first|omega|(simp only [maxLen]; omega)) ?_)|(refine ⟨_, _, pc_lift (cmp34 _ _) (by simp [idsL, AV.ids]) _, ?_⟩)|simp (disch := first|omega|(simp only [length_ints, List.length_set, List.length_reverse, List.length_replicate, List.length_append, List.length_cons, List.length_nil, List.length_map]; omega)) only [push_cast, ↓reduceIte, reduceIte, reduceCtorEq, Nat.reduceAdd, Nat.reduceLT, Nat.reduceEqDiff, Nat.reduceLeDiff, Int.reduceAdd, Int.reduceLT, Int.reduceLE, Nat.reduceMul, a0, a1, a9, a10, a11, length_ints, getD_ints, wrap64, en106])
  ·have h2 := drop_getD xs k (by omega)
   have h3 : ys.drop k = [] := List.drop_eq_nil_of_le h
   rw [hm, h2, h3]; rfl
  ·have h2 := drop_getD xs k (by omega)
   have h3 := drop_getD ys k (by omega)
   rw [hm, h2, h3, scM, if_neg h]
  ·have h2 := drop_getD xs k (by omega)
   have h3 := drop_getD ys k (by omega)
   refine out_thenS ⟨trivial, xs.length - (k + 1), _, _, by omega, Weak.refl _ _, k + 1, by omega, by omega, rfl, rfl, ?_⟩
   simp (disch := first|omega|(simp only [length_ints, List.length_set, List.length_reverse, List.length_replicate, List.length_append, List.length_cons, List.length_nil, List.length_map]; omega)) only [push_cast, ↓reduceIte, reduceIte, reduceCtorEq, Nat.reduceAdd, Nat.reduceLT, Nat.reduceEqDiff, Nat.reduceLeDiff, Int.reduceAdd, Int.reduceLT, Int.reduceLE, Nat.reduceMul, a0, a1, a9, a10, a11, length_ints, getD_ints, wrap64, en106]
   rw [hm, h2, h3, scM, if_pos h]
  ·have h1 : xs.drop k = [] := List.drop_eq_nil_of_le (by omega)
   have h3 := drop_getD ys k (by omega)
   rw [hm, h1, h3]; rfl
  ·have h1 : xs.drop k = [] := List.drop_eq_nil_of_le (by omega)
   have h3 : ys.drop k = [] := List.drop_eq_nil_of_le (by omega)
   rw [hm, h1, h3]; rfl
set_option maxRecDepth 100000 in
theorem wCompare (xs ys : List Int) (c d : Option Nat) (hx : xs.length ≤ 1000000) (hy : ys.length ≤ 1000000) : PC Tryz.prog G0 90 [.sl 1 (ints xs) c, .sl 1 (ints ys) d] (.int .i64 (orM [cmpI xs.length ys.length, scM xs ys])) := by
 refine pc_go 0 15 [.tmp 4] Tryz.func90 rfl rfl rfl (by simp) ?_
 intro s ⟨a0, a1, hz⟩
 simp only [Nat.zero_add] at a1
 clear hz
 repeat' (first|(first|(refine a0_ ?_; first|refine a1_ rfl rfl ?_|refine a2_ rfl ?_|refine a3_ rfl rfl ?_|refine a4_ rfl ?_|refine a5_ rfl rfl rfl ?_|refine a6_ rfl rfl ?_)|(refine g0_ ?_; first|refine g1_ rfl ?_|refine g2_ rfl rfl ?_|refine go_draw (dr := allQ) rfl rfl mixed (by first|assumption|kernel_rfl) ?_|refine g4_ rfl ?_|refine g5_ rfl ?_|refine g6_ rfl ?_|refine g7_ rfl ?_|refine g8_ rfl ?_)|(refine o0_ ?_; first|refine o1_ ?_|refine o2_ ?_|refine o3_ ?_|refine o4_ ?_|refine o5_ ?_|refine o6_ rfl ?_|refine o7_ rfl ?_|refine o8_ ?_|refine o9_ ?_|refine oa_ ?_|refine ob_ ?_|refine oc_ ?_|refine od_ ?_|refine oe_ ?_|refine of_ ?_|refine og_ ?_))|refine at_go ?_|(with_reducible refine And.intro (at_go ?_) (at_go ?_))|((with_reducible refine And.intro (fun h => ?_) (fun h => ?_)) <;> try (exfalso; omega))|(with_reducible refine And.intro (by first|omega|(simp only [maxLen]; omega)) ?_)|(first|(refine ⟨_, _, pc_lift (cmp34 _ _) (by simp [idsL, AV.ids]) _, ?_⟩)|(refine ⟨_, _, pc_lift (compare35 xs ys c d hx hy) (by simp [idsL, AV.ids, idsE_ints0]) _, ?_⟩)|(refine ⟨_, _, pc_lift (or33 [cmpI xs.length ys.length, scM xs ys] _ (by simp)) (by simp [idsL, AV.ids, idsE_ints0]) _, ?_⟩))|simp (disch := first|omega|(simp only [length_ints, List.length_set, List.length_reverse, List.length_replicate, List.length_append, List.length_cons, List.length_nil, List.length_map]; omega)) only [push_cast, ↓reduceIte, reduceIte, reduceCtorEq, Nat.reduceAdd, Nat.reduceLT, Nat.reduceEqDiff, Nat.reduceLeDiff, Int.reduceAdd, Int.reduceLT, Int.reduceLE, Nat.reduceMul, a0, a1, length_ints, en105, en106, en107])
theorem clip40_own (b n h : Nat) (t : TypeId) (es : List (List AV)) (c : Option Nat) (H : List Blk) (hb : H[b]? = some (.row 1 t es)) (hh : h = es.length) : ACalls Tryz.prog G0 57 [.own b n h c] H (.own b n h (some n)) H := by
 subst hh
 refine ac_go 9 [.tmp 2] Tryz.func57 rfl rfl rfl (by simp) ?_
 intro s ⟨a0, hz⟩
 clear hz
 repeat' (first|(first|(refine a0_ ?_; first|refine a1_ rfl rfl ?_|refine a2_ rfl ?_|refine a3_ rfl rfl ?_|refine a4_ rfl ?_|refine a5_ rfl rfl rfl ?_|refine a6_ rfl rfl ?_)|(refine g0_ ?_; first|refine g1_ rfl ?_|refine g2_ rfl rfl ?_|refine go_draw (dr := allQ) rfl rfl mixed (by first|assumption|kernel_rfl) ?_|refine g4_ rfl ?_|refine g5_ rfl ?_|refine g6_ rfl ?_|refine g7_ rfl ?_|refine g8_ rfl ?_)|(refine o0_ ?_; first|refine o1_ ?_|refine o2_ ?_|refine o3_ ?_|refine o4_ ?_|refine o5_ ?_|refine o6_ rfl ?_|refine o7_ rfl ?_|refine o8_ ?_|refine o9_ ?_|refine oa_ ?_|refine ob_ ?_|refine oc_ ?_|refine od_ ?_|refine oe_ ?_|refine of_ ?_|refine og_ ?_))|refine at_go ?_|(with_reducible refine And.intro (at_go ?_) (at_go ?_))|((with_reducible refine And.intro (fun h => ?_) (fun h => ?_)) <;> try (exfalso; omega))|(with_reducible refine And.intro (by first|omega|(simp only [maxLen]; omega)) ?_)|(first|(refine ⟨_, _, pc_lift (cmp34 _ _) (by simp [idsL, AV.ids]) _, ?_⟩)|(refine ⟨_, _, pc_lift (compare35 xs ys c d hx hy) (by simp [idsL, AV.ids, idsE_ints0]) _, ?_⟩)|(refine ⟨_, _, pc_lift (or33 [cmpI xs.length ys.length, scM xs ys] _ (by simp)) (by simp [idsL, AV.ids, idsE_ints0]) _, ?_⟩))|simp (disch := first|omega|(simp only [length_ints, List.length_set, List.length_reverse, List.length_replicate, List.length_append, List.length_cons, List.length_nil, List.length_map]; omega)) only [push_cast, ↓reduceIte, reduceIte, reduceCtorEq, Nat.reduceAdd, Nat.reduceLT, Nat.reduceEqDiff, Nat.reduceLeDiff, Int.reduceAdd, Int.reduceLT, Int.reduceLE, Nat.reduceMul, a0, hb])
set_option maxRecDepth 100000 in
theorem clone51_nil (k : Nat) (c : Option Nat) : PC Tryz.prog G0 58 [.sl k [] c] (.sl 0 [] (some 0)) := by
 refine pc_go 1 8 [.tmp 2] Tryz.func58 rfl rfl rfl (by simp) ?_
 intro s ⟨a0, hz⟩
 clear hz
 repeat' (first|(first|(refine a0_ ?_; first|refine a1_ rfl rfl ?_|refine a2_ rfl ?_|refine a3_ rfl rfl ?_|refine a4_ rfl ?_|refine a5_ rfl rfl rfl ?_|refine a6_ rfl rfl ?_)|(refine g0_ ?_; first|refine g1_ rfl ?_|refine g2_ rfl rfl ?_|refine go_draw (dr := allQ) rfl rfl mixed (by first|assumption|kernel_rfl) ?_|refine g4_ rfl ?_|refine g5_ rfl ?_|refine g6_ rfl ?_|refine g7_ rfl ?_|refine g8_ rfl ?_)|(refine o0_ ?_; first|refine o1_ ?_|refine o2_ ?_|refine o3_ ?_|refine o4_ ?_|refine o5_ ?_|refine o6_ rfl ?_|refine o7_ rfl ?_|refine o8_ ?_|refine o9_ ?_|refine oa_ ?_|refine ob_ ?_|refine oc_ ?_|refine od_ ?_|refine oe_ ?_|refine of_ ?_|refine og_ ?_))|refine at_go ?_|(with_reducible refine And.intro (at_go ?_) (at_go ?_))|((with_reducible refine And.intro (fun h => ?_) (fun h => ?_)) <;> try (exfalso; omega))|(with_reducible refine And.intro (by first|omega|(simp only [maxLen]; omega)) ?_)|(first|(refine ⟨_, _, pc_lift (cmp34 _ _) (by simp [idsL, AV.ids]) _, ?_⟩)|(refine ⟨_, _, pc_lift (compare35 xs ys c d hx hy) (by simp [idsL, AV.ids, idsE_ints0]) _, ?_⟩)|(refine ⟨_, _, pc_lift (or33 [cmpI xs.length ys.length, scM xs ys] _ (by simp)) (by simp [idsL, AV.ids, idsE_ints0]) _, ?_⟩))|simp (disch := first|omega|(simp only [length_ints, List.length_set, List.length_reverse, List.length_replicate, List.length_append, List.length_cons, List.length_nil, List.length_map]; omega)) only [push_cast, ↓reduceIte, reduceIte, reduceCtorEq, Nat.reduceAdd, Nat.reduceLT, Nat.reduceEqDiff, Nat.reduceLeDiff, Int.reduceAdd, Int.reduceLT, Int.reduceLE, Nat.reduceMul, a0])
theorem ints_cons (x : Int) (xs : List Int) : ints (x :: xs) = [.int .i64 x] :: ints xs := rfl
theorem clone51 (xs : List Int) (k : Nat) (c : Option Nat) (H : List Blk) (hk : xs = [] ∨ k = 1) (hx : xs.length ≤ 1000000) : ACalls Tryz.prog G0 58 [.sl k (ints xs) c] H (.own H.length xs.length xs.length none) (H ++ [.row 1 3 (ints xs)]) := by
 cases xs with
 | nil => exact acalls_nil_own (pc_lift (clone51_nil k c) (by simp [idsL, idsE, AV.ids]) H) 1 3
 | cons x xs =>
  obtain rfl := hk.resolve_left (by simp)
  simp only [List.length_cons] at hx
  refine ac_go 8 [.tmp 2] Tryz.func58 rfl rfl rfl (by simp) ?_
  intro s ⟨a0, hz⟩
  clear hz
  repeat' (first|(first|(refine a0_ ?_; first|refine a1_ rfl rfl ?_|refine a2_ rfl ?_|refine a3_ rfl rfl ?_|refine a4_ rfl ?_|refine a5_ rfl rfl rfl ?_|refine a6_ rfl rfl ?_)|(refine g0_ ?_; first|refine g1_ rfl ?_|refine g2_ rfl rfl ?_|refine go_draw (dr := allQ) rfl rfl mixed (by first|assumption|kernel_rfl) ?_|refine g4_ rfl ?_|refine g5_ rfl ?_|refine g6_ rfl ?_|refine g7_ rfl ?_|refine g8_ rfl ?_)|(refine o0_ ?_; first|refine o1_ ?_|refine o2_ ?_|refine o3_ ?_|refine o4_ ?_|refine o5_ ?_|refine o6_ rfl ?_|refine o7_ rfl ?_|refine o8_ ?_|refine o9_ ?_|refine oa_ ?_|refine ob_ ?_|refine oc_ ?_|refine od_ ?_|refine oe_ ?_|refine of_ ?_|refine og_ ?_))|refine at_go ?_|(with_reducible refine And.intro (at_go ?_) (at_go ?_))|((with_reducible refine And.intro (fun h => ?_) (fun h => ?_)) <;> try (exfalso; omega))|(with_reducible refine And.intro (by first|omega|(simp only [maxLen]; omega)) ?_)|fail|simp (disch := first|omega|(simp only [length_ints, List.length_set, List.length_reverse, List.length_replicate, List.length_append, List.length_cons, List.length_nil, List.length_map]; omega)) only [push_cast, ↓reduceIte, reduceIte, reduceCtorEq, Nat.reduceAdd, Nat.reduceLT, Nat.reduceEqDiff, Nat.reduceLeDiff, Int.reduceAdd, Int.reduceLT, Int.reduceLE, Nat.reduceMul, a0, ints_cons, length_ints])
  (first|trivial|((repeat' apply And.intro) <;> first|trivial|assumption|omega|(simp only [maxLen]; omega)|(simp only [length_ints, List.length_replicate, List.length_append, List.length_cons, List.length_nil, List.length_map, List.length_take, List.length_drop, List.length_set, List.length_reverse, maxLen] <;> omega)))
theorem check47 (x n : Int) (b : Nat) (H : List Blk) (hb : H[b]? = some (.row 1 3 [[.int .i64 n]])) : ACalls Tryz.prog G0 104 [.int .i64 x, .ptr b 0 0 1] H (.bool (badI n x)) H := by
 refine ac_go 11 [.tmp 3] Tryz.func104 rfl rfl rfl (by simp) ?_
 intro s ⟨a0, a1, hz⟩
 simp only [Nat.zero_add, Nat.reduceAdd] at a1
 clear hz
 repeat' (first|(first|(refine a0_ ?_; first|refine a1_ rfl rfl ?_|refine a2_ rfl ?_|refine a3_ rfl rfl ?_|refine a4_ rfl ?_|refine a5_ rfl rfl rfl ?_|refine a6_ rfl rfl ?_)|(refine g0_ ?_; first|refine g1_ rfl ?_|refine g2_ rfl rfl ?_|refine go_draw (dr := allQ) rfl rfl mixed (by first|assumption|kernel_rfl) ?_|refine g4_ rfl ?_|refine g5_ rfl ?_|refine g6_ rfl ?_|refine g7_ rfl ?_|refine g8_ rfl ?_)|(refine o0_ ?_; first|refine o1_ ?_|refine o2_ ?_|refine o3_ ?_|refine o4_ ?_|refine o5_ ?_|refine o6_ rfl ?_|refine o7_ rfl ?_|refine o8_ ?_|refine o9_ ?_|refine oa_ ?_|refine ob_ ?_|refine oc_ ?_|refine od_ ?_|refine oe_ ?_|refine of_ ?_|refine og_ ?_))|refine at_go ?_|(with_reducible refine And.intro (at_go ?_) (at_go ?_))|((with_reducible refine And.intro (fun h => ?_) (fun h => ?_)) <;> try (exfalso; omega))|(with_reducible refine And.intro (by first|omega|(simp only [maxLen]; omega)) ?_)|fail|simp (disch := first|omega|(simp only [length_ints, List.length_set, List.length_reverse, List.length_replicate, List.length_append, List.length_cons, List.length_nil, List.length_map]; omega)) only [push_cast, ↓reduceIte, reduceIte, reduceCtorEq, Nat.reduceAdd, Nat.reduceLT, Nat.reduceEqDiff, Nat.reduceLeDiff, Int.reduceAdd, Int.reduceLT, Int.reduceLE, Nat.reduceMul, a0, a1, hb])
 rfl
def idxM (p : Int → Bool) : List Int → Int
 | [] => -1
 | x :: xs => if p x = true then 0 else if idxM p xs < 0 then -1 else idxM p xs + 1
theorem idxM_any (p : Int → Bool) (xs : List Int) : decide (0 ≤ idxM p xs) = xs.any p := by
 induction xs with
 | nil => rfl
 | cons x xs ih =>
  rw [List.any_cons, ← ih, idxM]
  cases p x
  ·simp only [Bool.false_eq_true, if_false, Bool.false_or]
   split
   ·rename_i h; rw [decide_eq_false (by omega), decide_eq_false (by omega)]
   ·rename_i h; rw [decide_eq_true (by omega), decide_eq_true (by omega)]
  ·simp
theorem idxM_at (p : Int → Bool) : ∀ (xs : List Int) (k : Nat), (∀ j, j < k → p (xs.getD j 0) = false) → k ≤ xs.length → idxM p xs = if idxM p (xs.drop k) < 0 then -1 else idxM p (xs.drop k) + k
 | xs, 0, _, _ => by
  rw [List.drop_zero]
  split
  ·rename_i h
   have : ∀ ys, -1 ≤ idxM p ys := fun ys => by
    induction ys with
    | nil => simp [idxM]
    | cons y ys ih => rw [idxM]; split; omega; split <;> omega
   have := this xs; omega
  ·simp
 | [], k + 1, _, hk => by simp at hk
 | x :: xs, k + 1, h, hk => by
  have h0 : p x = false := h 0 (by omega)
  have ih := idxM_at p xs k (fun j hj => h (j + 1) (by omega)) (by simpa using hk)
  rw [idxM, h0, if_neg (by simp), List.drop_succ_cons, ih]
  generalize idxM p (xs.drop k) = d at *
  by_cases hd : d < 0
  ·simp [hd]
  ·simp only [if_neg hd]; rw [if_neg (by omega)]; push_cast; omega
theorem indexFunc59 (p : Int → Bool) (g : FuncId) (cap : List AV) (xs : List Int) (c : Option Nat) (H : List Blk) (hent : enters Tryz.prog g = true) (hp : ∀ x, ACalls Tryz.prog G0 g (.int .i64 x :: cap) H (.bool (p x)) H) (hx : xs.length ≤ 1000000) :
  ACalls Tryz.prog G0 112 [.sl 1 (ints xs) c, .fn g cap] H (.int .i64 (idxM p xs)) H := by
 refine ac_go 19 [.tmp 4] Tryz.func112 rfl rfl rfl (by simp) ?_
 intro s ⟨a0, a1, hz⟩
 simp only [Nat.zero_add, Nat.reduceAdd] at a1
 clear hz
 repeat' (first|(first|(refine a0_ ?_; first|refine a1_ rfl rfl ?_|refine a2_ rfl ?_|refine a3_ rfl rfl ?_|refine a4_ rfl ?_|refine a5_ rfl rfl rfl ?_|refine a6_ rfl rfl ?_)|(refine g0_ ?_; first|refine g1_ rfl ?_|refine g2_ rfl rfl ?_|refine go_draw (dr := allQ) rfl rfl mixed (by first|assumption|kernel_rfl) ?_|refine g4_ rfl ?_|refine g5_ rfl ?_|refine g6_ rfl ?_|refine g7_ rfl ?_|refine g8_ rfl ?_)|(refine o0_ ?_; first|refine o1_ ?_|refine o2_ ?_|refine o3_ ?_|refine o4_ ?_|refine o5_ ?_|refine o6_ rfl ?_|refine o7_ rfl ?_|refine o8_ ?_|refine o9_ ?_|refine oa_ ?_|refine ob_ ?_|refine oc_ ?_|refine od_ ?_|refine oe_ ?_|refine of_ ?_|refine og_ ?_))|refine at_go ?_|(with_reducible refine And.intro (at_go ?_) (at_go ?_))|((with_reducible refine And.intro (fun h => ?_) (fun h => ?_)) <;> try (exfalso; omega))|(with_reducible refine And.intro (by first|omega|(simp only [maxLen]; omega)) ?_)|(first|(refine ⟨_, _, hp _, ?_⟩)|(refine ⟨_, hp _, ?_⟩)|(refine ⟨_, fun _ => hp _, ?_⟩))|simp (disch := first|omega|(simp only [length_ints, List.length_set, List.length_reverse, List.length_replicate, List.length_append, List.length_cons, List.length_nil, List.length_map]; omega)) only [push_cast, ↓reduceIte, reduceIte, reduceCtorEq, Nat.reduceAdd, Nat.reduceLT, Nat.reduceEqDiff, Nat.reduceLeDiff, Int.reduceAdd, Int.reduceLT, Int.reduceLE, Nat.reduceMul, a0, a1, length_ints, getD_ints, wrap64, hent])
 refine go_loop rfl (fun m s H' => ∃ k, k ≤ xs.length ∧ m = xs.length - k ∧ H' = H ∧ s 0 = .sl 1 (ints xs) c ∧ s 1 = .fn g cap ∧ s 7 = .int .i64 xs.length ∧ s 8 = .int .i64 (k : Int) ∧ ∀ j, j < k → p (xs.getD j 0) = false) trivial (Weak.refl _ _) ⟨0, by omega, rfl, rfl, ?_⟩ ?_
 ·(simp (disch := first|omega|(simp only [length_ints, List.length_set, List.length_reverse, List.length_replicate, List.length_append, List.length_cons, List.length_nil, List.length_map]; omega)) only [push_cast, ↓reduceIte, reduceIte, reduceCtorEq, Nat.reduceAdd, Nat.reduceLT, Nat.reduceEqDiff, Nat.reduceLeDiff, Int.reduceAdd, Int.reduceLT, Int.reduceLE, Nat.reduceMul, a0, a1, length_ints, getD_ints, wrap64, hent]) <;> (first|rfl|exact ⟨rfl, rfl⟩|omega|(congr 1; omega)|(simp; done)|((repeat' apply And.intro) <;> first|rfl|omega|(congr 1; omega)))
 ·rintro m s H' ⟨k, hk, rfl, rfl, a0, a1, a7, a8, hm⟩
  repeat' (first|(first|(refine a0_ ?_; first|refine a1_ rfl rfl ?_|refine a2_ rfl ?_|refine a3_ rfl rfl ?_|refine a4_ rfl ?_|refine a5_ rfl rfl rfl ?_|refine a6_ rfl rfl ?_)|(refine g0_ ?_; first|refine g1_ rfl ?_|refine g2_ rfl rfl ?_|refine go_draw (dr := allQ) rfl rfl mixed (by first|assumption|kernel_rfl) ?_|refine g4_ rfl ?_|refine g5_ rfl ?_|refine g6_ rfl ?_|refine g7_ rfl ?_|refine g8_ rfl ?_)|(refine o0_ ?_; first|refine o1_ ?_|refine o2_ ?_|refine o3_ ?_|refine o4_ ?_|refine o5_ ?_|refine o6_ rfl ?_|refine o7_ rfl ?_|refine o8_ ?_|refine o9_ ?_|refine oa_ ?_|refine ob_ ?_|refine oc_ ?_|refine od_ ?_|refine oe_ ?_|refine of_ ?_|refine og_ ?_))|refine at_go ?_|(with_reducible refine And.intro (at_go ?_) (at_go ?_))|((with_reducible refine And.intro (fun h => ?_) (fun h => ?_)) <;> try (exfalso; omega))|(with_reducible refine And.intro (by first|omega|(simp only [maxLen]; omega)) ?_)|(first|(refine ⟨_, _, hp _, ?_⟩)|(refine ⟨_, hp _, ?_⟩)|(refine ⟨_, fun _ => hp _, ?_⟩))|simp (disch := first|omega|(simp only [length_ints, List.length_set, List.length_reverse, List.length_replicate, List.length_append, List.length_cons, List.length_nil, List.length_map]; omega)) only [push_cast, ↓reduceIte, reduceIte, reduceCtorEq, Nat.reduceAdd, Nat.reduceLT, Nat.reduceEqDiff, Nat.reduceLeDiff, Int.reduceAdd, Int.reduceLT, Int.reduceLE, Nat.reduceMul, a0, a1, a7, a8, length_ints, getD_ints, wrap64, hent])
  ·rw [idxM_at p xs k hm hk, drop_getD xs k (by omega), idxM, if_pos h]; simp
  ·refine out_round (xs.length - (k + 1)) (by omega) (by (first|trivial|((repeat' apply And.intro) <;> first|trivial|assumption|omega|(simp only [maxLen]; omega)|(simp only [length_ints, List.length_replicate, List.length_append, List.length_cons, List.length_nil, List.length_map, List.length_take, List.length_drop, List.length_set, List.length_reverse, maxLen] <;> omega)))) ⟨k + 1, by omega, rfl, rfl, ?_⟩
   simp (disch := first|omega|(simp only [length_ints, List.length_set, List.length_reverse, List.length_replicate, List.length_append, List.length_cons, List.length_nil, List.length_map]; omega)) only [push_cast, ↓reduceIte, reduceIte, reduceCtorEq, Nat.reduceAdd, Nat.reduceLT, Nat.reduceEqDiff, Nat.reduceLeDiff, Int.reduceAdd, Int.reduceLT, Int.reduceLE, Nat.reduceMul, a0, a1, a7, a8, length_ints, getD_ints, wrap64, hent]
   exact fun j hj => by
    rcases Nat.lt_or_ge j k with q|q
    ·exact hm j q
    ·obtain rfl : j = k := by omega
     exact h
  ·obtain rfl : k = xs.length := by omega
   rw [idxM_at p xs _ hm hk]; simp [idxM]
theorem contains46 (p : Int → Bool) (g : FuncId) (cap : List AV) (xs : List Int) (c : Option Nat) (H : List Blk) (hent : enters Tryz.prog g = true) (hp : ∀ x, ACalls Tryz.prog G0 g (.int .i64 x :: cap) H (.bool (p x)) H) (hx : xs.length ≤ 1000000) :
  ACalls Tryz.prog G0 103 [.sl 1 (ints xs) c, .fn g cap] H (.bool (xs.any p)) H := by
 refine ac_go 9 [.tmp 4] Tryz.func103 rfl rfl rfl (by simp) ?_
 intro s ⟨a0, a1, hz⟩
 simp only [Nat.zero_add, Nat.reduceAdd] at a1
 clear hz
 repeat' (first|(first|(refine a0_ ?_; first|refine a1_ rfl rfl ?_|refine a2_ rfl ?_|refine a3_ rfl rfl ?_|refine a4_ rfl ?_|refine a5_ rfl rfl rfl ?_|refine a6_ rfl rfl ?_)|(refine g0_ ?_; first|refine g1_ rfl ?_|refine g2_ rfl rfl ?_|refine go_draw (dr := allQ) rfl rfl mixed (by first|assumption|kernel_rfl) ?_|refine g4_ rfl ?_|refine g5_ rfl ?_|refine g6_ rfl ?_|refine g7_ rfl ?_|refine g8_ rfl ?_)|(refine o0_ ?_; first|refine o1_ ?_|refine o2_ ?_|refine o3_ ?_|refine o4_ ?_|refine o5_ ?_|refine o6_ rfl ?_|refine o7_ rfl ?_|refine o8_ ?_|refine o9_ ?_|refine oa_ ?_|refine ob_ ?_|refine oc_ ?_|refine od_ ?_|refine oe_ ?_|refine of_ ?_|refine og_ ?_))|refine at_go ?_|(with_reducible refine And.intro (at_go ?_) (at_go ?_))|((with_reducible refine And.intro (fun h => ?_) (fun h => ?_)) <;> try (exfalso; omega))|(with_reducible refine And.intro (by first|omega|(simp only [maxLen]; omega)) ?_)|(first|(refine ⟨_, _, indexFunc59 p g cap xs c H hent hp hx, ?_⟩)|(refine ⟨_, indexFunc59 p g cap xs c H hent hp hx, ?_⟩)|(refine ⟨_, fun _ => indexFunc59 p g cap xs c H hent hp hx, ?_⟩))|simp (disch := first|omega|(simp only [length_ints, List.length_set, List.length_reverse, List.length_replicate, List.length_append, List.length_cons, List.length_nil, List.length_map]; omega)) only [push_cast, ↓reduceIte, reduceIte, reduceCtorEq, Nat.reduceAdd, Nat.reduceLT, Nat.reduceEqDiff, Nat.reduceLeDiff, Int.reduceAdd, Int.reduceLT, Int.reduceLE, Nat.reduceMul, a0, a1])
 exact congrArg AV.bool (idxM_any p xs)
theorem wCheck (xs : List Int) (c : Option Nat) (n : Int) (hx : xs.length ≤ 1000000) : PC Tryz.prog G0 89 [.sl 1 (ints xs) c, .int .i64 n] (.int .i64 (checkM xs n)) := by
 refine pc_go 0 19 [.tmp 4] Tryz.func89 rfl rfl rfl (by simp) ?_
 intro s ⟨a0, a1, hz⟩
 simp only [Nat.zero_add, Nat.reduceAdd] at a1
 clear hz
 repeat' (first|(first|(refine a0_ ?_; first|refine a1_ rfl rfl ?_|refine a2_ rfl ?_|refine a3_ rfl rfl ?_|refine a4_ rfl ?_|refine a5_ rfl rfl rfl ?_|refine a6_ rfl rfl ?_)|(refine g0_ ?_; first|refine g1_ rfl ?_|refine g2_ rfl rfl ?_|refine go_draw (dr := allQ) rfl rfl mixed (by first|assumption|kernel_rfl) ?_|refine g4_ rfl ?_|refine g5_ rfl ?_|refine g6_ rfl ?_|refine g7_ rfl ?_|refine g8_ rfl ?_)|(refine o0_ ?_; first|refine o1_ ?_|refine o2_ ?_|refine o3_ ?_|refine o4_ ?_|refine o5_ ?_|refine o6_ rfl ?_|refine o7_ rfl ?_|refine o8_ ?_|refine o9_ ?_|refine oa_ ?_|refine ob_ ?_|refine oc_ ?_|refine od_ ?_|refine oe_ ?_|refine of_ ?_|refine og_ ?_))|refine at_go ?_|(with_reducible refine And.intro (at_go ?_) (at_go ?_))|((with_reducible refine And.intro (fun h => ?_) (fun h => ?_)) <;> try (exfalso; omega))|(with_reducible refine And.intro (by first|omega|(simp only [maxLen]; omega)) ?_)|(first|(refine ⟨_, _, contains46 (badI n) 104 _ xs c _ en104 (fun x => check47 x n 0 _ rfl) hx, ?_⟩)|(refine ⟨_, contains46 (badI n) 104 _ xs c _ en104 (fun x => check47 x n 0 _ rfl) hx, ?_⟩)|(refine ⟨_, fun _ => contains46 (badI n) 104 _ xs c _ en104 (fun x => check47 x n 0 _ rfl) hx, ?_⟩))|simp (disch := first|omega|(simp only [length_ints, List.length_set, List.length_reverse, List.length_replicate, List.length_append, List.length_cons, List.length_nil, List.length_map]; omega)) only [push_cast, ↓reduceIte, reduceIte, reduceCtorEq, Nat.reduceAdd, Nat.reduceLT, Nat.reduceEqDiff, Nat.reduceLeDiff, Int.reduceAdd, Int.reduceLT, Int.reduceLE, Nat.reduceMul, a0, a1, length_ints])
 ·rw [checkM, if_pos (by omega)]
 ·rename_i h1
  rw [checkM, if_neg (by omega)]
  rcases h with h|h
  ·rw [if_pos h]
  ·simp [h]
 ·rename_i h1
  rw [checkM, if_neg (by omega), if_neg h.1, h.2]; rfl
theorem scM_lexI : ∀ (xs ys : List Int), xs.length = ys.length → scM xs ys = lexI xs ys
 | [], [], _ => rfl
 | [], _ :: _, h => by simp at h
 | _ :: _, [], h => by simp at h
 | x :: xs, y :: ys, h => by
  have ih := scM_lexI xs ys (by simpa using h)
  rw [scM, lexI, ih, cmpI]
  by_cases h1 : x < y
  ·simp [h1]
  ·by_cases h2 : y < x
   ·simp [h1, h2]
   ·simp [h1, h2]
theorem ord_cmpM (xs ys : List Int) : orM [cmpI xs.length ys.length, scM xs ys] = cmpM xs ys := by
 rw [cmpM]
 by_cases h1 : xs.length < ys.length
 ·have : cmpI xs.length ys.length = -1 := by rw [cmpI, if_pos (by omega)]
  rw [if_pos h1, this]; rfl
 ·by_cases h2 : ys.length < xs.length
  ·have : cmpI xs.length ys.length = 1 := by rw [cmpI, if_neg (by omega), if_pos (by omega)]
   rw [if_neg h1, if_pos h2, this]; rfl
  ·have : cmpI xs.length ys.length = 0 := by rw [cmpI, if_neg (by omega), if_neg (by omega)]
   rw [if_neg h1, if_neg h2, this, scM_lexI xs ys (by omega)]
   simp [orM]
   exact fun e => e.symm
theorem wCompare' (xs ys : List Int) (c d : Option Nat) (hx : xs.length ≤ 1000000) (hy : ys.length ≤ 1000000) : PC Tryz.prog G0 90 [.sl 1 (ints xs) c, .sl 1 (ints ys) d] (.int .i64 (cmpM xs ys)) := ord_cmpM xs ys ▸ wCompare xs ys c d hx hy
end Go.Proofs
