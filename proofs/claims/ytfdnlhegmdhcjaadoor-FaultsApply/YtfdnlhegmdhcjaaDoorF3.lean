import Derived.Test.YtfdnlhegmdhcjaaDoorF2
namespace Go.Proofs
open Go Go.V
set_option linter.unusedVariables false
set_option linter.unusedSimpArgs false
set_option maxHeartbeats 0
set_option maxRecDepth 100000 in
theorem refCheck16 (i o : Int) (l : List Row) (z : Nat) (c : Option Nat) (hz : l = [] ∨ z = 1) (hl : l.length ≤ 1000000) (hr : ∀ j, j < l.length → (l.getD j ([], none)).1.length ≤ 1000000) : PC Tryd.prog G0 16 [.agg [.int .i64 i, .int .i64 o, .sl z (rowsA l) c]] (.int .i64 (machOk i o l)) := by
 refine pc_go 1 95 [.tmp 2] Tryd.func16 rfl rfl rfl (by simp) ?_
 intro s ⟨a0, hz⟩
 clear hz
 repeat' (first|(first|(refine a0_ ?_; first|refine a1_ rfl rfl ?_|refine a2_ rfl ?_|refine a3_ rfl rfl ?_|refine a4_ rfl ?_|refine ak_ rfl rfl ?_|refine a5_ rfl rfl rfl ?_|refine a6_ rfl rfl ?_|refine a7_ rfl rfl ?_|refine a8_ rfl rfl ?_|refine a9_ rfl rfl rfl ?_)|(refine g0_ ?_; first|refine g1_ rfl ?_|refine g2_ rfl rfl ?_|refine go_draw (dr := allQ) rfl rfl mixed (by first|assumption|kernel_rfl) ?_|refine g4_ rfl ?_|refine g5_ rfl ?_|refine g6_ rfl ?_|refine g7_ rfl ?_|refine g8_ rfl ?_|refine ga_ rfl ?_|refine gb_ rfl ?_)|(refine o0_ ?_; first|refine o1_ ?_|refine o2_ ?_|refine o3_ ?_|refine o4_ ?_|refine o5_ ?_|refine o6_ rfl ?_|refine o7_ rfl ?_|refine o8_ ?_|refine o9_ ?_|refine oa_ ?_|refine ob_ ?_|refine oc_ ?_|refine od_ ?_|refine oe_ ?_|refine of_ ?_|refine og_ ?_|refine oh_ ?_|refine oi_ ?_|refine oj_ ?_|refine ok_ ?_))|refine at_go ?_|(with_reducible refine And.intro (at_go ?_) (at_go ?_))|((with_reducible refine And.intro (fun h => ?_) (fun h => ?_)) <;> try (exfalso; omega))|(with_reducible refine And.intro (by first|omega|(simp only [maxLen]; omega)) ?_)|(refine And.intro ⟨[_], rfl⟩ ?_)|(refine And.intro ⟨[], by simp only [List.append_nil]⟩ ?_)|fail|simp (disch := first|omega|(simp only [List.length_map, lenF, lenS]; omega)) only [push_cast, ↓reduceIte, reduceIte, reduceCtorEq, Nat.reduceAdd, Nat.reduceLT, Nat.reduceEqDiff, Nat.reduceLeDiff, Int.reduceAdd, Int.reduceLT, Int.reduceLE, Nat.reduceMul, a0])
 ·congr 1
  rw [machOk, if_pos (by omega)]
 ·congr 1
  rw [machOk, if_neg (by omega), if_pos (by omega)]
 ·rename_i h1
  obtain rfl : z = 1 := by
   rcases hz with q|q
   ·rw [q] at h; simp at h
   ·exact q
  refine go_loop rfl (fun mz s' H' => ∃ k : Nat, k ≤ l.length ∧ mz = l.length - k ∧ H' = [.row 3 30 [[.int .i64 i, .int .i64 o, .sl 1 (rowsA l) c]]] ∧ s' 1 = .ptr 0 0 0 1 ∧ s' 3 = .int .i64 k ∧ ∀ j, j < k → rowOk i o l.length (l.getD j ([], none)).1 = true) (m := l.length) (by (first|trivial|((repeat' apply And.intro) <;> first|trivial|assumption|omega|(simp only [maxLen]; omega)|(simp only [List.length_map, maxLen, lenF, lenS] <;> omega)))) (Weak.refl _ _) ⟨0, by omega, by omega, rfl, ?_⟩ ?_
  ·simp (disch := first|omega|(simp only [List.length_map, lenF, lenS]; omega)) only [push_cast, ↓reduceIte, reduceIte, reduceCtorEq, Nat.reduceAdd, Nat.reduceLT, Nat.reduceEqDiff, Nat.reduceLeDiff, Int.reduceAdd, Int.reduceLT, Int.reduceLE, Nat.reduceMul, a0]
   exact fun j hj => by omega
  ·rintro mz s' H' ⟨k, hk, rfl, rfl, b1, b3, ik⟩
   rcases Nat.lt_or_ge k l.length with hlt|hge
   ·have e1 := getD_rowsA l k hlt
    have hq := hr k hlt
    have hs := snocB (P := fun j => rowOk i o l.length (l.getD j ([], none)).1 = true) (k := k) ik
    have hno : rowOk i o l.length (l.getD k ([], none)).1 = false → machOk i o l = 1 := fun h => by
     rw [machOk, if_neg (by omega), if_neg (by omega), if_neg]
     intro hh
     rw [hh k hlt] at h; cases h
    simp only [rowOk] at hs hno
    generalize (l.getD k ([], none)).2 = cc at *
    generalize (l.getD k ([], none)).1 = r at *
    repeat' (first|(first|(refine a0_ ?_; first|refine a1_ rfl rfl ?_|refine a2_ rfl ?_|refine a3_ rfl rfl ?_|refine a4_ rfl ?_|refine ak_ rfl rfl ?_|refine a5_ rfl rfl rfl ?_|refine a6_ rfl rfl ?_|refine a7_ rfl rfl ?_|refine a8_ rfl rfl ?_|refine a9_ rfl rfl rfl ?_)|(refine g0_ ?_; first|refine g1_ rfl ?_|refine g2_ rfl rfl ?_|refine go_draw (dr := allQ) rfl rfl mixed (by first|assumption|kernel_rfl) ?_|refine g4_ rfl ?_|refine g5_ rfl ?_|refine g6_ rfl ?_|refine g7_ rfl ?_|refine g8_ rfl ?_|refine ga_ rfl ?_|refine gb_ rfl ?_)|(refine o0_ ?_; first|refine o1_ ?_|refine o2_ ?_|refine o3_ ?_|refine o4_ ?_|refine o5_ ?_|refine o6_ rfl ?_|refine o7_ rfl ?_|refine o8_ ?_|refine o9_ ?_|refine oa_ ?_|refine ob_ ?_|refine oc_ ?_|refine od_ ?_|refine oe_ ?_|refine of_ ?_|refine og_ ?_|refine oh_ ?_|refine oi_ ?_|refine oj_ ?_|refine ok_ ?_))|refine at_go ?_|(with_reducible refine And.intro (at_go ?_) (at_go ?_))|((with_reducible refine And.intro (fun h => ?_) (fun h => ?_)) <;> try (exfalso; omega))|(with_reducible refine And.intro (by first|omega|(simp only [maxLen]; omega)) ?_)|(refine And.intro ⟨[_], rfl⟩ ?_)|(refine And.intro ⟨[], by simp only [List.append_nil]⟩ ?_)|fail|simp (disch := first|omega|(simp only [List.length_map, lenF, lenS]; omega)) only [push_cast, ↓reduceIte, reduceIte, reduceCtorEq, Nat.reduceAdd, Nat.reduceLT, Nat.reduceEqDiff, Nat.reduceLeDiff, Int.reduceAdd, Int.reduceLT, Int.reduceLE, Nat.reduceMul, b1, b3, e1])
    ·congr 1
     refine (hno ?_).symm
     simp [h]
    ·rename_i hlen
     refine go_loop rfl (fun mz s' H' => ∃ m : Nat, m ≤ r.length ∧ mz = r.length - m ∧ H' = [.row 3 30 [[.int .i64 i, .int .i64 o, .sl 1 (rowsA l) c]]] ∧ s' 1 = .ptr 0 0 0 1 ∧ s' 3 = .int .i64 k ∧ s' 4 = .int .i64 m ∧ ∀ j, j < m → fitE o l.length (r.getD j (0, 0)) = true) (m := r.length) (by (first|trivial|((repeat' apply And.intro) <;> first|trivial|assumption|omega|(simp only [maxLen]; omega)|(simp only [List.length_map, maxLen, lenF, lenS] <;> omega)))) (Weak.refl _ _) ⟨0, by omega, by omega, rfl, ?_⟩ ?_
     ·simp (disch := first|omega|(simp only [List.length_map, lenF, lenS]; omega)) only [push_cast, ↓reduceIte, reduceIte, reduceCtorEq, Nat.reduceAdd, Nat.reduceLT, Nat.reduceEqDiff, Nat.reduceLeDiff, Int.reduceAdd, Int.reduceLT, Int.reduceLE, Nat.reduceMul, b1, b3, e1]
      exact fun j hj => by omega
     ·rintro mz s' H' ⟨m, hm, rfl, rfl, b1, b3, b4, im⟩
      rcases Nat.lt_or_ge m r.length with hlt3|hge3
      ·have e3 := getD_rowA r m hlt3
       have hs3 := snocB (P := fun j => fitE o l.length (r.getD j (0, 0)) = true) (k := m) im
       have hno3 : fitE o l.length (r.getD m (0, 0)) = false → machOk i o l = 1 := fun h => hno (by
        rw [Bool.and_eq_false_iff]; right
        rw [Bool.eq_false_iff]
        intro hh
        rw [List.all_eq_true] at hh
        have := hh (r.getD m (0, 0)) (by rw [List.getD_eq_getElem?_getD, List.getElem?_eq_getElem hlt3]; exact List.getElem_mem _)
        rw [h] at this; cases this)
       generalize r.getD m (0, 0) = x at *
       obtain ⟨x1, x2⟩ := x
       simp only [eA] at e3
       have hfd : fitE o l.length (x1, x2) = ((decide (x1 = -1) && decide (x2 = -1)) || (decide (0 ≤ x1) && decide (x1 < l.length) && decide (0 ≤ x2) && decide (x2 < o))) := rfl
       rw [hfd] at hs3 hno3
       repeat' (first|(first|(refine a0_ ?_; first|refine a1_ rfl rfl ?_|refine a2_ rfl ?_|refine a3_ rfl rfl ?_|refine a4_ rfl ?_|refine ak_ rfl rfl ?_|refine a5_ rfl rfl rfl ?_|refine a6_ rfl rfl ?_|refine a7_ rfl rfl ?_|refine a8_ rfl rfl ?_|refine a9_ rfl rfl rfl ?_)|(refine g0_ ?_; first|refine g1_ rfl ?_|refine g2_ rfl rfl ?_|refine go_draw (dr := allQ) rfl rfl mixed (by first|assumption|kernel_rfl) ?_|refine g4_ rfl ?_|refine g5_ rfl ?_|refine g6_ rfl ?_|refine g7_ rfl ?_|refine g8_ rfl ?_|refine ga_ rfl ?_|refine gb_ rfl ?_)|(refine o0_ ?_; first|refine o1_ ?_|refine o2_ ?_|refine o3_ ?_|refine o4_ ?_|refine o5_ ?_|refine o6_ rfl ?_|refine o7_ rfl ?_|refine o8_ ?_|refine o9_ ?_|refine oa_ ?_|refine ob_ ?_|refine oc_ ?_|refine od_ ?_|refine oe_ ?_|refine of_ ?_|refine og_ ?_|refine oh_ ?_|refine oi_ ?_|refine oj_ ?_|refine ok_ ?_))|refine at_go ?_|(with_reducible refine And.intro (at_go ?_) (at_go ?_))|((with_reducible refine And.intro (fun h => ?_) (fun h => ?_)) <;> try (exfalso; omega))|(with_reducible refine And.intro (by first|omega|(simp only [maxLen]; omega)) ?_)|(refine And.intro ⟨[_], rfl⟩ ?_)|(refine And.intro ⟨[], by simp only [List.append_nil]⟩ ?_)|fail|simp (disch := first|omega|(simp only [List.length_map, lenF, lenS]; omega)) only [push_cast, ↓reduceIte, reduceIte, reduceCtorEq, Nat.reduceAdd, Nat.reduceLT, Nat.reduceEqDiff, Nat.reduceLeDiff, Int.reduceAdd, Int.reduceLT, Int.reduceLE, Nat.reduceMul, b1, b3, b4, e1, e3])
       ·refine out_round_take (r.length - (m + 1)) 1 (by omega) (by (first|trivial|((repeat' apply And.intro) <;> first|trivial|assumption|omega|(simp only [maxLen]; omega)|(simp only [List.length_map, maxLen, lenF, lenS] <;> omega)))) (by omega) (by simp) (by simp [Blk.below, idsE, idsL, AV.ids]) ⟨m + 1, by omega, rfl, rfl, ?_⟩
        simp (disch := first|omega|(simp only [List.length_map, lenF, lenS]; omega)) only [push_cast, ↓reduceIte, reduceIte, reduceCtorEq, Nat.reduceAdd, Nat.reduceLT, Nat.reduceEqDiff, Nat.reduceLeDiff, Int.reduceAdd, Int.reduceLT, Int.reduceLE, Nat.reduceMul, b1, b3, b4, e1, e3, scrub, AV.ids, idsL, idsE_rowsA]
        refine hs3 ?_
        simp [h.1, h.2]
       ·congr 1
        refine (hno3 ?_).symm
        simp only [Bool.or_eq_false_iff, Bool.and_eq_false_iff, decide_eq_false_iff_not]
        omega
       ·refine out_round_take (r.length - (m + 1)) 1 (by omega) (by (first|trivial|((repeat' apply And.intro) <;> first|trivial|assumption|omega|(simp only [maxLen]; omega)|(simp only [List.length_map, maxLen, lenF, lenS] <;> omega)))) (by omega) (by simp) (by simp [Blk.below, idsE, idsL, AV.ids]) ⟨m + 1, by omega, rfl, rfl, ?_⟩
        simp (disch := first|omega|(simp only [List.length_map, lenF, lenS]; omega)) only [push_cast, ↓reduceIte, reduceIte, reduceCtorEq, Nat.reduceAdd, Nat.reduceLT, Nat.reduceEqDiff, Nat.reduceLeDiff, Int.reduceAdd, Int.reduceLT, Int.reduceLE, Nat.reduceMul, b1, b3, b4, e1, e3, scrub, AV.ids, idsL, idsE_rowsA]
        refine hs3 ?_
        simp only [Bool.or_eq_true, Bool.and_eq_true, decide_eq_true_eq]
        omega
      ·obtain rfl : m = r.length := by omega
       repeat' (first|(first|(refine a0_ ?_; first|refine a1_ rfl rfl ?_|refine a2_ rfl ?_|refine a3_ rfl rfl ?_|refine a4_ rfl ?_|refine ak_ rfl rfl ?_|refine a5_ rfl rfl rfl ?_|refine a6_ rfl rfl ?_|refine a7_ rfl rfl ?_|refine a8_ rfl rfl ?_|refine a9_ rfl rfl rfl ?_)|(refine g0_ ?_; first|refine g1_ rfl ?_|refine g2_ rfl rfl ?_|refine go_draw (dr := allQ) rfl rfl mixed (by first|assumption|kernel_rfl) ?_|refine g4_ rfl ?_|refine g5_ rfl ?_|refine g6_ rfl ?_|refine g7_ rfl ?_|refine g8_ rfl ?_|refine ga_ rfl ?_|refine gb_ rfl ?_)|(refine o0_ ?_; first|refine o1_ ?_|refine o2_ ?_|refine o3_ ?_|refine o4_ ?_|refine o5_ ?_|refine o6_ rfl ?_|refine o7_ rfl ?_|refine o8_ ?_|refine o9_ ?_|refine oa_ ?_|refine ob_ ?_|refine oc_ ?_|refine od_ ?_|refine oe_ ?_|refine of_ ?_|refine og_ ?_|refine oh_ ?_|refine oi_ ?_|refine oj_ ?_|refine ok_ ?_))|refine at_go ?_|(with_reducible refine And.intro (at_go ?_) (at_go ?_))|((with_reducible refine And.intro (fun h => ?_) (fun h => ?_)) <;> try (exfalso; omega))|(with_reducible refine And.intro (by first|omega|(simp only [maxLen]; omega)) ?_)|(refine And.intro ⟨[_], rfl⟩ ?_)|(refine And.intro ⟨[], by simp only [List.append_nil]⟩ ?_)|fail|simp (disch := first|omega|(simp only [List.length_map, lenF, lenS]; omega)) only [push_cast, ↓reduceIte, reduceIte, reduceCtorEq, Nat.reduceAdd, Nat.reduceLT, Nat.reduceEqDiff, Nat.reduceLeDiff, Int.reduceAdd, Int.reduceLT, Int.reduceLE, Nat.reduceMul, b1, b3, b4, e1])
       refine out_round (l.length - (k + 1)) (by omega) (by (first|trivial|((repeat' apply And.intro) <;> first|trivial|assumption|omega|(simp only [maxLen]; omega)|(simp only [List.length_map, maxLen, lenF, lenS] <;> omega)))) ⟨k + 1, by omega, rfl, rfl, ?_⟩
       simp (disch := first|omega|(simp only [List.length_map, lenF, lenS]; omega)) only [push_cast, ↓reduceIte, reduceIte, reduceCtorEq, Nat.reduceAdd, Nat.reduceLT, Nat.reduceEqDiff, Nat.reduceLeDiff, Int.reduceAdd, Int.reduceLT, Int.reduceLE, Nat.reduceMul, b1, b3, b4, e1]
       refine hs ?_
       rw [Bool.and_eq_true, decide_eq_true_eq, List.all_eq_true]
       refine ⟨by omega, fun e he => ?_⟩
       obtain ⟨j, hj, rfl⟩ := List.getElem_of_mem he
       have := im j hj
       rwa [List.getD_eq_getElem?_getD, List.getElem?_eq_getElem hj] at this
   ·obtain rfl : k = l.length := by omega
    repeat' (first|(first|(refine a0_ ?_; first|refine a1_ rfl rfl ?_|refine a2_ rfl ?_|refine a3_ rfl rfl ?_|refine a4_ rfl ?_|refine ak_ rfl rfl ?_|refine a5_ rfl rfl rfl ?_|refine a6_ rfl rfl ?_|refine a7_ rfl rfl ?_|refine a8_ rfl rfl ?_|refine a9_ rfl rfl rfl ?_)|(refine g0_ ?_; first|refine g1_ rfl ?_|refine g2_ rfl rfl ?_|refine go_draw (dr := allQ) rfl rfl mixed (by first|assumption|kernel_rfl) ?_|refine g4_ rfl ?_|refine g5_ rfl ?_|refine g6_ rfl ?_|refine g7_ rfl ?_|refine g8_ rfl ?_|refine ga_ rfl ?_|refine gb_ rfl ?_)|(refine o0_ ?_; first|refine o1_ ?_|refine o2_ ?_|refine o3_ ?_|refine o4_ ?_|refine o5_ ?_|refine o6_ rfl ?_|refine o7_ rfl ?_|refine o8_ ?_|refine o9_ ?_|refine oa_ ?_|refine ob_ ?_|refine oc_ ?_|refine od_ ?_|refine oe_ ?_|refine of_ ?_|refine og_ ?_|refine oh_ ?_|refine oi_ ?_|refine oj_ ?_|refine ok_ ?_))|refine at_go ?_|(with_reducible refine And.intro (at_go ?_) (at_go ?_))|((with_reducible refine And.intro (fun h => ?_) (fun h => ?_)) <;> try (exfalso; omega))|(with_reducible refine And.intro (by first|omega|(simp only [maxLen]; omega)) ?_)|(refine And.intro ⟨[_], rfl⟩ ?_)|(refine And.intro ⟨[], by simp only [List.append_nil]⟩ ?_)|fail|simp (disch := first|omega|(simp only [List.length_map, lenF, lenS]; omega)) only [push_cast, ↓reduceIte, reduceIte, reduceCtorEq, Nat.reduceAdd, Nat.reduceLT, Nat.reduceEqDiff, Nat.reduceLeDiff, Int.reduceAdd, Int.reduceLT, Int.reduceLE, Nat.reduceMul, b1, b3])
    congr 1
    rw [machOk, if_neg (by omega), if_neg (by omega), if_pos ik]
set_option maxRecDepth 100000 in
theorem within39 (i n : Int) : PC Tryd.prog G0 39 [.int .i64 i, .int .i64 n] (.bool (decide (0 ≤ i) && decide (i < n))) := by
 refine pc_go 0 12 [.tmp 4] Tryd.func39 rfl rfl rfl (by simp) ?_
 intro s ⟨a0, a1, hz⟩
 simp only [Nat.zero_add, Nat.reduceAdd] at a1
 clear hz
 repeat' (first|(first|(refine a0_ ?_; first|refine a1_ rfl rfl ?_|refine a2_ rfl ?_|refine a3_ rfl rfl ?_|refine a4_ rfl ?_|refine ak_ rfl rfl ?_|refine a5_ rfl rfl rfl ?_|refine a6_ rfl rfl ?_|refine a7_ rfl rfl ?_|refine a8_ rfl rfl ?_|refine a9_ rfl rfl rfl ?_)|(refine g0_ ?_; first|refine g1_ rfl ?_|refine g2_ rfl rfl ?_|refine go_draw (dr := allQ) rfl rfl mixed (by first|assumption|kernel_rfl) ?_|refine g4_ rfl ?_|refine g5_ rfl ?_|refine g6_ rfl ?_|refine g7_ rfl ?_|refine g8_ rfl ?_|refine ga_ rfl ?_|refine gb_ rfl ?_)|(refine o0_ ?_; first|refine o1_ ?_|refine o2_ ?_|refine o3_ ?_|refine o4_ ?_|refine o5_ ?_|refine o6_ rfl ?_|refine o7_ rfl ?_|refine o8_ ?_|refine o9_ ?_|refine oa_ ?_|refine ob_ ?_|refine oc_ ?_|refine od_ ?_|refine oe_ ?_|refine of_ ?_|refine og_ ?_|refine oh_ ?_|refine oi_ ?_|refine oj_ ?_|refine ok_ ?_))|refine at_go ?_|(with_reducible refine And.intro (at_go ?_) (at_go ?_))|((with_reducible refine And.intro (fun h => ?_) (fun h => ?_)) <;> try (exfalso; omega))|(with_reducible refine And.intro (by first|omega|(simp only [maxLen]; omega)) ?_)|(refine And.intro ⟨[_], rfl⟩ ?_)|(refine And.intro ⟨[], by simp only [List.append_nil]⟩ ?_)|fail|simp (disch := first|omega|(simp only [List.length_map, lenF, lenS]; omega)) only [push_cast, ↓reduceIte, reduceIte, reduceCtorEq, Nat.reduceAdd, Nat.reduceLT, Nat.reduceEqDiff, Nat.reduceLeDiff, Int.reduceAdd, Int.reduceLT, Int.reduceLE, Nat.reduceMul, a0, a1])
 all_goals simp; omega
theorem edR_rows (l : List Row) (s i : Nat) : edR (edgesOf l) s i = (l.getD s ([], none)).1.getD i (0, 0) := by rw [edR_nat, getD_edgesOf]
def defA (i : Int) (l : List Row) (s a : Int) : Bool := defR (edgesOf l) i.toNat s a
theorem defA_no (i : Int) (l : List Row) (s a : Int) (h : ¬ (0 ≤ s ∧ s < l.length ∧ 0 ≤ a ∧ a < i)) : defA i l s a = false := by
 rw [Bool.eq_false_iff]
 intro hh
 have := defR_iff.1 hh
 rw [edgesOf_len] at this
 omega
theorem defA_yes (i : Int) (l : List Row) (s a : Nat) (h : s < l.length ∧ (a : Int) < i) : defA i l s a = !decide (((l.getD s ([], none)).1.getD a (0, 0)).1 = -1) := by
 rw [defA, defR, edgesOf_len, edR_rows, decide_eq_true (by omega : (0 : Int) ≤ s), decide_eq_true (by omega : (s : Int) < l.length), decide_eq_true (by omega : (0 : Int) ≤ a), decide_eq_true (by omega : (a : Int) < i.toNat)]
 simp
set_option maxRecDepth 100000 in
theorem defined38 (i o : Int) (l : List Row) (z : Nat) (c : Option Nat) (s a : Int) (hz : l = [] ∨ z = 1) (hl : l.length ≤ 1000000) (hi : i ≤ 1000000) (hw : Wide i l) : PC Tryd.prog G0 38 [.agg [.int .i64 i, .int .i64 o, .sl z (rowsA l) c], .int .i64 s, .int .i64 a] (.bool (defA i l s a)) := by
 by_cases h : 0 ≤ s ∧ s < l.length ∧ 0 ≤ a ∧ a < i
 ·obtain ⟨u, rfl⟩ : ∃ u : Nat, s = u := ⟨s.toNat, by omega⟩
  obtain ⟨v, rfl⟩ : ∃ v : Nat, a = v := ⟨a.toNat, by omega⟩
  obtain rfl : z = 1 := by
   rcases hz with q|q
   ·rw [q] at h; simp at h; omega
   ·exact q
  have hu : u < l.length := by omega
  have e1 := getD_rowsA l u hu
  have hq := hw u hu
  have e2 := getD_rowA (l.getD u ([], none)).1 v (by omega)
  rw [defA_yes i l u v ⟨hu, by omega⟩]
  generalize (l.getD u ([], none)).2 = cc at *
  generalize (l.getD u ([], none)).1 = r at *
  generalize r.getD v (0, 0) = x at *
  obtain ⟨x1, x2⟩ := x
  simp only [eA] at e2
  refine pc_go 0 38 [.tmp 6] Tryd.func38 rfl rfl rfl (by simp) ?_
  intro s ⟨a0, a1, a2, hz⟩
  simp only [Nat.zero_add, Nat.reduceAdd] at a1 a2
  clear hz
  repeat' (first|(first|(refine a0_ ?_; first|refine a1_ rfl rfl ?_|refine a2_ rfl ?_|refine a3_ rfl rfl ?_|refine a4_ rfl ?_|refine ak_ rfl rfl ?_|refine a5_ rfl rfl rfl ?_|refine a6_ rfl rfl ?_|refine a7_ rfl rfl ?_|refine a8_ rfl rfl ?_|refine a9_ rfl rfl rfl ?_)|(refine g0_ ?_; first|refine g1_ rfl ?_|refine g2_ rfl rfl ?_|refine go_draw (dr := allQ) rfl rfl mixed (by first|assumption|kernel_rfl) ?_|refine g4_ rfl ?_|refine g5_ rfl ?_|refine g6_ rfl ?_|refine g7_ rfl ?_|refine g8_ rfl ?_|refine ga_ rfl ?_|refine gb_ rfl ?_)|(refine o0_ ?_; first|refine o1_ ?_|refine o2_ ?_|refine o3_ ?_|refine o4_ ?_|refine o5_ ?_|refine o6_ rfl ?_|refine o7_ rfl ?_|refine o8_ ?_|refine o9_ ?_|refine oa_ ?_|refine ob_ ?_|refine oc_ ?_|refine od_ ?_|refine oe_ ?_|refine of_ ?_|refine og_ ?_|refine oh_ ?_|refine oi_ ?_|refine oj_ ?_|refine ok_ ?_))|refine at_go ?_|(with_reducible refine And.intro (at_go ?_) (at_go ?_))|((with_reducible refine And.intro (fun h => ?_) (fun h => ?_)) <;> try (exfalso; omega))|(with_reducible refine And.intro (by first|omega|(simp only [maxLen]; omega)) ?_)|(refine And.intro ⟨[_], rfl⟩ ?_)|(refine And.intro ⟨[], by simp only [List.append_nil]⟩ ?_)|fail|simp (disch := first|omega|(simp only [List.length_map, lenF, lenS]; omega)) only [push_cast, ↓reduceIte, reduceIte, reduceCtorEq, Nat.reduceAdd, Nat.reduceLT, Nat.reduceEqDiff, Nat.reduceLeDiff, Int.reduceAdd, Int.reduceLT, Int.reduceLE, Nat.reduceMul, a0, a1, a2, e1, e2])
  rw [decide_eq_true hu, decide_eq_true h.2.2.2]; rfl
 ·rw [defA_no i l s a h]
  have h4 : ¬ 0 ≤ s ∨ ¬ s < l.length ∨ ¬ 0 ≤ a ∨ ¬ a < i := by omega
  rcases h4 with hx|hx|hx|hx
  ·refine pc_go 0 38 [.tmp 6] Tryd.func38 rfl rfl rfl (by simp) ?_
   intro s ⟨a0, a1, a2, hz⟩
   simp only [Nat.zero_add, Nat.reduceAdd] at a1 a2
   clear hz
   repeat' (first|(first|(refine a0_ ?_; first|refine a1_ rfl rfl ?_|refine a2_ rfl ?_|refine a3_ rfl rfl ?_|refine a4_ rfl ?_|refine ak_ rfl rfl ?_|refine a5_ rfl rfl rfl ?_|refine a6_ rfl rfl ?_|refine a7_ rfl rfl ?_|refine a8_ rfl rfl ?_|refine a9_ rfl rfl rfl ?_)|(refine g0_ ?_; first|refine g1_ rfl ?_|refine g2_ rfl rfl ?_|refine go_draw (dr := allQ) rfl rfl mixed (by first|assumption|kernel_rfl) ?_|refine g4_ rfl ?_|refine g5_ rfl ?_|refine g6_ rfl ?_|refine g7_ rfl ?_|refine g8_ rfl ?_|refine ga_ rfl ?_|refine gb_ rfl ?_)|(refine o0_ ?_; first|refine o1_ ?_|refine o2_ ?_|refine o3_ ?_|refine o4_ ?_|refine o5_ ?_|refine o6_ rfl ?_|refine o7_ rfl ?_|refine o8_ ?_|refine o9_ ?_|refine oa_ ?_|refine ob_ ?_|refine oc_ ?_|refine od_ ?_|refine oe_ ?_|refine of_ ?_|refine og_ ?_|refine oh_ ?_|refine oi_ ?_|refine oj_ ?_|refine ok_ ?_))|refine at_go ?_|(with_reducible refine And.intro (at_go ?_) (at_go ?_))|((with_reducible refine And.intro (fun h => ?_) (fun h => ?_)) <;> try (exfalso; omega))|(with_reducible refine And.intro (by first|omega|(simp only [maxLen]; omega)) ?_)|(refine And.intro ⟨[_], rfl⟩ ?_)|(refine And.intro ⟨[], by simp only [List.append_nil]⟩ ?_)|fail|simp (disch := first|omega|(simp only [List.length_map, lenF, lenS]; omega)) only [push_cast, ↓reduceIte, reduceIte, reduceCtorEq, Nat.reduceAdd, Nat.reduceLT, Nat.reduceEqDiff, Nat.reduceLeDiff, Int.reduceAdd, Int.reduceLT, Int.reduceLE, Nat.reduceMul, a0, a1, a2, hx])
  ·refine pc_go 0 38 [.tmp 6] Tryd.func38 rfl rfl rfl (by simp) ?_
   intro s ⟨a0, a1, a2, hz⟩
   simp only [Nat.zero_add, Nat.reduceAdd] at a1 a2
   clear hz
   repeat' (first|(first|(refine a0_ ?_; first|refine a1_ rfl rfl ?_|refine a2_ rfl ?_|refine a3_ rfl rfl ?_|refine a4_ rfl ?_|refine ak_ rfl rfl ?_|refine a5_ rfl rfl rfl ?_|refine a6_ rfl rfl ?_|refine a7_ rfl rfl ?_|refine a8_ rfl rfl ?_|refine a9_ rfl rfl rfl ?_)|(refine g0_ ?_; first|refine g1_ rfl ?_|refine g2_ rfl rfl ?_|refine go_draw (dr := allQ) rfl rfl mixed (by first|assumption|kernel_rfl) ?_|refine g4_ rfl ?_|refine g5_ rfl ?_|refine g6_ rfl ?_|refine g7_ rfl ?_|refine g8_ rfl ?_|refine ga_ rfl ?_|refine gb_ rfl ?_)|(refine o0_ ?_; first|refine o1_ ?_|refine o2_ ?_|refine o3_ ?_|refine o4_ ?_|refine o5_ ?_|refine o6_ rfl ?_|refine o7_ rfl ?_|refine o8_ ?_|refine o9_ ?_|refine oa_ ?_|refine ob_ ?_|refine oc_ ?_|refine od_ ?_|refine oe_ ?_|refine of_ ?_|refine og_ ?_|refine oh_ ?_|refine oi_ ?_|refine oj_ ?_|refine ok_ ?_))|refine at_go ?_|(with_reducible refine And.intro (at_go ?_) (at_go ?_))|((with_reducible refine And.intro (fun h => ?_) (fun h => ?_)) <;> try (exfalso; omega))|(with_reducible refine And.intro (by first|omega|(simp only [maxLen]; omega)) ?_)|(refine And.intro ⟨[_], rfl⟩ ?_)|(refine And.intro ⟨[], by simp only [List.append_nil]⟩ ?_)|fail|simp (disch := first|omega|(simp only [List.length_map, lenF, lenS]; omega)) only [push_cast, ↓reduceIte, reduceIte, reduceCtorEq, Nat.reduceAdd, Nat.reduceLT, Nat.reduceEqDiff, Nat.reduceLeDiff, Int.reduceAdd, Int.reduceLT, Int.reduceLE, Nat.reduceMul, a0, a1, a2, hx])
  ·refine pc_go 0 38 [.tmp 6] Tryd.func38 rfl rfl rfl (by simp) ?_
   intro s ⟨a0, a1, a2, hz⟩
   simp only [Nat.zero_add, Nat.reduceAdd] at a1 a2
   clear hz
   repeat' (first|(first|(refine a0_ ?_; first|refine a1_ rfl rfl ?_|refine a2_ rfl ?_|refine a3_ rfl rfl ?_|refine a4_ rfl ?_|refine ak_ rfl rfl ?_|refine a5_ rfl rfl rfl ?_|refine a6_ rfl rfl ?_|refine a7_ rfl rfl ?_|refine a8_ rfl rfl ?_|refine a9_ rfl rfl rfl ?_)|(refine g0_ ?_; first|refine g1_ rfl ?_|refine g2_ rfl rfl ?_|refine go_draw (dr := allQ) rfl rfl mixed (by first|assumption|kernel_rfl) ?_|refine g4_ rfl ?_|refine g5_ rfl ?_|refine g6_ rfl ?_|refine g7_ rfl ?_|refine g8_ rfl ?_|refine ga_ rfl ?_|refine gb_ rfl ?_)|(refine o0_ ?_; first|refine o1_ ?_|refine o2_ ?_|refine o3_ ?_|refine o4_ ?_|refine o5_ ?_|refine o6_ rfl ?_|refine o7_ rfl ?_|refine o8_ ?_|refine o9_ ?_|refine oa_ ?_|refine ob_ ?_|refine oc_ ?_|refine od_ ?_|refine oe_ ?_|refine of_ ?_|refine og_ ?_|refine oh_ ?_|refine oi_ ?_|refine oj_ ?_|refine ok_ ?_))|refine at_go ?_|(with_reducible refine And.intro (at_go ?_) (at_go ?_))|((with_reducible refine And.intro (fun h => ?_) (fun h => ?_)) <;> try (exfalso; omega))|(with_reducible refine And.intro (by first|omega|(simp only [maxLen]; omega)) ?_)|(refine And.intro ⟨[_], rfl⟩ ?_)|(refine And.intro ⟨[], by simp only [List.append_nil]⟩ ?_)|fail|simp (disch := first|omega|(simp only [List.length_map, lenF, lenS]; omega)) only [push_cast, ↓reduceIte, reduceIte, reduceCtorEq, Nat.reduceAdd, Nat.reduceLT, Nat.reduceEqDiff, Nat.reduceLeDiff, Int.reduceAdd, Int.reduceLT, Int.reduceLE, Nat.reduceMul, a0, a1, a2, hx])
  ·refine pc_go 0 38 [.tmp 6] Tryd.func38 rfl rfl rfl (by simp) ?_
   intro s ⟨a0, a1, a2, hz⟩
   simp only [Nat.zero_add, Nat.reduceAdd] at a1 a2
   clear hz
   repeat' (first|(first|(refine a0_ ?_; first|refine a1_ rfl rfl ?_|refine a2_ rfl ?_|refine a3_ rfl rfl ?_|refine a4_ rfl ?_|refine ak_ rfl rfl ?_|refine a5_ rfl rfl rfl ?_|refine a6_ rfl rfl ?_|refine a7_ rfl rfl ?_|refine a8_ rfl rfl ?_|refine a9_ rfl rfl rfl ?_)|(refine g0_ ?_; first|refine g1_ rfl ?_|refine g2_ rfl rfl ?_|refine go_draw (dr := allQ) rfl rfl mixed (by first|assumption|kernel_rfl) ?_|refine g4_ rfl ?_|refine g5_ rfl ?_|refine g6_ rfl ?_|refine g7_ rfl ?_|refine g8_ rfl ?_|refine ga_ rfl ?_|refine gb_ rfl ?_)|(refine o0_ ?_; first|refine o1_ ?_|refine o2_ ?_|refine o3_ ?_|refine o4_ ?_|refine o5_ ?_|refine o6_ rfl ?_|refine o7_ rfl ?_|refine o8_ ?_|refine o9_ ?_|refine oa_ ?_|refine ob_ ?_|refine oc_ ?_|refine od_ ?_|refine oe_ ?_|refine of_ ?_|refine og_ ?_|refine oh_ ?_|refine oi_ ?_|refine oj_ ?_|refine ok_ ?_))|refine at_go ?_|(with_reducible refine And.intro (at_go ?_) (at_go ?_))|((with_reducible refine And.intro (fun h => ?_) (fun h => ?_)) <;> try (exfalso; omega))|(with_reducible refine And.intro (by first|omega|(simp only [maxLen]; omega)) ?_)|(refine And.intro ⟨[_], rfl⟩ ?_)|(refine And.intro ⟨[], by simp only [List.append_nil]⟩ ?_)|fail|simp (disch := first|omega|(simp only [List.length_map, lenF, lenS]; omega)) only [push_cast, ↓reduceIte, reduceIte, reduceCtorEq, Nat.reduceAdd, Nat.reduceLT, Nat.reduceEqDiff, Nat.reduceLeDiff, Int.reduceAdd, Int.reduceLT, Int.reduceLE, Nat.reduceMul, a0, a1, a2, hx])
set_option maxRecDepth 100000 in
theorem refDefined44 (i o : Int) (l : List Row) (z : Nat) (c : Option Nat) (s a : Int) (hz : l = [] ∨ z = 1) (hl : l.length ≤ 1000000) (hi : i ≤ 1000000) (hw : Wide i l) : PC Tryd.prog G0 44 [.agg [.int .i64 i, .int .i64 o, .sl z (rowsA l) c], .int .i64 s, .int .i64 a] (.bool (defA i l s a)) := by
 by_cases h : 0 ≤ s ∧ s < l.length ∧ 0 ≤ a ∧ a < i
 ·obtain ⟨u, rfl⟩ : ∃ u : Nat, s = u := ⟨s.toNat, by omega⟩
  obtain ⟨v, rfl⟩ : ∃ v : Nat, a = v := ⟨a.toNat, by omega⟩
  obtain rfl : z = 1 := by
   rcases hz with q|q
   ·rw [q] at h; simp at h; omega
   ·exact q
  have hu : u < l.length := by omega
  have e1 := getD_rowsA l u hu
  have hq := hw u hu
  have e2 := getD_rowA (l.getD u ([], none)).1 v (by omega)
  rw [defA_yes i l u v ⟨hu, by omega⟩]
  generalize (l.getD u ([], none)).2 = cc at *
  generalize (l.getD u ([], none)).1 = r at *
  generalize r.getD v (0, 0) = x at *
  obtain ⟨x1, x2⟩ := x
  simp only [eA] at e2
  refine pc_go 0 38 [.tmp 6] Tryd.func44 rfl rfl rfl (by simp) ?_
  intro s ⟨a0, a1, a2, hz⟩
  simp only [Nat.zero_add, Nat.reduceAdd] at a1 a2
  clear hz
  repeat' (first|(first|(refine a0_ ?_; first|refine a1_ rfl rfl ?_|refine a2_ rfl ?_|refine a3_ rfl rfl ?_|refine a4_ rfl ?_|refine ak_ rfl rfl ?_|refine a5_ rfl rfl rfl ?_|refine a6_ rfl rfl ?_|refine a7_ rfl rfl ?_|refine a8_ rfl rfl ?_|refine a9_ rfl rfl rfl ?_)|(refine g0_ ?_; first|refine g1_ rfl ?_|refine g2_ rfl rfl ?_|refine go_draw (dr := allQ) rfl rfl mixed (by first|assumption|kernel_rfl) ?_|refine g4_ rfl ?_|refine g5_ rfl ?_|refine g6_ rfl ?_|refine g7_ rfl ?_|refine g8_ rfl ?_|refine ga_ rfl ?_|refine gb_ rfl ?_)|(refine o0_ ?_; first|refine o1_ ?_|refine o2_ ?_|refine o3_ ?_|refine o4_ ?_|refine o5_ ?_|refine o6_ rfl ?_|refine o7_ rfl ?_|refine o8_ ?_|refine o9_ ?_|refine oa_ ?_|refine ob_ ?_|refine oc_ ?_|refine od_ ?_|refine oe_ ?_|refine of_ ?_|refine og_ ?_|refine oh_ ?_|refine oi_ ?_|refine oj_ ?_|refine ok_ ?_))|refine at_go ?_|(with_reducible refine And.intro (at_go ?_) (at_go ?_))|((with_reducible refine And.intro (fun h => ?_) (fun h => ?_)) <;> try (exfalso; omega))|(with_reducible refine And.intro (by first|omega|(simp only [maxLen]; omega)) ?_)|(refine And.intro ⟨[_], rfl⟩ ?_)|(refine And.intro ⟨[], by simp only [List.append_nil]⟩ ?_)|fail|simp (disch := first|omega|(simp only [List.length_map, lenF, lenS]; omega)) only [push_cast, ↓reduceIte, reduceIte, reduceCtorEq, Nat.reduceAdd, Nat.reduceLT, Nat.reduceEqDiff, Nat.reduceLeDiff, Int.reduceAdd, Int.reduceLT, Int.reduceLE, Nat.reduceMul, a0, a1, a2, e1, e2])
  rw [decide_eq_true hu, decide_eq_true h.2.2.2]; rfl
 ·rw [defA_no i l s a h]
  have h4 : ¬ 0 ≤ s ∨ ¬ s < l.length ∨ ¬ 0 ≤ a ∨ ¬ a < i := by omega
  rcases h4 with hx|hx|hx|hx
  ·refine pc_go 0 38 [.tmp 6] Tryd.func44 rfl rfl rfl (by simp) ?_
   intro s ⟨a0, a1, a2, hz⟩
   simp only [Nat.zero_add, Nat.reduceAdd] at a1 a2
   clear hz
   repeat' (first|(first|(refine a0_ ?_; first|refine a1_ rfl rfl ?_|refine a2_ rfl ?_|refine a3_ rfl rfl ?_|refine a4_ rfl ?_|refine ak_ rfl rfl ?_|refine a5_ rfl rfl rfl ?_|refine a6_ rfl rfl ?_|refine a7_ rfl rfl ?_|refine a8_ rfl rfl ?_|refine a9_ rfl rfl rfl ?_)|(refine g0_ ?_; first|refine g1_ rfl ?_|refine g2_ rfl rfl ?_|refine go_draw (dr := allQ) rfl rfl mixed (by first|assumption|kernel_rfl) ?_|refine g4_ rfl ?_|refine g5_ rfl ?_|refine g6_ rfl ?_|refine g7_ rfl ?_|refine g8_ rfl ?_|refine ga_ rfl ?_|refine gb_ rfl ?_)|(refine o0_ ?_; first|refine o1_ ?_|refine o2_ ?_|refine o3_ ?_|refine o4_ ?_|refine o5_ ?_|refine o6_ rfl ?_|refine o7_ rfl ?_|refine o8_ ?_|refine o9_ ?_|refine oa_ ?_|refine ob_ ?_|refine oc_ ?_|refine od_ ?_|refine oe_ ?_|refine of_ ?_|refine og_ ?_|refine oh_ ?_|refine oi_ ?_|refine oj_ ?_|refine ok_ ?_))|refine at_go ?_|(with_reducible refine And.intro (at_go ?_) (at_go ?_))|((with_reducible refine And.intro (fun h => ?_) (fun h => ?_)) <;> try (exfalso; omega))|(with_reducible refine And.intro (by first|omega|(simp only [maxLen]; omega)) ?_)|(refine And.intro ⟨[_], rfl⟩ ?_)|(refine And.intro ⟨[], by simp only [List.append_nil]⟩ ?_)|fail|simp (disch := first|omega|(simp only [List.length_map, lenF, lenS]; omega)) only [push_cast, ↓reduceIte, reduceIte, reduceCtorEq, Nat.reduceAdd, Nat.reduceLT, Nat.reduceEqDiff, Nat.reduceLeDiff, Int.reduceAdd, Int.reduceLT, Int.reduceLE, Nat.reduceMul, a0, a1, a2, hx])
  ·refine pc_go 0 38 [.tmp 6] Tryd.func44 rfl rfl rfl (by simp) ?_
   intro s ⟨a0, a1, a2, hz⟩
   simp only [Nat.zero_add, Nat.reduceAdd] at a1 a2
   clear hz
   repeat' (first|(first|(refine a0_ ?_; first|refine a1_ rfl rfl ?_|refine a2_ rfl ?_|refine a3_ rfl rfl ?_|refine a4_ rfl ?_|refine ak_ rfl rfl ?_|refine a5_ rfl rfl rfl ?_|refine a6_ rfl rfl ?_|refine a7_ rfl rfl ?_|refine a8_ rfl rfl ?_|refine a9_ rfl rfl rfl ?_)|(refine g0_ ?_; first|refine g1_ rfl ?_|refine g2_ rfl rfl ?_|refine go_draw (dr := allQ) rfl rfl mixed (by first|assumption|kernel_rfl) ?_|refine g4_ rfl ?_|refine g5_ rfl ?_|refine g6_ rfl ?_|refine g7_ rfl ?_|refine g8_ rfl ?_|refine ga_ rfl ?_|refine gb_ rfl ?_)|(refine o0_ ?_; first|refine o1_ ?_|refine o2_ ?_|refine o3_ ?_|refine o4_ ?_|refine o5_ ?_|refine o6_ rfl ?_|refine o7_ rfl ?_|refine o8_ ?_|refine o9_ ?_|refine oa_ ?_|refine ob_ ?_|refine oc_ ?_|refine od_ ?_|refine oe_ ?_|refine of_ ?_|refine og_ ?_|refine oh_ ?_|refine oi_ ?_|refine oj_ ?_|refine ok_ ?_))|refine at_go ?_|(with_reducible refine And.intro (at_go ?_) (at_go ?_))|((with_reducible refine And.intro (fun h => ?_) (fun h => ?_)) <;> try (exfalso; omega))|(with_reducible refine And.intro (by first|omega|(simp only [maxLen]; omega)) ?_)|(refine And.intro ⟨[_], rfl⟩ ?_)|(refine And.intro ⟨[], by simp only [List.append_nil]⟩ ?_)|fail|simp (disch := first|omega|(simp only [List.length_map, lenF, lenS]; omega)) only [push_cast, ↓reduceIte, reduceIte, reduceCtorEq, Nat.reduceAdd, Nat.reduceLT, Nat.reduceEqDiff, Nat.reduceLeDiff, Int.reduceAdd, Int.reduceLT, Int.reduceLE, Nat.reduceMul, a0, a1, a2, hx])
  ·refine pc_go 0 38 [.tmp 6] Tryd.func44 rfl rfl rfl (by simp) ?_
   intro s ⟨a0, a1, a2, hz⟩
   simp only [Nat.zero_add, Nat.reduceAdd] at a1 a2
   clear hz
   repeat' (first|(first|(refine a0_ ?_; first|refine a1_ rfl rfl ?_|refine a2_ rfl ?_|refine a3_ rfl rfl ?_|refine a4_ rfl ?_|refine ak_ rfl rfl ?_|refine a5_ rfl rfl rfl ?_|refine a6_ rfl rfl ?_|refine a7_ rfl rfl ?_|refine a8_ rfl rfl ?_|refine a9_ rfl rfl rfl ?_)|(refine g0_ ?_; first|refine g1_ rfl ?_|refine g2_ rfl rfl ?_|refine go_draw (dr := allQ) rfl rfl mixed (by first|assumption|kernel_rfl) ?_|refine g4_ rfl ?_|refine g5_ rfl ?_|refine g6_ rfl ?_|refine g7_ rfl ?_|refine g8_ rfl ?_|refine ga_ rfl ?_|refine gb_ rfl ?_)|(refine o0_ ?_; first|refine o1_ ?_|refine o2_ ?_|refine o3_ ?_|refine o4_ ?_|refine o5_ ?_|refine o6_ rfl ?_|refine o7_ rfl ?_|refine o8_ ?_|refine o9_ ?_|refine oa_ ?_|refine ob_ ?_|refine oc_ ?_|refine od_ ?_|refine oe_ ?_|refine of_ ?_|refine og_ ?_|refine oh_ ?_|refine oi_ ?_|refine oj_ ?_|refine ok_ ?_))|refine at_go ?_|(with_reducible refine And.intro (at_go ?_) (at_go ?_))|((with_reducible refine And.intro (fun h => ?_) (fun h => ?_)) <;> try (exfalso; omega))|(with_reducible refine And.intro (by first|omega|(simp only [maxLen]; omega)) ?_)|(refine And.intro ⟨[_], rfl⟩ ?_)|(refine And.intro ⟨[], by simp only [List.append_nil]⟩ ?_)|fail|simp (disch := first|omega|(simp only [List.length_map, lenF, lenS]; omega)) only [push_cast, ↓reduceIte, reduceIte, reduceCtorEq, Nat.reduceAdd, Nat.reduceLT, Nat.reduceEqDiff, Nat.reduceLeDiff, Int.reduceAdd, Int.reduceLT, Int.reduceLE, Nat.reduceMul, a0, a1, a2, hx])
  ·refine pc_go 0 38 [.tmp 6] Tryd.func44 rfl rfl rfl (by simp) ?_
   intro s ⟨a0, a1, a2, hz⟩
   simp only [Nat.zero_add, Nat.reduceAdd] at a1 a2
   clear hz
   repeat' (first|(first|(refine a0_ ?_; first|refine a1_ rfl rfl ?_|refine a2_ rfl ?_|refine a3_ rfl rfl ?_|refine a4_ rfl ?_|refine ak_ rfl rfl ?_|refine a5_ rfl rfl rfl ?_|refine a6_ rfl rfl ?_|refine a7_ rfl rfl ?_|refine a8_ rfl rfl ?_|refine a9_ rfl rfl rfl ?_)|(refine g0_ ?_; first|refine g1_ rfl ?_|refine g2_ rfl rfl ?_|refine go_draw (dr := allQ) rfl rfl mixed (by first|assumption|kernel_rfl) ?_|refine g4_ rfl ?_|refine g5_ rfl ?_|refine g6_ rfl ?_|refine g7_ rfl ?_|refine g8_ rfl ?_|refine ga_ rfl ?_|refine gb_ rfl ?_)|(refine o0_ ?_; first|refine o1_ ?_|refine o2_ ?_|refine o3_ ?_|refine o4_ ?_|refine o5_ ?_|refine o6_ rfl ?_|refine o7_ rfl ?_|refine o8_ ?_|refine o9_ ?_|refine oa_ ?_|refine ob_ ?_|refine oc_ ?_|refine od_ ?_|refine oe_ ?_|refine of_ ?_|refine og_ ?_|refine oh_ ?_|refine oi_ ?_|refine oj_ ?_|refine ok_ ?_))|refine at_go ?_|(with_reducible refine And.intro (at_go ?_) (at_go ?_))|((with_reducible refine And.intro (fun h => ?_) (fun h => ?_)) <;> try (exfalso; omega))|(with_reducible refine And.intro (by first|omega|(simp only [maxLen]; omega)) ?_)|(refine And.intro ⟨[_], rfl⟩ ?_)|(refine And.intro ⟨[], by simp only [List.append_nil]⟩ ?_)|fail|simp (disch := first|omega|(simp only [List.length_map, lenF, lenS]; omega)) only [push_cast, ↓reduceIte, reduceIte, reduceCtorEq, Nat.reduceAdd, Nat.reduceLT, Nat.reduceEqDiff, Nat.reduceLeDiff, Int.reduceAdd, Int.reduceLT, Int.reduceLE, Nat.reduceMul, a0, a1, a2, hx])
end Go.Proofs
