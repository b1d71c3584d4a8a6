import Derived.Test.YtbgdagokjfmcbaaGreatDoorD5
namespace Go.Proofs
open Go Go.V
set_option linter.unusedVariables false
set_option linter.unusedSimpArgs false
set_option maxHeartbeats 0
theorem Ed.ext_iff' (x y : Ed) : x = y ↔ x.s = y.s ∧ x.i = y.i ∧ (x.old.1 = y.old.1 ∧ x.old.2 = y.old.2) ∧ x.new.1 = y.new.1 ∧ x.new.2 = y.new.2 := by
 obtain ⟨a, b, ⟨c, d⟩, e, f⟩ := x
 obtain ⟨a', b', ⟨c', d'⟩, e', f'⟩ := y
 simp
theorem Pt.ext_iff' (p q : Pt) : p = q ↔ p.inp = q.inp ∧ p.o0 = q.o0 ∧ p.o1 = q.o1 ∧ p.s0 = q.s0 ∧ p.s1 = q.s1 ∧ p.ed = q.ed := by
 obtain ⟨a, b, c, d, e, f⟩ := p
 obtain ⟨a', b', c', d', e', f'⟩ := q
 simp
def edgesOf (l : List Row) : List (List Edg) := l.map (·.1)
theorem getD_edgesOf (l : List Row) (k : Nat) : (edgesOf l).getD k [] = (l.getD k ([], none)).1 := by
 rw [edgesOf, List.getD_eq_getElem?_getD, List.getD_eq_getElem?_getD, List.getElem?_map]
 cases l[k]? <;> rfl
set_option maxRecDepth 100000 in
theorem refSame21 (i o : Int) (l : List Row) (z : Nat) (c : Option Nat) (i' o' : Int) (l' : List Row) (z' : Nat) (c' : Option Nat) (hz : l = [] ∨ z = 1) (hz' : l' = [] ∨ z' = 1) (hl : l.length ≤ 1000000) (hl' : l'.length ≤ 1000000) (hr : ∀ j, j < l.length → (l.getD j ([], none)).1.length ≤ 1000000) (hr' : ∀ j, j < l'.length → (l'.getD j ([], none)).1.length ≤ 1000000) : PC Tryz.prog G0 14 [.agg [.int .i64 i, .int .i64 o, .sl z (rowsA l) c], .agg [.int .i64 i', .int .i64 o', .sl z' (rowsA l') c']] (.bool (decide (i = i' ∧ o = o' ∧ edgesOf l = edgesOf l'))) := by
 refine pc_go 1 75 [.tmp 4] Tryz.func14 rfl rfl rfl (by simp) ?_
 intro s ⟨a0, a1, hz⟩
 simp only [Nat.zero_add, Nat.reduceAdd] at a1
 clear hz
 repeat' (first|(first|(refine a0_ ?_; first|refine a1_ rfl rfl ?_|refine a2_ rfl ?_|refine a3_ rfl rfl ?_|refine a4_ rfl ?_|refine a5_ rfl rfl rfl ?_|refine a6_ rfl rfl ?_)|(refine g0_ ?_; first|refine g1_ rfl ?_|refine g2_ rfl rfl ?_|refine go_draw (dr := allQ) rfl rfl mixed (by first|assumption|kernel_rfl) ?_|refine g4_ rfl ?_|refine g5_ rfl ?_|refine g6_ rfl ?_|refine g7_ rfl ?_|refine g8_ rfl ?_)|(refine o0_ ?_; first|refine o1_ ?_|refine o2_ ?_|refine o3_ ?_|refine o4_ ?_|refine o5_ ?_|refine o6_ rfl ?_|refine o7_ rfl ?_|refine o8_ ?_|refine o9_ ?_|refine oa_ ?_|refine ob_ ?_|refine oc_ ?_|refine od_ ?_|refine oe_ ?_|refine of_ ?_|refine og_ ?_))|refine at_go ?_|(with_reducible refine And.intro (at_go ?_) (at_go ?_))|((with_reducible refine And.intro (fun h => ?_) (fun h => ?_)) <;> try (exfalso; omega))|(with_reducible refine And.intro (by first|omega|(simp only [maxLen]; omega)) ?_)|fail|simp (disch := first|omega|(simp only [length_edsA, length_rowsA, length_rowA, List.length_set, List.length_reverse, List.length_replicate, List.length_append, List.length_cons, List.length_nil, List.length_map]; omega)) only [push_cast, ↓reduceIte, reduceIte, reduceCtorEq, Nat.reduceAdd, Nat.reduceLT, Nat.reduceEqDiff, Nat.reduceLeDiff, Int.reduceAdd, Int.reduceLT, Int.reduceLE, Nat.reduceMul, a0, a1])
 ·rw [decide_eq_false]
  rintro ⟨h1, h2, h3⟩
  have := congrArg List.length h3
  simp [edgesOf] at this
  omega
 ·refine go_loop rfl (fun mz s' H' => ∃ k : Nat, k ≤ l.length ∧ mz = l.length - k ∧ H' = [.row 3 30 [[.int .i64 i, .int .i64 o, .sl z (rowsA l) c]], .row 3 30 [[.int .i64 i', .int .i64 o', .sl z' (rowsA l') c']]] ∧ s' 2 = .ptr 0 0 0 1 ∧ s' 3 = .ptr 1 0 0 1 ∧ s' 5 = .int .i64 k ∧ ∀ j, j < k → (l.getD j ([], none)).1 = (l'.getD j ([], none)).1) (m := l.length) (by (first|trivial|((repeat' apply And.intro) <;> first|trivial|assumption|omega|(simp only [maxLen]; omega)|(simp only [length_edsA, length_rowsA, length_rowA, List.length_replicate, List.length_append, List.length_cons, List.length_nil, List.length_map, List.length_take, List.length_drop, List.length_set, List.length_reverse, maxLen] <;> omega)))) (Weak.refl _ _) ⟨0, by omega, by omega, rfl, ?_⟩ ?_
  ·simp (disch := first|omega|(simp only [length_edsA, length_rowsA, length_rowA, List.length_set, List.length_reverse, List.length_replicate, List.length_append, List.length_cons, List.length_nil, List.length_map]; omega)) only [push_cast, ↓reduceIte, reduceIte, reduceCtorEq, Nat.reduceAdd, Nat.reduceLT, Nat.reduceEqDiff, Nat.reduceLeDiff, Int.reduceAdd, Int.reduceLT, Int.reduceLE, Nat.reduceMul, a0, a1]
   exact fun j hj => by omega
  ·rintro mz s' H' ⟨k, hk, rfl, rfl, b2, b3, b5, ik⟩
   rcases Nat.lt_or_ge k l.length with hlt|hge
   ·have hlt2 : k < l'.length := by omega
    obtain rfl : z = 1 := by
     rcases hz with h|h
     ·rw [h] at hlt; simp at hlt
     ·exact h
    obtain rfl : z' = 1 := by
     rcases hz' with h|h
     ·rw [h] at hlt2; simp at hlt2
     ·exact h
    have e1 := getD_rowsA l k hlt
    have e2 := getD_rowsA l' k hlt2
    have q1 := hr k hlt
    have q2 := hr' k hlt2
    have hs := snocB (P := fun j => (l.getD j ([], none)).1 = (l'.getD j ([], none)).1) (k := k) ik
    have hno : (l.getD k ([], none)).1 ≠ (l'.getD k ([], none)).1 → ¬(i = i' ∧ o = o' ∧ edgesOf l = edgesOf l') := fun h hh => h (by rw [← getD_edgesOf, ← getD_edgesOf, hh.2.2])
    generalize (l.getD k ([], none)).1 = r at *
    generalize (l'.getD k ([], none)).1 = r' at *
    generalize (l.getD k ([], none)).2 = cc at *
    generalize (l'.getD k ([], none)).2 = cc' at *
    repeat' (first|(first|(refine a0_ ?_; first|refine a1_ rfl rfl ?_|refine a2_ rfl ?_|refine a3_ rfl rfl ?_|refine a4_ rfl ?_|refine a5_ rfl rfl rfl ?_|refine a6_ rfl rfl ?_)|(refine g0_ ?_; first|refine g1_ rfl ?_|refine g2_ rfl rfl ?_|refine go_draw (dr := allQ) rfl rfl mixed (by first|assumption|kernel_rfl) ?_|refine g4_ rfl ?_|refine g5_ rfl ?_|refine g6_ rfl ?_|refine g7_ rfl ?_|refine g8_ rfl ?_)|(refine o0_ ?_; first|refine o1_ ?_|refine o2_ ?_|refine o3_ ?_|refine o4_ ?_|refine o5_ ?_|refine o6_ rfl ?_|refine o7_ rfl ?_|refine o8_ ?_|refine o9_ ?_|refine oa_ ?_|refine ob_ ?_|refine oc_ ?_|refine od_ ?_|refine oe_ ?_|refine of_ ?_|refine og_ ?_))|refine at_go ?_|(with_reducible refine And.intro (at_go ?_) (at_go ?_))|((with_reducible refine And.intro (fun h => ?_) (fun h => ?_)) <;> try (exfalso; omega))|(with_reducible refine And.intro (by first|omega|(simp only [maxLen]; omega)) ?_)|fail|simp (disch := first|omega|(simp only [length_edsA, length_rowsA, length_rowA, List.length_set, List.length_reverse, List.length_replicate, List.length_append, List.length_cons, List.length_nil, List.length_map]; omega)) only [push_cast, ↓reduceIte, reduceIte, reduceCtorEq, Nat.reduceAdd, Nat.reduceLT, Nat.reduceEqDiff, Nat.reduceLeDiff, Int.reduceAdd, Int.reduceLT, Int.reduceLE, Nat.reduceMul, b2, b3, b5, e1, e2])
    ·rw [decide_eq_false]
     exact hno fun hh => by rw [hh] at h; omega
    ·rename_i hlen
     refine go_loop rfl (fun mz s' H' => ∃ m : Nat, m ≤ r.length ∧ mz = r.length - m ∧ H' = [.row 3 30 [[.int .i64 i, .int .i64 o, .sl 1 (rowsA l) c]], .row 3 30 [[.int .i64 i', .int .i64 o', .sl 1 (rowsA l') c']]] ∧ s' 2 = .ptr 0 0 0 1 ∧ s' 3 = .ptr 1 0 0 1 ∧ s' 5 = .int .i64 k ∧ s' 6 = .int .i64 m ∧ ∀ j, j < m → r.getD j (0, 0) = r'.getD j (0, 0)) (m := r.length) (by (first|trivial|((repeat' apply And.intro) <;> first|trivial|assumption|omega|(simp only [maxLen]; omega)|(simp only [length_edsA, length_rowsA, length_rowA, List.length_replicate, List.length_append, List.length_cons, List.length_nil, List.length_map, List.length_take, List.length_drop, List.length_set, List.length_reverse, maxLen] <;> omega)))) (Weak.refl _ _) ⟨0, by omega, by omega, rfl, ?_⟩ ?_
     ·simp (disch := first|omega|(simp only [length_edsA, length_rowsA, length_rowA, List.length_set, List.length_reverse, List.length_replicate, List.length_append, List.length_cons, List.length_nil, List.length_map]; omega)) only [push_cast, ↓reduceIte, reduceIte, reduceCtorEq, Nat.reduceAdd, Nat.reduceLT, Nat.reduceEqDiff, Nat.reduceLeDiff, Int.reduceAdd, Int.reduceLT, Int.reduceLE, Nat.reduceMul, b2, b3, b5, e1, e2]
      exact fun j hj => by omega
     ·rintro mz s' H' ⟨m, hm, rfl, rfl, b2, b3, b5, b6, im⟩
      rcases Nat.lt_or_ge m r.length with hlt3|hge3
      ·have hlt4 : m < r'.length := by omega
       have e3 := getD_rowA r m hlt3
       have e4 := getD_rowA r' m hlt4
       have hs3 := snocB (P := fun j => r.getD j (0, 0) = r'.getD j (0, 0)) (k := m) im
       have hno3 : r.getD m (0, 0) ≠ r'.getD m (0, 0) → ¬(i = i' ∧ o = o' ∧ edgesOf l = edgesOf l') := fun h => hno fun hh => h (by rw [hh])
       generalize r.getD m (0, 0) = x at *
       generalize r'.getD m (0, 0) = w at *
       obtain ⟨x1, x2⟩ := x
       obtain ⟨w1, w2⟩ := w
       simp only [eA] at e3 e4
       simp only [Prod.mk.injEq, Ne] at hs3 hno3
       repeat' (first|(first|(refine a0_ ?_; first|refine a1_ rfl rfl ?_|refine a2_ rfl ?_|refine a3_ rfl rfl ?_|refine a4_ rfl ?_|refine a5_ rfl rfl rfl ?_|refine a6_ rfl rfl ?_)|(refine g0_ ?_; first|refine g1_ rfl ?_|refine g2_ rfl rfl ?_|refine go_draw (dr := allQ) rfl rfl mixed (by first|assumption|kernel_rfl) ?_|refine g4_ rfl ?_|refine g5_ rfl ?_|refine g6_ rfl ?_|refine g7_ rfl ?_|refine g8_ rfl ?_)|(refine o0_ ?_; first|refine o1_ ?_|refine o2_ ?_|refine o3_ ?_|refine o4_ ?_|refine o5_ ?_|refine o6_ rfl ?_|refine o7_ rfl ?_|refine o8_ ?_|refine o9_ ?_|refine oa_ ?_|refine ob_ ?_|refine oc_ ?_|refine od_ ?_|refine oe_ ?_|refine of_ ?_|refine og_ ?_))|refine at_go ?_|(with_reducible refine And.intro (at_go ?_) (at_go ?_))|((with_reducible refine And.intro (fun h => ?_) (fun h => ?_)) <;> try (exfalso; omega))|(with_reducible refine And.intro (by first|omega|(simp only [maxLen]; omega)) ?_)|fail|simp (disch := first|omega|(simp only [length_edsA, length_rowsA, length_rowA, List.length_set, List.length_reverse, List.length_replicate, List.length_append, List.length_cons, List.length_nil, List.length_map]; omega)) only [push_cast, ↓reduceIte, reduceIte, reduceCtorEq, Nat.reduceAdd, Nat.reduceLT, Nat.reduceEqDiff, Nat.reduceLeDiff, Int.reduceAdd, Int.reduceLT, Int.reduceLE, Nat.reduceMul, b2, b3, b5, b6, e1, e2, e3, e4])
       ·rw [decide_eq_false]
        exact hno3 (by omega)
       ·refine out_round (r.length - (m + 1)) (by omega) (by (first|trivial|((repeat' apply And.intro) <;> first|trivial|assumption|omega|(simp only [maxLen]; omega)|(simp only [length_edsA, length_rowsA, length_rowA, List.length_replicate, List.length_append, List.length_cons, List.length_nil, List.length_map, List.length_take, List.length_drop, List.length_set, List.length_reverse, maxLen] <;> omega)))) ⟨m + 1, by omega, rfl, rfl, ?_⟩
        simp (disch := first|omega|(simp only [length_edsA, length_rowsA, length_rowA, List.length_set, List.length_reverse, List.length_replicate, List.length_append, List.length_cons, List.length_nil, List.length_map]; omega)) only [push_cast, ↓reduceIte, reduceIte, reduceCtorEq, Nat.reduceAdd, Nat.reduceLT, Nat.reduceEqDiff, Nat.reduceLeDiff, Int.reduceAdd, Int.reduceLT, Int.reduceLE, Nat.reduceMul, b2, b3, b5, b6, e1, e2, e3, e4]
        exact hs3 (by omega)
      ·obtain rfl : m = r.length := by omega
       repeat' (first|(first|(refine a0_ ?_; first|refine a1_ rfl rfl ?_|refine a2_ rfl ?_|refine a3_ rfl rfl ?_|refine a4_ rfl ?_|refine a5_ rfl rfl rfl ?_|refine a6_ rfl rfl ?_)|(refine g0_ ?_; first|refine g1_ rfl ?_|refine g2_ rfl rfl ?_|refine go_draw (dr := allQ) rfl rfl mixed (by first|assumption|kernel_rfl) ?_|refine g4_ rfl ?_|refine g5_ rfl ?_|refine g6_ rfl ?_|refine g7_ rfl ?_|refine g8_ rfl ?_)|(refine o0_ ?_; first|refine o1_ ?_|refine o2_ ?_|refine o3_ ?_|refine o4_ ?_|refine o5_ ?_|refine o6_ rfl ?_|refine o7_ rfl ?_|refine o8_ ?_|refine o9_ ?_|refine oa_ ?_|refine ob_ ?_|refine oc_ ?_|refine od_ ?_|refine oe_ ?_|refine of_ ?_|refine og_ ?_))|refine at_go ?_|(with_reducible refine And.intro (at_go ?_) (at_go ?_))|((with_reducible refine And.intro (fun h => ?_) (fun h => ?_)) <;> try (exfalso; omega))|(with_reducible refine And.intro (by first|omega|(simp only [maxLen]; omega)) ?_)|fail|simp (disch := first|omega|(simp only [length_edsA, length_rowsA, length_rowA, List.length_set, List.length_reverse, List.length_replicate, List.length_append, List.length_cons, List.length_nil, List.length_map]; omega)) only [push_cast, ↓reduceIte, reduceIte, reduceCtorEq, Nat.reduceAdd, Nat.reduceLT, Nat.reduceEqDiff, Nat.reduceLeDiff, Int.reduceAdd, Int.reduceLT, Int.reduceLE, Nat.reduceMul, b2, b3, b5, b6, e1, e2])
       refine out_round (l.length - (k + 1)) (by omega) (by (first|trivial|((repeat' apply And.intro) <;> first|trivial|assumption|omega|(simp only [maxLen]; omega)|(simp only [length_edsA, length_rowsA, length_rowA, List.length_replicate, List.length_append, List.length_cons, List.length_nil, List.length_map, List.length_take, List.length_drop, List.length_set, List.length_reverse, maxLen] <;> omega)))) ⟨k + 1, by omega, rfl, rfl, ?_⟩
       simp (disch := first|omega|(simp only [length_edsA, length_rowsA, length_rowA, List.length_set, List.length_reverse, List.length_replicate, List.length_append, List.length_cons, List.length_nil, List.length_map]; omega)) only [push_cast, ↓reduceIte, reduceIte, reduceCtorEq, Nat.reduceAdd, Nat.reduceLT, Nat.reduceEqDiff, Nat.reduceLeDiff, Int.reduceAdd, Int.reduceLT, Int.reduceLE, Nat.reduceMul, b2, b3, b5, b6, e1, e2]
       exact hs (ext_getD (0, 0) (by omega) im)
   ·obtain rfl : k = l.length := by omega
    repeat' (first|(first|(refine a0_ ?_; first|refine a1_ rfl rfl ?_|refine a2_ rfl ?_|refine a3_ rfl rfl ?_|refine a4_ rfl ?_|refine a5_ rfl rfl rfl ?_|refine a6_ rfl rfl ?_)|(refine g0_ ?_; first|refine g1_ rfl ?_|refine g2_ rfl rfl ?_|refine go_draw (dr := allQ) rfl rfl mixed (by first|assumption|kernel_rfl) ?_|refine g4_ rfl ?_|refine g5_ rfl ?_|refine g6_ rfl ?_|refine g7_ rfl ?_|refine g8_ rfl ?_)|(refine o0_ ?_; first|refine o1_ ?_|refine o2_ ?_|refine o3_ ?_|refine o4_ ?_|refine o5_ ?_|refine o6_ rfl ?_|refine o7_ rfl ?_|refine o8_ ?_|refine o9_ ?_|refine oa_ ?_|refine ob_ ?_|refine oc_ ?_|refine od_ ?_|refine oe_ ?_|refine of_ ?_|refine og_ ?_))|refine at_go ?_|(with_reducible refine And.intro (at_go ?_) (at_go ?_))|((with_reducible refine And.intro (fun h => ?_) (fun h => ?_)) <;> try (exfalso; omega))|(with_reducible refine And.intro (by first|omega|(simp only [maxLen]; omega)) ?_)|fail|simp (disch := first|omega|(simp only [length_edsA, length_rowsA, length_rowA, List.length_set, List.length_reverse, List.length_replicate, List.length_append, List.length_cons, List.length_nil, List.length_map]; omega)) only [push_cast, ↓reduceIte, reduceIte, reduceCtorEq, Nat.reduceAdd, Nat.reduceLT, Nat.reduceEqDiff, Nat.reduceLeDiff, Int.reduceAdd, Int.reduceLT, Int.reduceLE, Nat.reduceMul, b2, b3, b5])
    rw [decide_eq_true]
    refine ⟨by omega, by omega, ext_getD [] (by simp [edgesOf]; omega) fun j hj => ?_⟩
    rw [getD_edgesOf, getD_edgesOf]
    exact ik j (by simpa [edgesOf] using hj)
end Go.Proofs
