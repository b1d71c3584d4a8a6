import Derived.Test.YtfdnlhegmdhcjaaDoorF12
import Derived.Test.YtfdnlhegmdhcjaaDoorF10
namespace Go.Proofs
open Go Go.V
set_option linter.unusedVariables false
set_option linter.unusedSimpArgs false
set_option maxHeartbeats 0
def kindsB (b n : Nat) : List Int := (List.range n).flatMap fun (k : Nat) => if b / 2 ^ k % 2 = 1 then [(k : Int)] else []
theorem kinds_pos {ks : List Int} {k : Nat} (h : ∀ j, j < k → okK ks j = true) : ∀ j, j < k → 0 ≤ ks.getD j 0
 | 0, hj => by
  have := h 0 hj
  simp only [okK, lastK, if_true, Bool.and_eq_true, decide_eq_true_eq] at this
  omega
 | j + 1, hj => by
  have := h (j + 1) hj
  have := kinds_pos h j (by omega)
  simp only [okK, lastK_succ, Bool.and_eq_true, decide_eq_true_eq] at *
  omega
set_option maxRecDepth 100000 in
theorem refKinds21 (z : Nat) (ks : List Int) (ck : Option Nat) (hz : ks = [] ∨ z = 1) (hl : ks.length ≤ 1000) : PC Tryd.prog G0 21 [.sl z (ints ks) ck] (.bool (kindsOk ks)) := by
 refine pc_go 0 38 [.tmp 2] Tryd.func21 rfl rfl rfl (by simp) ?_
 intro s ⟨a0, hz⟩
 clear hz
 repeat' (first|(first|(refine a0_ ?_; first|refine a1_ rfl rfl ?_|refine a2_ rfl ?_|refine a3_ rfl rfl ?_|refine a4_ rfl ?_|refine ak_ rfl rfl ?_|refine a5_ rfl rfl rfl ?_|refine a6_ rfl rfl ?_|refine a7_ rfl rfl ?_|refine a8_ rfl rfl ?_|refine a9_ rfl rfl rfl ?_)|(refine g0_ ?_; first|refine g1_ rfl ?_|refine g2_ rfl rfl ?_|refine go_draw (dr := allQ) rfl rfl mixed (by first|assumption|kernel_rfl) ?_|refine g4_ rfl ?_|refine g5_ rfl ?_|refine g6_ rfl ?_|refine g7_ rfl ?_|refine g8_ rfl ?_|refine ga_ rfl ?_|refine gb_ rfl ?_)|(refine o0_ ?_; first|refine o1_ ?_|refine o2_ ?_|refine o3_ ?_|refine o4_ ?_|refine o5_ ?_|refine o6_ rfl ?_|refine o7_ rfl ?_|refine o8_ ?_|refine o9_ ?_|refine oa_ ?_|refine ob_ ?_|refine oc_ ?_|refine od_ ?_|refine oe_ ?_|refine of_ ?_|refine og_ ?_|refine oh_ ?_|refine oi_ ?_|refine oj_ ?_|refine ok_ ?_))|refine at_go ?_|(with_reducible refine And.intro (at_go ?_) (at_go ?_))|((with_reducible refine And.intro (fun h => ?_) (fun h => ?_)) <;> try (exfalso; omega))|(with_reducible refine And.intro (by first|omega|(simp only [maxLen]; omega)) ?_)|(refine And.intro ⟨[_], rfl⟩ ?_)|fail|simp (disch := first|omega|(simp only [length_rowsA, length_rowA, length_fls, length_ints, List.length_set, List.length_reverse, List.length_replicate, List.length_append, List.length_cons, List.length_nil, List.length_map]; omega)) only [push_cast, ↓reduceIte, reduceIte, reduceCtorEq, Nat.reduceAdd, Nat.reduceLT, Nat.reduceEqDiff, Nat.reduceLeDiff, Int.reduceAdd, Int.reduceLT, Int.reduceLE, Nat.reduceMul, a0])
 refine go_loop rfl (fun mz s' H' => ∃ k : Nat, k ≤ ks.length ∧ mz = ks.length - k ∧ H' = [] ∧ s' 0 = .sl z (ints ks) ck ∧ s' 3 = .int .i64 k ∧ ∀ j, j < k → okK ks j = true) (m := ks.length) (by (first|trivial|((repeat' apply And.intro) <;> first|trivial|assumption|omega|(simp only [maxLen]; omega)|(simp only [length_rowsA, length_rowA, length_fls, length_ints, List.length_replicate, List.length_append, List.length_cons, List.length_nil, List.length_map, List.length_take, List.length_drop, List.length_set, List.length_reverse, maxLen] <;> omega)))) (Weak.refl _ _) ⟨0, by omega, by omega, (by first|rfl|simp [kindsB, ints, List.range_zero, List.flatMap_nil, List.map_nil]), ?_⟩ ?_
 ·simp (disch := first|omega|(simp only [length_rowsA, length_rowA, length_fls, length_ints, List.length_set, List.length_reverse, List.length_replicate, List.length_append, List.length_cons, List.length_nil, List.length_map]; omega)) only [push_cast, ↓reduceIte, reduceIte, reduceCtorEq, Nat.reduceAdd, Nat.reduceLT, Nat.reduceEqDiff, Nat.reduceLeDiff, Int.reduceAdd, Int.reduceLT, Int.reduceLE, Nat.reduceMul, a0]
  exact fun j hj => by omega
 ·rintro mz s' H' ⟨k, hk, rfl, rfl, b0, b3, ik⟩
  rcases Nat.lt_or_ge k ks.length with hlt|hge
  ·obtain rfl : z = 1 := by
    rcases hz with q|q
    ·rw [q] at hlt; simp at hlt
    ·exact q
   have e1 := getD_ints ks k hlt
   have hs := snocB (P := fun j => okK ks j = true) (k := k) ik
   have hno := kindsOk_no (ks := ks) (j := k) hlt
   have hok : okK ks k = (decide (lastK ks k < ks.getD k 0) && decide (ks.getD k 0 ≤ 4)) := rfl
   rw [hok] at hs hno
   rcases Nat.eq_zero_or_pos k with rfl|hk0
   ·have hl0 : lastK ks 0 = -1 := rfl
    rw [hl0] at hs hno
    generalize ks.getD 0 0 = x at *
    have b3 : s' 3 = .int .i64 0 := b3
    repeat' (first|(first|(refine a0_ ?_; first|refine a1_ rfl rfl ?_|refine a2_ rfl ?_|refine a3_ rfl rfl ?_|refine a4_ rfl ?_|refine ak_ rfl rfl ?_|refine a5_ rfl rfl rfl ?_|refine a6_ rfl rfl ?_|refine a7_ rfl rfl ?_|refine a8_ rfl rfl ?_|refine a9_ rfl rfl rfl ?_)|(refine g0_ ?_; first|refine g1_ rfl ?_|refine g2_ rfl rfl ?_|refine go_draw (dr := allQ) rfl rfl mixed (by first|assumption|kernel_rfl) ?_|refine g4_ rfl ?_|refine g5_ rfl ?_|refine g6_ rfl ?_|refine g7_ rfl ?_|refine g8_ rfl ?_|refine ga_ rfl ?_|refine gb_ rfl ?_)|(refine o0_ ?_; first|refine o1_ ?_|refine o2_ ?_|refine o3_ ?_|refine o4_ ?_|refine o5_ ?_|refine o6_ rfl ?_|refine o7_ rfl ?_|refine o8_ ?_|refine o9_ ?_|refine oa_ ?_|refine ob_ ?_|refine oc_ ?_|refine od_ ?_|refine oe_ ?_|refine of_ ?_|refine og_ ?_|refine oh_ ?_|refine oi_ ?_|refine oj_ ?_|refine ok_ ?_))|refine at_go ?_|(with_reducible refine And.intro (at_go ?_) (at_go ?_))|((with_reducible refine And.intro (fun h => ?_) (fun h => ?_)) <;> try (exfalso; omega))|(with_reducible refine And.intro (by first|omega|(simp only [maxLen]; omega)) ?_)|(refine And.intro ⟨[_], rfl⟩ ?_)|fail|simp (disch := first|omega|(simp only [length_rowsA, length_rowA, length_fls, length_ints, List.length_set, List.length_reverse, List.length_replicate, List.length_append, List.length_cons, List.length_nil, List.length_map]; omega)) only [push_cast, ↓reduceIte, reduceIte, reduceCtorEq, Nat.reduceAdd, Nat.reduceLT, Nat.reduceEqDiff, Nat.reduceLeDiff, Int.reduceAdd, Int.reduceLT, Int.reduceLE, Nat.reduceMul, b0, b3, e1])
    ·rw [hno (by rw [Bool.and_eq_false_iff]; simp; omega)]
    ·refine out_round (ks.length - (0 + 1)) (by omega) (by (first|trivial|((repeat' apply And.intro) <;> first|trivial|assumption|omega|(simp only [maxLen]; omega)|(simp only [length_rowsA, length_rowA, length_fls, length_ints, List.length_replicate, List.length_append, List.length_cons, List.length_nil, List.length_map, List.length_take, List.length_drop, List.length_set, List.length_reverse, maxLen] <;> omega)))) ⟨0 + 1, by omega, rfl, rfl, ?_⟩
     simp (disch := first|omega|(simp only [length_rowsA, length_rowA, length_fls, length_ints, List.length_set, List.length_reverse, List.length_replicate, List.length_append, List.length_cons, List.length_nil, List.length_map]; omega)) only [push_cast, ↓reduceIte, reduceIte, reduceCtorEq, Nat.reduceAdd, Nat.reduceLT, Nat.reduceEqDiff, Nat.reduceLeDiff, Int.reduceAdd, Int.reduceLT, Int.reduceLE, Nat.reduceMul, b0, b3, e1]
     exact hs (by simp; omega)
   ·have hl0 : lastK ks k = ks.getD (k - 1) 0 := by rw [lastK, if_neg (by omega)]
    have e2 := getD_ints ks (k - 1) (by omega)
    have hk1 : ((k : Int) - 1).toNat = k - 1 := by omega
    have hkp : (0 : Int) < k := by omega
    have hpv := kinds_pos ik (k - 1) (by omega)
    rw [hl0] at hs hno
    generalize ks.getD k 0 = x at *
    generalize ks.getD (k - 1) 0 = y at *
    repeat' (first|(first|(refine a0_ ?_; first|refine a1_ rfl rfl ?_|refine a2_ rfl ?_|refine a3_ rfl rfl ?_|refine a4_ rfl ?_|refine ak_ rfl rfl ?_|refine a5_ rfl rfl rfl ?_|refine a6_ rfl rfl ?_|refine a7_ rfl rfl ?_|refine a8_ rfl rfl ?_|refine a9_ rfl rfl rfl ?_)|(refine g0_ ?_; first|refine g1_ rfl ?_|refine g2_ rfl rfl ?_|refine go_draw (dr := allQ) rfl rfl mixed (by first|assumption|kernel_rfl) ?_|refine g4_ rfl ?_|refine g5_ rfl ?_|refine g6_ rfl ?_|refine g7_ rfl ?_|refine g8_ rfl ?_|refine ga_ rfl ?_|refine gb_ rfl ?_)|(refine o0_ ?_; first|refine o1_ ?_|refine o2_ ?_|refine o3_ ?_|refine o4_ ?_|refine o5_ ?_|refine o6_ rfl ?_|refine o7_ rfl ?_|refine o8_ ?_|refine o9_ ?_|refine oa_ ?_|refine ob_ ?_|refine oc_ ?_|refine od_ ?_|refine oe_ ?_|refine of_ ?_|refine og_ ?_|refine oh_ ?_|refine oi_ ?_|refine oj_ ?_|refine ok_ ?_))|refine at_go ?_|(with_reducible refine And.intro (at_go ?_) (at_go ?_))|((with_reducible refine And.intro (fun h => ?_) (fun h => ?_)) <;> try (exfalso; omega))|(with_reducible refine And.intro (by first|omega|(simp only [maxLen]; omega)) ?_)|(refine And.intro ⟨[_], rfl⟩ ?_)|fail|simp (disch := first|omega|(simp only [length_rowsA, length_rowA, length_fls, length_ints, List.length_set, List.length_reverse, List.length_replicate, List.length_append, List.length_cons, List.length_nil, List.length_map]; omega)) only [push_cast, ↓reduceIte, reduceIte, reduceCtorEq, Nat.reduceAdd, Nat.reduceLT, Nat.reduceEqDiff, Nat.reduceLeDiff, Int.reduceAdd, Int.reduceLT, Int.reduceLE, Nat.reduceMul, b0, b3, e1, e2, hk1, hkp])
    ·rw [hno (by rw [Bool.and_eq_false_iff]; simp; omega)]
    ·refine out_round (ks.length - (k + 1)) (by omega) (by (first|trivial|((repeat' apply And.intro) <;> first|trivial|assumption|omega|(simp only [maxLen]; omega)|(simp only [length_rowsA, length_rowA, length_fls, length_ints, List.length_replicate, List.length_append, List.length_cons, List.length_nil, List.length_map, List.length_take, List.length_drop, List.length_set, List.length_reverse, maxLen] <;> omega)))) ⟨k + 1, by omega, rfl, rfl, ?_⟩
     simp (disch := first|omega|(simp only [length_rowsA, length_rowA, length_fls, length_ints, List.length_set, List.length_reverse, List.length_replicate, List.length_append, List.length_cons, List.length_nil, List.length_map]; omega)) only [push_cast, ↓reduceIte, reduceIte, reduceCtorEq, Nat.reduceAdd, Nat.reduceLT, Nat.reduceEqDiff, Nat.reduceLeDiff, Int.reduceAdd, Int.reduceLT, Int.reduceLE, Nat.reduceMul, b0, b3, e1, e2, hk1, hkp]
     exact hs (by simp; omega)
  ·obtain rfl : k = ks.length := by omega
   rw [kindsOk_yes ik]
   repeat' (first|(first|(refine a0_ ?_; first|refine a1_ rfl rfl ?_|refine a2_ rfl ?_|refine a3_ rfl rfl ?_|refine a4_ rfl ?_|refine ak_ rfl rfl ?_|refine a5_ rfl rfl rfl ?_|refine a6_ rfl rfl ?_|refine a7_ rfl rfl ?_|refine a8_ rfl rfl ?_|refine a9_ rfl rfl rfl ?_)|(refine g0_ ?_; first|refine g1_ rfl ?_|refine g2_ rfl rfl ?_|refine go_draw (dr := allQ) rfl rfl mixed (by first|assumption|kernel_rfl) ?_|refine g4_ rfl ?_|refine g5_ rfl ?_|refine g6_ rfl ?_|refine g7_ rfl ?_|refine g8_ rfl ?_|refine ga_ rfl ?_|refine gb_ rfl ?_)|(refine o0_ ?_; first|refine o1_ ?_|refine o2_ ?_|refine o3_ ?_|refine o4_ ?_|refine o5_ ?_|refine o6_ rfl ?_|refine o7_ rfl ?_|refine o8_ ?_|refine o9_ ?_|refine oa_ ?_|refine ob_ ?_|refine oc_ ?_|refine od_ ?_|refine oe_ ?_|refine of_ ?_|refine og_ ?_|refine oh_ ?_|refine oi_ ?_|refine oj_ ?_|refine ok_ ?_))|refine at_go ?_|(with_reducible refine And.intro (at_go ?_) (at_go ?_))|((with_reducible refine And.intro (fun h => ?_) (fun h => ?_)) <;> try (exfalso; omega))|(with_reducible refine And.intro (by first|omega|(simp only [maxLen]; omega)) ?_)|(refine And.intro ⟨[_], rfl⟩ ?_)|fail|simp (disch := first|omega|(simp only [length_rowsA, length_rowA, length_fls, length_ints, List.length_set, List.length_reverse, List.length_replicate, List.length_append, List.length_cons, List.length_nil, List.length_map]; omega)) only [push_cast, ↓reduceIte, reduceIte, reduceCtorEq, Nat.reduceAdd, Nat.reduceLT, Nat.reduceEqDiff, Nat.reduceLeDiff, Int.reduceAdd, Int.reduceLT, Int.reduceLE, Nat.reduceMul, b0, b3])
theorem fls_ne (f g : Flt) : (decide (f.k = g.k) && (decide (f.s = g.s) && (decide (f.i = g.i) && (decide (f.t = g.t) && (decide (f.a = g.a) && decide (f.o = g.o)))))) = decide (f = g) := by
 obtain ⟨a, b, c, d, e, h⟩ := f
 obtain ⟨a', b', c', d', e', h'⟩ := g
 apply Bool.eq_iff_iff.mpr
 simp
theorem eqA_33 (d : Nat) (a b c e f g a' b' c' e' f' g' : Int) : eqA Tryd.prog (d + 2) 33 (.agg [.int .i64 a, .int .i64 b, .int .i64 c, .int .i64 e, .int .i64 f, .int .i64 g]) (.agg [.int .i64 a', .int .i64 b', .int .i64 c', .int .i64 e', .int .i64 f', .int .i64 g']) = (true, decide (a = a') && (decide (b = b') && (decide (c = c') && (decide (e = e') && (decide (f = f') && decide (g = g')))))) := by
 rw [eqA_struct (shp_of ti33)]
 simp only [List.foldr_cons, List.foldr_nil, ti3, eqPair_one]
 simp [eqA_3, cut, fitsAt]
theorem eq33 (f g : Flt) : eqA Tryd.prog 8 33 (.agg (flA f)) (.agg (flA g)) = (true, decide (f = g)) := by
 unfold flA
 rw [eqA_33 6, fls_ne]
theorem eq33u (a b c e f g a' b' c' e' f' g' : Int) : eqA Tryd.prog 8 33 (.agg [.int .i64 a, .int .i64 b, .int .i64 c, .int .i64 e, .int .i64 f, .int .i64 g]) (.agg [.int .i64 a', .int .i64 b', .int .i64 c', .int .i64 e', .int .i64 f', .int .i64 g']) = (true, decide ((⟨a, b, c, e, f, g⟩ : Flt) = ⟨a', b', c', e', f', g'⟩)) := eq33 ⟨a, b, c, e, f, g⟩ ⟨a', b', c', e', f', g'⟩
end Go.Proofs
