import Derived.Test.YtbgdagokjfmcbaaGreatDoorD2
namespace Go.Proofs
open Go Go.V
set_option linter.unusedVariables false
set_option linter.unusedSimpArgs false
set_option maxHeartbeats 0
def headK (p : Pt) (k : Nat) : Bool :=
 decide (1 ≤ p.inp) && decide (p.inp ≤ 16) && (decide (k = 0) || (decide (1 ≤ p.o0) && decide (p.o0 ≤ 16) && decide (1 ≤ p.s0) && decide (p.s0 ≤ 64))) && (decide (k ≤ 1) || (decide (1 ≤ p.o1) && decide (p.o1 ≤ 16) && decide (1 ≤ p.s1) && decide (p.s1 ≤ 64)))
def xD : Ed := ⟨0, 0, (0, 0), (0, 0)⟩
def okX (p : Pt) (first : Bool) (x y : Ed) : Bool :=
 !(decide (x.s < 0) || decide ((if p.s0 < p.s1 then p.s1 else p.s0) ≤ x.s) || decide (x.i < 0) || decide (p.inp ≤ x.i) || (decide (x.old.1 = x.new.1) && decide (x.old.2 = x.new.2))) && sideM x.s x.old p.s0 p.o0 && sideM x.s x.new p.s1 p.o1 && (first || behindM x y)
def okAt (p : Pt) (k : Nat) : Bool := okX p (decide (k = 0)) (p.ed.getD k xD) (p.ed.getD (k - 1) xD)
def checkP (p : Pt) : Int := if headK p 2 = true ∧ ∀ k, k < p.ed.length → okAt p k = true then 0 else 1
theorem checkP_bad {p : Pt} {k : Nat} (hk : k < p.ed.length) (h : okAt p k = false) : checkP p = 1 := by
 rw [checkP, if_neg]
 rintro ⟨_, h2⟩
 rw [h2 k hk] at h; cases h
theorem okAt_snoc {p : Pt} {k : Nat} (h : ∀ j, j < k → okAt p j = true) (hk : okAt p k = true) : ∀ j, j < k + 1 → okAt p j = true := fun j hj => by
 rcases Nat.lt_or_ge j k with q|q
 ·exact h j q
 ·obtain rfl : j = k := by omega
  exact hk
set_option maxRecDepth 100000 in
theorem check36 (p : Pt) (z : Nat) (c : Option Nat) (hz : p.ed = [] ∨ z = 6) (hl : p.ed.length ≤ 1000000) : PC Tryz.prog G0 18 [pA p z c] (.int .i64 (checkP p)) := by
 unfold pA
 refine pc_go 0 134 [.tmp 2] Tryz.func18 rfl rfl rfl (by simp) ?_
 intro s ⟨a0, hz⟩
 clear hz
 repeat' (first|(first|(refine a0_ ?_; first|refine a1_ rfl rfl ?_|refine a2_ rfl ?_|refine a3_ rfl rfl ?_|refine a4_ rfl ?_|refine a5_ rfl rfl rfl ?_|refine a6_ rfl rfl ?_)|(refine g0_ ?_; first|refine g1_ rfl ?_|refine g2_ rfl rfl ?_|refine go_draw (dr := allQ) rfl rfl mixed (by first|assumption|kernel_rfl) ?_|refine g4_ rfl ?_|refine g5_ rfl ?_|refine g6_ rfl ?_|refine g7_ rfl ?_|refine g8_ rfl ?_)|(refine o0_ ?_; first|refine o1_ ?_|refine o2_ ?_|refine o3_ ?_|refine o4_ ?_|refine o5_ ?_|refine o6_ rfl ?_|refine o7_ rfl ?_|refine o8_ ?_|refine o9_ ?_|refine oa_ ?_|refine ob_ ?_|refine oc_ ?_|refine od_ ?_|refine oe_ ?_|refine of_ ?_|refine og_ ?_))|refine at_go ?_|(with_reducible refine And.intro (at_go ?_) (at_go ?_))|((with_reducible refine And.intro (fun h => ?_) (fun h => ?_)) <;> try (exfalso; omega))|(with_reducible refine And.intro (by first|omega|(simp only [maxLen]; omega)) ?_)|fail|simp (disch := first|omega|(simp only [length_edsA, List.length_set, List.length_reverse, List.length_replicate, List.length_append, List.length_cons, List.length_nil, List.length_map]; omega)) only [push_cast, ↓reduceIte, reduceIte, reduceCtorEq, Nat.reduceAdd, Nat.reduceLT, Nat.reduceEqDiff, Nat.reduceLeDiff, Int.reduceAdd, Int.reduceLT, Int.reduceLE, Nat.reduceMul, a0])
 refine go_loop rfl (fun m s' H' => ∃ k : Nat, k ≤ 2 ∧ m = 2 - k ∧ H' = [.row 6 36 [[.int .i64 p.inp, .int .i64 p.o0, .int .i64 p.o1, .int .i64 p.s0, .int .i64 p.s1, .sl z (edsA p.ed) c]]] ∧ s' 1 = .ptr 0 0 0 1 ∧ s' 15 = .int .i64 k ∧ s' 3 = .bool (headK p k)) (m := 2) (by (first|trivial|((repeat' apply And.intro) <;> first|trivial|assumption|omega|(simp only [maxLen]; omega)|(simp only [length_edsA, List.length_replicate, List.length_append, List.length_cons, List.length_nil, List.length_map, List.length_take, List.length_drop, List.length_set, List.length_reverse, maxLen] <;> omega)))) (Weak.refl _ _) ⟨0, by omega, by omega, rfl, ?_⟩ ?_
 ·simp (disch := first|omega|(simp only [length_edsA, List.length_set, List.length_reverse, List.length_replicate, List.length_append, List.length_cons, List.length_nil, List.length_map]; omega)) only [push_cast, ↓reduceIte, reduceIte, reduceCtorEq, Nat.reduceAdd, Nat.reduceLT, Nat.reduceEqDiff, Nat.reduceLeDiff, Int.reduceAdd, Int.reduceLT, Int.reduceLE, Nat.reduceMul, a0]
  simp [headK]
 ·rintro m s' H' ⟨k, hk, rfl, rfl, b1, b15, b3⟩
  have hk3 : k = 0 ∨ k = 1 ∨ k = 2 := by omega
  rcases hk3 with rfl|rfl|rfl
  ·rcases Bool.eq_false_or_eq_true (headK p 0) with hb|hb <;> rw [hb] at b3
   ·repeat' (first|(first|(refine a0_ ?_; first|refine a1_ rfl rfl ?_|refine a2_ rfl ?_|refine a3_ rfl rfl ?_|refine a4_ rfl ?_|refine a5_ rfl rfl rfl ?_|refine a6_ rfl rfl ?_)|(refine g0_ ?_; first|refine g1_ rfl ?_|refine g2_ rfl rfl ?_|refine go_draw (dr := allQ) rfl rfl mixed (by first|assumption|kernel_rfl) ?_|refine g4_ rfl ?_|refine g5_ rfl ?_|refine g6_ rfl ?_|refine g7_ rfl ?_|refine g8_ rfl ?_)|(refine o0_ ?_; first|refine o1_ ?_|refine o2_ ?_|refine o3_ ?_|refine o4_ ?_|refine o5_ ?_|refine o6_ rfl ?_|refine o7_ rfl ?_|refine o8_ ?_|refine o9_ ?_|refine oa_ ?_|refine ob_ ?_|refine oc_ ?_|refine od_ ?_|refine oe_ ?_|refine of_ ?_|refine og_ ?_))|refine at_go ?_|(with_reducible refine And.intro (at_go ?_) (at_go ?_))|((with_reducible refine And.intro (fun h => ?_) (fun h => ?_)) <;> try (exfalso; omega))|(with_reducible refine And.intro (by first|omega|(simp only [maxLen]; omega)) ?_)|fail|simp (disch := first|omega|(simp only [length_edsA, List.length_set, List.length_reverse, List.length_replicate, List.length_append, List.length_cons, List.length_nil, List.length_map]; omega)) only [push_cast, ↓reduceIte, reduceIte, reduceCtorEq, Nat.reduceAdd, Nat.reduceLT, Nat.reduceEqDiff, Nat.reduceLeDiff, Int.reduceAdd, Int.reduceLT, Int.reduceLE, Nat.reduceMul, b1, b15, b3, wrap64])
    refine out_round 1 (by omega) (by (first|trivial|((repeat' apply And.intro) <;> first|trivial|assumption|omega|(simp only [maxLen]; omega)|(simp only [length_edsA, List.length_replicate, List.length_append, List.length_cons, List.length_nil, List.length_map, List.length_take, List.length_drop, List.length_set, List.length_reverse, maxLen] <;> omega)))) ⟨1, by omega, by omega, rfl, ?_⟩
    simp (disch := first|omega|(simp only [length_edsA, List.length_set, List.length_reverse, List.length_replicate, List.length_append, List.length_cons, List.length_nil, List.length_map]; omega)) only [push_cast, ↓reduceIte, reduceIte, reduceCtorEq, Nat.reduceAdd, Nat.reduceLT, Nat.reduceEqDiff, Nat.reduceLeDiff, Int.reduceAdd, Int.reduceLT, Int.reduceLE, Nat.reduceMul, b1, b15, b3, wrap64]
    simp [headK, Bool.and_assoc] at hb ⊢
    simp [hb]
   ·repeat' (first|(first|(refine a0_ ?_; first|refine a1_ rfl rfl ?_|refine a2_ rfl ?_|refine a3_ rfl rfl ?_|refine a4_ rfl ?_|refine a5_ rfl rfl rfl ?_|refine a6_ rfl rfl ?_)|(refine g0_ ?_; first|refine g1_ rfl ?_|refine g2_ rfl rfl ?_|refine go_draw (dr := allQ) rfl rfl mixed (by first|assumption|kernel_rfl) ?_|refine g4_ rfl ?_|refine g5_ rfl ?_|refine g6_ rfl ?_|refine g7_ rfl ?_|refine g8_ rfl ?_)|(refine o0_ ?_; first|refine o1_ ?_|refine o2_ ?_|refine o3_ ?_|refine o4_ ?_|refine o5_ ?_|refine o6_ rfl ?_|refine o7_ rfl ?_|refine o8_ ?_|refine o9_ ?_|refine oa_ ?_|refine ob_ ?_|refine oc_ ?_|refine od_ ?_|refine oe_ ?_|refine of_ ?_|refine og_ ?_))|refine at_go ?_|(with_reducible refine And.intro (at_go ?_) (at_go ?_))|((with_reducible refine And.intro (fun h => ?_) (fun h => ?_)) <;> try (exfalso; omega))|(with_reducible refine And.intro (by first|omega|(simp only [maxLen]; omega)) ?_)|fail|simp (disch := first|omega|(simp only [length_edsA, List.length_set, List.length_reverse, List.length_replicate, List.length_append, List.length_cons, List.length_nil, List.length_map]; omega)) only [push_cast, ↓reduceIte, reduceIte, reduceCtorEq, Nat.reduceAdd, Nat.reduceLT, Nat.reduceEqDiff, Nat.reduceLeDiff, Int.reduceAdd, Int.reduceLT, Int.reduceLE, Nat.reduceMul, b1, b15, b3, wrap64])
    refine out_round 1 (by omega) (by (first|trivial|((repeat' apply And.intro) <;> first|trivial|assumption|omega|(simp only [maxLen]; omega)|(simp only [length_edsA, List.length_replicate, List.length_append, List.length_cons, List.length_nil, List.length_map, List.length_take, List.length_drop, List.length_set, List.length_reverse, maxLen] <;> omega)))) ⟨1, by omega, by omega, rfl, ?_⟩
    simp (disch := first|omega|(simp only [length_edsA, List.length_set, List.length_reverse, List.length_replicate, List.length_append, List.length_cons, List.length_nil, List.length_map]; omega)) only [push_cast, ↓reduceIte, reduceIte, reduceCtorEq, Nat.reduceAdd, Nat.reduceLT, Nat.reduceEqDiff, Nat.reduceLeDiff, Int.reduceAdd, Int.reduceLT, Int.reduceLE, Nat.reduceMul, b1, b15, b3, wrap64]
    simp [headK, Bool.and_assoc] at hb ⊢
    omega
  ·rcases Bool.eq_false_or_eq_true (headK p 1) with hb|hb <;> rw [hb] at b3
   ·repeat' (first|(first|(refine a0_ ?_; first|refine a1_ rfl rfl ?_|refine a2_ rfl ?_|refine a3_ rfl rfl ?_|refine a4_ rfl ?_|refine a5_ rfl rfl rfl ?_|refine a6_ rfl rfl ?_)|(refine g0_ ?_; first|refine g1_ rfl ?_|refine g2_ rfl rfl ?_|refine go_draw (dr := allQ) rfl rfl mixed (by first|assumption|kernel_rfl) ?_|refine g4_ rfl ?_|refine g5_ rfl ?_|refine g6_ rfl ?_|refine g7_ rfl ?_|refine g8_ rfl ?_)|(refine o0_ ?_; first|refine o1_ ?_|refine o2_ ?_|refine o3_ ?_|refine o4_ ?_|refine o5_ ?_|refine o6_ rfl ?_|refine o7_ rfl ?_|refine o8_ ?_|refine o9_ ?_|refine oa_ ?_|refine ob_ ?_|refine oc_ ?_|refine od_ ?_|refine oe_ ?_|refine of_ ?_|refine og_ ?_))|refine at_go ?_|(with_reducible refine And.intro (at_go ?_) (at_go ?_))|((with_reducible refine And.intro (fun h => ?_) (fun h => ?_)) <;> try (exfalso; omega))|(with_reducible refine And.intro (by first|omega|(simp only [maxLen]; omega)) ?_)|fail|simp (disch := first|omega|(simp only [length_edsA, List.length_set, List.length_reverse, List.length_replicate, List.length_append, List.length_cons, List.length_nil, List.length_map]; omega)) only [push_cast, ↓reduceIte, reduceIte, reduceCtorEq, Nat.reduceAdd, Nat.reduceLT, Nat.reduceEqDiff, Nat.reduceLeDiff, Int.reduceAdd, Int.reduceLT, Int.reduceLE, Nat.reduceMul, b1, b15, b3, wrap64])
    refine out_round 0 (by omega) (by (first|trivial|((repeat' apply And.intro) <;> first|trivial|assumption|omega|(simp only [maxLen]; omega)|(simp only [length_edsA, List.length_replicate, List.length_append, List.length_cons, List.length_nil, List.length_map, List.length_take, List.length_drop, List.length_set, List.length_reverse, maxLen] <;> omega)))) ⟨2, by omega, by omega, rfl, ?_⟩
    simp (disch := first|omega|(simp only [length_edsA, List.length_set, List.length_reverse, List.length_replicate, List.length_append, List.length_cons, List.length_nil, List.length_map]; omega)) only [push_cast, ↓reduceIte, reduceIte, reduceCtorEq, Nat.reduceAdd, Nat.reduceLT, Nat.reduceEqDiff, Nat.reduceLeDiff, Int.reduceAdd, Int.reduceLT, Int.reduceLE, Nat.reduceMul, b1, b15, b3, wrap64]
    simp [headK, Bool.and_assoc] at hb ⊢
    simp [hb]
   ·repeat' (first|(first|(refine a0_ ?_; first|refine a1_ rfl rfl ?_|refine a2_ rfl ?_|refine a3_ rfl rfl ?_|refine a4_ rfl ?_|refine a5_ rfl rfl rfl ?_|refine a6_ rfl rfl ?_)|(refine g0_ ?_; first|refine g1_ rfl ?_|refine g2_ rfl rfl ?_|refine go_draw (dr := allQ) rfl rfl mixed (by first|assumption|kernel_rfl) ?_|refine g4_ rfl ?_|refine g5_ rfl ?_|refine g6_ rfl ?_|refine g7_ rfl ?_|refine g8_ rfl ?_)|(refine o0_ ?_; first|refine o1_ ?_|refine o2_ ?_|refine o3_ ?_|refine o4_ ?_|refine o5_ ?_|refine o6_ rfl ?_|refine o7_ rfl ?_|refine o8_ ?_|refine o9_ ?_|refine oa_ ?_|refine ob_ ?_|refine oc_ ?_|refine od_ ?_|refine oe_ ?_|refine of_ ?_|refine og_ ?_))|refine at_go ?_|(with_reducible refine And.intro (at_go ?_) (at_go ?_))|((with_reducible refine And.intro (fun h => ?_) (fun h => ?_)) <;> try (exfalso; omega))|(with_reducible refine And.intro (by first|omega|(simp only [maxLen]; omega)) ?_)|fail|simp (disch := first|omega|(simp only [length_edsA, List.length_set, List.length_reverse, List.length_replicate, List.length_append, List.length_cons, List.length_nil, List.length_map]; omega)) only [push_cast, ↓reduceIte, reduceIte, reduceCtorEq, Nat.reduceAdd, Nat.reduceLT, Nat.reduceEqDiff, Nat.reduceLeDiff, Int.reduceAdd, Int.reduceLT, Int.reduceLE, Nat.reduceMul, b1, b15, b3, wrap64])
    refine out_round 0 (by omega) (by (first|trivial|((repeat' apply And.intro) <;> first|trivial|assumption|omega|(simp only [maxLen]; omega)|(simp only [length_edsA, List.length_replicate, List.length_append, List.length_cons, List.length_nil, List.length_map, List.length_take, List.length_drop, List.length_set, List.length_reverse, maxLen] <;> omega)))) ⟨2, by omega, by omega, rfl, ?_⟩
    simp (disch := first|omega|(simp only [length_edsA, List.length_set, List.length_reverse, List.length_replicate, List.length_append, List.length_cons, List.length_nil, List.length_map]; omega)) only [push_cast, ↓reduceIte, reduceIte, reduceCtorEq, Nat.reduceAdd, Nat.reduceLT, Nat.reduceEqDiff, Nat.reduceLeDiff, Int.reduceAdd, Int.reduceLT, Int.reduceLE, Nat.reduceMul, b1, b15, b3, wrap64]
    simp [headK, Bool.and_assoc] at hb ⊢
    omega
  ·rcases Bool.eq_false_or_eq_true (headK p 2) with hb|hb <;> rw [hb] at b3
   ·repeat' (first|(first|(refine a0_ ?_; first|refine a1_ rfl rfl ?_|refine a2_ rfl ?_|refine a3_ rfl rfl ?_|refine a4_ rfl ?_|refine a5_ rfl rfl rfl ?_|refine a6_ rfl rfl ?_)|(refine g0_ ?_; first|refine g1_ rfl ?_|refine g2_ rfl rfl ?_|refine go_draw (dr := allQ) rfl rfl mixed (by first|assumption|kernel_rfl) ?_|refine g4_ rfl ?_|refine g5_ rfl ?_|refine g6_ rfl ?_|refine g7_ rfl ?_|refine g8_ rfl ?_)|(refine o0_ ?_; first|refine o1_ ?_|refine o2_ ?_|refine o3_ ?_|refine o4_ ?_|refine o5_ ?_|refine o6_ rfl ?_|refine o7_ rfl ?_|refine o8_ ?_|refine o9_ ?_|refine oa_ ?_|refine ob_ ?_|refine oc_ ?_|refine od_ ?_|refine oe_ ?_|refine of_ ?_|refine og_ ?_))|refine at_go ?_|(with_reducible refine And.intro (at_go ?_) (at_go ?_))|((with_reducible refine And.intro (fun h => ?_) (fun h => ?_)) <;> try (exfalso; omega))|(with_reducible refine And.intro (by first|omega|(simp only [maxLen]; omega)) ?_)|fail|simp (disch := first|omega|(simp only [length_edsA, List.length_set, List.length_reverse, List.length_replicate, List.length_append, List.length_cons, List.length_nil, List.length_map]; omega)) only [push_cast, ↓reduceIte, reduceIte, reduceCtorEq, Nat.reduceAdd, Nat.reduceLT, Nat.reduceEqDiff, Nat.reduceLeDiff, Int.reduceAdd, Int.reduceLT, Int.reduceLE, Nat.reduceMul, b1, b15, b3, wrap64])
    refine go_loop rfl (fun m s' H' => ∃ k : Nat, k ≤ p.ed.length ∧ m = p.ed.length - k ∧ H' = [.row 6 36 [[.int .i64 p.inp, .int .i64 p.o0, .int .i64 p.o1, .int .i64 p.s0, .int .i64 p.s1, .sl z (edsA p.ed) c]]] ∧ s' 1 = .ptr 0 0 0 1 ∧ s' 51 = .sl z (edsA p.ed) c ∧ s' 52 = .int .i64 p.ed.length ∧ s' 53 = .int .i64 k ∧ ∀ j, j < k → okAt p j = true) (m := p.ed.length) (by (first|trivial|((repeat' apply And.intro) <;> first|trivial|assumption|omega|(simp only [maxLen]; omega)|(simp only [length_edsA, List.length_replicate, List.length_append, List.length_cons, List.length_nil, List.length_map, List.length_take, List.length_drop, List.length_set, List.length_reverse, maxLen] <;> omega)))) (Weak.refl _ _) ⟨0, by omega, by omega, rfl, ?_⟩ ?_
    ·simp (disch := first|omega|(simp only [length_edsA, List.length_set, List.length_reverse, List.length_replicate, List.length_append, List.length_cons, List.length_nil, List.length_map]; omega)) only [push_cast, ↓reduceIte, reduceIte, reduceCtorEq, Nat.reduceAdd, Nat.reduceLT, Nat.reduceEqDiff, Nat.reduceLeDiff, Int.reduceAdd, Int.reduceLT, Int.reduceLE, Nat.reduceMul, b1, b15, b3, wrap64]
     exact fun j hj => by omega
    ·rintro m s2 H2 ⟨k, hk, rfl, rfl, b1, b51, b52, b53, hok⟩
     rcases Nat.lt_or_ge k p.ed.length with hlt|hge
     ·obtain rfl : z = 6 := by
       rcases hz with h|h
       ·rw [h] at hlt; simp at hlt
       ·exact h
      have e1 := getD_edsA p.ed k hlt
      have ho : okAt p k = okX p (decide (k = 0)) (p.ed.getD k xD) (p.ed.getD (k - 1) xD) := rfl
      have e2 : 0 < k → (edsA p.ed).getD (k - 1) [] = xA (p.ed.getD (k - 1) xD) := fun h => getD_edsA p.ed (k - 1) (by omega)
      change _ = xA (p.ed.getD k xD) at e1
      generalize p.ed.getD k xD = x at *
      generalize p.ed.getD (k - 1) xD = y at *
      obtain ⟨xs, xi, ⟨oa, ob⟩, ⟨na, nb⟩⟩ := x
      obtain ⟨ys, yi, ⟨qa, qb⟩, ⟨ra, rb⟩⟩ := y
      have hS1 := fits68 xs (oa, ob) p.s0 p.o0
      have hS2 := fits68 xs (na, nb) p.s1 p.o1
      have hBh := behind49 ⟨xs, xi, (oa, ob), (na, nb)⟩ ⟨ys, yi, (qa, qb), (ra, rb)⟩
      simp only [okX] at ho
      simp only [xA] at e1 e2
      generalize sideM xs (oa, ob) p.s0 p.o0 = sd1 at *
      generalize sideM xs (na, nb) p.s1 p.o1 = sd2 at *
      generalize behindM ⟨xs, xi, (oa, ob), (na, nb)⟩ ⟨ys, yi, (qa, qb), (ra, rb)⟩ = bh at *
      repeat' (first|(first|(refine a0_ ?_; first|refine a1_ rfl rfl ?_|refine a2_ rfl ?_|refine a3_ rfl rfl ?_|refine a4_ rfl ?_|refine a5_ rfl rfl rfl ?_|refine a6_ rfl rfl ?_)|(refine g0_ ?_; first|(with_reducible refine stop_at (p := [0, 1, 1, 0, 0, 1, 1, 0, 0, 1, 0, 1, 1, 1, 1]) ?_)|refine g1_ rfl ?_|refine g2_ rfl rfl ?_|refine go_draw (dr := allQ) rfl rfl mixed (by first|assumption|kernel_rfl) ?_|refine g4_ rfl ?_|refine g5_ rfl ?_|refine g6_ rfl ?_|refine g7_ rfl ?_|refine g8_ rfl ?_)|(refine o0_ ?_; first|refine o1_ ?_|refine o2_ ?_|refine o3_ ?_|refine o4_ ?_|refine o5_ ?_|refine o6_ rfl ?_|refine o7_ rfl ?_|refine o8_ ?_|refine o9_ ?_|refine oa_ ?_|refine ob_ ?_|refine oc_ ?_|refine od_ ?_|refine oe_ ?_|refine of_ ?_|refine og_ ?_))|refine at_go ?_|(with_reducible refine And.intro (at_go ?_) (at_go ?_))|((with_reducible refine And.intro (fun h => ?_) (fun h => ?_)) <;> try (exfalso; omega))|(with_reducible refine And.intro (by first|omega|(simp only [maxLen]; omega)) ?_)|fail|simp (disch := first|omega|(simp only [length_edsA, List.length_set, List.length_reverse, List.length_replicate, List.length_append, List.length_cons, List.length_nil, List.length_map]; omega)) only [push_cast, ↓reduceIte, reduceIte, reduceCtorEq, Nat.reduceAdd, Nat.reduceLT, Nat.reduceEqDiff, Nat.reduceLeDiff, Int.reduceAdd, Int.reduceLT, Int.reduceLE, Nat.reduceMul, b1, b51, b52, b53, e1, length_edsA, wrap64])
      ·congr 1
       refine (checkP_bad hlt ?_).symm
       rw [ho, Bool.eq_false_iff]
       intro hq
       simp at hq
       omega
      refine Halt.mk ?_
      have hord : orderOk allQ (opsOf (atR (bodyOf Tryz.f18) [0, 1, 1, 0, 0, 1, 1, 0, 0, 1, 0, 1, 1, 1, 1])) = true := by kernel_rfl
      rcases Nat.eq_zero_or_pos k with rfl|hkp
      ·simp only [decide_true, Bool.true_or, Bool.and_true] at ho
       cases sd1 <;> cases sd2
       all_goals
        repeat' (first|(first|(refine a0_ ?_; first|refine a1_ rfl rfl ?_|refine a2_ rfl ?_|refine a3_ rfl rfl ?_|refine a4_ rfl ?_|refine a5_ rfl rfl rfl ?_|refine a6_ rfl rfl ?_)|(refine g0_ ?_; first|refine g1_ rfl ?_|refine g2_ rfl rfl ?_|refine go_draw (dr := allQ) rfl rfl mixed (by first|assumption|kernel_rfl) ?_|refine g4_ rfl ?_|refine g5_ rfl ?_|refine g6_ rfl ?_|refine g7_ rfl ?_|refine g8_ rfl ?_)|(refine o0_ ?_; first|refine o1_ ?_|refine o2_ ?_|refine o3_ ?_|refine o4_ ?_|refine o5_ ?_|refine o6_ rfl ?_|refine o7_ rfl ?_|refine o8_ ?_|refine o9_ ?_|refine oa_ ?_|refine ob_ ?_|refine oc_ ?_|refine od_ ?_|refine oe_ ?_|refine of_ ?_|refine og_ ?_))|refine at_go ?_|(with_reducible refine And.intro (at_go ?_) (at_go ?_))|((with_reducible refine And.intro (fun h => ?_) (fun h => ?_)) <;> try (exfalso; omega))|(with_reducible refine And.intro (by first|omega|(simp only [maxLen]; omega)) ?_)|(first|(refine ⟨_, _, pc_lift (hS1) (by (simp [idsL, idsE, AV.ids, eA, xA])) _, ?_⟩)|(refine ⟨_, pc_lift (hS1) (by (simp [idsL, idsE, AV.ids, eA, xA])) _, ?_⟩)|(refine ⟨_, fun _ => pc_lift (hS1) (by (simp [idsL, idsE, AV.ids, eA, xA])) _, ?_⟩)|(refine ⟨_, _, pc_lift (hS2) (by (simp [idsL, idsE, AV.ids, eA, xA])) _, ?_⟩)|(refine ⟨_, pc_lift (hS2) (by (simp [idsL, idsE, AV.ids, eA, xA])) _, ?_⟩)|(refine ⟨_, fun _ => pc_lift (hS2) (by (simp [idsL, idsE, AV.ids, eA, xA])) _, ?_⟩)|(refine ⟨AV.str [], ?_⟩; refine acc_id ?_))|simp (disch := first|omega|(simp only [length_edsA, List.length_set, List.length_reverse, List.length_replicate, List.length_append, List.length_cons, List.length_nil, List.length_map]; omega)) only [push_cast, ↓reduceIte, reduceIte, reduceCtorEq, Nat.reduceAdd, Nat.reduceLT, Nat.reduceEqDiff, Nat.reduceLeDiff, Int.reduceAdd, Int.reduceLT, Int.reduceLE, Nat.reduceMul, b1, b51, b52, b53, e1, length_edsA, wrap64])
       ·congr 1
        exact (checkP_bad hlt (by rw [ho]; simp)).symm
       ·congr 1
        exact (checkP_bad hlt (by rw [ho]; simp)).symm
       ·congr 1
        exact (checkP_bad hlt (by rw [ho]; simp)).symm
       ·refine out_round_take (p.ed.length - (0 + 1)) 1 (by omega) (by (first|trivial|((repeat' apply And.intro) <;> first|trivial|assumption|omega|(simp only [maxLen]; omega)|(simp only [length_edsA, List.length_replicate, List.length_append, List.length_cons, List.length_nil, List.length_map, List.length_take, List.length_drop, List.length_set, List.length_reverse, maxLen] <;> omega)))) (by omega) (by simp) (by simp [Blk.below, idsE, idsL, AV.ids, idsE_edsA]) ⟨0 + 1, by omega, rfl, rfl, ?_⟩
        simp (disch := first|omega|(simp only [length_edsA, List.length_set, List.length_reverse, List.length_replicate, List.length_append, List.length_cons, List.length_nil, List.length_map]; omega)) only [push_cast, ↓reduceIte, reduceIte, reduceCtorEq, Nat.reduceAdd, Nat.reduceLT, Nat.reduceEqDiff, Nat.reduceLeDiff, Int.reduceAdd, Int.reduceLT, Int.reduceLE, Nat.reduceMul, b1, b51, b52, b53, length_edsA, wrap64, scrub, AV.ids, idsL, idsE_edsA]
        refine okAt_snoc hok ?_
        rw [ho]
        simp
        omega
      ·have hk0 : ((k : Int) - 1).toNat = k - 1 := by omega
       have hkp' : (0 : Int) < k := by omega
       have hk1 : decide (k = 0) = false := decide_eq_false (by omega)
       have e2 := e2 hkp
       rw [hk1, Bool.false_or] at ho
       cases sd1 <;> cases sd2
       all_goals
        repeat' (first|(first|(refine a0_ ?_; first|refine a1_ rfl rfl ?_|refine a2_ rfl ?_|refine a3_ rfl rfl ?_|refine a4_ rfl ?_|refine a5_ rfl rfl rfl ?_|refine a6_ rfl rfl ?_)|(refine g0_ ?_; first|refine g1_ rfl ?_|refine g2_ rfl rfl ?_|refine go_draw (dr := allQ) rfl rfl mixed (by first|assumption|kernel_rfl) ?_|refine g4_ rfl ?_|refine g5_ rfl ?_|refine g6_ rfl ?_|refine g7_ rfl ?_|refine g8_ rfl ?_)|(refine o0_ ?_; first|refine o1_ ?_|refine o2_ ?_|refine o3_ ?_|refine o4_ ?_|refine o5_ ?_|refine o6_ rfl ?_|refine o7_ rfl ?_|refine o8_ ?_|refine o9_ ?_|refine oa_ ?_|refine ob_ ?_|refine oc_ ?_|refine od_ ?_|refine oe_ ?_|refine of_ ?_|refine og_ ?_))|refine at_go ?_|(with_reducible refine And.intro (at_go ?_) (at_go ?_))|((with_reducible refine And.intro (fun h => ?_) (fun h => ?_)) <;> try (exfalso; omega))|(with_reducible refine And.intro (by first|omega|(simp only [maxLen]; omega)) ?_)|(first|(refine ⟨_, _, pc_lift (hS1) (by (simp [idsL, idsE, AV.ids, eA, xA])) _, ?_⟩)|(refine ⟨_, pc_lift (hS1) (by (simp [idsL, idsE, AV.ids, eA, xA])) _, ?_⟩)|(refine ⟨_, fun _ => pc_lift (hS1) (by (simp [idsL, idsE, AV.ids, eA, xA])) _, ?_⟩)|(refine ⟨_, _, pc_lift (hS2) (by (simp [idsL, idsE, AV.ids, eA, xA])) _, ?_⟩)|(refine ⟨_, pc_lift (hS2) (by (simp [idsL, idsE, AV.ids, eA, xA])) _, ?_⟩)|(refine ⟨_, fun _ => pc_lift (hS2) (by (simp [idsL, idsE, AV.ids, eA, xA])) _, ?_⟩)|(refine ⟨_, _, pc_lift (hBh) (by (simp [idsL, idsE, AV.ids, eA, xA])) _, ?_⟩)|(refine ⟨_, pc_lift (hBh) (by (simp [idsL, idsE, AV.ids, eA, xA])) _, ?_⟩)|(refine ⟨_, fun _ => pc_lift (hBh) (by (simp [idsL, idsE, AV.ids, eA, xA])) _, ?_⟩)|(refine ⟨AV.str [], ?_⟩; refine acc_id ?_))|simp (disch := first|omega|(simp only [length_edsA, List.length_set, List.length_reverse, List.length_replicate, List.length_append, List.length_cons, List.length_nil, List.length_map]; omega)) only [push_cast, ↓reduceIte, reduceIte, reduceCtorEq, Nat.reduceAdd, Nat.reduceLT, Nat.reduceEqDiff, Nat.reduceLeDiff, Int.reduceAdd, Int.reduceLT, Int.reduceLE, Nat.reduceMul, b1, b51, b52, b53, e1, length_edsA, wrap64, hk0, e2, hkp'])
       ·congr 1
        exact (checkP_bad hlt (by rw [ho]; simp)).symm
       ·congr 1
        exact (checkP_bad hlt (by rw [ho]; simp)).symm
       ·congr 1
        exact (checkP_bad hlt (by rw [ho]; simp)).symm
       ·congr 1
        exact (checkP_bad hlt (by rw [ho, h]; simp)).symm
       ·refine out_round_take (p.ed.length - (k + 1)) 1 (by omega) (by (first|trivial|((repeat' apply And.intro) <;> first|trivial|assumption|omega|(simp only [maxLen]; omega)|(simp only [length_edsA, List.length_replicate, List.length_append, List.length_cons, List.length_nil, List.length_map, List.length_take, List.length_drop, List.length_set, List.length_reverse, maxLen] <;> omega)))) (by omega) (by simp) (by simp [Blk.below, idsE, idsL, AV.ids, idsE_edsA]) ⟨k + 1, by omega, rfl, rfl, ?_⟩
        simp (disch := first|omega|(simp only [length_edsA, List.length_set, List.length_reverse, List.length_replicate, List.length_append, List.length_cons, List.length_nil, List.length_map]; omega)) only [push_cast, ↓reduceIte, reduceIte, reduceCtorEq, Nat.reduceAdd, Nat.reduceLT, Nat.reduceEqDiff, Nat.reduceLeDiff, Int.reduceAdd, Int.reduceLT, Int.reduceLE, Nat.reduceMul, b1, b51, b52, b53, length_edsA, wrap64, scrub, AV.ids, idsL, idsE_edsA]
        refine okAt_snoc hok ?_
        rw [ho]
        simp [h]
        omega
     ·obtain rfl : k = p.ed.length := by omega
      repeat' (first|(first|(refine a0_ ?_; first|refine a1_ rfl rfl ?_|refine a2_ rfl ?_|refine a3_ rfl rfl ?_|refine a4_ rfl ?_|refine a5_ rfl rfl rfl ?_|refine a6_ rfl rfl ?_)|(refine g0_ ?_; first|refine g1_ rfl ?_|refine g2_ rfl rfl ?_|refine go_draw (dr := allQ) rfl rfl mixed (by first|assumption|kernel_rfl) ?_|refine g4_ rfl ?_|refine g5_ rfl ?_|refine g6_ rfl ?_|refine g7_ rfl ?_|refine g8_ rfl ?_)|(refine o0_ ?_; first|refine o1_ ?_|refine o2_ ?_|refine o3_ ?_|refine o4_ ?_|refine o5_ ?_|refine o6_ rfl ?_|refine o7_ rfl ?_|refine o8_ ?_|refine o9_ ?_|refine oa_ ?_|refine ob_ ?_|refine oc_ ?_|refine od_ ?_|refine oe_ ?_|refine of_ ?_|refine og_ ?_))|refine at_go ?_|(with_reducible refine And.intro (at_go ?_) (at_go ?_))|((with_reducible refine And.intro (fun h => ?_) (fun h => ?_)) <;> try (exfalso; omega))|(with_reducible refine And.intro (by first|omega|(simp only [maxLen]; omega)) ?_)|fail|simp (disch := first|omega|(simp only [length_edsA, List.length_set, List.length_reverse, List.length_replicate, List.length_append, List.length_cons, List.length_nil, List.length_map]; omega)) only [push_cast, ↓reduceIte, reduceIte, reduceCtorEq, Nat.reduceAdd, Nat.reduceLT, Nat.reduceEqDiff, Nat.reduceLeDiff, Int.reduceAdd, Int.reduceLT, Int.reduceLE, Nat.reduceMul, b1, b51, b52, b53, length_edsA, wrap64])
      congr 1
      rw [checkP, if_pos ⟨hb, hok⟩]
   ·repeat' (first|(first|(refine a0_ ?_; first|refine a1_ rfl rfl ?_|refine a2_ rfl ?_|refine a3_ rfl rfl ?_|refine a4_ rfl ?_|refine a5_ rfl rfl rfl ?_|refine a6_ rfl rfl ?_)|(refine g0_ ?_; first|refine g1_ rfl ?_|refine g2_ rfl rfl ?_|refine go_draw (dr := allQ) rfl rfl mixed (by first|assumption|kernel_rfl) ?_|refine g4_ rfl ?_|refine g5_ rfl ?_|refine g6_ rfl ?_|refine g7_ rfl ?_|refine g8_ rfl ?_)|(refine o0_ ?_; first|refine o1_ ?_|refine o2_ ?_|refine o3_ ?_|refine o4_ ?_|refine o5_ ?_|refine o6_ rfl ?_|refine o7_ rfl ?_|refine o8_ ?_|refine o9_ ?_|refine oa_ ?_|refine ob_ ?_|refine oc_ ?_|refine od_ ?_|refine oe_ ?_|refine of_ ?_|refine og_ ?_))|refine at_go ?_|(with_reducible refine And.intro (at_go ?_) (at_go ?_))|((with_reducible refine And.intro (fun h => ?_) (fun h => ?_)) <;> try (exfalso; omega))|(with_reducible refine And.intro (by first|omega|(simp only [maxLen]; omega)) ?_)|fail|simp (disch := first|omega|(simp only [length_edsA, List.length_set, List.length_reverse, List.length_replicate, List.length_append, List.length_cons, List.length_nil, List.length_map]; omega)) only [push_cast, ↓reduceIte, reduceIte, reduceCtorEq, Nat.reduceAdd, Nat.reduceLT, Nat.reduceEqDiff, Nat.reduceLeDiff, Int.reduceAdd, Int.reduceLT, Int.reduceLE, Nat.reduceMul, b1, b15, b3, wrap64])
    congr 1
    rw [checkP, if_neg]
    rintro ⟨h1, _⟩
    rw [h1] at hb; cases hb
end Go.Proofs
