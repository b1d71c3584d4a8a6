import Derived.Test.YtfdnlhegmdhcjaaDoorF4a
namespace Go.Proofs
open Go Go.V
set_option linter.unusedVariables false
set_option linter.unusedSimpArgs false
set_option maxHeartbeats 0
set_option maxRecDepth 100000 in
theorem check13_0 (i o : Int) (l : List Row) (c : Option Nat) (hm : machOk i o l = 0) (u v : Nat) (t a o' : Int) (hdt : defA i l u v = true) (hpl : plainF ⟨0, u, v, t, a, o'⟩ = true) :
  PC Tryd.prog G0 13 [.agg [.int .i64 i, .int .i64 o, .sl 1 (rowsA l) c], .agg [.int .i64 0, .int .i64 u, .int .i64 v, .int .i64 t, .int .i64 a, .int .i64 o']] (.int .i64 (if isA i o l ⟨0, u, v, t, a, o'⟩ = true then (if 3 ≤ (0 : Int) ∧ l.length = 64 then 3 else 0) else 1)) := by
 obtain ⟨m1, m2, m3, m4, m5⟩ := machOk_zero hm
 have hC := check36 i o l 1 c (.inr rfl) (by omega) (fun j hj => by have := m4 j hj; omega)
 have hP := plain37 ⟨0, u, v, t, a, o'⟩
 rw [hm] at hC
 rw [hpl] at hP
 have hd := defined38 i o l 1 c u v (.inr rfl) (by omega) (by omega) m4
 rw [hdt] at hd
 obtain ⟨d1, d2, d3, d4, d5⟩ := defR_iff.1 hdt
 rw [edgesOf_len] at d2
 have hu : u < l.length := by omega
 have e1 := getD_rowsA l u hu
 have hq := m4 u hu
 have e2 := getD_rowA (l.getD u ([], none)).1 v (by omega)
 obtain ⟨x1, x2, hx⟩ : ∃ x1 x2, (l.getD u ([], none)).1.getD v (0, 0) = (x1, x2) := ⟨_, _, rfl⟩
 have hI := okA_at (i := i) (o := o) (k := 0) (t := t) (a := a) (o' := o') (by omega) hdt hx
 rw [hpl, Bool.true_and] at hI
 rw [hx] at e2
 have h2 := defined38 i o l 1 c x1 a (.inr rfl) (by omega) (by omega) m4
 have w2 := within39 o' o
 have wT := within39 t l.length
 simp only [eA] at e2
 unfold flA at hP
 dsimp only at hP
 generalize (l.getD u ([], none)).2 = cc at *
 generalize (l.getD u ([], none)).1 = r at *
 refine pc_go 0 127 [.tmp 4] Tryd.func13 rfl rfl rfl (by simp) ?_
 intro s ⟨a0, a1, hz⟩
 simp only [Nat.zero_add, Nat.reduceAdd] at a1
 clear hz
 repeat' (first|(first|(refine a0_ ?_; first|refine a1_ rfl rfl ?_|refine a2_ rfl ?_|refine a3_ rfl rfl ?_|refine a4_ rfl ?_|refine ak_ rfl rfl ?_|refine a5_ rfl rfl rfl ?_|refine a6_ rfl rfl ?_|refine a7_ rfl rfl ?_|refine a8_ rfl rfl ?_|refine a9_ rfl rfl rfl ?_)|(refine g0_ ?_; first|refine g1_ rfl ?_|refine g2_ rfl rfl ?_|refine go_drawN (dr := allQ) (p := [0, 1, 1, 1]) [] [] [(10, 11)] rfl rfl mixed (by kernel_rfl) ?_|refine go_draw (dr := allQ) rfl rfl mixed (by first|assumption|kernel_rfl) ?_|refine g4_ rfl ?_|refine g5_ rfl ?_|refine g6_ rfl ?_|refine g7_ rfl ?_|refine g8_ rfl ?_|refine ga_ rfl ?_|refine gb_ rfl ?_)|(refine o0_ ?_; first|refine o1_ ?_|refine o2_ ?_|refine o3_ ?_|refine o4_ ?_|refine o5_ ?_|refine o6_ rfl ?_|refine o7_ rfl ?_|refine o8_ ?_|refine o9_ ?_|refine oa_ ?_|refine ob_ ?_|refine oc_ ?_|refine od_ ?_|refine oe_ ?_|refine of_ ?_|refine og_ ?_|refine oh_ ?_|refine oi_ ?_|refine oj_ ?_|refine ok_ ?_))|refine at_go ?_|(with_reducible refine And.intro (at_go ?_) (at_go ?_))|((with_reducible refine And.intro (fun h => ?_) (fun h => ?_)) <;> try (exfalso; omega))|(with_reducible refine And.intro (by first|omega|(simp only [maxLen]; omega)) ?_)|(refine And.intro ⟨[_], rfl⟩ ?_)|(refine And.intro ⟨[], by simp only [List.append_nil]⟩ ?_)|(first|(refine ⟨_, _, pc_lift (hC) (by (simp [idsL, idsE, AV.ids, Nat.add_zero])) _, ?_⟩)|(refine ⟨_, pc_lift (hC) (by (simp [idsL, idsE, AV.ids, Nat.add_zero])) _, ?_⟩)|(refine ⟨_, fun _ => pc_lift (hC) (by (simp [idsL, idsE, AV.ids, Nat.add_zero])) _, ?_⟩)|(refine ⟨_, _, pc_lift (hP) (by (simp [idsL, idsE, AV.ids, Nat.add_zero])) _, ?_⟩)|(refine ⟨_, pc_lift (hP) (by (simp [idsL, idsE, AV.ids, Nat.add_zero])) _, ?_⟩)|(refine ⟨_, fun _ => pc_lift (hP) (by (simp [idsL, idsE, AV.ids, Nat.add_zero])) _, ?_⟩)|(refine ⟨_, _, pc_lift (hd) (by (simp [idsL, idsE, AV.ids, Nat.add_zero])) _, ?_⟩)|(refine ⟨_, pc_lift (hd) (by (simp [idsL, idsE, AV.ids, Nat.add_zero])) _, ?_⟩)|(refine ⟨_, fun _ => pc_lift (hd) (by (simp [idsL, idsE, AV.ids, Nat.add_zero])) _, ?_⟩)|(refine ⟨_, _, pc_lift (w2) (by (simp [idsL, idsE, AV.ids, Nat.add_zero])) _, ?_⟩)|(refine ⟨_, pc_lift (w2) (by (simp [idsL, idsE, AV.ids, Nat.add_zero])) _, ?_⟩)|(refine ⟨_, fun _ => pc_lift (w2) (by (simp [idsL, idsE, AV.ids, Nat.add_zero])) _, ?_⟩)|(refine ⟨AV.bool true, ?_⟩; refine acc_id ?_))|simp (disch := first|omega|(simp only [List.length_map, lenF, lenS]; omega)) only [push_cast, ↓reduceIte, reduceIte, reduceCtorEq, Nat.reduceAdd, Nat.reduceLT, Nat.reduceEqDiff, Nat.reduceLeDiff, Int.reduceAdd, Int.reduceLT, Int.reduceLE, Nat.reduceMul, a0, a1, e1, e2, ev_g0, tableG, tn2, tn3, tn4, Int.reduceEq, Int.reduceLE, Int.reduceLT, decide_false, decide_true, Bool.false_and, Bool.and_false, Bool.true_and])
 all_goals (clear a0 a1 hC hP hd h2 w2 wT e1 e2; first|(rw [hI]; rfl)|(rw [hI]; congr 1; simp [hasT, hasO, hasA]; try omega))
set_option maxRecDepth 100000 in
theorem check13_1 (i o : Int) (l : List Row) (c : Option Nat) (hm : machOk i o l = 0) (u v : Nat) (t a o' : Int) (hdt : defA i l u v = true) (hpl : plainF ⟨1, u, v, t, a, o'⟩ = true) :
  PC Tryd.prog G0 13 [.agg [.int .i64 i, .int .i64 o, .sl 1 (rowsA l) c], .agg [.int .i64 1, .int .i64 u, .int .i64 v, .int .i64 t, .int .i64 a, .int .i64 o']] (.int .i64 (if isA i o l ⟨1, u, v, t, a, o'⟩ = true then (if 3 ≤ (1 : Int) ∧ l.length = 64 then 3 else 0) else 1)) := by
 obtain ⟨m1, m2, m3, m4, m5⟩ := machOk_zero hm
 have hC := check36 i o l 1 c (.inr rfl) (by omega) (fun j hj => by have := m4 j hj; omega)
 have hP := plain37 ⟨1, u, v, t, a, o'⟩
 rw [hm] at hC
 rw [hpl] at hP
 have hd := defined38 i o l 1 c u v (.inr rfl) (by omega) (by omega) m4
 rw [hdt] at hd
 obtain ⟨d1, d2, d3, d4, d5⟩ := defR_iff.1 hdt
 rw [edgesOf_len] at d2
 have hu : u < l.length := by omega
 have e1 := getD_rowsA l u hu
 have hq := m4 u hu
 have e2 := getD_rowA (l.getD u ([], none)).1 v (by omega)
 obtain ⟨x1, x2, hx⟩ : ∃ x1 x2, (l.getD u ([], none)).1.getD v (0, 0) = (x1, x2) := ⟨_, _, rfl⟩
 have hI := okA_at (i := i) (o := o) (k := 1) (t := t) (a := a) (o' := o') (by omega) hdt hx
 rw [hpl, Bool.true_and] at hI
 rw [hx] at e2
 have h2 := defined38 i o l 1 c x1 a (.inr rfl) (by omega) (by omega) m4
 have w2 := within39 o' o
 have wT := within39 t l.length
 simp only [eA] at e2
 unfold flA at hP
 dsimp only at hP
 generalize (l.getD u ([], none)).2 = cc at *
 generalize (l.getD u ([], none)).1 = r at *
 refine pc_go 0 127 [.tmp 4] Tryd.func13 rfl rfl rfl (by simp) ?_
 intro s ⟨a0, a1, hz⟩
 simp only [Nat.zero_add, Nat.reduceAdd] at a1
 clear hz
 repeat' (first|(first|(refine a0_ ?_; first|refine a1_ rfl rfl ?_|refine a2_ rfl ?_|refine a3_ rfl rfl ?_|refine a4_ rfl ?_|refine ak_ rfl rfl ?_|refine a5_ rfl rfl rfl ?_|refine a6_ rfl rfl ?_|refine a7_ rfl rfl ?_|refine a8_ rfl rfl ?_|refine a9_ rfl rfl rfl ?_)|(refine g0_ ?_; first|refine g1_ rfl ?_|refine g2_ rfl rfl ?_|refine go_drawN (dr := allQ) (p := [0, 1, 1, 1]) [] [] [(10, 11)] rfl rfl mixed (by kernel_rfl) ?_|refine go_draw (dr := allQ) rfl rfl mixed (by first|assumption|kernel_rfl) ?_|refine g4_ rfl ?_|refine g5_ rfl ?_|refine g6_ rfl ?_|refine g7_ rfl ?_|refine g8_ rfl ?_|refine ga_ rfl ?_|refine gb_ rfl ?_)|(refine o0_ ?_; first|refine o1_ ?_|refine o2_ ?_|refine o3_ ?_|refine o4_ ?_|refine o5_ ?_|refine o6_ rfl ?_|refine o7_ rfl ?_|refine o8_ ?_|refine o9_ ?_|refine oa_ ?_|refine ob_ ?_|refine oc_ ?_|refine od_ ?_|refine oe_ ?_|refine of_ ?_|refine og_ ?_|refine oh_ ?_|refine oi_ ?_|refine oj_ ?_|refine ok_ ?_))|refine at_go ?_|(with_reducible refine And.intro (at_go ?_) (at_go ?_))|((with_reducible refine And.intro (fun h => ?_) (fun h => ?_)) <;> try (exfalso; omega))|(with_reducible refine And.intro (by first|omega|(simp only [maxLen]; omega)) ?_)|(refine And.intro ⟨[_], rfl⟩ ?_)|(refine And.intro ⟨[], by simp only [List.append_nil]⟩ ?_)|(first|(refine ⟨_, _, pc_lift (hC) (by (simp [idsL, idsE, AV.ids, Nat.add_zero])) _, ?_⟩)|(refine ⟨_, pc_lift (hC) (by (simp [idsL, idsE, AV.ids, Nat.add_zero])) _, ?_⟩)|(refine ⟨_, fun _ => pc_lift (hC) (by (simp [idsL, idsE, AV.ids, Nat.add_zero])) _, ?_⟩)|(refine ⟨_, _, pc_lift (hP) (by (simp [idsL, idsE, AV.ids, Nat.add_zero])) _, ?_⟩)|(refine ⟨_, pc_lift (hP) (by (simp [idsL, idsE, AV.ids, Nat.add_zero])) _, ?_⟩)|(refine ⟨_, fun _ => pc_lift (hP) (by (simp [idsL, idsE, AV.ids, Nat.add_zero])) _, ?_⟩)|(refine ⟨_, _, pc_lift (hd) (by (simp [idsL, idsE, AV.ids, Nat.add_zero])) _, ?_⟩)|(refine ⟨_, pc_lift (hd) (by (simp [idsL, idsE, AV.ids, Nat.add_zero])) _, ?_⟩)|(refine ⟨_, fun _ => pc_lift (hd) (by (simp [idsL, idsE, AV.ids, Nat.add_zero])) _, ?_⟩)|(refine ⟨_, _, pc_lift (wT) (by (simp [idsL, idsE, AV.ids, Nat.add_zero])) _, ?_⟩)|(refine ⟨_, pc_lift (wT) (by (simp [idsL, idsE, AV.ids, Nat.add_zero])) _, ?_⟩)|(refine ⟨_, fun _ => pc_lift (wT) (by (simp [idsL, idsE, AV.ids, Nat.add_zero])) _, ?_⟩)|(refine ⟨AV.bool true, ?_⟩; refine acc_id ?_))|simp (disch := first|omega|(simp only [List.length_map, lenF, lenS]; omega)) only [push_cast, ↓reduceIte, reduceIte, reduceCtorEq, Nat.reduceAdd, Nat.reduceLT, Nat.reduceEqDiff, Nat.reduceLeDiff, Int.reduceAdd, Int.reduceLT, Int.reduceLE, Nat.reduceMul, a0, a1, e1, e2, ev_g0, tableG, tn2, tn3, tn4, Int.reduceEq, Int.reduceLE, Int.reduceLT, decide_false, decide_true, Bool.false_and, Bool.and_false, Bool.true_and])
 all_goals (clear a0 a1 hC hP hd h2 w2 wT e1 e2; first|(rw [hI]; rfl)|(rw [hI]; congr 1; simp [hasT, hasO, hasA]; try omega))
set_option maxRecDepth 100000 in
theorem check13_2 (i o : Int) (l : List Row) (c : Option Nat) (hm : machOk i o l = 0) (u v : Nat) (t a o' : Int) (hdt : defA i l u v = true) (hpl : plainF ⟨2, u, v, t, a, o'⟩ = true) :
  PC Tryd.prog G0 13 [.agg [.int .i64 i, .int .i64 o, .sl 1 (rowsA l) c], .agg [.int .i64 2, .int .i64 u, .int .i64 v, .int .i64 t, .int .i64 a, .int .i64 o']] (.int .i64 (if isA i o l ⟨2, u, v, t, a, o'⟩ = true then (if 3 ≤ (2 : Int) ∧ l.length = 64 then 3 else 0) else 1)) := by
 obtain ⟨m1, m2, m3, m4, m5⟩ := machOk_zero hm
 have hC := check36 i o l 1 c (.inr rfl) (by omega) (fun j hj => by have := m4 j hj; omega)
 have hP := plain37 ⟨2, u, v, t, a, o'⟩
 rw [hm] at hC
 rw [hpl] at hP
 have hd := defined38 i o l 1 c u v (.inr rfl) (by omega) (by omega) m4
 rw [hdt] at hd
 obtain ⟨d1, d2, d3, d4, d5⟩ := defR_iff.1 hdt
 rw [edgesOf_len] at d2
 have hu : u < l.length := by omega
 have e1 := getD_rowsA l u hu
 have hq := m4 u hu
 have e2 := getD_rowA (l.getD u ([], none)).1 v (by omega)
 obtain ⟨x1, x2, hx⟩ : ∃ x1 x2, (l.getD u ([], none)).1.getD v (0, 0) = (x1, x2) := ⟨_, _, rfl⟩
 have hI := okA_at (i := i) (o := o) (k := 2) (t := t) (a := a) (o' := o') (by omega) hdt hx
 rw [hpl, Bool.true_and] at hI
 rw [hx] at e2
 have h2 := defined38 i o l 1 c x1 a (.inr rfl) (by omega) (by omega) m4
 have w2 := within39 o' o
 have wT := within39 t l.length
 simp only [eA] at e2
 unfold flA at hP
 dsimp only at hP
 generalize (l.getD u ([], none)).2 = cc at *
 generalize (l.getD u ([], none)).1 = r at *
 refine pc_go 0 127 [.tmp 4] Tryd.func13 rfl rfl rfl (by simp) ?_
 intro s ⟨a0, a1, hz⟩
 simp only [Nat.zero_add, Nat.reduceAdd] at a1
 clear hz
 repeat' (first|(first|(refine a0_ ?_; first|refine a1_ rfl rfl ?_|refine a2_ rfl ?_|refine a3_ rfl rfl ?_|refine a4_ rfl ?_|refine ak_ rfl rfl ?_|refine a5_ rfl rfl rfl ?_|refine a6_ rfl rfl ?_|refine a7_ rfl rfl ?_|refine a8_ rfl rfl ?_|refine a9_ rfl rfl rfl ?_)|(refine g0_ ?_; first|refine g1_ rfl ?_|refine g2_ rfl rfl ?_|refine go_drawN (dr := allQ) (p := [0, 1, 1, 1]) [] [] [(10, 11)] rfl rfl mixed (by kernel_rfl) ?_|refine go_draw (dr := allQ) rfl rfl mixed (by first|assumption|kernel_rfl) ?_|refine g4_ rfl ?_|refine g5_ rfl ?_|refine g6_ rfl ?_|refine g7_ rfl ?_|refine g8_ rfl ?_|refine ga_ rfl ?_|refine gb_ rfl ?_)|(refine o0_ ?_; first|refine o1_ ?_|refine o2_ ?_|refine o3_ ?_|refine o4_ ?_|refine o5_ ?_|refine o6_ rfl ?_|refine o7_ rfl ?_|refine o8_ ?_|refine o9_ ?_|refine oa_ ?_|refine ob_ ?_|refine oc_ ?_|refine od_ ?_|refine oe_ ?_|refine of_ ?_|refine og_ ?_|refine oh_ ?_|refine oi_ ?_|refine oj_ ?_|refine ok_ ?_))|refine at_go ?_|(with_reducible refine And.intro (at_go ?_) (at_go ?_))|((with_reducible refine And.intro (fun h => ?_) (fun h => ?_)) <;> try (exfalso; omega))|(with_reducible refine And.intro (by first|omega|(simp only [maxLen]; omega)) ?_)|(refine And.intro ⟨[_], rfl⟩ ?_)|(refine And.intro ⟨[], by simp only [List.append_nil]⟩ ?_)|(first|(refine ⟨_, _, pc_lift (hC) (by (simp [idsL, idsE, AV.ids, Nat.add_zero])) _, ?_⟩)|(refine ⟨_, pc_lift (hC) (by (simp [idsL, idsE, AV.ids, Nat.add_zero])) _, ?_⟩)|(refine ⟨_, fun _ => pc_lift (hC) (by (simp [idsL, idsE, AV.ids, Nat.add_zero])) _, ?_⟩)|(refine ⟨_, _, pc_lift (hP) (by (simp [idsL, idsE, AV.ids, Nat.add_zero])) _, ?_⟩)|(refine ⟨_, pc_lift (hP) (by (simp [idsL, idsE, AV.ids, Nat.add_zero])) _, ?_⟩)|(refine ⟨_, fun _ => pc_lift (hP) (by (simp [idsL, idsE, AV.ids, Nat.add_zero])) _, ?_⟩)|(refine ⟨_, _, pc_lift (hd) (by (simp [idsL, idsE, AV.ids, Nat.add_zero])) _, ?_⟩)|(refine ⟨_, pc_lift (hd) (by (simp [idsL, idsE, AV.ids, Nat.add_zero])) _, ?_⟩)|(refine ⟨_, fun _ => pc_lift (hd) (by (simp [idsL, idsE, AV.ids, Nat.add_zero])) _, ?_⟩)|(refine ⟨AV.bool true, ?_⟩; refine acc_id ?_))|simp (disch := first|omega|(simp only [List.length_map, lenF, lenS]; omega)) only [push_cast, ↓reduceIte, reduceIte, reduceCtorEq, Nat.reduceAdd, Nat.reduceLT, Nat.reduceEqDiff, Nat.reduceLeDiff, Int.reduceAdd, Int.reduceLT, Int.reduceLE, Nat.reduceMul, a0, a1, e1, e2, ev_g0, tableG, tn2, tn3, tn4, Int.reduceEq, Int.reduceLE, Int.reduceLT, decide_false, decide_true, Bool.false_and, Bool.and_false, Bool.true_and])
 all_goals (clear a0 a1 hC hP hd h2 w2 wT e1 e2; first|(rw [hI]; rfl)|(rw [hI]; congr 1; simp [hasT, hasO, hasA]; try omega))
end Go.Proofs
