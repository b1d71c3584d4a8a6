import Derived.Test.YtbgdagokjfmcbaaGreatDoorDB
namespace Go.Proofs
open Go Go.V
set_option linter.unusedVariables false
set_option linter.unusedSimpArgs false
set_option maxHeartbeats 0
set_option maxRecDepth 100000 in
theorem none74 : PC Tryz.prog G0 46 [] (.agg [.int .i64 (-1), .int .i64 (-1)]) := by
 refine pc_go 0 2 [.cell 0 58] Tryz.func46 rfl rfl rfl (by simp) ?_
 intro s hz
 clear hz
 repeat' (first|(first|(refine a0_ ?_; first|refine a1_ rfl rfl ?_|refine a2_ rfl ?_|refine a3_ rfl rfl ?_|refine a4_ rfl ?_|refine a5_ rfl rfl rfl ?_|refine a6_ rfl rfl ?_)|(refine g0_ ?_; first|refine g1_ rfl ?_|refine g2_ rfl rfl ?_|refine go_draw (dr := allQ) rfl rfl mixed (by first|assumption|kernel_rfl) ?_|refine g4_ rfl ?_|refine g5_ rfl ?_|refine g6_ rfl ?_|refine g7_ rfl ?_|refine g8_ rfl ?_)|(refine o0_ ?_; first|refine o1_ ?_|refine o2_ ?_|refine o3_ ?_|refine o4_ ?_|refine o5_ ?_|refine o6_ rfl ?_|refine o7_ rfl ?_|refine o8_ ?_|refine o9_ ?_|refine oa_ ?_|refine ob_ ?_|refine oc_ ?_|refine od_ ?_|refine oe_ ?_|refine of_ ?_|refine og_ ?_))|refine at_go ?_|(with_reducible refine And.intro (at_go ?_) (at_go ?_))|((with_reducible refine And.intro (fun h => ?_) (fun h => ?_)) <;> try (exfalso; omega))|(with_reducible refine And.intro (by first|omega|(simp only [maxLen]; omega)) ?_)|fail|simp (disch := first|omega|(simp only [length_rowA, length_rowsA, List.length_set, List.length_reverse, List.length_replicate, List.length_append, List.length_cons, List.length_nil, List.length_map]; omega)) only [push_cast, ↓reduceIte, reduceIte, reduceCtorEq, Nat.reduceAdd, Nat.reduceLT, Nat.reduceEqDiff, Nat.reduceLeDiff, Int.reduceAdd, Int.reduceLT, Int.reduceLE, Nat.reduceMul, Nat.add_zero])
set_option maxRecDepth 100000 in
theorem none95 : PC Tryz.prog G0 92 [] (.agg [.int .i64 (-1), .int .i64 (-1)]) := by
 refine pc_go 0 2 [.cell 0 58] Tryz.func92 rfl rfl rfl (by simp) ?_
 intro s hz
 clear hz
 repeat' (first|(first|(refine a0_ ?_; first|refine a1_ rfl rfl ?_|refine a2_ rfl ?_|refine a3_ rfl rfl ?_|refine a4_ rfl ?_|refine a5_ rfl rfl rfl ?_|refine a6_ rfl rfl ?_)|(refine g0_ ?_; first|refine g1_ rfl ?_|refine g2_ rfl rfl ?_|refine go_draw (dr := allQ) rfl rfl mixed (by first|assumption|kernel_rfl) ?_|refine g4_ rfl ?_|refine g5_ rfl ?_|refine g6_ rfl ?_|refine g7_ rfl ?_|refine g8_ rfl ?_)|(refine o0_ ?_; first|refine o1_ ?_|refine o2_ ?_|refine o3_ ?_|refine o4_ ?_|refine o5_ ?_|refine o6_ rfl ?_|refine o7_ rfl ?_|refine o8_ ?_|refine o9_ ?_|refine oa_ ?_|refine ob_ ?_|refine oc_ ?_|refine od_ ?_|refine oe_ ?_|refine of_ ?_|refine og_ ?_))|refine at_go ?_|(with_reducible refine And.intro (at_go ?_) (at_go ?_))|((with_reducible refine And.intro (fun h => ?_) (fun h => ?_)) <;> try (exfalso; omega))|(with_reducible refine And.intro (by first|omega|(simp only [maxLen]; omega)) ?_)|fail|simp (disch := first|omega|(simp only [length_rowA, length_rowsA, List.length_set, List.length_reverse, List.length_replicate, List.length_append, List.length_cons, List.length_nil, List.length_map]; omega)) only [push_cast, ↓reduceIte, reduceIte, reduceCtorEq, Nat.reduceAdd, Nat.reduceLT, Nat.reduceEqDiff, Nat.reduceLeDiff, Int.reduceAdd, Int.reduceLT, Int.reduceLE, Nat.reduceMul, Nat.add_zero])
def edgeM (l : List Row) (s i : Int) : Edg := if (l.length : Int) ≤ s then (-1, -1) else (l.getD s.toNat ([], none)).1.getD i.toNat (0, 0)
def rowLen (l : List Row) (s : Int) : Nat := (l.getD s.toNat ([], none)).1.length
set_option maxRecDepth 100000 in
theorem edge67 (a b : Int) (l : List Row) (c : Option Nat) (s i : Int) (hl : l.length ≤ 1000000) (h0 : 0 ≤ s ∧ 0 ≤ i) (h1 : s < l.length → i < rowLen l s) : PC Tryz.prog G0 42 [mA a b l c, .int .i64 s, .int .i64 i] (.agg (eA (edgeM l s i))) := by
 unfold mA
 by_cases hs : (l.length : Int) ≤ s
 ·refine pc_go 0 21 [.cell 6 58] Tryz.func42 rfl rfl rfl (by simp) ?_
  intro s ⟨a0, a1, a2, hz⟩
  simp only [Nat.zero_add, Nat.reduceAdd] at a1 a2
  clear hz
  rw [edgeM, if_pos hs]
  repeat' (first|(first|(refine a0_ ?_; first|refine a1_ rfl rfl ?_|refine a2_ rfl ?_|refine a3_ rfl rfl ?_|refine a4_ rfl ?_|refine a5_ rfl rfl rfl ?_|refine a6_ rfl rfl ?_)|(refine g0_ ?_; first|refine g1_ rfl ?_|refine g2_ rfl rfl ?_|refine go_draw (dr := allQ) rfl rfl mixed (by first|assumption|kernel_rfl) ?_|refine g4_ rfl ?_|refine g5_ rfl ?_|refine g6_ rfl ?_|refine g7_ rfl ?_|refine g8_ rfl ?_)|(refine o0_ ?_; first|refine o1_ ?_|refine o2_ ?_|refine o3_ ?_|refine o4_ ?_|refine o5_ ?_|refine o6_ rfl ?_|refine o7_ rfl ?_|refine o8_ ?_|refine o9_ ?_|refine oa_ ?_|refine ob_ ?_|refine oc_ ?_|refine od_ ?_|refine oe_ ?_|refine of_ ?_|refine og_ ?_))|refine at_go ?_|(with_reducible refine And.intro (at_go ?_) (at_go ?_))|((with_reducible refine And.intro (fun h => ?_) (fun h => ?_)) <;> try (exfalso; omega))|(with_reducible refine And.intro (by first|omega|(simp only [maxLen]; omega)) ?_)|(first|(refine ⟨_, _, pc_lift (none74) (by (simp [idsL, idsE, AV.ids, Nat.add_zero])) _, ?_⟩)|(refine ⟨_, pc_lift (none74) (by (simp [idsL, idsE, AV.ids, Nat.add_zero])) _, ?_⟩)|(refine ⟨_, fun _ => pc_lift (none74) (by (simp [idsL, idsE, AV.ids, Nat.add_zero])) _, ?_⟩))|simp (disch := first|omega|(simp only [length_rowA, length_rowsA, List.length_set, List.length_reverse, List.length_replicate, List.length_append, List.length_cons, List.length_nil, List.length_map]; omega)) only [push_cast, ↓reduceIte, reduceIte, reduceCtorEq, Nat.reduceAdd, Nat.reduceLT, Nat.reduceEqDiff, Nat.reduceLeDiff, Int.reduceAdd, Int.reduceLT, Int.reduceLE, Nat.reduceMul, a0, a1, a2, length_rowsA, evS, G0_0, eA])
 ·have h2 : s.toNat < l.length := by omega
  have h3 := h1 (by omega)
  unfold rowLen at h3
  have e1 := getD_rowsA l s.toNat h2
  have h4 : i.toNat < (l.getD s.toNat ([], none)).1.length := by omega
  have e2 := getD_rowA _ _ h4
  rw [edgeM, if_neg hs]
  generalize (l.getD s.toNat ([], none)).2 = cc at e1
  generalize (l.getD s.toNat ([], none)).1 = rr at e1 e2 h3 h4 ⊢
  refine pc_go 0 21 [.cell 6 58] Tryz.func42 rfl rfl rfl (by simp) ?_
  intro s ⟨a0, a1, a2, hz⟩
  simp only [Nat.zero_add, Nat.reduceAdd] at a1 a2
  clear hz
  repeat' (first|(first|(refine a0_ ?_; first|refine a1_ rfl rfl ?_|refine a2_ rfl ?_|refine a3_ rfl rfl ?_|refine a4_ rfl ?_|refine a5_ rfl rfl rfl ?_|refine a6_ rfl rfl ?_)|(refine g0_ ?_; first|refine g1_ rfl ?_|refine g2_ rfl rfl ?_|refine go_draw (dr := allQ) rfl rfl mixed (by first|assumption|kernel_rfl) ?_|refine g4_ rfl ?_|refine g5_ rfl ?_|refine g6_ rfl ?_|refine g7_ rfl ?_|refine g8_ rfl ?_)|(refine o0_ ?_; first|refine o1_ ?_|refine o2_ ?_|refine o3_ ?_|refine o4_ ?_|refine o5_ ?_|refine o6_ rfl ?_|refine o7_ rfl ?_|refine o8_ ?_|refine o9_ ?_|refine oa_ ?_|refine ob_ ?_|refine oc_ ?_|refine od_ ?_|refine oe_ ?_|refine of_ ?_|refine og_ ?_))|refine at_go ?_|(with_reducible refine And.intro (at_go ?_) (at_go ?_))|((with_reducible refine And.intro (fun h => ?_) (fun h => ?_)) <;> try (exfalso; omega))|(with_reducible refine And.intro (by first|omega|(simp only [maxLen]; omega)) ?_)|(first|(refine ⟨_, _, pc_lift (none74) (by (simp [idsL, idsE, AV.ids, Nat.add_zero])) _, ?_⟩)|(refine ⟨_, pc_lift (none74) (by (simp [idsL, idsE, AV.ids, Nat.add_zero])) _, ?_⟩)|(refine ⟨_, fun _ => pc_lift (none74) (by (simp [idsL, idsE, AV.ids, Nat.add_zero])) _, ?_⟩))|simp (disch := first|omega|(simp only [length_rowA, length_rowsA, List.length_set, List.length_reverse, List.length_replicate, List.length_append, List.length_cons, List.length_nil, List.length_map]; omega)) only [push_cast, ↓reduceIte, reduceIte, reduceCtorEq, Nat.reduceAdd, Nat.reduceLT, Nat.reduceEqDiff, Nat.reduceLeDiff, Int.reduceAdd, Int.reduceLT, Int.reduceLE, Nat.reduceMul, a0, a1, a2, length_rowsA, length_rowA, e1, e2, eA])
  all_goals omega
end Go.Proofs
namespace Go.Proofs
open Go Go.V
set_option linter.unusedVariables false
set_option linter.unusedSimpArgs false
set_option maxHeartbeats 0
def sideM (s : Int) (e : Edg) (st ou : Int) : Bool := decide (e = (-1, -1)) || (decide (s < st) && decide (0 ≤ e.1) && decide (e.1 < st) && decide (0 ≤ e.2) && decide (e.2 < ou))
theorem sideM_eq (s x y st ou : Int) : sideM s (x, y) st ou = ((decide (x = -1) && decide (y = -1)) || (decide (s < st) && decide (0 ≤ x) && decide (x < st) && decide (0 ≤ y) && decide (y < ou))) := by simp [sideM]
set_option maxRecDepth 100000 in
theorem fits68 (s : Int) (e : Edg) (st ou : Int) : PC Tryz.prog G0 43 [.int .i64 s, .agg (eA e), .int .i64 st, .int .i64 ou] (.bool (sideM s e st ou)) := by
 obtain ⟨x, y⟩ := e
 unfold eA
 rw [sideM_eq]
 by_cases h : x = -1 ∧ y = -1
 ·obtain ⟨rfl, rfl⟩ := h
  refine pc_go 0 39 [.tmp 8] Tryz.func43 rfl rfl rfl (by simp) ?_
  intro s ⟨a0, a1, a2, a3, hz⟩
  simp only [Nat.zero_add, Nat.reduceAdd] at a1 a2 a3
  clear hz
  repeat' (first|(first|(refine a0_ ?_; first|refine a1_ rfl rfl ?_|refine a2_ rfl ?_|refine a3_ rfl rfl ?_|refine a4_ rfl ?_|refine a5_ rfl rfl rfl ?_|refine a6_ rfl rfl ?_)|(refine g0_ ?_; first|refine g1_ rfl ?_|refine g2_ rfl rfl ?_|refine go_draw (dr := allQ) rfl rfl mixed (by first|assumption|kernel_rfl) ?_|refine g4_ rfl ?_|refine g5_ rfl ?_|refine g6_ rfl ?_|refine g7_ rfl ?_|refine g8_ rfl ?_)|(refine o0_ ?_; first|refine o1_ ?_|refine o2_ ?_|refine o3_ ?_|refine o4_ ?_|refine o5_ ?_|refine o6_ rfl ?_|refine o7_ rfl ?_|refine o8_ ?_|refine o9_ ?_|refine oa_ ?_|refine ob_ ?_|refine oc_ ?_|refine od_ ?_|refine oe_ ?_|refine of_ ?_|refine og_ ?_))|refine at_go ?_|(with_reducible refine And.intro (at_go ?_) (at_go ?_))|((with_reducible refine And.intro (fun h => ?_) (fun h => ?_)) <;> try (exfalso; omega))|(with_reducible refine And.intro (by first|omega|(simp only [maxLen]; omega)) ?_)|(first|(refine ⟨_, _, pc_lift (none74) (by (simp [idsL, idsE, AV.ids, Nat.add_zero])) _, ?_⟩)|(refine ⟨_, pc_lift (none74) (by (simp [idsL, idsE, AV.ids, Nat.add_zero])) _, ?_⟩)|(refine ⟨_, fun _ => pc_lift (none74) (by (simp [idsL, idsE, AV.ids, Nat.add_zero])) _, ?_⟩))|simp (disch := first|omega|(simp only [List.length_nil, List.length_set, List.length_reverse, List.length_replicate, List.length_append, List.length_cons, List.length_nil, List.length_map]; omega)) only [push_cast, ↓reduceIte, reduceIte, reduceCtorEq, Nat.reduceAdd, Nat.reduceLT, Nat.reduceEqDiff, Nat.reduceLeDiff, Int.reduceAdd, Int.reduceLT, Int.reduceLE, Nat.reduceMul, a0, a1, a2, a3, evS, G0_0, Int.reduceNeg, Int.reduceEq])
  all_goals omega
 ·have hA : (decide (x = -1) && decide (y = -1)) = false := by simpa using h
  refine pc_go 0 39 [.tmp 8] Tryz.func43 rfl rfl rfl (by simp) ?_
  intro s ⟨a0, a1, a2, a3, hz⟩
  simp only [Nat.zero_add, Nat.reduceAdd] at a1 a2 a3
  clear hz
  repeat' (first|(first|(refine a0_ ?_; first|refine a1_ rfl rfl ?_|refine a2_ rfl ?_|refine a3_ rfl rfl ?_|refine a4_ rfl ?_|refine a5_ rfl rfl rfl ?_|refine a6_ rfl rfl ?_)|(refine g0_ ?_; first|refine g1_ rfl ?_|refine g2_ rfl rfl ?_|refine go_draw (dr := allQ) rfl rfl mixed (by first|assumption|kernel_rfl) ?_|refine g4_ rfl ?_|refine g5_ rfl ?_|refine g6_ rfl ?_|refine g7_ rfl ?_|refine g8_ rfl ?_)|(refine o0_ ?_; first|refine o1_ ?_|refine o2_ ?_|refine o3_ ?_|refine o4_ ?_|refine o5_ ?_|refine o6_ rfl ?_|refine o7_ rfl ?_|refine o8_ ?_|refine o9_ ?_|refine oa_ ?_|refine ob_ ?_|refine oc_ ?_|refine od_ ?_|refine oe_ ?_|refine of_ ?_|refine og_ ?_))|refine at_go ?_|(with_reducible refine And.intro (at_go ?_) (at_go ?_))|((with_reducible refine And.intro (fun h => ?_) (fun h => ?_)) <;> try (exfalso; omega))|(with_reducible refine And.intro (by first|omega|(simp only [maxLen]; omega)) ?_)|(first|(refine ⟨_, _, pc_lift (none74) (by (simp [idsL, idsE, AV.ids, Nat.add_zero])) _, ?_⟩)|(refine ⟨_, pc_lift (none74) (by (simp [idsL, idsE, AV.ids, Nat.add_zero])) _, ?_⟩)|(refine ⟨_, fun _ => pc_lift (none74) (by (simp [idsL, idsE, AV.ids, Nat.add_zero])) _, ?_⟩))|simp (disch := first|omega|(simp only [List.length_nil, List.length_set, List.length_reverse, List.length_replicate, List.length_append, List.length_cons, List.length_nil, List.length_map]; omega)) only [push_cast, ↓reduceIte, reduceIte, reduceCtorEq, Nat.reduceAdd, Nat.reduceLT, Nat.reduceEqDiff, Nat.reduceLeDiff, Int.reduceAdd, Int.reduceLT, Int.reduceLE, Nat.reduceMul, a0, a1, a2, a3, evS, G0_0, hA])
  all_goals omega
def behindM (x y : Ed) : Bool := decide (y.s < x.s) || (decide (x.s = y.s) && decide (y.i < x.i))
set_option maxRecDepth 100000 in
theorem behind49 (x y : Ed) : PC Tryz.prog G0 47 [.agg (xA x), .agg (xA y)] (.bool (behindM x y)) := by
 unfold xA behindM
 refine pc_go 0 24 [.tmp 4] Tryz.func47 rfl rfl rfl (by simp) ?_
 intro s ⟨a0, a1, hz⟩
 simp only [Nat.zero_add, Nat.reduceAdd] at a1
 clear hz
 repeat' (first|(first|(refine a0_ ?_; first|refine a1_ rfl rfl ?_|refine a2_ rfl ?_|refine a3_ rfl rfl ?_|refine a4_ rfl ?_|refine a5_ rfl rfl rfl ?_|refine a6_ rfl rfl ?_)|(refine g0_ ?_; first|refine g1_ rfl ?_|refine g2_ rfl rfl ?_|refine go_draw (dr := allQ) rfl rfl mixed (by first|assumption|kernel_rfl) ?_|refine g4_ rfl ?_|refine g5_ rfl ?_|refine g6_ rfl ?_|refine g7_ rfl ?_|refine g8_ rfl ?_)|(refine o0_ ?_; first|refine o1_ ?_|refine o2_ ?_|refine o3_ ?_|refine o4_ ?_|refine o5_ ?_|refine o6_ rfl ?_|refine o7_ rfl ?_|refine o8_ ?_|refine o9_ ?_|refine oa_ ?_|refine ob_ ?_|refine oc_ ?_|refine od_ ?_|refine oe_ ?_|refine of_ ?_|refine og_ ?_))|refine at_go ?_|(with_reducible refine And.intro (at_go ?_) (at_go ?_))|((with_reducible refine And.intro (fun h => ?_) (fun h => ?_)) <;> try (exfalso; omega))|(with_reducible refine And.intro (by first|omega|(simp only [maxLen]; omega)) ?_)|(first|(refine ⟨_, _, pc_lift (none74) (by (simp [idsL, idsE, AV.ids, Nat.add_zero])) _, ?_⟩)|(refine ⟨_, pc_lift (none74) (by (simp [idsL, idsE, AV.ids, Nat.add_zero])) _, ?_⟩)|(refine ⟨_, fun _ => pc_lift (none74) (by (simp [idsL, idsE, AV.ids, Nat.add_zero])) _, ?_⟩))|simp (disch := first|omega|(simp only [List.length_nil, List.length_set, List.length_reverse, List.length_replicate, List.length_append, List.length_cons, List.length_nil, List.length_map]; omega)) only [push_cast, ↓reduceIte, reduceIte, reduceCtorEq, Nat.reduceAdd, Nat.reduceLT, Nat.reduceEqDiff, Nat.reduceLeDiff, Int.reduceAdd, Int.reduceLT, Int.reduceLE, Nat.reduceMul, a0, a1])
 all_goals omega
end Go.Proofs
