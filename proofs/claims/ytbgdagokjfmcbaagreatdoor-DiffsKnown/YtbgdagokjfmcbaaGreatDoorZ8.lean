import Derived.Test.YtbgdagokjfmcbaaGreatDoorD30
import Derived.Test.YtbgdagokjfmcbaaGreatDoorZ5
import Derived.Test.YtbgdagokjfmcbaaGreatDoorD38
namespace Go.Proofs
open Go Go.V
set_option linter.unusedVariables false
set_option linter.unusedSimpArgs false
set_option maxHeartbeats 0
def fullRow (tt : Int) (k : Nat) : List Edg := (List.range k).map fun i => (tt, ((i : Nat) : Int))
def fullRows (tt : Int) (k : Nat) : List Row := (List.range k).map fun _ => (fullRow tt 16, none)
theorem fullRow_succ (tt : Int) (k : Nat) : fullRow tt (k + 1) = fullRow tt k ++ [(tt, (k : Int))] := by simp [fullRow, List.range_succ]
theorem fullRows_succ (tt : Int) (k : Nat) : fullRows tt (k + 1) = fullRows tt k ++ [(fullRow tt 16, none)] := by simp [fullRows, List.range_succ]
theorem fullRow_len (tt : Int) (k : Nat) : (fullRow tt k).length = k := by simp [fullRow]
theorem fullRows_len (tt : Int) (k : Nat) : (fullRows tt k).length = k := by simp [fullRows]
set_option maxRecDepth 100000 in
theorem full12 (tt : Int) : PC Tryz.prog G0 12 [.int .i64 tt] (mA 16 16 (fullRows tt 64) none) := by
 unfold mA
 refine pc_go 1 29 [.cell 2 30] Tryz.func12 rfl rfl rfl (by simp) ?_
 intro s ⟨a0, hz⟩
 clear hz
 repeat' (first|(first|(refine a0_ ?_; first|refine a1_ rfl rfl ?_|refine a2_ rfl ?_|refine a3_ rfl rfl ?_|refine a4_ rfl ?_|refine a5_ rfl rfl rfl ?_|refine a6_ rfl rfl ?_)|(refine g0_ ?_; first|refine g1_ rfl ?_|refine g2_ rfl rfl ?_|refine go_draw (dr := allQ) rfl rfl mixed (by first|assumption|kernel_rfl) ?_|refine g4_ rfl ?_|refine g5_ rfl ?_|refine g6_ rfl ?_|refine g7_ rfl ?_|refine g8_ rfl ?_)|(refine o0_ ?_; first|refine o1_ ?_|refine o2_ ?_|refine o3_ ?_|refine o4_ ?_|refine o5_ ?_|refine o6_ rfl ?_|refine o7_ rfl ?_|refine o8_ ?_|refine o9_ ?_|refine oa_ ?_|refine ob_ ?_|refine oc_ ?_|refine od_ ?_|refine oe_ ?_|refine of_ ?_|refine og_ ?_))|refine at_go ?_|(with_reducible refine And.intro (at_go ?_) (at_go ?_))|((with_reducible refine And.intro (fun h => ?_) (fun h => ?_)) <;> try (exfalso; omega))|(with_reducible refine And.intro (by first|omega|(simp only [maxLen]; omega)) ?_)|fail|simp (disch := first|omega|(simp only [length_rowsA, length_rowA, List.length_set, List.length_reverse, List.length_replicate, List.length_append, List.length_cons, List.length_nil, List.length_map]; omega)) only [push_cast, ↓reduceIte, reduceIte, reduceCtorEq, Nat.reduceAdd, Nat.reduceLT, Nat.reduceEqDiff, Nat.reduceLeDiff, Int.reduceAdd, Int.reduceLT, Int.reduceLE, Nat.reduceMul, a0])
 refine go_loop rfl (fun mz s' H' => ∃ s : Nat, s ≤ 64 ∧ mz = 64 - s ∧ H' = [.row 3 30 [[.int .i64 0, .int .i64 0, .sl 0 [] (some 0)]], .row 3 30 [[.int .i64 16, .int .i64 16, .own 2 s s none]], .row 1 98 (rowsA (fullRows tt s))] ∧ s' 0 = .int .i64 tt ∧ s' 2 = .ptr 0 0 0 1 ∧ s' 3 = .ptr 1 0 0 1 ∧ s' 4 = .int .i64 s) (m := 64) (by (first|trivial|((repeat' apply And.intro) <;> first|trivial|assumption|omega|(simp only [maxLen]; omega)|(simp only [length_rowsA, length_rowA, List.length_replicate, List.length_append, List.length_cons, List.length_nil, List.length_map, List.length_take, List.length_drop, List.length_set, List.length_reverse, maxLen] <;> omega)))) (weak_nil_cell (b := 1) (i := 0) (j := 2) (sz := 1) (ty := 98) rfl rfl rfl) ⟨0, by omega, by omega, (by first|rfl|simp [fullRows, rowsA, List.range_zero, List.map_nil]), ?_⟩ ?_
 ·simp (disch := first|omega|(simp only [length_rowsA, length_rowA, List.length_set, List.length_reverse, List.length_replicate, List.length_append, List.length_cons, List.length_nil, List.length_map]; omega)) only [push_cast, ↓reduceIte, reduceIte, reduceCtorEq, Nat.reduceAdd, Nat.reduceLT, Nat.reduceEqDiff, Nat.reduceLeDiff, Int.reduceAdd, Int.reduceLT, Int.reduceLE, Nat.reduceMul, a0]
 ·rintro mz s' H' ⟨s, hs, rfl, rfl, b0, b2, b3, b4⟩
  have e0 : (rowsA (fullRows tt s)).length = s := by rw [length_rowsA, fullRows_len]
  rcases Nat.lt_or_ge s 64 with hlt|hge
  ·have e1 := fullRows_succ tt s
   repeat' (first|(first|(refine a0_ ?_; first|refine a1_ rfl rfl ?_|refine a2_ rfl ?_|refine a3_ rfl rfl ?_|refine a4_ rfl ?_|refine a5_ rfl rfl rfl ?_|refine a6_ rfl rfl ?_)|(refine g0_ ?_; first|refine g1_ rfl ?_|refine g2_ rfl rfl ?_|refine go_draw (dr := allQ) rfl rfl mixed (by first|assumption|kernel_rfl) ?_|refine g4_ rfl ?_|refine g5_ rfl ?_|refine g6_ rfl ?_|refine g7_ rfl ?_|refine g8_ rfl ?_)|(refine o0_ ?_; first|refine o1_ ?_|refine o2_ ?_|refine o3_ ?_|refine o4_ ?_|refine o5_ ?_|refine o6_ rfl ?_|refine o7_ rfl ?_|refine o8_ ?_|refine o9_ ?_|refine oa_ ?_|refine ob_ ?_|refine oc_ ?_|refine od_ ?_|refine oe_ ?_|refine of_ ?_|refine og_ ?_))|refine at_go ?_|(with_reducible refine And.intro (at_go ?_) (at_go ?_))|((with_reducible refine And.intro (fun h => ?_) (fun h => ?_)) <;> try (exfalso; omega))|(with_reducible refine And.intro (by first|omega|(simp only [maxLen]; omega)) ?_)|fail|simp (disch := first|omega|(simp only [length_rowsA, length_rowA, List.length_set, List.length_reverse, List.length_replicate, List.length_append, List.length_cons, List.length_nil, List.length_map]; omega)) only [push_cast, ↓reduceIte, reduceIte, reduceCtorEq, Nat.reduceAdd, Nat.reduceLT, Nat.reduceEqDiff, Nat.reduceLeDiff, Int.reduceAdd, Int.reduceLT, Int.reduceLE, Nat.reduceMul, b0, b2, b3, b4, e0])
   refine go_weak (by (first|trivial|((repeat' apply And.intro) <;> first|trivial|assumption|omega|(simp only [maxLen]; omega)|(simp only [length_rowsA, length_rowA, List.length_replicate, List.length_append, List.length_cons, List.length_nil, List.length_map, List.length_take, List.length_drop, List.length_set, List.length_reverse, maxLen] <;> omega)))) (weak_nil (t := 5) (sz := 2) (ty := 58) rfl) ?_
   generalize fullRows tt s = rs at *
   refine go_loop rfl (fun mz s' H' => ∃ i : Nat, i ≤ 16 ∧ mz = 16 - i ∧ H' = [.row 3 30 [[.int .i64 0, .int .i64 0, .sl 0 [] (some 0)]], .row 3 30 [[.int .i64 16, .int .i64 16, .own 2 s s none]], .row 1 98 (rowsA rs), .row 2 58 (rowA (fullRow tt i))] ∧ s' 0 = .int .i64 tt ∧ s' 2 = .ptr 0 0 0 1 ∧ s' 3 = .ptr 1 0 0 1 ∧ s' 4 = .int .i64 s ∧ s' 5 = .own 3 i i none ∧ s' 6 = .int .i64 i) (m := 16) (by (first|trivial|((repeat' apply And.intro) <;> first|trivial|assumption|omega|(simp only [maxLen]; omega)|(simp only [length_rowsA, length_rowA, List.length_replicate, List.length_append, List.length_cons, List.length_nil, List.length_map, List.length_take, List.length_drop, List.length_set, List.length_reverse, maxLen] <;> omega)))) (Weak.refl _ _) ⟨0, by omega, by omega, (by first|rfl|simp [fullRow, rowA, List.range_zero, List.map_nil]), ?_⟩ ?_
   ·simp (disch := first|omega|(simp only [length_rowsA, length_rowA, List.length_set, List.length_reverse, List.length_replicate, List.length_append, List.length_cons, List.length_nil, List.length_map]; omega)) only [push_cast, ↓reduceIte, reduceIte, reduceCtorEq, Nat.reduceAdd, Nat.reduceLT, Nat.reduceEqDiff, Nat.reduceLeDiff, Int.reduceAdd, Int.reduceLT, Int.reduceLE, Nat.reduceMul, b0, b2, b3, b4, e0]
   ·rintro mz s' H' ⟨i, hi, rfl, rfl, b0, b2, b3, b4, b5, b6⟩
    have e2 : (rowA (fullRow tt i)).length = i := by rw [length_rowA, fullRow_len]
    rcases Nat.lt_or_ge i 16 with hlt2|hge2
    ·have e3 := fullRow_succ tt i
     generalize fullRow tt i = ro at *
     repeat' (first|(first|(refine a0_ ?_; first|refine a1_ rfl rfl ?_|refine a2_ rfl ?_|refine a3_ rfl rfl ?_|refine a4_ rfl ?_|refine a5_ rfl rfl rfl ?_|refine a6_ rfl rfl ?_)|(refine g0_ ?_; first|refine g1_ rfl ?_|refine g2_ rfl rfl ?_|refine go_draw (dr := allQ) rfl rfl mixed (by first|assumption|kernel_rfl) ?_|refine g4_ rfl ?_|refine g5_ rfl ?_|refine g6_ rfl ?_|refine g7_ rfl ?_|refine g8_ rfl ?_)|(refine o0_ ?_; first|refine o1_ ?_|refine o2_ ?_|refine o3_ ?_|refine o4_ ?_|refine o5_ ?_|refine o6_ rfl ?_|refine o7_ rfl ?_|refine o8_ ?_|refine o9_ ?_|refine oa_ ?_|refine ob_ ?_|refine oc_ ?_|refine od_ ?_|refine oe_ ?_|refine of_ ?_|refine og_ ?_))|refine at_go ?_|(with_reducible refine And.intro (at_go ?_) (at_go ?_))|((with_reducible refine And.intro (fun h => ?_) (fun h => ?_)) <;> try (exfalso; omega))|(with_reducible refine And.intro (by first|omega|(simp only [maxLen]; omega)) ?_)|fail|simp (disch := first|omega|(simp only [length_rowsA, length_rowA, List.length_set, List.length_reverse, List.length_replicate, List.length_append, List.length_cons, List.length_nil, List.length_map]; omega)) only [push_cast, ↓reduceIte, reduceIte, reduceCtorEq, Nat.reduceAdd, Nat.reduceLT, Nat.reduceEqDiff, Nat.reduceLeDiff, Int.reduceAdd, Int.reduceLT, Int.reduceLE, Nat.reduceMul, b0, b2, b3, b4, b5, b6, e2])
     refine out_round (16 - (i + 1)) (by omega) (by (first|trivial|((repeat' apply And.intro) <;> first|trivial|assumption|omega|(simp only [maxLen]; omega)|(simp only [length_rowsA, length_rowA, List.length_replicate, List.length_append, List.length_cons, List.length_nil, List.length_map, List.length_take, List.length_drop, List.length_set, List.length_reverse, maxLen] <;> omega)))) ⟨i + 1, by omega, rfl, by rw [e3]; simp [rowA, eA], ?_⟩
     simp (disch := first|omega|(simp only [length_rowsA, length_rowA, List.length_set, List.length_reverse, List.length_replicate, List.length_append, List.length_cons, List.length_nil, List.length_map]; omega)) only [push_cast, ↓reduceIte, reduceIte, reduceCtorEq, Nat.reduceAdd, Nat.reduceLT, Nat.reduceEqDiff, Nat.reduceLeDiff, Int.reduceAdd, Int.reduceLT, Int.reduceLE, Nat.reduceMul, b0, b2, b3, b4, b5, b6, e2]
    ·obtain rfl : i = 16 := by omega
     have et : (rowA (fullRow tt 16)).take 16 = rowA (fullRow tt 16) := List.take_of_length_le (by omega)
     repeat' (first|(first|(refine a0_ ?_; first|refine a1_ rfl rfl ?_|refine a2_ rfl ?_|refine a3_ rfl rfl ?_|refine a4_ rfl ?_|refine a5_ rfl rfl rfl ?_|refine a6_ rfl rfl ?_)|(refine g0_ ?_; first|refine g1_ rfl ?_|refine g2_ rfl rfl ?_|refine go_draw (dr := allQ) rfl rfl mixed (by first|assumption|kernel_rfl) ?_|refine g4_ rfl ?_|refine g5_ rfl ?_|refine g6_ rfl ?_|refine g7_ rfl ?_|refine g8_ rfl ?_)|(refine o0_ ?_; first|refine o1_ ?_|refine o2_ ?_|refine o3_ ?_|refine o4_ ?_|refine o5_ ?_|refine o6_ rfl ?_|refine o7_ rfl ?_|refine o8_ ?_|refine o9_ ?_|refine oa_ ?_|refine ob_ ?_|refine oc_ ?_|refine od_ ?_|refine oe_ ?_|refine of_ ?_|refine og_ ?_))|refine at_go ?_|(with_reducible refine And.intro (at_go ?_) (at_go ?_))|((with_reducible refine And.intro (fun h => ?_) (fun h => ?_)) <;> try (exfalso; omega))|(with_reducible refine And.intro (by first|omega|(simp only [maxLen]; omega)) ?_)|fail|simp (disch := first|omega|(simp only [length_rowsA, length_rowA, List.length_set, List.length_reverse, List.length_replicate, List.length_append, List.length_cons, List.length_nil, List.length_map]; omega)) only [push_cast, ↓reduceIte, reduceIte, reduceCtorEq, Nat.reduceAdd, Nat.reduceLT, Nat.reduceEqDiff, Nat.reduceLeDiff, Int.reduceAdd, Int.reduceLT, Int.reduceLE, Nat.reduceMul, b0, b2, b3, b4, b5, b6, e2, e0])
     refine out_round_frz (64 - (s + 1)) 3 (j := 3) rfl (by omega) (by (first|trivial|((repeat' apply And.intro) <;> first|trivial|assumption|omega|(simp only [maxLen]; omega)|(simp only [length_rowsA, length_rowA, List.length_replicate, List.length_append, List.length_cons, List.length_nil, List.length_map, List.length_take, List.length_drop, List.length_set, List.length_reverse, maxLen] <;> omega)))) (by omega) (by simp [frzH]) (by simp [frzH, frzB, frz, Blk.below, idsE, idsL, AV.ids, map_frz, deadRow, e2, et]) ⟨s + 1, by omega, rfl, ?_, ?_⟩
     ·rw [e1]
      simp [frzH, frzB, frz, map_frz, e2, et]
      simp [rowsA]
     ·simp (disch := first|omega|(simp only [length_rowsA, length_rowA, List.length_set, List.length_reverse, List.length_replicate, List.length_append, List.length_cons, List.length_nil, List.length_map]; omega)) only [push_cast, ↓reduceIte, reduceIte, reduceCtorEq, Nat.reduceAdd, Nat.reduceLT, Nat.reduceEqDiff, Nat.reduceLeDiff, Int.reduceAdd, Int.reduceLT, Int.reduceLE, Nat.reduceMul, b0, b2, b3, b4, b5, b6, scrub, frz, AV.ids, idsL]
  ·obtain rfl : s = 64 := by omega
   repeat' (first|(first|(refine a0_ ?_; first|refine a1_ rfl rfl ?_|refine a2_ rfl ?_|refine a3_ rfl rfl ?_|refine a4_ rfl ?_|refine a5_ rfl rfl rfl ?_|refine a6_ rfl rfl ?_)|(refine g0_ ?_; first|refine g1_ rfl ?_|refine g2_ rfl rfl ?_|refine go_draw (dr := allQ) rfl rfl mixed (by first|assumption|kernel_rfl) ?_|refine g4_ rfl ?_|refine g5_ rfl ?_|refine g6_ rfl ?_|refine g7_ rfl ?_|refine g8_ rfl ?_)|(refine o0_ ?_; first|refine o1_ ?_|refine o2_ ?_|refine o3_ ?_|refine o4_ ?_|refine o5_ ?_|refine o6_ rfl ?_|refine o7_ rfl ?_|refine o8_ ?_|refine o9_ ?_|refine oa_ ?_|refine ob_ ?_|refine oc_ ?_|refine od_ ?_|refine oe_ ?_|refine of_ ?_|refine og_ ?_))|refine at_go ?_|(with_reducible refine And.intro (at_go ?_) (at_go ?_))|((with_reducible refine And.intro (fun h => ?_) (fun h => ?_)) <;> try (exfalso; omega))|(with_reducible refine And.intro (by first|omega|(simp only [maxLen]; omega)) ?_)|fail|simp (disch := first|omega|(simp only [length_rowsA, length_rowA, List.length_set, List.length_reverse, List.length_replicate, List.length_append, List.length_cons, List.length_nil, List.length_map]; omega)) only [push_cast, ↓reduceIte, reduceIte, reduceCtorEq, Nat.reduceAdd, Nat.reduceLT, Nat.reduceEqDiff, Nat.reduceLeDiff, Int.reduceAdd, Int.reduceLT, Int.reduceLE, Nat.reduceMul, b0, b2, b3, b4, e0])
theorem full_ok {tt : Int} (h : 0 ≤ tt ∧ tt ≤ 63) : machOk 16 16 (fullRows tt 64) = 0 := by
 refine machOk_of (by omega) (by omega) (by rw [fullRows_len]; omega) (fun s hs => ?_) fun j hj => ?_
 ·rw [fullRows_len] at hs
  simp [fullRows, hs, fullRow_len]
 ·rw [fullRows_len] at hj
  have e : ((fullRows tt 64).getD j ([], none)).1 = fullRow tt 16 := by simp [fullRows, hj]
  rw [e, List.all_eq_true, fullRows_len]
  intro x hx
  obtain ⟨i, hi, rfl⟩ := List.mem_map.1 hx
  have := List.mem_range.1 hi
  rw [fitE_iff]
  right
  dsimp only
  omega
theorem full_edges (tt : Int) : ∀ {s i : Nat}, s < 64 → i < 16 → edgeM (fullRows tt 64) s i = (tt, (i : Int)) := fun {s i} hs hi => by
 rw [edgeM, if_neg (by rw [fullRows_len]; omega)]
 simp [fullRows, hs, fullRow, hi]
theorem flat_const {α : Type} (f : Nat → List α) (c : Nat) : ∀ n, (∀ s, s < n → (f s).length = c) → ((List.range n).flatMap f).length = n * c
 | 0, _ => by simp
 | n + 1, h => by
  rw [List.range_succ, List.flatMap_append, List.length_append, flat_const f c n fun s hs => h s (by omega)]
  simp [h n (by omega), Nat.succ_mul]
theorem full_row (s : Nat) (hs : s < 64) : (diffRow (fullRows 63 64) (fullRows 62 64) 16 s).length = 16 := by
 unfold diffRow
 rw [List.filter_eq_self.2]
 ·simp
 ·intro x hx
  obtain ⟨i, hi, rfl⟩ := List.mem_map.1 hx
  have hi := List.mem_range.1 hi
  simp [differs, diffAt, full_edges _ hs hi]
theorem full_diff : (diffM 16 16 (fullRows 63 64) 16 (fullRows 62 64)).ed.length = 1024 := by
 show (diffEds _ _ (max (fullRows 63 64).length (fullRows 62 64).length) 16).length = 1024
 rw [fullRows_len, fullRows_len, diffEds]
 exact flat_const _ 16 64 fun s hs => full_row s hs
end Go.Proofs
namespace Go.Proofs
open Go Go.V
set_option linter.unusedVariables false
set_option linter.unusedSimpArgs false
set_option maxHeartbeats 0
def knownT : List Bs := [[], [112, 97, 116, 99, 104, 32, 49, 32, 49, 32, 49, 32, 49, 32, 49], [112, 97, 116, 99, 104, 32, 49, 32, 49, 32, 49, 32, 49, 32, 49, 10], [112, 97, 116, 99, 104, 32, 49, 32, 49, 32, 49, 32, 49, 10], [112, 97, 116, 99, 104, 32, 49, 32, 49, 32, 49, 32, 49, 32, 49, 32, 49, 10], [112, 97, 116, 99, 104, 32, 32, 49, 32, 49, 32, 49, 32, 49, 32, 49, 10], [112, 97, 116, 99, 104, 32, 48, 49, 32, 49, 32, 49, 32, 49, 32, 49, 10], [112, 97, 116, 99, 104, 32, 49, 55, 32, 49, 32, 49, 32, 49, 32, 49, 10], [112, 97, 116, 99, 104, 32, 49, 32, 49, 32, 49, 32, 49, 32, 54, 53, 10], [112, 97, 116, 99, 104, 32, 49, 32, 49, 32, 49, 32, 49, 32, 49, 10, 48, 32, 48, 58, 32, 45, 32, 45, 62, 32, 48, 47, 48, 10], [112, 97, 116, 99, 104, 32, 49, 32, 49, 32, 49, 32, 49, 32, 49, 10, 48, 32, 48, 58, 32, 48, 47, 48, 32, 45, 62, 32, 45, 10], [112, 97, 116, 99, 104, 32, 49, 32, 49, 32, 49, 32, 49, 32, 49, 10, 48, 32, 48, 58, 32, 45, 32, 45, 62, 32, 45, 10], [112, 97, 116, 99, 104, 32, 49, 32, 49, 32, 49, 32, 49, 32, 49, 10, 48, 32, 48, 58, 32, 45, 32, 45, 62, 32, 49, 47, 48, 10], [112, 97, 116, 99, 104, 32, 49, 32, 49, 32, 49, 32, 49, 32, 50, 10, 49, 32, 48, 58, 32, 45, 32, 45, 62, 32, 49, 47, 48, 10], [112, 97, 116, 99, 104, 32, 49, 32, 49, 32, 49, 32, 50, 32, 49, 10, 49, 32, 48, 58, 32, 45, 32, 45, 62, 32, 49, 47, 48, 10], [112, 97, 116, 99, 104, 32, 49, 32, 49, 32, 49, 32, 49, 32, 49, 10, 48, 32, 48, 32, 58, 32, 45, 32, 45, 62, 32, 48, 47, 48, 10], [112, 97, 116, 99, 104, 32, 49, 32, 49, 32, 49, 32, 49, 32, 49, 10, 48, 32, 48, 58, 32, 45, 32, 45, 32, 48, 47, 48, 10], [112, 97, 116, 99, 104, 32, 49, 32, 49, 32, 49, 32, 49, 32, 49, 10, 48, 32, 48, 58, 32, 45, 32, 45, 62, 32, 48, 47, 48], [112, 97, 116, 99, 104, 32, 49, 32, 49, 32, 49, 32, 49, 32, 49, 10, 48, 32, 48, 58, 32, 45, 32, 45, 62, 32, 48, 47, 48, 10, 10], [112, 97, 116, 99, 104, 32, 50, 32, 49, 32, 49, 32, 49, 32, 49, 10, 48, 32, 49, 58, 32, 45, 32, 45, 62, 32, 48, 47, 48, 10, 48, 32, 48, 58, 32, 45, 32, 45, 62, 32, 48, 47, 48, 10], [112, 97, 116, 99, 104, 32, 49, 32, 49, 32, 49, 32, 49, 32, 49, 10, 48, 32, 48, 58, 32, 45, 32, 45, 62, 32, 48, 47, 48, 47, 48, 10]]
def knownL : List Int := [1, 1, 0, 1, 1, 1, 1, 0, 0, 0, 0, 0, 0, 0, 0, 2, 2, 2, 3, 0, 2]
def knownE : List Int := [4, 4, 0, 4, 4, 4, 4, 1, 1, 0, 0, 1, 1, 0, 1, 4, 4, 4, 4, 1, 4]
set_option maxRecDepth 100000 in
theorem known_all : (knownT.map fun t => (parseD t).2) = knownL.zip knownE := by kernel_rfl
theorem known_at (k : Nat) (h : k < 21) : (parseD (knownT.getD k [])).2 = (knownL.getD k 0, knownE.getD k 0) := by
 have h1 := congrArg (fun l => l[k]?) known_all
 have e1 : knownT.length = 21 := rfl
 have e2 : knownL.length = 21 := rfl
 have e3 : knownE.length = 21 := rfl
 simp only [List.getElem?_map, List.getElem?_eq_getElem (show k < knownT.length by omega), Option.map_some] at h1
 have h2 : (knownL.zip knownE)[k]? = some (knownL.getD k 0, knownE.getD k 0) := by
  rw [List.getElem?_zip_eq_some]
  exact ⟨by simp [show k < knownL.length by omega], by simp [show k < knownE.length by omega]⟩
 rw [h2] at h1
 injection h1 with h1
 rw [← h1]
 simp [show k < knownT.length by omega]
theorem known_len (k : Nat) (h : k < 21) : (knownT.getD k []).length ≤ 65536 := by
 have : ∀ t ∈ knownT, t.length ≤ 65536 := by decide
 have e1 : knownT.length = 21 := rfl
 rw [List.getD_eq_getElem?_getD, List.getElem?_eq_getElem (by omega), Option.getD_some]
 exact this _ (List.getElem_mem _)
set_option maxRecDepth 100000 in
theorem law4k : PC Tryz.prog G0 4 [] (.bool true) := by
 have hm := full_ok (tt := 63) (by omega)
 have hn := full_ok (tt := 62) (by omega)
 have h1 := full12 63
 have h2 := full12 62
 have h3 := diff_ok 16 16 (fullRows 63 64) none 16 (fullRows 62 64) none hm hn
 have hc := diffM_ok hm hn
 have hl := full_diff
 have h6 := fun d => apply_diff 16 16 16 (fullRows 63 64) (fullRows 62 64) none d hm hn
 have h7 := same_mach 16 16 (fullRows 62 64) (rowsI (edgesOf (fullRows 62 64)) 16) (some 64) none hn (edgesOf_rowsI _ _)
 rw [fullRows_len, show (16 : Int).toNat = 16 from rfl] at h6
 generalize rowsI (edgesOf (fullRows 62 64)) 16 = rr at *
 generalize diffM 16 16 (fullRows 63 64) 16 (fullRows 62 64) = p at *
 have h4 := text47 p 6 (some p.ed.length) (.inr rfl) (by omega)
 rw [if_pos hc] at h4
 have h5 := parse8 (textP p) (text_len hc (by omega))
 rw [text_read hc (by omega)] at h5
 dsimp only at h5
 have h6 := h6 (some p.ed.length)
 have h9 := lives16
 rw [hl] at h3 h4 h5 h6
 generalize fullRows 63 64 = ra at *
 generalize fullRows 62 64 = rb at *
 generalize textP p = tp at *
 unfold mA pA at *
 refine pc_go 0 99 [.tmp 0] Tryz.func4 rfl rfl rfl (by simp) ?_
 intro s hz
 clear hz
 repeat' (first|(first|(refine a0_ ?_; first|refine a1_ rfl rfl ?_|refine a2_ rfl ?_|refine a3_ rfl rfl ?_|refine a4_ rfl ?_|refine a5_ rfl rfl rfl ?_|refine a6_ rfl rfl ?_)|(refine g0_ ?_; first|refine g1_ rfl ?_|refine g2_ rfl rfl ?_|refine go_drawN (dr := allQ) (p := [0, 1, 1, 1, 1]) [] [] [(6, 7)] rfl rfl mixed (by kernel_rfl) ?_|refine go_draw (dr := allQ) rfl rfl mixed (by first|assumption|kernel_rfl) ?_|refine g4_ rfl ?_|refine g5_ rfl ?_|refine g6_ rfl ?_|refine g7_ rfl ?_|refine g8_ rfl ?_)|(refine o0_ ?_; first|refine o1_ ?_|refine o2_ ?_|refine o3_ ?_|refine o4_ ?_|refine o5_ ?_|refine o6_ rfl ?_|refine o7_ rfl ?_|refine o8_ ?_|refine o9_ ?_|refine oa_ ?_|refine ob_ ?_|refine oc_ ?_|refine od_ ?_|refine oe_ ?_|refine of_ ?_|refine og_ ?_))|refine at_go ?_|(with_reducible refine And.intro (at_go ?_) (at_go ?_))|((with_reducible refine And.intro (fun h => ?_) (fun h => ?_)) <;> try (exfalso; omega))|(with_reducible refine And.intro (by first|omega|(simp only [maxLen]; omega)) ?_)|(first|(refine ⟨_, _, pc_lift (h1) (by (simp [idsL, idsE, AV.ids, Nat.add_zero])) _, ?_⟩)|(refine ⟨_, pc_lift (h1) (by (simp [idsL, idsE, AV.ids, Nat.add_zero])) _, ?_⟩)|(refine ⟨_, fun _ => pc_lift (h1) (by (simp [idsL, idsE, AV.ids, Nat.add_zero])) _, ?_⟩)|(refine ⟨_, _, pc_lift (h2) (by (simp [idsL, idsE, AV.ids, Nat.add_zero])) _, ?_⟩)|(refine ⟨_, pc_lift (h2) (by (simp [idsL, idsE, AV.ids, Nat.add_zero])) _, ?_⟩)|(refine ⟨_, fun _ => pc_lift (h2) (by (simp [idsL, idsE, AV.ids, Nat.add_zero])) _, ?_⟩)|(refine ⟨_, _, pc_lift (h3) (by (simp [idsL, idsE, AV.ids, Nat.add_zero])) _, ?_⟩)|(refine ⟨_, pc_lift (h3) (by (simp [idsL, idsE, AV.ids, Nat.add_zero])) _, ?_⟩)|(refine ⟨_, fun _ => pc_lift (h3) (by (simp [idsL, idsE, AV.ids, Nat.add_zero])) _, ?_⟩)|(refine ⟨_, _, pc_lift (h4) (by (simp [idsL, idsE, AV.ids, Nat.add_zero])) _, ?_⟩)|(refine ⟨_, pc_lift (h4) (by (simp [idsL, idsE, AV.ids, Nat.add_zero])) _, ?_⟩)|(refine ⟨_, fun _ => pc_lift (h4) (by (simp [idsL, idsE, AV.ids, Nat.add_zero])) _, ?_⟩)|(refine ⟨_, _, pc_lift (h5) (by (simp [idsL, idsE, AV.ids, Nat.add_zero])) _, ?_⟩)|(refine ⟨_, pc_lift (h5) (by (simp [idsL, idsE, AV.ids, Nat.add_zero])) _, ?_⟩)|(refine ⟨_, fun _ => pc_lift (h5) (by (simp [idsL, idsE, AV.ids, Nat.add_zero])) _, ?_⟩)|(refine ⟨_, _, pc_lift (h6) (by (simp [idsL, idsE, AV.ids, Nat.add_zero])) _, ?_⟩)|(refine ⟨_, pc_lift (h6) (by (simp [idsL, idsE, AV.ids, Nat.add_zero])) _, ?_⟩)|(refine ⟨_, fun _ => pc_lift (h6) (by (simp [idsL, idsE, AV.ids, Nat.add_zero])) _, ?_⟩)|(refine ⟨_, _, pc_lift (h7) (by (simp [idsL, idsE, AV.ids, Nat.add_zero])) _, ?_⟩)|(refine ⟨_, pc_lift (h7) (by (simp [idsL, idsE, AV.ids, Nat.add_zero])) _, ?_⟩)|(refine ⟨_, fun _ => pc_lift (h7) (by (simp [idsL, idsE, AV.ids, Nat.add_zero])) _, ?_⟩)|(refine ⟨_, _, pc_lift (h9) (by (simp [idsL, idsE, AV.ids, Nat.add_zero])) _, ?_⟩)|(refine ⟨_, pc_lift (h9) (by (simp [idsL, idsE, AV.ids, Nat.add_zero])) _, ?_⟩)|(refine ⟨_, fun _ => pc_lift (h9) (by (simp [idsL, idsE, AV.ids, Nat.add_zero])) _, ?_⟩))|simp (disch := first|omega|(simp only [length_ints, length_strs, length_edsA, List.length_set, List.length_reverse, List.length_replicate, List.length_append, List.length_cons, List.length_nil, List.length_map]; omega)) only [push_cast, ↓reduceIte, reduceIte, reduceCtorEq, Nat.reduceAdd, Nat.reduceLT, Nat.reduceEqDiff, Nat.reduceLeDiff, Int.reduceAdd, Int.reduceLT, Int.reduceLE, Nat.reduceMul, hl])
 refine go_weak (by (first|trivial|((repeat' apply And.intro) <;> first|trivial|assumption|omega|(simp only [maxLen]; omega)|(simp only [length_ints, length_strs, length_edsA, List.length_replicate, List.length_append, List.length_cons, List.length_nil, List.length_map, List.length_take, List.length_drop, List.length_set, List.length_reverse, maxLen] <;> omega)))) (Weak.refl _ _) ?_
 refine go_loop rfl (fun mz s' H' => ∃ k : Nat, k ≤ 21 ∧ mz = 21 - k ∧ H' = [.row 6 36 [[.int .i64 p.inp, .int .i64 p.o0, .int .i64 p.o1, .int .i64 p.s0, .int .i64 p.s1, .sl 6 (edsA p.ed) (some 1024)]], .row 6 36 [[.int .i64 p.inp, .int .i64 p.o0, .int .i64 p.o1, .int .i64 p.s0, .int .i64 p.s1, .sl 6 (edsA p.ed) (some 1024)]], .row 3 30 [[.int .i64 16, .int .i64 16, .sl 1 (rowsA rr) (some 64)]]] ∧ s' 10 = .sl 1 (strs knownT) (some 21) ∧ s' 11 = .sl 1 (ints knownL) (some 21) ∧ s' 12 = .sl 1 (ints knownE) (some 21) ∧ s' 13 = .int .i64 k) (m := 21) (by (first|trivial|((repeat' apply And.intro) <;> first|trivial|assumption|omega|(simp only [maxLen]; omega)|(simp only [length_ints, length_strs, length_edsA, List.length_replicate, List.length_append, List.length_cons, List.length_nil, List.length_map, List.length_take, List.length_drop, List.length_set, List.length_reverse, maxLen] <;> omega)))) (Weak.refl _ _) ⟨0, by omega, by omega, rfl, ?_⟩ ?_
 ·simp (disch := first|omega|(simp only [length_ints, length_strs, length_edsA, List.length_set, List.length_reverse, List.length_replicate, List.length_append, List.length_cons, List.length_nil, List.length_map]; omega)) only [push_cast, ↓reduceIte, reduceIte, reduceCtorEq, Nat.reduceAdd, Nat.reduceLT, Nat.reduceEqDiff, Nat.reduceLeDiff, Int.reduceAdd, Int.reduceLT, Int.reduceLE, Nat.reduceMul, hl]
  exact ⟨rfl, rfl, rfl⟩
 ·rintro mz s' H' ⟨k, hk, rfl, rfl, b10, b11, b12, b13⟩
  have l1 : knownT.length = 21 := rfl
  have l2 : knownL.length = 21 := rfl
  have l3 : knownE.length = 21 := rfl
  rcases Nat.lt_or_ge k 21 with hlt|hge
  ·have g1 := strs_getD knownT k (by omega)
   have g2 := getD_ints knownL k (by omega)
   have g3 := getD_ints knownE k (by omega)
   have g4 := parse8 (knownT.getD k []) (known_len k hlt)
   rw [known_at k hlt] at g4
   dsimp only at g4
   generalize knownT.getD k [] = t at *
   generalize knownL.getD k 0 = a at *
   generalize knownE.getD k 0 = b at *
   generalize (parseD t).1 = Q at *
   unfold pA at g4
   repeat' (first|(first|(refine a0_ ?_; first|refine a1_ rfl rfl ?_|refine a2_ rfl ?_|refine a3_ rfl rfl ?_|refine a4_ rfl ?_|refine a5_ rfl rfl rfl ?_|refine a6_ rfl rfl ?_)|(refine g0_ ?_; first|refine g1_ rfl ?_|refine g2_ rfl rfl ?_|refine go_drawN (dr := allQ) (p := [0, 1, 1, 1, 1]) [] [] [(6, 7)] rfl rfl mixed (by kernel_rfl) ?_|refine go_draw (dr := allQ) rfl rfl mixed (by first|assumption|kernel_rfl) ?_|refine g4_ rfl ?_|refine g5_ rfl ?_|refine g6_ rfl ?_|refine g7_ rfl ?_|refine g8_ rfl ?_)|(refine o0_ ?_; first|refine o1_ ?_|refine o2_ ?_|refine o3_ ?_|refine o4_ ?_|refine o5_ ?_|refine o6_ rfl ?_|refine o7_ rfl ?_|refine o8_ ?_|refine o9_ ?_|refine oa_ ?_|refine ob_ ?_|refine oc_ ?_|refine od_ ?_|refine oe_ ?_|refine of_ ?_|refine og_ ?_))|refine at_go ?_|(with_reducible refine And.intro (at_go ?_) (at_go ?_))|((with_reducible refine And.intro (fun h => ?_) (fun h => ?_)) <;> try (exfalso; omega))|(with_reducible refine And.intro (by first|omega|(simp only [maxLen]; omega)) ?_)|(first|(refine ⟨_, _, pc_lift (g4) (by (simp [idsL, idsE, AV.ids, Nat.add_zero])) _, ?_⟩)|(refine ⟨_, pc_lift (g4) (by (simp [idsL, idsE, AV.ids, Nat.add_zero])) _, ?_⟩)|(refine ⟨_, fun _ => pc_lift (g4) (by (simp [idsL, idsE, AV.ids, Nat.add_zero])) _, ?_⟩))|simp (disch := first|omega|(simp only [length_ints, length_strs, length_edsA, List.length_set, List.length_reverse, List.length_replicate, List.length_append, List.length_cons, List.length_nil, List.length_map]; omega)) only [push_cast, ↓reduceIte, reduceIte, reduceCtorEq, Nat.reduceAdd, Nat.reduceLT, Nat.reduceEqDiff, Nat.reduceLeDiff, Int.reduceAdd, Int.reduceLT, Int.reduceLE, Nat.reduceMul, b10, b11, b12, b13, g1, g2, g3, l1, l2, l3])
   refine out_round_take (21 - (k + 1)) 3 (by omega) (by (first|trivial|((repeat' apply And.intro) <;> first|trivial|assumption|omega|(simp only [maxLen]; omega)|(simp only [length_ints, length_strs, length_edsA, List.length_replicate, List.length_append, List.length_cons, List.length_nil, List.length_map, List.length_take, List.length_drop, List.length_set, List.length_reverse, maxLen] <;> omega)))) (by omega) (by simp) (by simp [Blk.below, idsE, idsL, AV.ids]) ⟨k + 1, by omega, rfl, rfl, ?_⟩
   simp (disch := first|omega|(simp only [length_ints, length_strs, length_edsA, List.length_set, List.length_reverse, List.length_replicate, List.length_append, List.length_cons, List.length_nil, List.length_map]; omega)) only [push_cast, ↓reduceIte, reduceIte, reduceCtorEq, Nat.reduceAdd, Nat.reduceLT, Nat.reduceEqDiff, Nat.reduceLeDiff, Int.reduceAdd, Int.reduceLT, Int.reduceLE, Nat.reduceMul, b10, b11, b12, b13, scrub, AV.ids, idsL, idsE_strs, idsE_ints]
  ·obtain rfl : k = 21 := by omega
   repeat' (first|(first|(refine a0_ ?_; first|refine a1_ rfl rfl ?_|refine a2_ rfl ?_|refine a3_ rfl rfl ?_|refine a4_ rfl ?_|refine a5_ rfl rfl rfl ?_|refine a6_ rfl rfl ?_)|(refine g0_ ?_; first|refine g1_ rfl ?_|refine g2_ rfl rfl ?_|refine go_drawN (dr := allQ) (p := [0, 1, 1, 1, 1]) [] [] [(6, 7)] rfl rfl mixed (by kernel_rfl) ?_|refine go_draw (dr := allQ) rfl rfl mixed (by first|assumption|kernel_rfl) ?_|refine g4_ rfl ?_|refine g5_ rfl ?_|refine g6_ rfl ?_|refine g7_ rfl ?_|refine g8_ rfl ?_)|(refine o0_ ?_; first|refine o1_ ?_|refine o2_ ?_|refine o3_ ?_|refine o4_ ?_|refine o5_ ?_|refine o6_ rfl ?_|refine o7_ rfl ?_|refine o8_ ?_|refine o9_ ?_|refine oa_ ?_|refine ob_ ?_|refine oc_ ?_|refine od_ ?_|refine oe_ ?_|refine of_ ?_|refine og_ ?_))|refine at_go ?_|(with_reducible refine And.intro (at_go ?_) (at_go ?_))|((with_reducible refine And.intro (fun h => ?_) (fun h => ?_)) <;> try (exfalso; omega))|(with_reducible refine And.intro (by first|omega|(simp only [maxLen]; omega)) ?_)|(first|(refine ⟨_, _, pc_lift (h9) (by (simp [idsL, idsE, AV.ids, Nat.add_zero])) _, ?_⟩)|(refine ⟨_, pc_lift (h9) (by (simp [idsL, idsE, AV.ids, Nat.add_zero])) _, ?_⟩)|(refine ⟨_, fun _ => pc_lift (h9) (by (simp [idsL, idsE, AV.ids, Nat.add_zero])) _, ?_⟩))|simp (disch := first|omega|(simp only [length_ints, length_strs, length_edsA, List.length_set, List.length_reverse, List.length_replicate, List.length_append, List.length_cons, List.length_nil, List.length_map]; omega)) only [push_cast, ↓reduceIte, reduceIte, reduceCtorEq, Nat.reduceAdd, Nat.reduceLT, Nat.reduceEqDiff, Nat.reduceLeDiff, Int.reduceAdd, Int.reduceLT, Int.reduceLE, Nat.reduceMul, b10, b11, b12, b13, l1])
end Go.Proofs
