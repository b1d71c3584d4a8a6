import Derived.Test.YtjoldnonnjleoaaDoorW51
import Derived.Test.YtjoldnonnjleoaaDoorW29
import Derived.Test.YtjoldnonnjleoaaDoorW45
/- Words: WordsAll where there is nothing to yield; the words in their order; law 10: Known. -/
namespace Go.Proofs
open Go Go.V
set_option linter.unusedVariables false
set_option linter.unusedSimpArgs false
set_option maxHeartbeats 0
attribute [local push_cast] ofVal_nilF
set_option maxRecDepth 100000 in
theorem all61_bad (n m : Int) (h : ¬ (1 ≤ n ∧ n ≤ 16 ∧ 0 ≤ m ∧ m ≤ 256)) (x : Nat → List AV) : Iter Tryd.prog G0 61 [.iptr [.int .i64 n] 0, .iptr [.int .i64 m] 0] x 0 := by
  intro K b q stop hs1 hs2 hy hz
  cases stop with
  | true => exact absurd (hs1 rfl) (by omega)
  | false =>
    obtain rfl := hs2 rfl
    refine ac_go 33 [] Tryd.func61 rfl rfl rfl (by simp) ?_
    intro s ⟨a0, a1, a2, hz⟩
    simp only [Nat.zero_add, Nat.reduceAdd] at a1 a2
    clear hz
    repeat' (first | (first | (refine acc_id ?_; first | refine acc_pure rfl rfl ?_ | refine acc_end rfl ?_ | refine acc_eff rfl rfl ?_ | refine acc_call rfl ?_ | refine acc_gp rfl rfl rfl ?_ | refine acc_gc rfl rfl ?_) | (refine go_id ?_; first | refine go_seq rfl ?_ | refine go_region rfl rfl ?_ | refine go_draw (dr := allQ) rfl rfl mixed (by kernel_rfl) ?_ | refine go_cond rfl ?_ | refine go_block rfl ?_ | refine go_skip rfl ?_ | refine go_ret rfl ?_ | refine go_exit rfl ?_) | (refine out_id ?_; first | refine out_then ?_ | refine out_then_ret ?_ | refine out_then_exit ?_ | refine out_block_ret ?_ | refine out_block ?_ | refine out_block_exit rfl ?_ | refine out_block_exit' rfl ?_ | refine out_thenS_ret ?_ | refine out_thenS_exit ?_ | refine out_ret ?_ | refine out_normal ?_ | refine out_retH ?_ | refine out_normalH ?_ | refine out_end ?_)) | refine at_go ?_ | (with_reducible refine And.intro (at_go ?_) (at_go ?_)) | ((with_reducible refine And.intro (fun h => ?_) (fun h => ?_)) <;> try (exfalso; omega)) | (with_reducible refine And.intro (by omega) ?_) | fail | simp (disch := first | omega | (simp only [List.length_nil, List.length_set, List.length_reverse, List.length_replicate, List.length_append, List.length_cons, List.length_nil, List.length_map]; omega)) only [push_cast, ↓reduceIte, reduceIte, reduceCtorEq, Nat.reduceAdd, Nat.reduceLT, Nat.reduceEqDiff, Nat.reduceLeDiff, Int.reduceAdd, Int.reduceLT, Int.reduceLE, Nat.reduceMul, ti3, ti22, en37, en40, en51, a0, a1, a2])
def badH (n m : Int) (q : Nat) : List Blk := [.row 1 3 [[.int .i64 n]], .row 1 3 [[.int .i64 m]], .row 1 5 [[.int .u8 q]], .row 1 4 [[.bool false]], .row 1 3 [[.int .i64 0]], .row 1 22 [[.sl 0 [] (some 0)]]]
set_option maxRecDepth 100000 in
theorem all32_bad (n m : Int) (q : Nat) (h : ¬ (1 ≤ n ∧ n ≤ 16 ∧ 0 ≤ m ∧ m ≤ 256)) : PC Tryd.prog G0 32 [.int .i64 n, .int .i64 m, .int .u8 q] (.bool true) := by
  refine pc_go 0 124 [.cell 6 4] Tryd.func32 rfl rfl rfl (by simp) ?_
  intro s ⟨a0, a1, a2, hz⟩
  simp only [Nat.zero_add, Nat.reduceAdd] at a1 a2
  clear hz
  repeat' (first | (first | (refine acc_id ?_; first | refine acc_pure rfl rfl ?_ | refine acc_end rfl ?_ | refine acc_eff rfl rfl ?_ | refine acc_call rfl ?_ | refine acc_gp rfl rfl rfl ?_ | refine acc_gc rfl rfl ?_) | (refine go_id ?_; first | refine go_seq rfl ?_ | refine go_region rfl rfl ?_ | refine go_draw (dr := allQ) rfl rfl mixed (by kernel_rfl) ?_ | refine go_cond rfl ?_ | refine go_block rfl ?_ | refine go_skip rfl ?_ | refine go_ret rfl ?_ | refine go_exit rfl ?_) | (refine out_id ?_; first | refine out_then ?_ | refine out_then_ret ?_ | refine out_then_exit ?_ | refine out_block_ret ?_ | refine out_block ?_ | refine out_block_exit rfl ?_ | refine out_block_exit' rfl ?_ | refine out_thenS_ret ?_ | refine out_thenS_exit ?_ | refine out_ret ?_ | refine out_normal ?_ | refine out_retH ?_ | refine out_normalH ?_ | refine out_end ?_)) | refine at_go ?_ | (with_reducible refine And.intro (at_go ?_) (at_go ?_)) | ((with_reducible refine And.intro (fun h => ?_) (fun h => ?_)) <;> try (exfalso; omega)) | (with_reducible refine And.intro (by omega) ?_) | (first | (refine ⟨_, _, pc_lift (all49 n m) (by (simp [idsL, idsE, AV.ids, Nat.add_zero])) _, ?_⟩) | (refine ⟨_, pc_lift (all49 n m) (by (simp [idsL, idsE, AV.ids, Nat.add_zero])) _, ?_⟩) | (refine ⟨_, fun _ => pc_lift (all49 n m) (by (simp [idsL, idsE, AV.ids, Nat.add_zero])) _, ?_⟩)) | simp (disch := first | omega | (simp only [length_ints, List.length_set, List.length_reverse, List.length_replicate, List.length_append, List.length_cons, List.length_nil, List.length_map]; omega)) only [push_cast, ↓reduceIte, reduceIte, reduceCtorEq, Nat.reduceAdd, Nat.reduceLT, Nat.reduceEqDiff, Nat.reduceLeDiff, Int.reduceAdd, Int.reduceLT, Int.reduceLE, Nat.reduceMul, ti3, ti4, ti5, ti22, ti32, ti72, en16, en18, en24, en49, a0, a1, a2])
  have hit := all61_bad n m h (fun _ => [.bool true])
  have hbel : ∀ i : Nat, ((fun _ => badH n m q) i).all (Blk.below 6) = true := fun i => by simp [badH, Blk.below, idsE, idsL, AV.ids]
  refine go_rangeFunc (m := 0) (k := 6) .normal (fun _ => badH n m q) rfl trivial ?_ ?_ (by kernel_rfl) hit rfl rfl (fun i => rfl) hbel (fun i => ⟨rfl, rfl⟩) (fun h => by cases h) (fun _ => rfl) rfl (fun i hi => absurd hi (by omega)) (fun h => by cases h) ?_
  · simp (disch := first | omega | (simp only [length_ints, List.length_set, List.length_reverse, List.length_replicate, List.length_append, List.length_cons, List.length_nil, List.length_map]; omega)) only [push_cast, ↓reduceIte, reduceIte, reduceCtorEq, Nat.reduceAdd, Nat.reduceLT, Nat.reduceEqDiff, Nat.reduceLeDiff, Int.reduceAdd, Int.reduceLT, Int.reduceLE, Nat.reduceMul, ti3, ti4, ti5, ti22, ti32, ti72, en16, en18, en24, en49, a0, a1, a2]
  · simp (disch := first | omega | (simp only [length_ints, List.length_set, List.length_reverse, List.length_replicate, List.length_append, List.length_cons, List.length_nil, List.length_map]; omega)) only [push_cast, ↓reduceIte, reduceIte, reduceCtorEq, Nat.reduceAdd, Nat.reduceLT, Nat.reduceEqDiff, Nat.reduceLeDiff, Int.reduceAdd, Int.reduceLT, Int.reduceLE, Nat.reduceMul, ti3, ti4, ti5, ti22, ti32, ti72, en16, en18, en24, en49, a0, a1, a2]
  · unfold badH
    repeat' (first | (first | (refine acc_id ?_; first | refine acc_pure rfl rfl ?_ | refine acc_end rfl ?_ | refine acc_eff rfl rfl ?_ | refine acc_call rfl ?_ | refine acc_gp rfl rfl rfl ?_ | refine acc_gc rfl rfl ?_) | (refine go_id ?_; first | refine go_seq rfl ?_ | refine go_region rfl rfl ?_ | refine go_draw (dr := allQ) rfl rfl mixed (by kernel_rfl) ?_ | refine go_cond rfl ?_ | refine go_block rfl ?_ | refine go_skip rfl ?_ | refine go_ret rfl ?_ | refine go_exit rfl ?_) | (refine out_id ?_; first | refine out_then ?_ | refine out_then_ret ?_ | refine out_then_exit ?_ | refine out_block_ret ?_ | refine out_block ?_ | refine out_block_exit rfl ?_ | refine out_block_exit' rfl ?_ | refine out_thenS_ret ?_ | refine out_thenS_exit ?_ | refine out_ret ?_ | refine out_normal ?_ | refine out_retH ?_ | refine out_normalH ?_ | refine out_end ?_)) | refine at_go ?_ | (with_reducible refine And.intro (at_go ?_) (at_go ?_)) | ((with_reducible refine And.intro (fun h => ?_) (fun h => ?_)) <;> try (exfalso; omega)) | (with_reducible refine And.intro (by omega) ?_) | (first | (refine ⟨_, _, pc_lift (lives16) (by (simp [idsL, idsE, AV.ids, Nat.add_zero])) _, ?_⟩) | (refine ⟨_, pc_lift (lives16) (by (simp [idsL, idsE, AV.ids, Nat.add_zero])) _, ?_⟩) | (refine ⟨_, fun _ => pc_lift (lives16) (by (simp [idsL, idsE, AV.ids, Nat.add_zero])) _, ?_⟩)) | simp (disch := first | omega | (simp only [length_ints, List.length_set, List.length_reverse, List.length_replicate, List.length_append, List.length_cons, List.length_nil, List.length_map]; omega)) only [push_cast, ↓reduceIte, reduceIte, reduceCtorEq, Nat.reduceAdd, Nat.reduceLT, Nat.reduceEqDiff, Nat.reduceLeDiff, Int.reduceAdd, Int.reduceLT, Int.reduceLE, Nat.reduceMul, ti3, ti4, ti5, ti22, ti32, ti72, en16, en18, en24, en49, a0, a1, a2])
/-- The words over three inputs. -/
theorem seq_ok {n : Int} (hn : 1 ≤ n) : ∀ i, okW n (seqA n i)
  | 0 => fun x hx => by cases hx
  | i + 1 => (after_ok hn _ (seq_ok hn i)).1
theorem seq_rank {n : Int} (hn : 1 ≤ n) : ∀ i : Nat, rankA n 0 (seqA n i) = i
  | 0 => rfl
  | i + 1 => by rw [seqA, after_rank hn _ (seq_ok hn i), seq_rank hn i]; simp
theorem seq_len {n : Int} (hn : 1 ≤ n) : ∀ i : Nat, (seqA n i).length ≤ i
  | 0 => Nat.le_refl _
  | i + 1 => by have := (after_ok hn _ (seq_ok hn i)).2; have := seq_len hn i; rw [seqA]; omega
theorem seq_b {n : Int} (hn : 1 ≤ n) (hn2 : n ≤ 16) (i : Nat) : ∀ x ∈ seqA n i, 0 ≤ x ∧ x < 1000000 := fun x hx => by have := seq_ok hn i x hx; omega
theorem seq_next {n : Int} (hn : 1 ≤ n) (hn2 : n ≤ 16) (i : Nat) (h1 : (seqA n i).length ≤ 256) (h2 : (seqA n (i + 1)).length ≤ 256) : nextM (seqA n i) n = (seqA n (i + 1), 0) := by
  rw [nextM, if_neg (by rw [check_of_ok hn hn2 _ (seq_ok hn i) h1]; decide), if_neg (by rw [seqA] at h2; omega), seqA]
theorem len3 : ((List.range 121).all fun i => decide ((seqA 3 i).length ≤ 4)) = true := by kernel_rfl
theorem len3' : (seqA 3 121).length = 5 := by kernel_rfl
theorem len1 : ((List.range 257).all fun i => decide ((seqA 1 i).length ≤ 256)) = true := by kernel_rfl
theorem len1' : (seqA 1 257).length = 257 := by kernel_rfl
theorem cnt3 : cntR 3 4 300 0 0 1 = (121 : Nat) := by kernel_rfl
theorem cnt1 : cntR 1 256 300 0 0 1 = (201 : Nat) := by kernel_rfl
theorem l3 (i : Nat) (hi : i < 121) : (seqA 3 i).length ≤ 4 := of_decide_eq_true (List.all_eq_true.1 len3 i (List.mem_range.2 hi))
theorem l1 (i : Nat) (hi : i < 257) : (seqA 1 i).length ≤ 256 := of_decide_eq_true (List.all_eq_true.1 len1 i (List.mem_range.2 hi))
theorem known_a : PC Tryd.prog G0 32 [.int .i64 3, .int .i64 4, .int .u8 199] (.bool true) := by
  refine all32 3 4 199 121 (by omega) (by omega) (by omega) (fun i hi => by have := l3 i hi; omega) (by rw [len3']; omega) (fun i => seq_b (by omega) (by omega) i) (fun i hi _ => seq_next (by omega) (by omega) i (by have := l3 i hi; omega) ?_) (fun i hi _ => ?_) 121 cnt3 (by omega)
  · rcases Nat.lt_or_ge (i + 1) 121 with h | h
    · have := l3 (i + 1) h; omega
    · obtain rfl : i = 120 := by omega
      rw [len3']; omega
  · rcases Nat.lt_or_ge i 121 with h | h
    · have := l3 i h; omega
    · obtain rfl : i = 121 := by omega
      rw [len3']; omega
theorem known_b : PC Tryd.prog G0 32 [.int .i64 1, .int .i64 256, .int .u8 100] (.bool true) :=
  all32 1 256 100 257 (by omega) (by omega) (by omega) (fun i hi => by have := l1 i hi; omega) (by rw [len1']; omega) (fun i => seq_b (by omega) (by omega) i) (fun i hi h => seq_next (by omega) (by omega) i (l1 i hi) (l1 (i + 1) (by omega))) (fun i hi h => l1 i (by omega)) 201 cnt1 (by omega)
theorem known_c : PC Tryd.prog G0 32 [.int .i64 17, .int .i64 3, .int .u8 5] (.bool true) := all32_bad 17 3 5 (by omega)
theorem known_d : PC Tryd.prog G0 32 [.int .i64 2, .int .i64 (-1), .int .u8 5] (.bool true) := all32_bad 2 (-1) 5 (by omega)
end Go.Proofs
