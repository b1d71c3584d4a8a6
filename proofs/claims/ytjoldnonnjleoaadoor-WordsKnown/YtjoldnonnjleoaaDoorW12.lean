import Derived.Test.YtjoldnonnjleoaaDoorW8
import Derived.Test.YtjoldnonnjleoaaDoorWL
/- Words: comparisons of the library and of the program. -/
namespace Go.Proofs
open Go Go.V
set_option linter.unusedVariables false
set_option linter.unusedSimpArgs false
set_option maxHeartbeats 0
set_option maxRecDepth 100000 in
theorem isNaN50 (x : Int) : PC Tryd.prog G0 50 [.int .i64 x] (.bool false) := by
  refine pc_go 0 6 [.tmp 2] Tryd.func50 rfl rfl rfl (by simp) ?_
  intro s ⟨a0, hz⟩
  clear hz
  repeat' (first | (first | (refine acc_id ?_; first | refine acc_pure rfl rfl ?_ | refine acc_end rfl ?_ | refine acc_eff rfl rfl ?_ | refine acc_call rfl ?_ | refine acc_gp rfl rfl rfl ?_ | refine acc_gc rfl rfl ?_) | (refine go_id ?_; first | refine go_seq rfl ?_ | refine go_region rfl rfl ?_ | refine go_draw (dr := allQ) rfl rfl mixed (by kernel_rfl) ?_ | refine go_cond rfl ?_ | refine go_block rfl ?_ | refine go_skip rfl ?_ | refine go_ret rfl ?_ | refine go_exit rfl ?_) | (refine out_id ?_; first | refine out_then ?_ | refine out_then_ret ?_ | refine out_then_exit ?_ | refine out_block_ret ?_ | refine out_block ?_ | refine out_block_exit rfl ?_ | refine out_block_exit' rfl ?_ | refine out_thenS_ret ?_ | refine out_thenS_exit ?_ | refine out_ret ?_ | refine out_normal ?_ | refine out_retH ?_ | refine out_normalH ?_ | refine out_end ?_)) | refine at_go ?_ | (with_reducible refine And.intro (at_go ?_) (at_go ?_)) | ((with_reducible refine And.intro (fun h => ?_) (fun h => ?_)) <;> try (exfalso; omega)) | (with_reducible refine And.intro (by omega) ?_) | fail | simp (disch := first | omega | (simp only [length_ints, List.length_set, List.length_reverse, List.length_replicate, List.length_append, List.length_cons, List.length_nil, List.length_map]; omega)) only [push_cast, ↓reduceIte, reduceIte, reduceCtorEq, Nat.reduceAdd, Nat.reduceLT, Nat.reduceEqDiff, Nat.reduceLeDiff, Int.reduceAdd, Int.reduceLT, Int.reduceLE, Nat.reduceMul, ti3, ti4, ti22, a0])
def cmpI (x y : Int) : Int := if x < y then -1 else if y < x then 1 else 0
set_option maxRecDepth 100000 in
theorem cmp34 (x y : Int) : PC Tryd.prog G0 34 [.int .i64 x, .int .i64 y] (.int .i64 (cmpI x y)) := by
  refine pc_go 0 20 [.tmp 4] Tryd.func34 rfl rfl rfl (by simp) ?_
  intro s ⟨a0, a1, hz⟩
  simp only [Nat.zero_add] at a1
  clear hz
  repeat' (first | (first | (refine acc_id ?_; first | refine acc_pure rfl rfl ?_ | refine acc_end rfl ?_ | refine acc_eff rfl rfl ?_ | refine acc_call rfl ?_ | refine acc_gp rfl rfl rfl ?_ | refine acc_gc rfl rfl ?_) | (refine go_id ?_; first | refine go_seq rfl ?_ | refine go_region rfl rfl ?_ | refine go_draw (dr := allQ) rfl rfl mixed (by kernel_rfl) ?_ | refine go_cond rfl ?_ | refine go_block rfl ?_ | refine go_skip rfl ?_ | refine go_ret rfl ?_ | refine go_exit rfl ?_) | (refine out_id ?_; first | refine out_then ?_ | refine out_then_ret ?_ | refine out_then_exit ?_ | refine out_block_ret ?_ | refine out_block ?_ | refine out_block_exit rfl ?_ | refine out_block_exit' rfl ?_ | refine out_thenS_ret ?_ | refine out_thenS_exit ?_ | refine out_ret ?_ | refine out_normal ?_ | refine out_retH ?_ | refine out_normalH ?_ | refine out_end ?_)) | refine at_go ?_ | (with_reducible refine And.intro (at_go ?_) (at_go ?_)) | ((with_reducible refine And.intro (fun h => ?_) (fun h => ?_)) <;> try (exfalso; omega)) | (with_reducible refine And.intro (by omega) ?_) | (refine ⟨_, _, pc_lift (isNaN50 _) (by simp [idsL, AV.ids]) _, ?_⟩) | simp (disch := first | omega | (simp only [length_ints, List.length_set, List.length_reverse, List.length_replicate, List.length_append, List.length_cons, List.length_nil, List.length_map]; omega)) only [push_cast, ↓reduceIte, reduceIte, reduceCtorEq, Nat.reduceAdd, Nat.reduceLT, Nat.reduceEqDiff, Nat.reduceLeDiff, Int.reduceAdd, Int.reduceLT, Int.reduceLE, Nat.reduceMul, ti3, ti4, ti22, a0, a1, en50])
  · rw [cmpI, if_pos h]
  · rename_i h1; rw [cmpI, if_neg h1, if_pos h]
  · rename_i h1; rw [cmpI, if_neg h1, if_neg h]
/-- The first number that is not 0. -/
def orM : List Int → Int
  | [] => 0
  | x :: xs => if x = 0 then orM xs else x
set_option maxRecDepth 100000 in
theorem or33 (xs : List Int) (c : Option Nat) (hx : xs.length ≤ 1000000) : PC Tryd.prog G0 33 [.sl 1 (ints xs) c] (.int .i64 (orM xs)) := by
  refine pc_go 0 18 [.tmp 2] Tryd.func33 rfl rfl rfl (by simp) ?_
  intro s ⟨a0, hz⟩
  clear hz
  repeat' (first | (first | (refine acc_id ?_; first | refine acc_pure rfl rfl ?_ | refine acc_end rfl ?_ | refine acc_eff rfl rfl ?_ | refine acc_call rfl ?_ | refine acc_gp rfl rfl rfl ?_ | refine acc_gc rfl rfl ?_) | (refine go_id ?_; first | refine go_seq rfl ?_ | refine go_region rfl rfl ?_ | refine go_draw (dr := allQ) rfl rfl mixed (by kernel_rfl) ?_ | refine go_cond rfl ?_ | refine go_block rfl ?_ | refine go_skip rfl ?_ | refine go_ret rfl ?_ | refine go_exit rfl ?_) | (refine out_id ?_; first | refine out_then ?_ | refine out_then_ret ?_ | refine out_then_exit ?_ | refine out_block_ret ?_ | refine out_block ?_ | refine out_block_exit rfl ?_ | refine out_block_exit' rfl ?_ | refine out_thenS_ret ?_ | refine out_thenS_exit ?_ | refine out_ret ?_ | refine out_normal ?_ | refine out_retH ?_ | refine out_normalH ?_ | refine out_end ?_)) | refine at_go ?_ | (with_reducible refine And.intro (at_go ?_) (at_go ?_)) | ((with_reducible refine And.intro (fun h => ?_) (fun h => ?_)) <;> try (exfalso; omega)) | (with_reducible refine And.intro (by omega) ?_) | fail | simp (disch := first | omega | (simp only [length_ints, List.length_set, List.length_reverse, List.length_replicate, List.length_append, List.length_cons, List.length_nil, List.length_map]; omega)) only [push_cast, ↓reduceIte, reduceIte, reduceCtorEq, Nat.reduceAdd, Nat.reduceLT, Nat.reduceEqDiff, Nat.reduceLeDiff, Int.reduceAdd, Int.reduceLT, Int.reduceLE, Nat.reduceMul, ti3, ti4, ti22, a0, length_ints, getD_ints, wrap64])
  refine go_loop rfl (fun m s H => ∃ k, k ≤ xs.length ∧ m = xs.length - k ∧ H = [] ∧ s 3 = .int .i64 0 ∧ s 6 = .sl 1 (ints xs) c ∧ s 7 = .int .i64 xs.length ∧ s 8 = .int .i64 (k : Int) ∧ orM xs = orM (xs.drop k)) trivial (Weak.refl _ _) ⟨0, by omega, rfl, rfl, ?_⟩ ?_
  · (simp (disch := first | omega | (simp only [length_ints, List.length_set, List.length_reverse, List.length_replicate, List.length_append, List.length_cons, List.length_nil, List.length_map]; omega)) only [push_cast, ↓reduceIte, reduceIte, reduceCtorEq, Nat.reduceAdd, Nat.reduceLT, Nat.reduceEqDiff, Nat.reduceLeDiff, Int.reduceAdd, Int.reduceLT, Int.reduceLE, Nat.reduceMul, ti3, ti4, ti22, a0, length_ints, getD_ints, wrap64]) <;> (first | rfl | exact ⟨rfl, rfl⟩ | omega | (congr 1; omega) | (simp; done) | ((repeat' apply And.intro) <;> first | rfl | omega | (congr 1; omega)))
  · rintro m s H ⟨k, hk, rfl, rfl, a3, a6, a7, a8, hm⟩
    repeat' (first | (first | (refine acc_id ?_; first | refine acc_pure rfl rfl ?_ | refine acc_end rfl ?_ | refine acc_eff rfl rfl ?_ | refine acc_call rfl ?_ | refine acc_gp rfl rfl rfl ?_ | refine acc_gc rfl rfl ?_) | (refine go_id ?_; first | refine go_seq rfl ?_ | refine go_region rfl rfl ?_ | refine go_draw (dr := allQ) rfl rfl mixed (by kernel_rfl) ?_ | refine go_cond rfl ?_ | refine go_block rfl ?_ | refine go_skip rfl ?_ | refine go_ret rfl ?_ | refine go_exit rfl ?_) | (refine out_id ?_; first | refine out_then ?_ | refine out_then_ret ?_ | refine out_then_exit ?_ | refine out_block_ret ?_ | refine out_block ?_ | refine out_block_exit rfl ?_ | refine out_block_exit' rfl ?_ | refine out_thenS_ret ?_ | refine out_thenS_exit ?_ | refine out_ret ?_ | refine out_normal ?_ | refine out_retH ?_ | refine out_normalH ?_ | refine out_end ?_)) | refine at_go ?_ | (with_reducible refine And.intro (at_go ?_) (at_go ?_)) | ((with_reducible refine And.intro (fun h => ?_) (fun h => ?_)) <;> try (exfalso; omega)) | (with_reducible refine And.intro (by omega) ?_) | fail | simp (disch := first | omega | (simp only [length_ints, List.length_set, List.length_reverse, List.length_replicate, List.length_append, List.length_cons, List.length_nil, List.length_map]; omega)) only [push_cast, ↓reduceIte, reduceIte, reduceCtorEq, Nat.reduceAdd, Nat.reduceLT, Nat.reduceEqDiff, Nat.reduceLeDiff, Int.reduceAdd, Int.reduceLT, Int.reduceLE, Nat.reduceMul, ti3, ti4, ti22, a3, a6, a7, a8, length_ints, getD_ints, wrap64])
    · have h2 := drop_getD xs k (by omega)
      rw [hm, h2, orM, if_neg h]
    · have h2 := drop_getD xs k (by omega)
      refine out_thenS ⟨by first | trivial | omega, xs.length - (k + 1), _, _, by omega, Weak.refl _ _, k + 1, by omega, rfl, rfl, ?_⟩
      simp (disch := first | omega | (simp only [length_ints, List.length_set, List.length_reverse, List.length_replicate, List.length_append, List.length_cons, List.length_nil, List.length_map]; omega)) only [push_cast, ↓reduceIte, reduceIte, reduceCtorEq, Nat.reduceAdd, Nat.reduceLT, Nat.reduceEqDiff, Nat.reduceLeDiff, Int.reduceAdd, Int.reduceLT, Int.reduceLE, Nat.reduceMul, ti3, ti4, ti22, a3, a6, a7, a8, length_ints, getD_ints, wrap64]
      rw [hm, h2, orM, if_pos h]
    · have : k = xs.length := by omega
      subst this
      rw [hm, List.drop_length]
      rfl

def scM : List Int → List Int → Int
  | [], [] => 0
  | [], _ :: _ => -1
  | _ :: _, [] => 1
  | x :: xs, y :: ys => if cmpI x y = 0 then scM xs ys else cmpI x y
set_option maxRecDepth 100000 in
theorem compare35 (xs ys : List Int) (c d : Option Nat) (hx : xs.length ≤ 1000000) (hy : ys.length ≤ 1000000) : PC Tryd.prog G0 35 [.sl 1 (ints xs) c, .sl 1 (ints ys) d] (.int .i64 (scM xs ys)) := by
  refine pc_go 0 36 [.tmp 4] Tryd.func35 rfl rfl rfl (by simp) ?_
  intro s ⟨a0, a1, hz⟩
  simp only [Nat.zero_add] at a1
  clear hz
  repeat' (first | (first | (refine acc_id ?_; first | refine acc_pure rfl rfl ?_ | refine acc_end rfl ?_ | refine acc_eff rfl rfl ?_ | refine acc_call rfl ?_ | refine acc_gp rfl rfl rfl ?_ | refine acc_gc rfl rfl ?_) | (refine go_id ?_; first | refine go_seq rfl ?_ | refine go_region rfl rfl ?_ | refine go_draw (dr := allQ) rfl rfl mixed (by kernel_rfl) ?_ | refine go_cond rfl ?_ | refine go_block rfl ?_ | refine go_skip rfl ?_ | refine go_ret rfl ?_ | refine go_exit rfl ?_) | (refine out_id ?_; first | refine out_then ?_ | refine out_then_ret ?_ | refine out_then_exit ?_ | refine out_block_ret ?_ | refine out_block ?_ | refine out_block_exit rfl ?_ | refine out_block_exit' rfl ?_ | refine out_thenS_ret ?_ | refine out_thenS_exit ?_ | refine out_ret ?_ | refine out_normal ?_ | refine out_retH ?_ | refine out_normalH ?_ | refine out_end ?_)) | refine at_go ?_ | (with_reducible refine And.intro (at_go ?_) (at_go ?_)) | ((with_reducible refine And.intro (fun h => ?_) (fun h => ?_)) <;> try (exfalso; omega)) | (with_reducible refine And.intro (by omega) ?_) | fail | simp (disch := first | omega | (simp only [length_ints, List.length_set, List.length_reverse, List.length_replicate, List.length_append, List.length_cons, List.length_nil, List.length_map]; omega)) only [push_cast, ↓reduceIte, reduceIte, reduceCtorEq, Nat.reduceAdd, Nat.reduceLT, Nat.reduceEqDiff, Nat.reduceLeDiff, Int.reduceAdd, Int.reduceLT, Int.reduceLE, Nat.reduceMul, ti3, ti4, ti22, a0, a1, length_ints, getD_ints, wrap64])
  refine go_loop rfl (fun m s H => ∃ k, k ≤ xs.length ∧ k ≤ ys.length ∧ m = xs.length - k ∧ H = [] ∧ s 0 = .sl 1 (ints xs) c ∧ s 1 = .sl 1 (ints ys) d ∧ s 9 = .sl 1 (ints xs) c ∧ s 10 = .int .i64 xs.length ∧ s 11 = .int .i64 (k : Int) ∧ scM xs ys = scM (xs.drop k) (ys.drop k)) trivial (Weak.refl _ _) ⟨0, by omega, by omega, rfl, rfl, ?_⟩ ?_
  · (simp (disch := first | omega | (simp only [length_ints, List.length_set, List.length_reverse, List.length_replicate, List.length_append, List.length_cons, List.length_nil, List.length_map]; omega)) only [push_cast, ↓reduceIte, reduceIte, reduceCtorEq, Nat.reduceAdd, Nat.reduceLT, Nat.reduceEqDiff, Nat.reduceLeDiff, Int.reduceAdd, Int.reduceLT, Int.reduceLE, Nat.reduceMul, ti3, ti4, ti22, a0, a1, length_ints, getD_ints, wrap64]) <;> (first | rfl | exact ⟨rfl, rfl⟩ | omega | (congr 1; omega) | (simp; done) | ((repeat' apply And.intro) <;> first | rfl | omega | (congr 1; omega)))
  · rintro m s H ⟨k, hk, hk2, rfl, rfl, a0, a1, a9, a10, a11, hm⟩
    repeat' (first | (first | (refine acc_id ?_; first | refine acc_pure rfl rfl ?_ | refine acc_end rfl ?_ | refine acc_eff rfl rfl ?_ | refine acc_call rfl ?_ | refine acc_gp rfl rfl rfl ?_ | refine acc_gc rfl rfl ?_) | (refine go_id ?_; first | refine go_seq rfl ?_ | refine go_region rfl rfl ?_ | refine go_draw (dr := allQ) rfl rfl mixed (by kernel_rfl) ?_ | refine go_cond rfl ?_ | refine go_block rfl ?_ | refine go_skip rfl ?_ | refine go_ret rfl ?_ | refine go_exit rfl ?_) | (refine out_id ?_; first | refine out_then ?_ | refine out_then_ret ?_ | refine out_then_exit ?_ | refine out_block_ret ?_ | refine out_block ?_ | refine out_block_exit rfl ?_ | refine out_block_exit' rfl ?_ | refine out_thenS_ret ?_ | refine out_thenS_exit ?_ | refine out_ret ?_ | refine out_normal ?_ | refine out_retH ?_ | refine out_normalH ?_ | refine out_end ?_)) | refine at_go ?_ | (with_reducible refine And.intro (at_go ?_) (at_go ?_)) | ((with_reducible refine And.intro (fun h => ?_) (fun h => ?_)) <;> try (exfalso; omega)) | (with_reducible refine And.intro (by omega) ?_) | (refine ⟨_, _, pc_lift (cmp34 _ _) (by simp [idsL, AV.ids]) _, ?_⟩) | simp (disch := first | omega | (simp only [length_ints, List.length_set, List.length_reverse, List.length_replicate, List.length_append, List.length_cons, List.length_nil, List.length_map]; omega)) only [push_cast, ↓reduceIte, reduceIte, reduceCtorEq, Nat.reduceAdd, Nat.reduceLT, Nat.reduceEqDiff, Nat.reduceLeDiff, Int.reduceAdd, Int.reduceLT, Int.reduceLE, Nat.reduceMul, ti3, ti4, ti22, a0, a1, a9, a10, a11, length_ints, getD_ints, wrap64, en34])
    · have h2 := drop_getD xs k (by omega)
      have h3 : ys.drop k = [] := List.drop_eq_nil_of_le h
      rw [hm, h2, h3]; rfl
    · have h2 := drop_getD xs k (by omega)
      have h3 := drop_getD ys k (by omega)
      rw [hm, h2, h3, scM, if_neg h]
    · have h2 := drop_getD xs k (by omega)
      have h3 := drop_getD ys k (by omega)
      refine out_thenS ⟨trivial, xs.length - (k + 1), _, _, by omega, Weak.refl _ _, k + 1, by omega, by omega, rfl, rfl, ?_⟩
      simp (disch := first | omega | (simp only [length_ints, List.length_set, List.length_reverse, List.length_replicate, List.length_append, List.length_cons, List.length_nil, List.length_map]; omega)) only [push_cast, ↓reduceIte, reduceIte, reduceCtorEq, Nat.reduceAdd, Nat.reduceLT, Nat.reduceEqDiff, Nat.reduceLeDiff, Int.reduceAdd, Int.reduceLT, Int.reduceLE, Nat.reduceMul, ti3, ti4, ti22, a0, a1, a9, a10, a11, length_ints, getD_ints, wrap64, en34]
      rw [hm, h2, h3, scM, if_pos h]
    · have h1 : xs.drop k = [] := List.drop_eq_nil_of_le (by omega)
      have h3 := drop_getD ys k (by omega)
      rw [hm, h1, h3]; rfl
    · have h1 : xs.drop k = [] := List.drop_eq_nil_of_le (by omega)
      have h3 : ys.drop k = [] := List.drop_eq_nil_of_le (by omega)
      rw [hm, h1, h3]; rfl

theorem cons2 (x y : Int) : [[AV.int .i64 x], [AV.int .i64 y]] = ints [x, y] := rfl
set_option maxRecDepth 100000 in
theorem wCompare (xs ys : List Int) (c d : Option Nat) (hx : xs.length ≤ 1000000) (hy : ys.length ≤ 1000000) : PC Tryd.prog G0 11 [.sl 1 (ints xs) c, .sl 1 (ints ys) d] (.int .i64 (orM [cmpI xs.length ys.length, scM xs ys])) := by
  refine pc_go 0 15 [.tmp 4] Tryd.func11 rfl rfl rfl (by simp) ?_
  intro s ⟨a0, a1, hz⟩
  simp only [Nat.zero_add] at a1
  clear hz
  repeat' (first | (first | (refine acc_id ?_; first | refine acc_pure rfl rfl ?_ | refine acc_end rfl ?_ | refine acc_eff rfl rfl ?_ | refine acc_call rfl ?_ | refine acc_gp rfl rfl rfl ?_ | refine acc_gc rfl rfl ?_) | (refine go_id ?_; first | refine go_seq rfl ?_ | refine go_region rfl rfl ?_ | refine go_draw (dr := allQ) rfl rfl mixed (by kernel_rfl) ?_ | refine go_cond rfl ?_ | refine go_block rfl ?_ | refine go_skip rfl ?_ | refine go_ret rfl ?_ | refine go_exit rfl ?_) | (refine out_id ?_; first | refine out_then ?_ | refine out_then_ret ?_ | refine out_then_exit ?_ | refine out_block_ret ?_ | refine out_block ?_ | refine out_block_exit rfl ?_ | refine out_block_exit' rfl ?_ | refine out_thenS_ret ?_ | refine out_thenS_exit ?_ | refine out_ret ?_ | refine out_normal ?_ | refine out_retH ?_ | refine out_normalH ?_ | refine out_end ?_)) | refine at_go ?_ | (with_reducible refine And.intro (at_go ?_) (at_go ?_)) | ((with_reducible refine And.intro (fun h => ?_) (fun h => ?_)) <;> try (exfalso; omega)) | (with_reducible refine And.intro (by omega) ?_) | (first | (refine ⟨_, _, pc_lift (cmp34 _ _) (by simp [idsL, AV.ids]) _, ?_⟩) | (refine ⟨_, _, pc_lift (compare35 xs ys c d hx hy) (by simp [idsL, AV.ids, idsE_ints]) _, ?_⟩) | (refine ⟨_, _, pc_lift (or33 [cmpI xs.length ys.length, scM xs ys] _ (by simp)) (by simp [idsL, AV.ids, idsE_ints]) _, ?_⟩)) | simp (disch := first | omega | (simp only [length_ints, List.length_set, List.length_reverse, List.length_replicate, List.length_append, List.length_cons, List.length_nil, List.length_map]; omega)) only [push_cast, ↓reduceIte, reduceIte, reduceCtorEq, Nat.reduceAdd, Nat.reduceLT, Nat.reduceEqDiff, Nat.reduceLeDiff, Int.reduceAdd, Int.reduceLT, Int.reduceLE, Nat.reduceMul, ti3, ti4, ti22, a0, a1, length_ints, en33, en34, en35])

def eqM (xs ys : List Int) : Bool := decide (xs = ys)
set_option maxRecDepth 100000 in
theorem equal36 (xs ys : List Int) (c d : Option Nat) (hx : xs.length ≤ 1000000) (hy : ys.length ≤ 1000000) : PC Tryd.prog G0 36 [.sl 1 (ints xs) c, .sl 1 (ints ys) d] (.bool (eqM xs ys)) := by
  refine pc_go 0 26 [.tmp 4] Tryd.func36 rfl rfl rfl (by simp) ?_
  intro s ⟨a0, a1, hz⟩
  simp only [Nat.zero_add] at a1
  clear hz
  repeat' (first | (first | (refine acc_id ?_; first | refine acc_pure rfl rfl ?_ | refine acc_end rfl ?_ | refine acc_eff rfl rfl ?_ | refine acc_call rfl ?_ | refine acc_gp rfl rfl rfl ?_ | refine acc_gc rfl rfl ?_) | (refine go_id ?_; first | refine go_seq rfl ?_ | refine go_region rfl rfl ?_ | refine go_draw (dr := allQ) rfl rfl mixed (by kernel_rfl) ?_ | refine go_cond rfl ?_ | refine go_block rfl ?_ | refine go_skip rfl ?_ | refine go_ret rfl ?_ | refine go_exit rfl ?_) | (refine out_id ?_; first | refine out_then ?_ | refine out_then_ret ?_ | refine out_then_exit ?_ | refine out_block_ret ?_ | refine out_block ?_ | refine out_block_exit rfl ?_ | refine out_block_exit' rfl ?_ | refine out_thenS_ret ?_ | refine out_thenS_exit ?_ | refine out_ret ?_ | refine out_normal ?_ | refine out_retH ?_ | refine out_normalH ?_ | refine out_end ?_)) | refine at_go ?_ | (with_reducible refine And.intro (at_go ?_) (at_go ?_)) | ((with_reducible refine And.intro (fun h => ?_) (fun h => ?_)) <;> try (exfalso; omega)) | (with_reducible refine And.intro (by omega) ?_) | fail | simp (disch := first | omega | (simp only [length_ints, List.length_set, List.length_reverse, List.length_replicate, List.length_append, List.length_cons, List.length_nil, List.length_map]; omega)) only [push_cast, ↓reduceIte, reduceIte, reduceCtorEq, Nat.reduceAdd, Nat.reduceLT, Nat.reduceEqDiff, Nat.reduceLeDiff, Int.reduceAdd, Int.reduceLT, Int.reduceLE, Nat.reduceMul, ti3, ti4, ti22, a0, a1, length_ints, getD_ints, wrap64])
  · rw [eqM, decide_eq_false (fun q => h (by rw [q]))]
  · refine go_loop rfl (fun m s H => ∃ k, k ≤ xs.length ∧ m = xs.length - k ∧ H = [] ∧ s 0 = .sl 1 (ints xs) c ∧ s 1 = .sl 1 (ints ys) d ∧ s 12 = .int .i64 xs.length ∧ s 13 = .int .i64 (k : Int) ∧ (xs = ys ↔ xs.drop k = ys.drop k)) trivial (Weak.refl _ _) ⟨0, by omega, rfl, rfl, ?_⟩ ?_
    · (simp (disch := first | omega | (simp only [length_ints, List.length_set, List.length_reverse, List.length_replicate, List.length_append, List.length_cons, List.length_nil, List.length_map]; omega)) only [push_cast, ↓reduceIte, reduceIte, reduceCtorEq, Nat.reduceAdd, Nat.reduceLT, Nat.reduceEqDiff, Nat.reduceLeDiff, Int.reduceAdd, Int.reduceLT, Int.reduceLE, Nat.reduceMul, ti3, ti4, ti22, a0, a1, length_ints, getD_ints, wrap64]) <;> (first | rfl | exact ⟨rfl, rfl⟩ | omega | (congr 1; omega) | (simp; done) | ((repeat' apply And.intro) <;> first | rfl | omega | (congr 1; omega)))
    · rintro m s H ⟨k, hk, rfl, rfl, a0, a1, a12, a13, hm⟩
      repeat' (first | (first | (refine acc_id ?_; first | refine acc_pure rfl rfl ?_ | refine acc_end rfl ?_ | refine acc_eff rfl rfl ?_ | refine acc_call rfl ?_ | refine acc_gp rfl rfl rfl ?_ | refine acc_gc rfl rfl ?_) | (refine go_id ?_; first | refine go_seq rfl ?_ | refine go_region rfl rfl ?_ | refine go_draw (dr := allQ) rfl rfl mixed (by kernel_rfl) ?_ | refine go_cond rfl ?_ | refine go_block rfl ?_ | refine go_skip rfl ?_ | refine go_ret rfl ?_ | refine go_exit rfl ?_) | (refine out_id ?_; first | refine out_then ?_ | refine out_then_ret ?_ | refine out_then_exit ?_ | refine out_block_ret ?_ | refine out_block ?_ | refine out_block_exit rfl ?_ | refine out_block_exit' rfl ?_ | refine out_thenS_ret ?_ | refine out_thenS_exit ?_ | refine out_ret ?_ | refine out_normal ?_ | refine out_retH ?_ | refine out_normalH ?_ | refine out_end ?_)) | refine at_go ?_ | (with_reducible refine And.intro (at_go ?_) (at_go ?_)) | ((with_reducible refine And.intro (fun h => ?_) (fun h => ?_)) <;> try (exfalso; omega)) | (with_reducible refine And.intro (by omega) ?_) | fail | simp (disch := first | omega | (simp only [length_ints, List.length_set, List.length_reverse, List.length_replicate, List.length_append, List.length_cons, List.length_nil, List.length_map]; omega)) only [push_cast, ↓reduceIte, reduceIte, reduceCtorEq, Nat.reduceAdd, Nat.reduceLT, Nat.reduceEqDiff, Nat.reduceLeDiff, Int.reduceAdd, Int.reduceLT, Int.reduceLE, Nat.reduceMul, ti3, ti4, ti22, a0, a1, a12, a13, length_ints, getD_ints, wrap64])
      · have h2 := drop_getD xs k (by omega)
        have h3 := drop_getD ys k (by omega)
        rw [eqM, decide_eq_false]
        rw [hm, h2, h3]
        exact fun q => h (by injection q)
      · have h2 := drop_getD xs k (by omega)
        have h3 := drop_getD ys k (by omega)
        refine out_thenS ⟨trivial, xs.length - (k + 1), _, _, by omega, Weak.refl _ _, k + 1, by omega, rfl, rfl, ?_⟩
        simp (disch := first | omega | (simp only [length_ints, List.length_set, List.length_reverse, List.length_replicate, List.length_append, List.length_cons, List.length_nil, List.length_map]; omega)) only [push_cast, ↓reduceIte, reduceIte, reduceCtorEq, Nat.reduceAdd, Nat.reduceLT, Nat.reduceEqDiff, Nat.reduceLeDiff, Int.reduceAdd, Int.reduceLT, Int.reduceLE, Nat.reduceMul, ti3, ti4, ti22, a0, a1, a12, a13, length_ints, getD_ints, wrap64]
        rw [hm, h2, h3, h]
        simp
      · rw [eqM, decide_eq_true]
        rw [hm, List.drop_eq_nil_of_le (by omega), List.drop_eq_nil_of_le (by omega)]

/-- Whether xs is a prefix of ys. -/
def wprefM (xs ys : List Int) : Bool := decide (xs.length ≤ ys.length) && eqM xs (ys.take xs.length)
theorem take_ints (xs : List Int) (k : Nat) : (ints xs).take k = ints (xs.take k) := by simp [ints, List.map_take]
set_option maxRecDepth 100000 in
theorem wPrefix (xs ys : List Int) (c d : Option Nat) (hx : xs.length ≤ 1000000) (hy : ys.length ≤ 1000000) : PC Tryd.prog G0 13 [.sl 1 (ints xs) c, .sl 1 (ints ys) d] (.bool (wprefM xs ys)) := by
  refine pc_go 0 18 [.tmp 4] Tryd.func13 rfl rfl rfl (by simp) ?_
  intro s ⟨a0, a1, hz⟩
  simp only [Nat.zero_add] at a1
  clear hz
  repeat' (first | (first | (refine acc_id ?_; first | refine acc_pure rfl rfl ?_ | refine acc_end rfl ?_ | refine acc_eff rfl rfl ?_ | refine acc_call rfl ?_ | refine acc_gp rfl rfl rfl ?_ | refine acc_gc rfl rfl ?_) | (refine go_id ?_; first | refine go_seq rfl ?_ | refine go_region rfl rfl ?_ | refine go_draw (dr := allQ) rfl rfl mixed (by kernel_rfl) ?_ | refine go_cond rfl ?_ | refine go_block rfl ?_ | refine go_skip rfl ?_ | refine go_ret rfl ?_ | refine go_exit rfl ?_) | (refine out_id ?_; first | refine out_then ?_ | refine out_then_ret ?_ | refine out_then_exit ?_ | refine out_block_ret ?_ | refine out_block ?_ | refine out_block_exit rfl ?_ | refine out_block_exit' rfl ?_ | refine out_thenS_ret ?_ | refine out_thenS_exit ?_ | refine out_ret ?_ | refine out_normal ?_ | refine out_retH ?_ | refine out_normalH ?_ | refine out_end ?_)) | refine at_go ?_ | (with_reducible refine And.intro (at_go ?_) (at_go ?_)) | ((with_reducible refine And.intro (fun h => ?_) (fun h => ?_)) <;> try (exfalso; omega)) | (with_reducible refine And.intro (by omega) ?_) | (refine ⟨_, fun _ => pc_lift (equal36 xs (ys.take xs.length) c _ hx (by simp; omega)) (by simp [idsL, AV.ids, idsE_ints]) _, ?_⟩) | simp (disch := first | omega | (simp only [length_ints, List.length_take, List.length_set, List.length_reverse, List.length_replicate, List.length_append, List.length_cons, List.length_nil, List.length_map]; omega)) only [push_cast, ↓reduceIte, reduceIte, reduceCtorEq, Nat.reduceAdd, Nat.reduceLT, Nat.reduceEqDiff, Nat.reduceLeDiff, Int.reduceAdd, Int.reduceLT, Int.reduceLE, Nat.reduceMul, ti3, ti4, ti22, a0, a1, length_ints, take_ints, en36, idsE_ints])
  rfl
end Go.Proofs
/- Words: small functions of package slices. -/
namespace Go.Proofs
open Go Go.V
set_option linter.unusedVariables false
set_option linter.unusedSimpArgs false
set_option maxHeartbeats 0
set_option maxRecDepth 100000
theorem clip40_own (b n h : Nat) (t : TypeId) (es : List (List AV)) (c : Option Nat) (H : List Blk) (hb : H[b]? = some (.row 1 t es)) (hh : h = es.length) : ACalls Tryd.prog G0 40 [.own b n h c] H (.own b n h (some n)) H := by
  subst hh
  refine ac_go 9 [.tmp 2] Tryd.func40 rfl rfl rfl (by simp) ?_
  intro s ⟨a0, hz⟩
  clear hz
  repeat' (first | (first | (refine acc_id ?_; first | refine acc_pure rfl rfl ?_ | refine acc_end rfl ?_ | refine acc_eff rfl rfl ?_ | refine acc_call rfl ?_ | refine acc_gp rfl rfl rfl ?_ | refine acc_gc rfl rfl ?_) | (refine go_id ?_; first | refine go_seq rfl ?_ | refine go_region rfl rfl ?_ | refine go_draw (dr := allQ) rfl rfl mixed (by kernel_rfl) ?_ | refine go_cond rfl ?_ | refine go_block rfl ?_ | refine go_skip rfl ?_ | refine go_ret rfl ?_ | refine go_exit rfl ?_) | (refine out_id ?_; first | refine out_then ?_ | refine out_then_ret ?_ | refine out_then_exit ?_ | refine out_block_ret ?_ | refine out_block ?_ | refine out_block_exit rfl ?_ | refine out_block_exit' rfl ?_ | refine out_thenS_ret ?_ | refine out_thenS_exit ?_ | refine out_ret ?_ | refine out_normal ?_ | refine out_retH ?_ | refine out_normalH ?_ | refine out_end ?_)) | refine at_go ?_ | (with_reducible refine And.intro (at_go ?_) (at_go ?_)) | ((with_reducible refine And.intro (fun h => ?_) (fun h => ?_)) <;> try (exfalso; omega)) | (with_reducible refine And.intro (by omega) ?_) | fail | simp (disch := first | omega | (simp only [length_ints, List.length_set, List.length_reverse, List.length_replicate, List.length_append, List.length_cons, List.length_nil, List.length_map]; omega)) only [push_cast, ↓reduceIte, reduceIte, reduceCtorEq, Nat.reduceAdd, Nat.reduceLT, Nat.reduceEqDiff, Nat.reduceLeDiff, Int.reduceAdd, Int.reduceLT, Int.reduceLE, Nat.reduceMul, ti3, ti22, a0, hb])
theorem clip40 (s : Nat) (es : List (List AV)) (c : Option Nat) (H : List Blk) (hs : es = [] ∨ s = 1) : ACalls Tryd.prog G0 40 [.sl s es c] H (.sl s es (some es.length)) H := by
  rcases hs with rfl | rfl
  · refine ac_go 9 [.tmp 2] Tryd.func40 rfl rfl rfl (by simp) ?_
    intro s ⟨a0, hz⟩
    clear hz
    repeat' (first | (first | (refine acc_id ?_; first | refine acc_pure rfl rfl ?_ | refine acc_end rfl ?_ | refine acc_eff rfl rfl ?_ | refine acc_call rfl ?_ | refine acc_gp rfl rfl rfl ?_ | refine acc_gc rfl rfl ?_) | (refine go_id ?_; first | refine go_seq rfl ?_ | refine go_region rfl rfl ?_ | refine go_draw (dr := allQ) rfl rfl mixed (by kernel_rfl) ?_ | refine go_cond rfl ?_ | refine go_block rfl ?_ | refine go_skip rfl ?_ | refine go_ret rfl ?_ | refine go_exit rfl ?_) | (refine out_id ?_; first | refine out_then ?_ | refine out_then_ret ?_ | refine out_then_exit ?_ | refine out_block_ret ?_ | refine out_block ?_ | refine out_block_exit rfl ?_ | refine out_block_exit' rfl ?_ | refine out_thenS_ret ?_ | refine out_thenS_exit ?_ | refine out_ret ?_ | refine out_normal ?_ | refine out_retH ?_ | refine out_normalH ?_ | refine out_end ?_)) | refine at_go ?_ | (with_reducible refine And.intro (at_go ?_) (at_go ?_)) | ((with_reducible refine And.intro (fun h => ?_) (fun h => ?_)) <;> try (exfalso; omega)) | (with_reducible refine And.intro (by omega) ?_) | fail | simp (disch := first | omega | (simp only [length_ints, List.length_set, List.length_reverse, List.length_replicate, List.length_append, List.length_cons, List.length_nil, List.length_map]; omega)) only [push_cast, ↓reduceIte, reduceIte, reduceCtorEq, Nat.reduceAdd, Nat.reduceLT, Nat.reduceEqDiff, Nat.reduceLeDiff, Int.reduceAdd, Int.reduceLT, Int.reduceLE, Nat.reduceMul, ti3, ti22, a0])
  · refine ac_go 9 [.tmp 2] Tryd.func40 rfl rfl rfl (by simp) ?_
    intro s ⟨a0, hz⟩
    clear hz
    repeat' (first | (first | (refine acc_id ?_; first | refine acc_pure rfl rfl ?_ | refine acc_end rfl ?_ | refine acc_eff rfl rfl ?_ | refine acc_call rfl ?_ | refine acc_gp rfl rfl rfl ?_ | refine acc_gc rfl rfl ?_) | (refine go_id ?_; first | refine go_seq rfl ?_ | refine go_region rfl rfl ?_ | refine go_draw (dr := allQ) rfl rfl mixed (by kernel_rfl) ?_ | refine go_cond rfl ?_ | refine go_block rfl ?_ | refine go_skip rfl ?_ | refine go_ret rfl ?_ | refine go_exit rfl ?_) | (refine out_id ?_; first | refine out_then ?_ | refine out_then_ret ?_ | refine out_then_exit ?_ | refine out_block_ret ?_ | refine out_block ?_ | refine out_block_exit rfl ?_ | refine out_block_exit' rfl ?_ | refine out_thenS_ret ?_ | refine out_thenS_exit ?_ | refine out_ret ?_ | refine out_normal ?_ | refine out_retH ?_ | refine out_normalH ?_ | refine out_end ?_)) | refine at_go ?_ | (with_reducible refine And.intro (at_go ?_) (at_go ?_)) | ((with_reducible refine And.intro (fun h => ?_) (fun h => ?_)) <;> try (exfalso; omega)) | (with_reducible refine And.intro (by omega) ?_) | fail | simp (disch := first | omega | (simp only [length_ints, List.length_set, List.length_reverse, List.length_replicate, List.length_append, List.length_cons, List.length_nil, List.length_map]; omega)) only [push_cast, ↓reduceIte, reduceIte, reduceCtorEq, Nat.reduceAdd, Nat.reduceLT, Nat.reduceEqDiff, Nat.reduceLeDiff, Int.reduceAdd, Int.reduceLT, Int.reduceLE, Nat.reduceMul, ti3, ti22, a0])
end Go.Proofs
/- Words: slices.Reverse, slices.Clone. -/
namespace Go.Proofs
open Go Go.V
set_option linter.unusedVariables false
set_option linter.unusedSimpArgs false
set_option maxHeartbeats 0
set_option maxRecDepth 100000
theorem set_ints (xs : List Int) (i : Nat) (v : Int) : (ints xs).set i [.int .i64 v] = ints (xs.set i v) := by simp [ints, List.map_set]
/-- The first k and the last k numbers have changed places. -/
def revK (xs : List Int) (k : Nat) : List Int := (List.range xs.length).map fun m => if m < k ∨ xs.length ≤ m + k then xs.getD (xs.length - 1 - m) 0 else xs.getD m 0
theorem revK_length (xs : List Int) (k : Nat) : (revK xs k).length = xs.length := by simp [revK]
theorem revK_getD (xs : List Int) (k m : Nat) (h : m < xs.length) : (revK xs k).getD m 0 = if m < k ∨ xs.length ≤ m + k then xs.getD (xs.length - 1 - m) 0 else xs.getD m 0 := by
  simp [revK, h]
theorem revK_zero (xs : List Int) : revK xs 0 = xs := by
  apply List.ext_getElem
  · simp [revK]
  · intro i h1 h2
    simp only [revK, List.getElem_map, List.getElem_range]
    rw [if_neg (by omega)]; simp [h2]
theorem revK_step (xs : List Int) (k : Nat) (h : 2 * k + 1 < xs.length) :
    ((revK xs k).set k ((revK xs k).getD (xs.length - 1 - k) 0)).set (xs.length - 1 - k) ((revK xs k).getD k 0) = revK xs (k + 1) := by
  rw [revK_getD _ _ _ (by omega), revK_getD _ _ _ (by omega), if_neg (by omega), if_neg (by omega)]
  apply List.ext_getElem
  · simp [revK]
  · intro i h1 h2
    simp only [revK_length] at h2
    have e1 : (revK xs k)[i]? = some (if i < k ∨ xs.length ≤ i + k then xs.getD (xs.length - 1 - i) 0 else xs.getD i 0) := by simp [revK, h2]
    rw [List.getElem_set, List.getElem_set]
    have e2 : (revK xs (k + 1))[i]'(by simpa [revK_length] using h2) = if i < k + 1 ∨ xs.length ≤ i + (k + 1) then xs.getD (xs.length - 1 - i) 0 else xs.getD i 0 := by simp [revK]
    rw [e2]
    by_cases c1 : xs.length - 1 - k = i
    · rw [if_pos c1, if_pos (by omega)]
      congr 1; omega
    · rw [if_neg c1]
      by_cases c2 : k = i
      · rw [if_pos c2, if_pos (by omega)]
        congr 1; omega
      · rw [if_neg c2]
        have e3 : (revK xs k)[i]'(by simpa [revK_length] using h2) = if i < k ∨ xs.length ≤ i + k then xs.getD (xs.length - 1 - i) 0 else xs.getD i 0 := by simp [revK]
        rw [e3]
        by_cases c3 : i < k ∨ xs.length ≤ i + k
        · rw [if_pos c3, if_pos (by omega)]
        · rw [if_neg c3, if_neg (by omega)]
theorem revK_end (xs : List Int) (k : Nat) (h : xs.length ≤ 2 * k + 1) : revK xs k = xs.reverse := by
  apply List.ext_getElem
  · simp [revK]
  · intro i h1 h2
    have hi : i < xs.length := by simpa [revK_length] using h1
    have e2 : (revK xs k)[i]'h1 = if i < k ∨ xs.length ≤ i + k then xs.getD (xs.length - 1 - i) 0 else xs.getD i 0 := by simp [revK]
    rw [e2, List.getElem_reverse]
    by_cases c : i < k ∨ xs.length ≤ i + k
    · rw [if_pos c]
      have : xs.length - 1 - i < xs.length := by omega
      simp [this]
    · rw [if_neg c]
      have e : xs.length - 1 - i = i := by omega
      simp [e, hi]
theorem reverse39 (b : Nat) (t : TypeId) (xs : List Int) (c : Option Nat) (H : List Blk) (hb : H[b]? = some (.row 1 t (ints xs))) (hx : xs.length ≤ 1000000) : ACalls Tryd.prog G0 39 [.own b xs.length xs.length c] H (.tup []) (H.set b (.row 1 t (ints xs.reverse))) := by
  refine ac_go 28 [] Tryd.func39 rfl rfl rfl (by simp) ?_
  intro s ⟨a0, hz⟩
  clear hz
  have hlt : b < H.length := (List.getElem?_eq_some_iff.1 hb).1
  have hset : ∀ X, (H.set b X)[b]? = some X := fun X => List.getElem?_set_self hlt
  have hH : H.set b (.row 1 t (ints xs)) = H := by
    apply List.ext_getElem?; intro q
    by_cases e : q = b
    · subst e; rw [List.getElem?_set_self hlt, hb]
    · rw [List.getElem?_set_ne (Ne.symm e)]
  repeat' (first | (first | (refine acc_id ?_; first | refine acc_pure rfl rfl ?_ | refine acc_end rfl ?_ | refine acc_eff rfl rfl ?_ | refine acc_call rfl ?_ | refine acc_gp rfl rfl rfl ?_ | refine acc_gc rfl rfl ?_) | (refine go_id ?_; first | refine go_seq rfl ?_ | refine go_region rfl rfl ?_ | refine go_draw (dr := allQ) rfl rfl mixed (by kernel_rfl) ?_ | refine go_cond rfl ?_ | refine go_block rfl ?_ | refine go_skip rfl ?_ | refine go_ret rfl ?_ | refine go_exit rfl ?_) | (refine out_id ?_; first | refine out_then ?_ | refine out_then_ret ?_ | refine out_then_exit ?_ | refine out_block_ret ?_ | refine out_block ?_ | refine out_block_exit rfl ?_ | refine out_block_exit' rfl ?_ | refine out_thenS_ret ?_ | refine out_thenS_exit ?_ | refine out_ret ?_ | refine out_normal ?_ | refine out_retH ?_ | refine out_normalH ?_ | refine out_end ?_)) | refine at_go ?_ | (with_reducible refine And.intro (at_go ?_) (at_go ?_)) | ((with_reducible refine And.intro (fun h => ?_) (fun h => ?_)) <;> try (exfalso; omega)) | (with_reducible refine And.intro (by omega) ?_) | fail | simp (disch := first | omega | (simp only [length_ints, revK_length, List.length_set, List.length_reverse, List.length_replicate, List.length_append, List.length_cons, List.length_nil, List.length_map]; omega)) only [push_cast, ↓reduceIte, reduceIte, reduceCtorEq, Nat.reduceAdd, Nat.reduceLT, Nat.reduceEqDiff, Nat.reduceLeDiff, Int.reduceAdd, Int.reduceLT, Int.reduceLE, Nat.reduceMul, ti3, ti22, a0, hb, length_ints, getD_ints, wrap64])
  refine go_loop rfl (fun m s H' => ∃ k, 2 * k ≤ xs.length + 1 ∧ m = xs.length + 1 - 2 * k ∧ H' = H.set b (.row 1 t (ints (revK xs k))) ∧ s 0 = .own b xs.length xs.length c ∧ s 2 = .int .i64 (k : Int) ∧ s 3 = .int .i64 ((xs.length : Int) - 1 - k)) trivial (Weak.refl _ _) ⟨0, by omega, rfl, by rw [revK_zero, hH], ?_⟩ ?_
  · (simp (disch := first | omega | (simp only [length_ints, revK_length, List.length_set, List.length_reverse, List.length_replicate, List.length_append, List.length_cons, List.length_nil, List.length_map]; omega)) only [push_cast, ↓reduceIte, reduceIte, reduceCtorEq, Nat.reduceAdd, Nat.reduceLT, Nat.reduceEqDiff, Nat.reduceLeDiff, Int.reduceAdd, Int.reduceLT, Int.reduceLE, Nat.reduceMul, ti3, ti22, a0, hb, length_ints, getD_ints, wrap64]) <;> (first | rfl | exact ⟨rfl, rfl⟩ | omega | (congr 1; omega) | (simp; done) | ((repeat' apply And.intro) <;> first | rfl | omega | (congr 1; omega)))
  · rintro m s H' ⟨k, hk, rfl, rfl, a0, a2, a3⟩
    have e1 : ((xs.length : Int) - 1 - k).toNat = xs.length - 1 - k := by omega
    repeat' (first | (first | (refine acc_id ?_; first | refine acc_pure rfl rfl ?_ | refine acc_end rfl ?_ | refine acc_eff rfl rfl ?_ | refine acc_call rfl ?_ | refine acc_gp rfl rfl rfl ?_ | refine acc_gc rfl rfl ?_) | (refine go_id ?_; first | refine go_seq rfl ?_ | refine go_region rfl rfl ?_ | refine go_draw (dr := allQ) rfl rfl mixed (by kernel_rfl) ?_ | refine go_cond rfl ?_ | refine go_block rfl ?_ | refine go_skip rfl ?_ | refine go_ret rfl ?_ | refine go_exit rfl ?_) | (refine out_id ?_; first | refine out_then ?_ | refine out_then_ret ?_ | refine out_then_exit ?_ | refine out_block_ret ?_ | refine out_block ?_ | refine out_block_exit rfl ?_ | refine out_block_exit' rfl ?_ | refine out_thenS_ret ?_ | refine out_thenS_exit ?_ | refine out_ret ?_ | refine out_normal ?_ | refine out_retH ?_ | refine out_normalH ?_ | refine out_end ?_)) | refine at_go ?_ | (with_reducible refine And.intro (at_go ?_) (at_go ?_)) | ((with_reducible refine And.intro (fun h => ?_) (fun h => ?_)) <;> try (exfalso; omega)) | (with_reducible refine And.intro (by omega) ?_) | fail | simp (disch := first | omega | (simp only [length_ints, revK_length, List.length_set, List.length_reverse, List.length_replicate, List.length_append, List.length_cons, List.length_nil, List.length_map]; omega)) only [push_cast, ↓reduceIte, reduceIte, reduceCtorEq, Nat.reduceAdd, Nat.reduceLT, Nat.reduceEqDiff, Nat.reduceLeDiff, Int.reduceAdd, Int.reduceLT, Int.reduceLE, Nat.reduceMul, ti3, ti22, a0, a2, a3, e1, hset, List.set_set, length_ints, revK_length, getD_ints, wrap64, set_ints, List.length_set])
    · refine out_round (xs.length + 1 - 2 * (k + 1)) ?_ ?_ ?_
      · omega
      · (first | trivial | ((repeat' apply And.intro) <;> first | trivial | assumption | omega | (simp only [maxLen]; omega) | (simp only [length_ints, revK_length, List.length_replicate, List.length_append, List.length_cons, List.length_nil, List.length_map, List.length_take, List.length_drop, List.length_set, List.length_reverse, maxLen] <;> omega)))
      · refine ⟨k + 1, by omega, rfl, by rw [revK_step xs k (by omega)], ?_⟩
        (simp (disch := first | omega | (simp only [length_ints, revK_length, List.length_set, List.length_reverse, List.length_replicate, List.length_append, List.length_cons, List.length_nil, List.length_map]; omega)) only [push_cast, ↓reduceIte, reduceIte, reduceCtorEq, Nat.reduceAdd, Nat.reduceLT, Nat.reduceEqDiff, Nat.reduceLeDiff, Int.reduceAdd, Int.reduceLT, Int.reduceLE, Nat.reduceMul, ti3, ti22, a0, a2, a3, e1, hset, List.set_set, length_ints, revK_length, getD_ints, wrap64, set_ints, List.length_set]) <;> (first | rfl | exact ⟨rfl, rfl⟩ | omega | (congr 1; omega) | (simp; done) | ((repeat' apply And.intro) <;> first | rfl | omega | (congr 1; omega)))
    · rw [revK_end xs k (by omega)]
end Go.Proofs
