import Derived.Test.YtjoldnonnjleoaaDoorW12
import Derived.Test.YtjoldnonnjleoaaDoorV28
/- Words: slices.Clone, slices.ContainsFunc, words.Check. -/
namespace Go.Proofs
open Go Go.V
set_option linter.unusedVariables false
set_option linter.unusedSimpArgs false
set_option maxHeartbeats 0
set_option maxRecDepth 100000
theorem ints_cons (x : Int) (xs : List Int) : ints (x :: xs) = [.int .i64 x] :: ints xs := rfl
theorem clone51 (xs : List Int) (k : Nat) (c : Option Nat) (H : List Blk) (hk : xs = [] ∨ k = 1) (hx : xs.length ≤ 1000000) : ACalls Tryd.prog G0 51 [.sl k (ints xs) c] H (.own H.length xs.length xs.length none) (H ++ [.row 1 3 (ints xs)]) := by
  cases xs with
  | nil => exact acalls_nil_own (pc_lift (clone51_nil k c) (by simp [idsL, idsE, AV.ids]) H) 1 3
  | cons x xs =>
    obtain rfl := hk.resolve_left (by simp)
    simp only [List.length_cons] at hx
    refine ac_go 8 [.tmp 2] Tryd.func51 rfl rfl rfl (by simp) ?_
    intro s ⟨a0, hz⟩
    clear hz
    repeat' (first | (first | (refine acc_id ?_; first | refine acc_pure rfl rfl ?_ | refine acc_end rfl ?_ | refine acc_eff rfl rfl ?_ | refine acc_call rfl ?_ | refine acc_gp rfl rfl rfl ?_ | refine acc_gc rfl rfl ?_) | (refine go_id ?_; first | refine go_seq rfl ?_ | refine go_region rfl rfl ?_ | refine go_draw (dr := allQ) rfl rfl mixed (by kernel_rfl) ?_ | refine go_cond rfl ?_ | refine go_block rfl ?_ | refine go_skip rfl ?_ | refine go_ret rfl ?_ | refine go_exit rfl ?_) | (refine out_id ?_; first | refine out_then ?_ | refine out_then_ret ?_ | refine out_then_exit ?_ | refine out_block_ret ?_ | refine out_block ?_ | refine out_block_exit rfl ?_ | refine out_block_exit' rfl ?_ | refine out_thenS_ret ?_ | refine out_thenS_exit ?_ | refine out_ret ?_ | refine out_normal ?_ | refine out_retH ?_ | refine out_normalH ?_ | refine out_end ?_)) | refine at_go ?_ | (with_reducible refine And.intro (at_go ?_) (at_go ?_)) | ((with_reducible refine And.intro (fun h => ?_) (fun h => ?_)) <;> try (exfalso; omega)) | (with_reducible refine And.intro (by omega) ?_) | fail | simp (disch := first | omega | (simp only [length_ints, List.length_set, List.length_reverse, List.length_replicate, List.length_append, List.length_cons, List.length_nil, List.length_map]; omega)) only [push_cast, ↓reduceIte, reduceIte, reduceCtorEq, Nat.reduceAdd, Nat.reduceLT, Nat.reduceEqDiff, Nat.reduceLeDiff, Int.reduceAdd, Int.reduceLT, Int.reduceLE, Nat.reduceMul, ti3, ti22, a0, ints_cons, length_ints])
    (first | trivial | ((repeat' apply And.intro) <;> first | trivial | assumption | omega | (simp only [maxLen]; omega) | (simp only [length_ints, List.length_replicate, List.length_append, List.length_cons, List.length_nil, List.length_map, List.length_take, List.length_drop, List.length_set, List.length_reverse, maxLen] <;> omega)))
theorem check47 (x n : Int) (b : Nat) (H : List Blk) (hb : H[b]? = some (.row 1 3 [[.int .i64 n]])) : ACalls Tryd.prog G0 47 [.int .i64 x, .ptr b 0 0 1] H (.bool (badI n x)) H := by
  refine ac_go 11 [.tmp 3] Tryd.func47 rfl rfl rfl (by simp) ?_
  intro s ⟨a0, a1, hz⟩
  simp only [Nat.zero_add, Nat.reduceAdd] at a1
  clear hz
  repeat' (first | (first | (refine acc_id ?_; first | refine acc_pure rfl rfl ?_ | refine acc_end rfl ?_ | refine acc_eff rfl rfl ?_ | refine acc_call rfl ?_ | refine acc_gp rfl rfl rfl ?_ | refine acc_gc rfl rfl ?_) | (refine go_id ?_; first | refine go_seq rfl ?_ | refine go_region rfl rfl ?_ | refine go_draw (dr := allQ) rfl rfl mixed (by kernel_rfl) ?_ | refine go_cond rfl ?_ | refine go_block rfl ?_ | refine go_skip rfl ?_ | refine go_ret rfl ?_ | refine go_exit rfl ?_) | (refine out_id ?_; first | refine out_then ?_ | refine out_then_ret ?_ | refine out_then_exit ?_ | refine out_block_ret ?_ | refine out_block ?_ | refine out_block_exit rfl ?_ | refine out_block_exit' rfl ?_ | refine out_thenS_ret ?_ | refine out_thenS_exit ?_ | refine out_ret ?_ | refine out_normal ?_ | refine out_retH ?_ | refine out_normalH ?_ | refine out_end ?_)) | refine at_go ?_ | (with_reducible refine And.intro (at_go ?_) (at_go ?_)) | ((with_reducible refine And.intro (fun h => ?_) (fun h => ?_)) <;> try (exfalso; omega)) | (with_reducible refine And.intro (by omega) ?_) | fail | simp (disch := first | omega | (simp only [length_ints, List.length_set, List.length_reverse, List.length_replicate, List.length_append, List.length_cons, List.length_nil, List.length_map]; omega)) only [push_cast, ↓reduceIte, reduceIte, reduceCtorEq, Nat.reduceAdd, Nat.reduceLT, Nat.reduceEqDiff, Nat.reduceLeDiff, Int.reduceAdd, Int.reduceLT, Int.reduceLE, Nat.reduceMul, ti3, a0, a1, hb])
  rfl
/-- The place of the first number that has p. -/
def idxM (p : Int → Bool) : List Int → Int
  | [] => -1
  | x :: xs => if p x = true then 0 else if idxM p xs < 0 then -1 else idxM p xs + 1
theorem idxM_any (p : Int → Bool) (xs : List Int) : decide (0 ≤ idxM p xs) = xs.any p := by
  induction xs with
  | nil => rfl
  | cons x xs ih =>
    rw [List.any_cons, ← ih, idxM]
    cases p x
    · simp only [Bool.false_eq_true, if_false, Bool.false_or]
      split
      · rename_i h; rw [decide_eq_false (by omega), decide_eq_false (by omega)]
      · rename_i h; rw [decide_eq_true (by omega), decide_eq_true (by omega)]
    · simp
/-- The place is k, or behind it. -/
theorem idxM_at (p : Int → Bool) : ∀ (xs : List Int) (k : Nat), (∀ j, j < k → p (xs.getD j 0) = false) → k ≤ xs.length → idxM p xs = if idxM p (xs.drop k) < 0 then -1 else idxM p (xs.drop k) + k
  | xs, 0, _, _ => by
    rw [List.drop_zero]
    split
    · rename_i h
      have : ∀ ys, -1 ≤ idxM p ys := fun ys => by
        induction ys with
        | nil => simp [idxM]
        | cons y ys ih => rw [idxM]; split; omega; split <;> omega
      have := this xs; omega
    · simp
  | [], k + 1, _, hk => by simp at hk
  | x :: xs, k + 1, h, hk => by
    have h0 : p x = false := h 0 (by omega)
    have ih := idxM_at p xs k (fun j hj => h (j + 1) (by omega)) (by simpa using hk)
    rw [idxM, h0, if_neg (by simp), List.drop_succ_cons, ih]
    generalize idxM p (xs.drop k) = d at *
    by_cases hd : d < 0
    · simp [hd]
    · simp only [if_neg hd]; rw [if_neg (by omega)]; push_cast; omega
theorem indexFunc59 (p : Int → Bool) (g : FuncId) (cap : List AV) (xs : List Int) (c : Option Nat) (H : List Blk) (hent : enters Tryd.prog g = true) (hp : ∀ x, ACalls Tryd.prog G0 g (.int .i64 x :: cap) H (.bool (p x)) H) (hx : xs.length ≤ 1000000) :
    ACalls Tryd.prog G0 59 [.sl 1 (ints xs) c, .fn g cap] H (.int .i64 (idxM p xs)) H := by
  refine ac_go 19 [.tmp 4] Tryd.func59 rfl rfl rfl (by simp) ?_
  intro s ⟨a0, a1, hz⟩
  simp only [Nat.zero_add, Nat.reduceAdd] at a1
  clear hz
  repeat' (first | (first | (refine acc_id ?_; first | refine acc_pure rfl rfl ?_ | refine acc_end rfl ?_ | refine acc_eff rfl rfl ?_ | refine acc_call rfl ?_ | refine acc_gp rfl rfl rfl ?_ | refine acc_gc rfl rfl ?_) | (refine go_id ?_; first | refine go_seq rfl ?_ | refine go_region rfl rfl ?_ | refine go_draw (dr := allQ) rfl rfl mixed (by kernel_rfl) ?_ | refine go_cond rfl ?_ | refine go_block rfl ?_ | refine go_skip rfl ?_ | refine go_ret rfl ?_ | refine go_exit rfl ?_) | (refine out_id ?_; first | refine out_then ?_ | refine out_then_ret ?_ | refine out_then_exit ?_ | refine out_block_ret ?_ | refine out_block ?_ | refine out_block_exit rfl ?_ | refine out_block_exit' rfl ?_ | refine out_thenS_ret ?_ | refine out_thenS_exit ?_ | refine out_ret ?_ | refine out_normal ?_ | refine out_retH ?_ | refine out_normalH ?_ | refine out_end ?_)) | refine at_go ?_ | (with_reducible refine And.intro (at_go ?_) (at_go ?_)) | ((with_reducible refine And.intro (fun h => ?_) (fun h => ?_)) <;> try (exfalso; omega)) | (with_reducible refine And.intro (by omega) ?_) | (first | (refine ⟨_, _, hp _, ?_⟩) | (refine ⟨_, hp _, ?_⟩) | (refine ⟨_, fun _ => hp _, ?_⟩)) | simp (disch := first | omega | (simp only [length_ints, List.length_set, List.length_reverse, List.length_replicate, List.length_append, List.length_cons, List.length_nil, List.length_map]; omega)) only [push_cast, ↓reduceIte, reduceIte, reduceCtorEq, Nat.reduceAdd, Nat.reduceLT, Nat.reduceEqDiff, Nat.reduceLeDiff, Int.reduceAdd, Int.reduceLT, Int.reduceLE, Nat.reduceMul, ti3, ti22, a0, a1, length_ints, getD_ints, wrap64, hent])
  refine go_loop rfl (fun m s H' => ∃ k, k ≤ xs.length ∧ m = xs.length - k ∧ H' = H ∧ s 0 = .sl 1 (ints xs) c ∧ s 1 = .fn g cap ∧ s 7 = .int .i64 xs.length ∧ s 8 = .int .i64 (k : Int) ∧ ∀ j, j < k → p (xs.getD j 0) = false) trivial (Weak.refl _ _) ⟨0, by omega, rfl, rfl, ?_⟩ ?_
  · (simp (disch := first | omega | (simp only [length_ints, List.length_set, List.length_reverse, List.length_replicate, List.length_append, List.length_cons, List.length_nil, List.length_map]; omega)) only [push_cast, ↓reduceIte, reduceIte, reduceCtorEq, Nat.reduceAdd, Nat.reduceLT, Nat.reduceEqDiff, Nat.reduceLeDiff, Int.reduceAdd, Int.reduceLT, Int.reduceLE, Nat.reduceMul, ti3, ti22, a0, a1, length_ints, getD_ints, wrap64, hent]) <;> (first | rfl | exact ⟨rfl, rfl⟩ | omega | (congr 1; omega) | (simp; done) | ((repeat' apply And.intro) <;> first | rfl | omega | (congr 1; omega)))
  · rintro m s H' ⟨k, hk, rfl, rfl, a0, a1, a7, a8, hm⟩
    repeat' (first | (first | (refine acc_id ?_; first | refine acc_pure rfl rfl ?_ | refine acc_end rfl ?_ | refine acc_eff rfl rfl ?_ | refine acc_call rfl ?_ | refine acc_gp rfl rfl rfl ?_ | refine acc_gc rfl rfl ?_) | (refine go_id ?_; first | refine go_seq rfl ?_ | refine go_region rfl rfl ?_ | refine go_draw (dr := allQ) rfl rfl mixed (by kernel_rfl) ?_ | refine go_cond rfl ?_ | refine go_block rfl ?_ | refine go_skip rfl ?_ | refine go_ret rfl ?_ | refine go_exit rfl ?_) | (refine out_id ?_; first | refine out_then ?_ | refine out_then_ret ?_ | refine out_then_exit ?_ | refine out_block_ret ?_ | refine out_block ?_ | refine out_block_exit rfl ?_ | refine out_block_exit' rfl ?_ | refine out_thenS_ret ?_ | refine out_thenS_exit ?_ | refine out_ret ?_ | refine out_normal ?_ | refine out_retH ?_ | refine out_normalH ?_ | refine out_end ?_)) | refine at_go ?_ | (with_reducible refine And.intro (at_go ?_) (at_go ?_)) | ((with_reducible refine And.intro (fun h => ?_) (fun h => ?_)) <;> try (exfalso; omega)) | (with_reducible refine And.intro (by omega) ?_) | (first | (refine ⟨_, _, hp _, ?_⟩) | (refine ⟨_, hp _, ?_⟩) | (refine ⟨_, fun _ => hp _, ?_⟩)) | simp (disch := first | omega | (simp only [length_ints, List.length_set, List.length_reverse, List.length_replicate, List.length_append, List.length_cons, List.length_nil, List.length_map]; omega)) only [push_cast, ↓reduceIte, reduceIte, reduceCtorEq, Nat.reduceAdd, Nat.reduceLT, Nat.reduceEqDiff, Nat.reduceLeDiff, Int.reduceAdd, Int.reduceLT, Int.reduceLE, Nat.reduceMul, ti3, ti22, a0, a1, a7, a8, length_ints, getD_ints, wrap64, hent])
    · rw [idxM_at p xs k hm hk, drop_getD xs k (by omega), idxM, if_pos h]; simp
    · refine out_round (xs.length - (k + 1)) (by omega) (by (first | trivial | ((repeat' apply And.intro) <;> first | trivial | assumption | omega | (simp only [maxLen]; omega) | (simp only [length_ints, List.length_replicate, List.length_append, List.length_cons, List.length_nil, List.length_map, List.length_take, List.length_drop, List.length_set, List.length_reverse, maxLen] <;> omega)))) ⟨k + 1, by omega, rfl, rfl, ?_⟩
      simp (disch := first | omega | (simp only [length_ints, List.length_set, List.length_reverse, List.length_replicate, List.length_append, List.length_cons, List.length_nil, List.length_map]; omega)) only [push_cast, ↓reduceIte, reduceIte, reduceCtorEq, Nat.reduceAdd, Nat.reduceLT, Nat.reduceEqDiff, Nat.reduceLeDiff, Int.reduceAdd, Int.reduceLT, Int.reduceLE, Nat.reduceMul, ti3, ti22, a0, a1, a7, a8, length_ints, getD_ints, wrap64, hent]
      exact fun j hj => by
        rcases Nat.lt_or_ge j k with q | q
        · exact hm j q
        · obtain rfl : j = k := by omega
          exact h
    · obtain rfl : k = xs.length := by omega
      rw [idxM_at p xs _ hm hk]; simp [idxM]
theorem contains46 (p : Int → Bool) (g : FuncId) (cap : List AV) (xs : List Int) (c : Option Nat) (H : List Blk) (hent : enters Tryd.prog g = true) (hp : ∀ x, ACalls Tryd.prog G0 g (.int .i64 x :: cap) H (.bool (p x)) H) (hx : xs.length ≤ 1000000) :
    ACalls Tryd.prog G0 46 [.sl 1 (ints xs) c, .fn g cap] H (.bool (xs.any p)) H := by
  refine ac_go 9 [.tmp 4] Tryd.func46 rfl rfl rfl (by simp) ?_
  intro s ⟨a0, a1, hz⟩
  simp only [Nat.zero_add, Nat.reduceAdd] at a1
  clear hz
  repeat' (first | (first | (refine acc_id ?_; first | refine acc_pure rfl rfl ?_ | refine acc_end rfl ?_ | refine acc_eff rfl rfl ?_ | refine acc_call rfl ?_ | refine acc_gp rfl rfl rfl ?_ | refine acc_gc rfl rfl ?_) | (refine go_id ?_; first | refine go_seq rfl ?_ | refine go_region rfl rfl ?_ | refine go_draw (dr := allQ) rfl rfl mixed (by kernel_rfl) ?_ | refine go_cond rfl ?_ | refine go_block rfl ?_ | refine go_skip rfl ?_ | refine go_ret rfl ?_ | refine go_exit rfl ?_) | (refine out_id ?_; first | refine out_then ?_ | refine out_then_ret ?_ | refine out_then_exit ?_ | refine out_block_ret ?_ | refine out_block ?_ | refine out_block_exit rfl ?_ | refine out_block_exit' rfl ?_ | refine out_thenS_ret ?_ | refine out_thenS_exit ?_ | refine out_ret ?_ | refine out_normal ?_ | refine out_retH ?_ | refine out_normalH ?_ | refine out_end ?_)) | refine at_go ?_ | (with_reducible refine And.intro (at_go ?_) (at_go ?_)) | ((with_reducible refine And.intro (fun h => ?_) (fun h => ?_)) <;> try (exfalso; omega)) | (with_reducible refine And.intro (by omega) ?_) | (first | (refine ⟨_, _, indexFunc59 p g cap xs c H hent hp hx, ?_⟩) | (refine ⟨_, indexFunc59 p g cap xs c H hent hp hx, ?_⟩) | (refine ⟨_, fun _ => indexFunc59 p g cap xs c H hent hp hx, ?_⟩)) | simp (disch := first | omega | (simp only [length_ints, List.length_set, List.length_reverse, List.length_replicate, List.length_append, List.length_cons, List.length_nil, List.length_map]; omega)) only [push_cast, ↓reduceIte, reduceIte, reduceCtorEq, Nat.reduceAdd, Nat.reduceLT, Nat.reduceEqDiff, Nat.reduceLeDiff, Int.reduceAdd, Int.reduceLT, Int.reduceLE, Nat.reduceMul, ti3, ti22, ti68, en59, a0, a1])
  exact congrArg AV.bool (idxM_any p xs)
theorem wCheck (xs : List Int) (c : Option Nat) (n : Int) (hx : xs.length ≤ 1000000) : PC Tryd.prog G0 30 [.sl 1 (ints xs) c, .int .i64 n] (.int .i64 (checkM xs n)) := by
  refine pc_go 0 19 [.tmp 4] Tryd.func30 rfl rfl rfl (by simp) ?_
  intro s ⟨a0, a1, hz⟩
  simp only [Nat.zero_add, Nat.reduceAdd] at a1
  clear hz
  repeat' (first | (first | (refine acc_id ?_; first | refine acc_pure rfl rfl ?_ | refine acc_end rfl ?_ | refine acc_eff rfl rfl ?_ | refine acc_call rfl ?_ | refine acc_gp rfl rfl rfl ?_ | refine acc_gc rfl rfl ?_) | (refine go_id ?_; first | refine go_seq rfl ?_ | refine go_region rfl rfl ?_ | refine go_draw (dr := allQ) rfl rfl mixed (by kernel_rfl) ?_ | refine go_cond rfl ?_ | refine go_block rfl ?_ | refine go_skip rfl ?_ | refine go_ret rfl ?_ | refine go_exit rfl ?_) | (refine out_id ?_; first | refine out_then ?_ | refine out_then_ret ?_ | refine out_then_exit ?_ | refine out_block_ret ?_ | refine out_block ?_ | refine out_block_exit rfl ?_ | refine out_block_exit' rfl ?_ | refine out_thenS_ret ?_ | refine out_thenS_exit ?_ | refine out_ret ?_ | refine out_normal ?_ | refine out_retH ?_ | refine out_normalH ?_ | refine out_end ?_)) | refine at_go ?_ | (with_reducible refine And.intro (at_go ?_) (at_go ?_)) | ((with_reducible refine And.intro (fun h => ?_) (fun h => ?_)) <;> try (exfalso; omega)) | (with_reducible refine And.intro (by omega) ?_) | (first | (refine ⟨_, _, contains46 (badI n) 47 _ xs c _ en47 (fun x => check47 x n 0 _ rfl) hx, ?_⟩) | (refine ⟨_, contains46 (badI n) 47 _ xs c _ en47 (fun x => check47 x n 0 _ rfl) hx, ?_⟩) | (refine ⟨_, fun _ => contains46 (badI n) 47 _ xs c _ en47 (fun x => check47 x n 0 _ rfl) hx, ?_⟩)) | simp (disch := first | omega | (simp only [length_ints, List.length_set, List.length_reverse, List.length_replicate, List.length_append, List.length_cons, List.length_nil, List.length_map]; omega)) only [push_cast, ↓reduceIte, reduceIte, reduceCtorEq, Nat.reduceAdd, Nat.reduceLT, Nat.reduceEqDiff, Nat.reduceLeDiff, Int.reduceAdd, Int.reduceLT, Int.reduceLE, Nat.reduceMul, ti3, ti22, ti68, en46, en47, a0, a1, length_ints])
  · rw [checkM, if_pos (by omega)]
  · rename_i h1
    rw [checkM, if_neg (by omega)]
    rcases h with h | h
    · rw [if_pos h]
    · simp [h]
  · rename_i h1
    rw [checkM, if_neg (by omega), if_neg h.1, h.2]; rfl
end Go.Proofs
