import Derived.Test.YtjoldnonnjleoaaDoorW13
/- Words: words.Next. -/
namespace Go.Proofs
open Go Go.V
set_option linter.unusedVariables false
set_option linter.unusedSimpArgs false
set_option maxHeartbeats 0
set_option maxRecDepth 100000
theorem ints_replicate (n : Nat) (x : Int) : List.replicate n [AV.int .i64 x] = ints (List.replicate n x) := by simp [ints]
/-- The word behind the last k symbols' turning to 0. -/
def curM (xs : List Int) (k : Nat) : List Int := xs.take (xs.length - k) ++ List.replicate k 0
theorem curM_length (xs : List Int) (k : Nat) (h : k ≤ xs.length) : (curM xs k).length = xs.length := by simp [curM]; omega
theorem curM_zero (xs : List Int) : curM xs 0 = xs := by simp [curM]
theorem curM_getD (xs : List Int) (k : Nat) (h : k < xs.length) : (curM xs k).getD (xs.length - 1 - k) 0 = xs.getD (xs.length - 1 - k) 0 := by
  unfold curM
  rw [List.getD_eq_getElem?_getD, List.getElem?_append_left (by simp; omega), List.getElem?_take, if_pos (by omega), List.getD_eq_getElem?_getD]
theorem curM_set (xs : List Int) (k : Nat) (h : k < xs.length) (v : Int) : (curM xs k).set (xs.length - 1 - k) v = xs.take (xs.length - 1 - k) ++ v :: List.replicate k 0 := by
  unfold curM
  have e : xs.length - k = (xs.length - 1 - k) + 1 := by omega
  have h1 : (xs.take (xs.length - 1 - k)).length = xs.length - 1 - k := by simp; omega
  rw [e, List.take_succ_eq_append_getElem (by omega), List.append_assoc, List.set_append_right _ _ (by omega), h1, Nat.sub_self]
  rfl
theorem curM_succ (xs : List Int) (k : Nat) (h : k < xs.length) : (curM xs k).set (xs.length - 1 - k) 0 = curM xs (k + 1) := by
  rw [curM_set xs k h]; unfold curM
  rw [show xs.length - (k + 1) = xs.length - 1 - k by omega, List.replicate_succ]
/-- A word backwards, one more; none: all symbols were the last one. -/
def incR (n : Int) : List Int → Option (List Int)
  | [] => none
  | d :: ds => if d + 1 < n then some ((d + 1) :: ds) else (incR n ds).map (0 :: ·)
def afterM (xs : List Int) (n : Int) : List Int :=
  match incR n xs.reverse with
  | some r => r.reverse
  | none => List.replicate (xs.length + 1) 0
/-- incR, behind k symbols that turned. -/
theorem incR_at (n : Int) : ∀ (k : Nat) (ys : List Int), k ≤ ys.length → (∀ j, j < k → ¬ ys.getD j 0 + 1 < n) → incR n ys = (incR n (ys.drop k)).map (List.replicate k 0 ++ ·)
  | 0, ys, _, _ => by simp
  | k + 1, [], h, _ => by simp at h
  | k + 1, y :: ys, h, hk => by
    have h0 : ¬ y + 1 < n := hk 0 (by omega)
    rw [incR, if_neg h0, incR_at n k ys (by simpa using h) (fun j hj => hk (j + 1) (by omega)), Option.map_map]
    simp only [List.drop_succ_cons]
    congr 1
theorem rev_getD (xs : List Int) (j : Nat) (h : j < xs.length) : xs.reverse.getD j 0 = xs.getD (xs.length - 1 - j) 0 := by
  simp [List.getD_eq_getElem?_getD, List.getElem?_reverse h]
theorem afterM_hit (xs : List Int) (n : Int) (k : Nat) (h : k < xs.length) (hk : ∀ j, j < k → ¬ xs.getD (xs.length - 1 - j) 0 + 1 < n) (hd : xs.getD (xs.length - 1 - k) 0 + 1 < n) :
    afterM xs n = (curM xs k).set (xs.length - 1 - k) (xs.getD (xs.length - 1 - k) 0 + 1) := by
  have e := incR_at n k xs.reverse (by simp; omega) (fun j hj => by rw [rev_getD _ _ (by omega)]; exact hk j hj)
  have hl : k < xs.reverse.length := by simpa using h
  rw [List.drop_eq_getElem_cons hl, incR] at e
  have hx : xs.reverse[k] = xs.getD (xs.length - 1 - k) 0 := by
    rw [List.getElem_reverse]
    have : xs.length - 1 - k < xs.length := by omega
    simp [this]
  rw [hx, if_pos hd] at e
  unfold afterM
  rw [e, curM_set xs k h]
  simp only [Option.map_some]
  rw [List.reverse_append, List.reverse_cons, List.reverse_replicate, List.drop_reverse, List.reverse_reverse]
  simp [show xs.length - (k + 1) = xs.length - 1 - k by omega]
theorem afterM_all (xs : List Int) (n : Int) (hk : ∀ j, j < xs.length → ¬ xs.getD (xs.length - 1 - j) 0 + 1 < n) : afterM xs n = List.replicate (xs.length + 1) 0 := by
  have e := incR_at n xs.length xs.reverse (by simp) (fun j hj => by rw [rev_getD _ _ (by omega)]; exact hk j hj)
  rw [List.drop_eq_nil_of_le (by simp), incR] at e
  unfold afterM; rw [e]; rfl
theorem wAfter (xs : List Int) (c : Option Nat) (n : Int) (hx : xs.length ≤ 1000000) (hb : ∀ x ∈ xs, 0 ≤ x ∧ x < 1000000) : PC Tryd.prog G0 37 [.sl 1 (ints xs) c, .int .i64 n] (.sl 1 (ints (afterM xs n)) (some (afterM xs n).length)) := by
  refine pc_go 1 42 [.tmp 4] Tryd.func37 rfl rfl rfl (by simp) ?_
  intro s ⟨a0, a1, hz⟩
  simp only [Nat.zero_add, Nat.reduceAdd] at a1
  clear hz
  repeat' (first | (first | (refine acc_id ?_; first | refine acc_pure rfl rfl ?_ | refine acc_end rfl ?_ | refine acc_eff rfl rfl ?_ | refine acc_call rfl ?_ | refine acc_gp rfl rfl rfl ?_ | refine acc_gc rfl rfl ?_) | (refine go_id ?_; first | refine go_seq rfl ?_ | refine go_region rfl rfl ?_ | refine go_draw (dr := allQ) rfl rfl mixed (by kernel_rfl) ?_ | refine go_cond rfl ?_ | refine go_block rfl ?_ | refine go_skip rfl ?_ | refine go_ret rfl ?_ | refine go_exit rfl ?_) | (refine out_id ?_; first | refine out_then ?_ | refine out_then_ret ?_ | refine out_then_exit ?_ | refine out_block_ret ?_ | refine out_block ?_ | refine out_block_exit rfl ?_ | refine out_block_exit' rfl ?_ | refine out_thenS_ret ?_ | refine out_thenS_exit ?_ | refine out_ret ?_ | refine out_normal ?_ | refine out_retH ?_ | refine out_normalH ?_ | refine out_end ?_)) | refine at_go ?_ | (with_reducible refine And.intro (at_go ?_) (at_go ?_)) | ((with_reducible refine And.intro (fun h => ?_) (fun h => ?_)) <;> try (exfalso; omega)) | (with_reducible refine And.intro (by omega) ?_) | (first | (refine ⟨_, _, clone51 xs 1 c _ (by simp) hx, ?_⟩) | (refine ⟨_, clone51 xs 1 c _ (by simp) hx, ?_⟩) | (refine ⟨_, fun _ => clone51 xs 1 c _ (by simp) hx, ?_⟩) | (refine ⟨_, _, clip40_own 0 _ _ 3 _ _ _ rfl (by (first | assumption | omega | (simp only [length_ints, List.length_set, List.length_reverse, List.length_replicate, List.length_append, List.length_cons, List.length_nil, List.length_map, List.length_take, List.length_drop] <;> omega) | (simp; done) | (simp; omega))), ?_⟩) | (refine ⟨_, clip40_own 0 _ _ 3 _ _ _ rfl (by (first | assumption | omega | (simp only [length_ints, List.length_set, List.length_reverse, List.length_replicate, List.length_append, List.length_cons, List.length_nil, List.length_map, List.length_take, List.length_drop] <;> omega) | (simp; done) | (simp; omega))), ?_⟩) | (refine ⟨_, fun _ => clip40_own 0 _ _ 3 _ _ _ rfl (by (first | assumption | omega | (simp only [length_ints, List.length_set, List.length_reverse, List.length_replicate, List.length_append, List.length_cons, List.length_nil, List.length_map, List.length_take, List.length_drop] <;> omega) | (simp; done) | (simp; omega))), ?_⟩)) | simp (disch := first | omega | (simp only [length_ints, List.length_set, List.length_reverse, List.length_replicate, List.length_append, List.length_cons, List.length_nil, List.length_map]; omega)) only [push_cast, ↓reduceIte, reduceIte, reduceCtorEq, Nat.reduceAdd, Nat.reduceLT, Nat.reduceEqDiff, Nat.reduceLeDiff, Int.reduceAdd, Int.reduceLT, Int.reduceLE, Nat.reduceMul, ti3, ti22, en40, en51, a0, a1, length_ints])
  refine go_loop rfl (fun m s H' => ∃ k, k ≤ xs.length ∧ m = xs.length - k ∧ H' = [.row 1 3 (ints (curM xs k))] ∧ s 0 = .sl 1 (ints xs) c ∧ s 1 = .int .i64 n ∧ s 5 = .own 0 xs.length xs.length none ∧ s 11 = .int .i64 xs.length ∧ s 12 = .int .i64 (k : Int) ∧ ∀ j, j < k → ¬ xs.getD (xs.length - 1 - j) 0 + 1 < n) trivial (Weak.refl _ _) ⟨0, by omega, rfl, by rw [curM_zero], ?_⟩ ?_
  · (simp (disch := first | omega | (simp only [length_ints, List.length_set, List.length_reverse, List.length_replicate, List.length_append, List.length_cons, List.length_nil, List.length_map]; omega)) only [push_cast, ↓reduceIte, reduceIte, reduceCtorEq, Nat.reduceAdd, Nat.reduceLT, Nat.reduceEqDiff, Nat.reduceLeDiff, Int.reduceAdd, Int.reduceLT, Int.reduceLE, Nat.reduceMul, ti3, ti22, en40, en51, a0, a1, length_ints]) <;> (first | rfl | exact ⟨rfl, rfl⟩ | omega | (congr 1; omega) | (simp; done) | ((repeat' apply And.intro) <;> first | rfl | omega | (congr 1; omega)))
  · rintro m s H' ⟨k, hk, rfl, rfl, a0, a1, a5, a11, a12, hm⟩
    by_cases hlt : k < xs.length
    · have e0 := curM_length xs k hk
      have e1 : ((xs.length : Int) - 1 - k).toNat = xs.length - 1 - k := by omega
      have e2 := curM_getD xs k hlt
      have e3 : 0 ≤ xs.getD (xs.length - 1 - k) 0 ∧ xs.getD (xs.length - 1 - k) 0 < 1000000 := by
        have : xs.length - 1 - k < xs.length := by omega
        rw [List.getD_eq_getElem?_getD, List.getElem?_eq_getElem this]; exact hb _ (List.getElem_mem _)
      repeat' (first | (first | (refine acc_id ?_; first | refine acc_pure rfl rfl ?_ | refine acc_end rfl ?_ | refine acc_eff rfl rfl ?_ | refine acc_call rfl ?_ | refine acc_gp rfl rfl rfl ?_ | refine acc_gc rfl rfl ?_) | (refine go_id ?_; first | refine go_seq rfl ?_ | refine go_region rfl rfl ?_ | refine go_draw (dr := allQ) rfl rfl mixed (by kernel_rfl) ?_ | refine go_cond rfl ?_ | refine go_block rfl ?_ | refine go_skip rfl ?_ | refine go_ret rfl ?_ | refine go_exit rfl ?_) | (refine out_id ?_; first | refine out_then ?_ | refine out_then_ret ?_ | refine out_then_exit ?_ | refine out_block_ret ?_ | refine out_block ?_ | refine out_block_exit rfl ?_ | refine out_block_exit' rfl ?_ | refine out_thenS_ret ?_ | refine out_thenS_exit ?_ | refine out_ret ?_ | refine out_normal ?_ | refine out_retH ?_ | refine out_normalH ?_ | refine out_end ?_)) | refine at_go ?_ | (with_reducible refine And.intro (at_go ?_) (at_go ?_)) | ((with_reducible refine And.intro (fun h => ?_) (fun h => ?_)) <;> try (exfalso; omega)) | (with_reducible refine And.intro (by omega) ?_) | (first | (refine ⟨_, _, clone51 xs 1 c _ (by simp) hx, ?_⟩) | (refine ⟨_, clone51 xs 1 c _ (by simp) hx, ?_⟩) | (refine ⟨_, fun _ => clone51 xs 1 c _ (by simp) hx, ?_⟩) | (refine ⟨_, _, clip40_own 0 _ _ 3 _ _ _ rfl (by (first | assumption | omega | (simp only [length_ints, e0, List.length_set, List.length_reverse, List.length_replicate, List.length_append, List.length_cons, List.length_nil, List.length_map, List.length_take, List.length_drop] <;> omega) | (simp; done) | (simp; omega))), ?_⟩) | (refine ⟨_, clip40_own 0 _ _ 3 _ _ _ rfl (by (first | assumption | omega | (simp only [length_ints, e0, List.length_set, List.length_reverse, List.length_replicate, List.length_append, List.length_cons, List.length_nil, List.length_map, List.length_take, List.length_drop] <;> omega) | (simp; done) | (simp; omega))), ?_⟩) | (refine ⟨_, fun _ => clip40_own 0 _ _ 3 _ _ _ rfl (by (first | assumption | omega | (simp only [length_ints, e0, List.length_set, List.length_reverse, List.length_replicate, List.length_append, List.length_cons, List.length_nil, List.length_map, List.length_take, List.length_drop] <;> omega) | (simp; done) | (simp; omega))), ?_⟩)) | simp (disch := first | omega | (simp only [length_ints, e0, List.length_set, List.length_reverse, List.length_replicate, List.length_append, List.length_cons, List.length_nil, List.length_map]; omega)) only [push_cast, ↓reduceIte, reduceIte, reduceCtorEq, Nat.reduceAdd, Nat.reduceLT, Nat.reduceEqDiff, Nat.reduceLeDiff, Int.reduceAdd, Int.reduceLT, Int.reduceLE, Nat.reduceMul, ti3, ti22, en40, en51, a0, a1, a5, a11, a12, e0, e1, e2, length_ints, getD_ints, wrap64, set_ints, List.length_set, List.set_set, getD_set_same])
      · rw [afterM_hit xs n k hlt hm h]
        exact ⟨all_ints _, rfl, by rw [List.length_set, e0]⟩
      · refine out_round (xs.length - (k + 1)) (by omega) (by (first | trivial | ((repeat' apply And.intro) <;> first | trivial | assumption | omega | (simp only [maxLen]; omega) | (simp only [length_ints, e0, List.length_replicate, List.length_append, List.length_cons, List.length_nil, List.length_map, List.length_take, List.length_drop, List.length_set, List.length_reverse, maxLen] <;> omega)))) ⟨k + 1, by omega, rfl, by rw [curM_succ xs k hlt], ?_⟩
        simp (disch := first | omega | (simp only [length_ints, e0, List.length_set, List.length_reverse, List.length_replicate, List.length_append, List.length_cons, List.length_nil, List.length_map]; omega)) only [push_cast, ↓reduceIte, reduceIte, reduceCtorEq, Nat.reduceAdd, Nat.reduceLT, Nat.reduceEqDiff, Nat.reduceLeDiff, Int.reduceAdd, Int.reduceLT, Int.reduceLE, Nat.reduceMul, ti3, ti22, en40, en51, a0, a1, a5, a11, a12, e0, e1, e2, length_ints, getD_ints, wrap64, set_ints, List.length_set, List.set_set, getD_set_same]
        exact fun j hj => by
          rcases Nat.lt_or_ge j k with q | q
          · exact hm j q
          · obtain rfl : j = k := by omega
            exact h
    · obtain rfl : k = xs.length := by omega
      have e1 : ((xs.length : Int) + 1).toNat = xs.length + 1 := by omega
      repeat' (first | (first | (refine acc_id ?_; first | refine acc_pure rfl rfl ?_ | refine acc_end rfl ?_ | refine acc_eff rfl rfl ?_ | refine acc_call rfl ?_ | refine acc_gp rfl rfl rfl ?_ | refine acc_gc rfl rfl ?_) | (refine go_id ?_; first | refine go_seq rfl ?_ | refine go_region rfl rfl ?_ | refine go_draw (dr := allQ) rfl rfl mixed (by kernel_rfl) ?_ | refine go_cond rfl ?_ | refine go_block rfl ?_ | refine go_skip rfl ?_ | refine go_ret rfl ?_ | refine go_exit rfl ?_) | (refine out_id ?_; first | refine out_then ?_ | refine out_then_ret ?_ | refine out_then_exit ?_ | refine out_block_ret ?_ | refine out_block ?_ | refine out_block_exit rfl ?_ | refine out_block_exit' rfl ?_ | refine out_thenS_ret ?_ | refine out_thenS_exit ?_ | refine out_ret ?_ | refine out_normal ?_ | refine out_retH ?_ | refine out_normalH ?_ | refine out_end ?_)) | refine at_go ?_ | (with_reducible refine And.intro (at_go ?_) (at_go ?_)) | ((with_reducible refine And.intro (fun h => ?_) (fun h => ?_)) <;> try (exfalso; omega)) | (with_reducible refine And.intro (by omega) ?_) | (first | (refine ⟨_, _, clone51 xs 1 c _ (by simp) hx, ?_⟩) | (refine ⟨_, clone51 xs 1 c _ (by simp) hx, ?_⟩) | (refine ⟨_, fun _ => clone51 xs 1 c _ (by simp) hx, ?_⟩) | (refine ⟨_, _, clip40_own 0 _ _ 3 _ _ _ rfl (by (first | assumption | omega | (simp only [length_ints, List.length_set, List.length_reverse, List.length_replicate, List.length_append, List.length_cons, List.length_nil, List.length_map, List.length_take, List.length_drop] <;> omega) | (simp; done) | (simp; omega))), ?_⟩) | (refine ⟨_, clip40_own 0 _ _ 3 _ _ _ rfl (by (first | assumption | omega | (simp only [length_ints, List.length_set, List.length_reverse, List.length_replicate, List.length_append, List.length_cons, List.length_nil, List.length_map, List.length_take, List.length_drop] <;> omega) | (simp; done) | (simp; omega))), ?_⟩) | (refine ⟨_, fun _ => clip40_own 0 _ _ 3 _ _ _ rfl (by (first | assumption | omega | (simp only [length_ints, List.length_set, List.length_reverse, List.length_replicate, List.length_append, List.length_cons, List.length_nil, List.length_map, List.length_take, List.length_drop] <;> omega) | (simp; done) | (simp; omega))), ?_⟩)) | simp (disch := first | omega | (simp only [length_ints, List.length_set, List.length_reverse, List.length_replicate, List.length_append, List.length_cons, List.length_nil, List.length_map]; omega)) only [push_cast, ↓reduceIte, reduceIte, reduceCtorEq, Nat.reduceAdd, Nat.reduceLT, Nat.reduceEqDiff, Nat.reduceLeDiff, Int.reduceAdd, Int.reduceLT, Int.reduceLE, Nat.reduceMul, ti3, ti22, en40, en51, a0, a1, a5, a11, a12, e1, length_ints, wrap64])
      · rw [afterM_all xs n hm, ← ints_replicate]
        refine ⟨by (first | trivial | ((repeat' apply And.intro) <;> first | trivial | assumption | omega | (simp only [maxLen]; omega) | (simp only [length_ints, List.length_replicate, List.length_append, List.length_cons, List.length_nil, List.length_map, List.length_take, List.length_drop, List.length_set, List.length_reverse, maxLen] <;> omega))), ?_, by rw [List.replicate_succ], by simp⟩
        rw [ints_replicate]; exact all_ints _
theorem checkM_ok {xs : List Int} {n : Int} (h : checkM xs n = 0) : n ≤ 16 ∧ 1 ≤ n ∧ xs.length ≤ 256 ∧ ∀ x ∈ xs, 0 ≤ x ∧ x < n := by
  unfold checkM at h
  split at h
  · cases h
  · rename_i h1
    split at h
    · cases h
    · rename_i h2
      split at h
      · cases h
      · rename_i h3
        refine ⟨by omega, by omega, by omega, fun x hx => ?_⟩
        have : badI n x = false := by
          cases hb : badI n x
          · rfl
          · exact absurd (List.any_eq_true.2 ⟨x, hx, hb⟩) h3
        simp only [badI, Bool.or_eq_false_iff, decide_eq_false_iff_not] at this
        omega
theorem lt_of_check {xs : List Int} {n : Int} (h : checkM xs n = 0) : ∀ x ∈ xs, 0 ≤ x ∧ x < 1000000 := fun x hx => by
  have h0 := checkM_ok h
  have := h0.2.2.2 x hx
  omega
def nextM (xs : List Int) (n : Int) : List Int × Int :=
  if checkM xs n ≠ 0 then ([], checkM xs n) else if 256 < (afterM xs n).length then ([], 3) else (afterM xs n, 0)
theorem wNext (xs : List Int) (c : Option Nat) (n : Int) (hx : xs.length ≤ 1000000) : PC Tryd.prog G0 18 [.sl 1 (ints xs) c, .int .i64 n] (.tup [.sl 1 (ints (nextM xs n).1) (some (nextM xs n).1.length), .int .i64 (nextM xs n).2]) := by
  refine pc_go 0 21 [.tmp 4, .tmp 5] Tryd.func18 rfl rfl rfl (by simp) ?_
  intro s ⟨a0, a1, hz⟩
  simp only [Nat.zero_add, Nat.reduceAdd] at a1
  clear hz
  repeat' (first | (first | (refine acc_id ?_; first | refine acc_pure rfl rfl ?_ | refine acc_end rfl ?_ | refine acc_eff rfl rfl ?_ | refine acc_call rfl ?_ | refine acc_gp rfl rfl rfl ?_ | refine acc_gc rfl rfl ?_) | (refine go_id ?_; first | refine go_seq rfl ?_ | refine go_region rfl rfl ?_ | refine go_draw (dr := allQ) rfl rfl mixed (by kernel_rfl) ?_ | refine go_cond rfl ?_ | refine go_block rfl ?_ | refine go_skip rfl ?_ | refine go_ret rfl ?_ | refine go_exit rfl ?_) | (refine out_id ?_; first | refine out_then ?_ | refine out_then_ret ?_ | refine out_then_exit ?_ | refine out_block_ret ?_ | refine out_block ?_ | refine out_block_exit rfl ?_ | refine out_block_exit' rfl ?_ | refine out_thenS_ret ?_ | refine out_thenS_exit ?_ | refine out_ret ?_ | refine out_normal ?_ | refine out_retH ?_ | refine out_normalH ?_ | refine out_end ?_)) | refine at_go ?_ | (with_reducible refine And.intro (at_go ?_) (at_go ?_)) | ((with_reducible refine And.intro (fun h => ?_) (fun h => ?_)) <;> try (exfalso; omega)) | (with_reducible refine And.intro (by omega) ?_) | (first | (refine ⟨_, _, pc_lift (wCheck xs c n hx) (by (simp [idsL, idsE, AV.ids, idsE_ints])) _, ?_⟩) | (refine ⟨_, pc_lift (wCheck xs c n hx) (by (simp [idsL, idsE, AV.ids, idsE_ints])) _, ?_⟩) | (refine ⟨_, fun _ => pc_lift (wCheck xs c n hx) (by (simp [idsL, idsE, AV.ids, idsE_ints])) _, ?_⟩) | (refine ⟨_, _, pc_lift (wAfter xs c n hx (lt_of_check (by assumption))) (by (simp [idsL, idsE, AV.ids, idsE_ints])) _, ?_⟩) | (refine ⟨_, pc_lift (wAfter xs c n hx (lt_of_check (by assumption))) (by (simp [idsL, idsE, AV.ids, idsE_ints])) _, ?_⟩) | (refine ⟨_, fun _ => pc_lift (wAfter xs c n hx (lt_of_check (by assumption))) (by (simp [idsL, idsE, AV.ids, idsE_ints])) _, ?_⟩)) | simp (disch := first | omega | (simp only [length_ints, List.length_set, List.length_reverse, List.length_replicate, List.length_append, List.length_cons, List.length_nil, List.length_map]; omega)) only [push_cast, ↓reduceIte, reduceIte, reduceCtorEq, Nat.reduceAdd, Nat.reduceLT, Nat.reduceEqDiff, Nat.reduceLeDiff, Int.reduceAdd, Int.reduceLT, Int.reduceLE, Nat.reduceMul, ti3, ti22, ti32, en30, en37, a0, a1, length_ints])
  · simp [nextM, h, ints]
  · rename_i h1
    have h' : 256 < (afterM xs n).length := by omega
    simp [nextM, h1, h', ints]
  · rename_i h1
    have h' : ¬ 256 < (afterM xs n).length := by omega
    simp [nextM, h1, h', idsE_ints]
end Go.Proofs
