import Derived.Test.YtjoldnonnjleoaaDoorW16
/- Words: the texts of lists. -/
namespace Go.Proofs
open Go Go.V
set_option linter.unusedVariables false
set_option linter.unusedSimpArgs false
set_option maxHeartbeats 0
set_option maxRecDepth 100000
def inI (x : Int) : Prop := -9223372036854775808 ≤ x ∧ x ≤ 9223372036854775807
theorem inI_getD {xs : List Int} (h : ∀ x ∈ xs, inI x) (k : Nat) (hk : k < xs.length) : -9223372036854775808 ≤ xs.getD k 0 ∧ xs.getD k 0 ≤ 9223372036854775807 := by
  rw [List.getD_eq_getElem?_getD, List.getElem?_eq_getElem hk]; exact h _ (List.getElem_mem _)
/-- The numbers with a blank between each two. -/
def joinM (xs : List Int) : List UInt8 := Lib.join (xs.map Lib.itoa) [32]
def textM (xs : List Int) : List UInt8 := if xs = [] then [45] else joinM xs
theorem joinM_snoc (xs : List Int) (x : Int) (h : xs ≠ []) : joinM (xs ++ [x]) = joinM xs ++ (32 :: Lib.itoa x) := by
  cases xs with
  | nil => exact absurd rfl h
  | cons y ys =>
    unfold joinM
    simp only [List.cons_append, List.map_cons, List.map_append, List.map_nil, Lib.join_cons, Lib.joinTail, List.flatten_append, List.flatten_cons, List.flatten_nil, List.append_nil, List.append_assoc, List.nil_append]
theorem joinM_one (x : Int) : joinM [x] = Lib.itoa x := by simp [joinM, Lib.join_one]
theorem joinM_len (xs : List Int) (h : ∀ x ∈ xs, inI x) : (joinM xs).length ≤ 21 * xs.length := by
  cases xs with
  | nil => simp [joinM, Lib.join]
  | cons y ys =>
    have hy := itoa_len y (h y (by simp)).1 (h y (by simp)).2
    unfold joinM
    simp only [List.map_cons, Lib.join_cons, List.length_append, List.length_cons]
    have : (Lib.joinTail [32] (ys.map Lib.itoa)).length ≤ 21 * ys.length := by
      have h' : ∀ x ∈ ys, inI x := fun x hx => h x (by simp [hx])
      clear h hy
      induction ys with
      | nil => simp [Lib.joinTail]
      | cons z zs ih =>
        have := ih fun x hx => h' x (by simp [hx])
        have hz := itoa_len z (h' z (by simp)).1 (h' z (by simp)).2
        simp only [Lib.joinTail, List.map_cons, List.flatten_cons, List.length_append, List.length_cons] at this ⊢
        simp only [List.length_nil] at *
        omega
    omega
theorem refText (xs : List Int) (c : Option Nat) (hx : xs.length ≤ 1000000) (hb : ∀ x ∈ xs, inI x) : PC Tryd.prog G0 27 [.sl 1 (ints xs) c] (.str (textM xs)) := by
  have b0 := fun h : 0 < xs.length => inI_getD hb 0 h
  refine pc_go 0 27 [.tmp 2] Tryd.func27 rfl rfl rfl (by simp) ?_
  intro s ⟨a0, hz⟩
  clear hz
  repeat' (first | (first | (refine acc_id ?_; first | refine acc_pure rfl rfl ?_ | refine acc_end rfl ?_ | refine acc_eff rfl rfl ?_ | refine acc_call rfl ?_ | refine acc_gp rfl rfl rfl ?_ | refine acc_gc rfl rfl ?_) | (refine go_id ?_; first | refine go_seq rfl ?_ | refine go_region rfl rfl ?_ | refine go_draw (dr := allQ) rfl rfl mixed (by kernel_rfl) ?_ | refine go_cond rfl ?_ | refine go_block rfl ?_ | refine go_skip rfl ?_ | refine go_ret rfl ?_ | refine go_exit rfl ?_) | (refine out_id ?_; first | refine out_then ?_ | refine out_then_ret ?_ | refine out_then_exit ?_ | refine out_block_ret ?_ | refine out_block ?_ | refine out_block_exit rfl ?_ | refine out_block_exit' rfl ?_ | refine out_thenS_ret ?_ | refine out_thenS_exit ?_ | refine out_ret ?_ | refine out_normal ?_ | refine out_retH ?_ | refine out_normalH ?_ | refine out_end ?_)) | refine at_go ?_ | (with_reducible refine And.intro (at_go ?_) (at_go ?_)) | ((with_reducible refine And.intro (fun h => ?_) (fun h => ?_)) <;> try (exfalso; omega)) | (with_reducible refine And.intro (by omega) ?_) | (first | (refine ⟨_, _, pc_lift (refNumber _ _ (Nat.le_refl _) (by have := b0 (by omega) ; omega) (by have := b0 (by omega) ; omega)) (by (simp [idsL, idsE, AV.ids, Nat.add_zero])) _, ?_⟩) | (refine ⟨_, pc_lift (refNumber _ _ (Nat.le_refl _) (by have := b0 (by omega) ; omega) (by have := b0 (by omega) ; omega)) (by (simp [idsL, idsE, AV.ids, Nat.add_zero])) _, ?_⟩) | (refine ⟨_, fun _ => pc_lift (refNumber _ _ (Nat.le_refl _) (by have := b0 (by omega) ; omega) (by have := b0 (by omega) ; omega)) (by (simp [idsL, idsE, AV.ids, Nat.add_zero])) _, ?_⟩)) | simp (disch := first | omega | (simp only [length_ints, List.length_set, List.length_reverse, List.length_replicate, List.length_append, List.length_cons, List.length_nil, List.length_map]; omega)) only [push_cast, ↓reduceIte, reduceIte, reduceCtorEq, Nat.reduceAdd, Nat.reduceLT, Nat.reduceEqDiff, Nat.reduceLeDiff, Int.reduceAdd, Int.reduceLT, Int.reduceLE, Nat.reduceMul, ti3, ti9, ti22, en43, a0, length_ints, getD_ints, wrap64])
  · have : xs = [] := List.eq_nil_of_length_eq_zero (by omega)
    rw [textM, if_pos this]
  · have hne : xs ≠ [] := fun q => h (by rw [q]; rfl)
    have hlen := joinM_len xs hb
    refine go_loop rfl (fun m s H' => ∃ k, 1 ≤ k ∧ k ≤ xs.length ∧ m = xs.length - k ∧ H' = [] ∧ s 0 = .sl 1 (ints xs) c ∧ s 4 = .int .i64 (k : Int) ∧ s 3 = .str (joinM (xs.take k))) trivial (Weak.refl _ _) ⟨1, by omega, by omega, rfl, rfl, ?_⟩ ?_
    · simp (disch := first | omega | (simp only [length_ints, List.length_set, List.length_reverse, List.length_replicate, List.length_append, List.length_cons, List.length_nil, List.length_map]; omega)) only [push_cast, ↓reduceIte, reduceIte, reduceCtorEq, Nat.reduceAdd, Nat.reduceLT, Nat.reduceEqDiff, Nat.reduceLeDiff, Int.reduceAdd, Int.reduceLT, Int.reduceLE, Nat.reduceMul, ti3, ti9, ti22, en43, a0, length_ints, getD_ints, wrap64]
      have e1 := take_succ_getD xs 0 (by omega)
      simp only [Nat.zero_add, List.take_zero, List.nil_append] at e1
      rw [e1, joinM_one]
    · rintro m s H' ⟨k, hk1, hk, rfl, rfl, a0, a4, a3⟩
      have b1 := fun h => inI_getD hb k h
      have l1 := joinM_len (xs.take k) (fun x hx => hb x (List.mem_of_mem_take hx))
      rw [List.length_take] at l1
      have l2 := fun h => itoa_len (xs.getD k 0) (b1 h).1 (b1 h).2
      repeat' (first | (first | (refine acc_id ?_; first | refine acc_pure rfl rfl ?_ | refine acc_end rfl ?_ | refine acc_eff rfl rfl ?_ | refine acc_call rfl ?_ | refine acc_gp rfl rfl rfl ?_ | refine acc_gc rfl rfl ?_) | (refine go_id ?_; first | refine go_seq rfl ?_ | refine go_region rfl rfl ?_ | refine go_draw (dr := allQ) rfl rfl mixed (by kernel_rfl) ?_ | refine go_cond rfl ?_ | refine go_block rfl ?_ | refine go_skip rfl ?_ | refine go_ret rfl ?_ | refine go_exit rfl ?_) | (refine out_id ?_; first | refine out_then ?_ | refine out_then_ret ?_ | refine out_then_exit ?_ | refine out_block_ret ?_ | refine out_block ?_ | refine out_block_exit rfl ?_ | refine out_block_exit' rfl ?_ | refine out_thenS_ret ?_ | refine out_thenS_exit ?_ | refine out_ret ?_ | refine out_normal ?_ | refine out_retH ?_ | refine out_normalH ?_ | refine out_end ?_)) | refine at_go ?_ | (with_reducible refine And.intro (at_go ?_) (at_go ?_)) | ((with_reducible refine And.intro (fun h => ?_) (fun h => ?_)) <;> try (exfalso; omega)) | (with_reducible refine And.intro (by omega) ?_) | (first | (refine ⟨_, _, pc_lift (refNumber _ _ (Nat.le_refl _) (by have := b1 (by omega) ; omega) (by have := b1 (by omega) ; omega)) (by (simp [idsL, idsE, AV.ids, Nat.add_zero])) _, ?_⟩) | (refine ⟨_, pc_lift (refNumber _ _ (Nat.le_refl _) (by have := b1 (by omega) ; omega) (by have := b1 (by omega) ; omega)) (by (simp [idsL, idsE, AV.ids, Nat.add_zero])) _, ?_⟩) | (refine ⟨_, fun _ => pc_lift (refNumber _ _ (Nat.le_refl _) (by have := b1 (by omega) ; omega) (by have := b1 (by omega) ; omega)) (by (simp [idsL, idsE, AV.ids, Nat.add_zero])) _, ?_⟩)) | simp (disch := first | omega | (simp only [length_ints, List.length_set, List.length_reverse, List.length_replicate, List.length_append, List.length_cons, List.length_nil, List.length_map]; omega)) only [push_cast, ↓reduceIte, reduceIte, reduceCtorEq, Nat.reduceAdd, Nat.reduceLT, Nat.reduceEqDiff, Nat.reduceLeDiff, Int.reduceAdd, Int.reduceLT, Int.reduceLE, Nat.reduceMul, ti3, ti9, ti22, en43, a0, a3, a4, length_ints, getD_ints, wrap64])
      · have l2 := l2 (by omega)
        refine out_round (xs.length - (k + 1)) (by omega) (by (first | trivial | ((repeat' apply And.intro) <;> first | trivial | assumption | omega | (simp only [maxLen]; omega) | (simp only [length_ints, List.length_replicate, List.length_append, List.length_cons, List.length_nil, List.length_map, List.length_take, List.length_drop, List.length_set, List.length_reverse, maxLen] <;> omega)))) ⟨k + 1, by omega, by omega, rfl, rfl, ?_⟩
        simp (disch := first | omega | (simp only [length_ints, List.length_set, List.length_reverse, List.length_replicate, List.length_append, List.length_cons, List.length_nil, List.length_map]; omega)) only [push_cast, ↓reduceIte, reduceIte, reduceCtorEq, Nat.reduceAdd, Nat.reduceLT, Nat.reduceEqDiff, Nat.reduceLeDiff, Int.reduceAdd, Int.reduceLT, Int.reduceLE, Nat.reduceMul, ti3, ti9, ti22, en43, a0, a3, a4, length_ints, getD_ints, wrap64]
        rw [take_succ_getD xs k (by omega), joinM_snoc _ _ (by intro q; rw [List.take_eq_nil_iff] at q; rcases q with q | q; omega; exact hne q)]
      · have : k = xs.length := by omega
        subst this
        rw [textM, if_neg hne]
/-- The first k texts; the rest is empty yet. -/
def txK (xs : List Int) (k : Nat) : List (List AV) := strs ((xs.take k).map Lib.itoa) ++ List.replicate (xs.length - k) [.str []]
theorem txK_length (xs : List Int) (k : Nat) (h : k ≤ xs.length) : (txK xs k).length = xs.length := by simp [txK, strs]; omega
theorem txK_zero (xs : List Int) : txK xs 0 = List.replicate xs.length [.str []] := by simp [txK, strs]
theorem txK_getD (xs : List Int) (k : Nat) (h : k < xs.length) : (txK xs k).getD k [] = [.str []] := by
  have e : (strs ((xs.take k).map Lib.itoa)).length = k := by simp [strs]; omega
  unfold txK
  rw [List.getD_eq_getElem?_getD, List.getElem?_append_right (by omega), e, Nat.sub_self, List.getElem?_replicate, if_pos (by omega)]; rfl
theorem txK_set (xs : List Int) (k : Nat) (h : k < xs.length) : (txK xs k).set k [.str (Lib.itoa (xs.getD k 0))] = txK xs (k + 1) := by
  have e : (strs ((xs.take k).map Lib.itoa)).length = k := by simp [strs]; omega
  unfold txK
  rw [List.set_append_right _ _ (by omega), e, Nat.sub_self, take_succ_getD xs k h, show xs.length - k = (xs.length - (k + 1)) + 1 by omega, List.replicate_succ, List.set_cons_zero]
  simp [strs]
theorem wText (xs : List Int) (c : Option Nat) (hx : xs.length ≤ 1000000) (hb : ∀ x ∈ xs, inI x) : PC Tryd.prog G0 26 [.sl 1 (ints xs) c] (.str (textM xs)) := by
  refine pc_go 0 27 [.tmp 2] Tryd.func26 rfl rfl rfl (by simp) ?_
  intro s ⟨a0, hz⟩
  clear hz
  repeat' (first | (first | (refine acc_id ?_; first | refine acc_pure rfl rfl ?_ | refine acc_end rfl ?_ | refine acc_eff rfl rfl ?_ | refine acc_call rfl ?_ | refine acc_gp rfl rfl rfl ?_ | refine acc_gc rfl rfl ?_) | (refine go_id ?_; first | refine go_seq rfl ?_ | refine go_region rfl rfl ?_ | refine go_draw (dr := allQ) rfl rfl mixed (by kernel_rfl) ?_ | refine go_cond rfl ?_ | refine go_block rfl ?_ | refine go_skip rfl ?_ | refine go_ret rfl ?_ | refine go_exit rfl ?_) | (refine out_id ?_; first | refine out_then ?_ | refine out_then_ret ?_ | refine out_then_exit ?_ | refine out_block_ret ?_ | refine out_block ?_ | refine out_block_exit rfl ?_ | refine out_block_exit' rfl ?_ | refine out_thenS_ret ?_ | refine out_thenS_exit ?_ | refine out_ret ?_ | refine out_normal ?_ | refine out_retH ?_ | refine out_normalH ?_ | refine out_end ?_)) | refine at_go ?_ | (with_reducible refine And.intro (at_go ?_) (at_go ?_)) | ((with_reducible refine And.intro (fun h => ?_) (fun h => ?_)) <;> try (exfalso; omega)) | (with_reducible refine And.intro (by omega) ?_) | (first | (refine ⟨_, _, pc_lift (fail) (by (simp [idsL, idsE, AV.ids, Nat.add_zero])) _, ?_⟩) | (refine ⟨_, pc_lift (fail) (by (simp [idsL, idsE, AV.ids, Nat.add_zero])) _, ?_⟩) | (refine ⟨_, fun _ => pc_lift (fail) (by (simp [idsL, idsE, AV.ids, Nat.add_zero])) _, ?_⟩)) | simp (disch := first | omega | (simp only [length_ints, List.length_set, List.length_reverse, List.length_replicate, List.length_append, List.length_cons, List.length_nil, List.length_map]; omega)) only [push_cast, ↓reduceIte, reduceIte, reduceCtorEq, Nat.reduceAdd, Nat.reduceLT, Nat.reduceEqDiff, Nat.reduceLeDiff, Int.reduceAdd, Int.reduceLT, Int.reduceLE, Nat.reduceMul, ti3, ti9, ti22, ti59, en41, en42, a0, length_ints, getD_ints, wrap64])
  · have : xs = [] := List.eq_nil_of_length_eq_zero (by omega)
    rw [textM, if_pos this]
  · have hne : xs ≠ [] := fun q => h (by rw [q]; rfl)
    have hlen := joinM_len xs hb
    refine go_loop rfl (fun m s H' => ∃ k, k ≤ xs.length ∧ m = xs.length - k ∧ H' = [.row 1 9 (txK xs k)] ∧ s 0 = .sl 1 (ints xs) c ∧ s 3 = .own 0 xs.length xs.length (some xs.length) ∧ s 12 = .sl 1 (ints xs) c ∧ s 13 = .int .i64 xs.length ∧ s 14 = .int .i64 (k : Int)) (by (first | trivial | ((repeat' apply And.intro) <;> first | trivial | assumption | omega | (simp only [maxLen]; omega) | (simp only [length_ints, List.length_replicate, List.length_append, List.length_cons, List.length_nil, List.length_map, List.length_take, List.length_drop, List.length_set, List.length_reverse, maxLen] <;> omega)))) (Weak.refl _ _) ⟨0, by omega, rfl, by rw [txK_zero], ?_⟩ ?_
    · (simp (disch := first | omega | (simp only [length_ints, List.length_set, List.length_reverse, List.length_replicate, List.length_append, List.length_cons, List.length_nil, List.length_map]; omega)) only [push_cast, ↓reduceIte, reduceIte, reduceCtorEq, Nat.reduceAdd, Nat.reduceLT, Nat.reduceEqDiff, Nat.reduceLeDiff, Int.reduceAdd, Int.reduceLT, Int.reduceLE, Nat.reduceMul, ti3, ti9, ti22, ti59, en41, en42, a0, length_ints, getD_ints, wrap64]) <;> (first | rfl | exact ⟨rfl, rfl⟩ | omega | (congr 1; omega) | (simp; done) | ((repeat' apply And.intro) <;> first | rfl | omega | (congr 1; omega)))
    · rintro m s H' ⟨k, hk, rfl, rfl, a0, a3, a12, a13, a14⟩
      have b1 := fun h => inI_getD hb k h
      have e0 := txK_length xs k hk
      have e1 := txK_getD xs k
      repeat' (first | (first | (refine acc_id ?_; first | refine acc_pure rfl rfl ?_ | refine acc_end rfl ?_ | refine acc_eff rfl rfl ?_ | refine acc_call rfl ?_ | refine acc_gp rfl rfl rfl ?_ | refine acc_gc rfl rfl ?_) | (refine go_id ?_; first | refine go_seq rfl ?_ | refine go_region rfl rfl ?_ | refine go_draw (dr := allQ) rfl rfl mixed (by kernel_rfl) ?_ | refine go_cond rfl ?_ | refine go_block rfl ?_ | refine go_skip rfl ?_ | refine go_ret rfl ?_ | refine go_exit rfl ?_) | (refine out_id ?_; first | refine out_then ?_ | refine out_then_ret ?_ | refine out_then_exit ?_ | refine out_block_ret ?_ | refine out_block ?_ | refine out_block_exit rfl ?_ | refine out_block_exit' rfl ?_ | refine out_thenS_ret ?_ | refine out_thenS_exit ?_ | refine out_ret ?_ | refine out_normal ?_ | refine out_retH ?_ | refine out_normalH ?_ | refine out_end ?_)) | refine at_go ?_ | (with_reducible refine And.intro (at_go ?_) (at_go ?_)) | ((with_reducible refine And.intro (fun h => ?_) (fun h => ?_)) <;> try (exfalso; omega)) | (with_reducible refine And.intro (by omega) ?_) | (first | (refine ⟨_, _, libW.itoa _ _ (b1 (by omega)).1 (b1 (by omega)).2, ?_⟩) | (refine ⟨_, libW.itoa _ _ (b1 (by omega)).1 (b1 (by omega)).2, ?_⟩) | (refine ⟨_, fun _ => libW.itoa _ _ (b1 (by omega)).1 (b1 (by omega)).2, ?_⟩) | (refine ⟨_, _, libW.join _ _ (xs.map Lib.itoa) [32] (.inr ⟨0, xs.length, some xs.length, 9, txK xs k, by rw [e0], rfl, by omega, by have := (by omega : k = xs.length) ; subst this ; rw [List.take_of_length_le (by omega)] ; simp [txK]⟩) (by have := hlen; unfold joinM at this ; omega) (by simp ; omega), ?_⟩) | (refine ⟨_, libW.join _ _ (xs.map Lib.itoa) [32] (.inr ⟨0, xs.length, some xs.length, 9, txK xs k, by rw [e0], rfl, by omega, by have := (by omega : k = xs.length) ; subst this ; rw [List.take_of_length_le (by omega)] ; simp [txK]⟩) (by have := hlen; unfold joinM at this ; omega) (by simp ; omega), ?_⟩) | (refine ⟨_, fun _ => libW.join _ _ (xs.map Lib.itoa) [32] (.inr ⟨0, xs.length, some xs.length, 9, txK xs k, by rw [e0], rfl, by omega, by have := (by omega : k = xs.length) ; subst this ; rw [List.take_of_length_le (by omega)] ; simp [txK]⟩) (by have := hlen; unfold joinM at this ; omega) (by simp ; omega), ?_⟩)) | simp (disch := first | omega | (simp only [length_ints, e0, List.length_set, List.length_reverse, List.length_replicate, List.length_append, List.length_cons, List.length_nil, List.length_map]; omega)) only [push_cast, ↓reduceIte, reduceIte, reduceCtorEq, Nat.reduceAdd, Nat.reduceLT, Nat.reduceEqDiff, Nat.reduceLeDiff, Int.reduceAdd, Int.reduceLT, Int.reduceLE, Nat.reduceMul, ti3, ti9, ti22, ti59, en41, en42, a0, a3, a12, a13, a14, e0, e1, length_ints, getD_ints, wrap64])
      · refine out_round (xs.length - (k + 1)) (by omega) (by (first | trivial | ((repeat' apply And.intro) <;> first | trivial | assumption | omega | (simp only [maxLen]; omega) | (simp only [length_ints, e0, List.length_replicate, List.length_append, List.length_cons, List.length_nil, List.length_map, List.length_take, List.length_drop, List.length_set, List.length_reverse, maxLen] <;> omega)))) ⟨k + 1, by omega, rfl, by rw [txK_set xs k (by omega)], ?_⟩
        (simp (disch := first | omega | (simp only [length_ints, e0, List.length_set, List.length_reverse, List.length_replicate, List.length_append, List.length_cons, List.length_nil, List.length_map]; omega)) only [push_cast, ↓reduceIte, reduceIte, reduceCtorEq, Nat.reduceAdd, Nat.reduceLT, Nat.reduceEqDiff, Nat.reduceLeDiff, Int.reduceAdd, Int.reduceLT, Int.reduceLE, Nat.reduceMul, ti3, ti9, ti22, ti59, en41, en42, a0, a3, a12, a13, a14, e0, e1, length_ints, getD_ints, wrap64]) <;> (first | rfl | exact ⟨rfl, rfl⟩ | omega | (congr 1; omega) | (simp; done) | ((repeat' apply And.intro) <;> first | rfl | omega | (congr 1; omega)))
      · rw [textM, if_neg hne]; rfl
end Go.Proofs
