import Derived.Test.YtjoldnonnjleoaaDoorW26
import Derived.Test.YtjoldnonnjleoaaDoorV28
/- Words: the walk of WordsNext. -/
namespace Go.Proofs
open Go Go.V
set_option linter.unusedVariables false
set_option linter.unusedSimpArgs false
set_option maxHeartbeats 0
set_option maxRecDepth 100000
theorem of17L (xs : List Int) (c : Option Nat) (n : Int) (hx : xs.length ≤ maxLen) (hb : ∀ x ∈ xs, 0 ≤ x ∧ x < 256) (hn : 0 < n) (hn2 : n ≤ 1000000) : PC Tryd.prog G0 17 [.agg [.sl 1 (u8s xs) c], .int .i64 n] (.sl 1 (ints (wOf xs n)) none) := by
  unfold maxLen at hx
  refine pc_go 1 30 [.tmp 4] Tryd.func17 rfl rfl rfl (by simp) ?_
  intro s ⟨a0, a1, hz⟩
  simp only [Nat.zero_add, Nat.reduceAdd] at a1
  clear hz
  repeat' (first | (first | (refine acc_id ?_; first | refine acc_pure rfl rfl ?_ | refine acc_end rfl ?_ | refine acc_eff rfl rfl ?_ | refine acc_call rfl ?_ | refine acc_gp rfl rfl rfl ?_ | refine acc_gc rfl rfl ?_) | (refine go_id ?_; first | refine go_seq rfl ?_ | refine go_region rfl rfl ?_ | refine go_draw (dr := allQ) rfl rfl mixed (by kernel_rfl) ?_ | refine go_cond rfl ?_ | refine go_block rfl ?_ | refine go_skip rfl ?_ | refine go_ret rfl ?_ | refine go_exit rfl ?_) | (refine out_id ?_; first | refine out_then ?_ | refine out_then_ret ?_ | refine out_then_exit ?_ | refine out_block_ret ?_ | refine out_block ?_ | refine out_block_exit rfl ?_ | refine out_block_exit' rfl ?_ | refine out_thenS_ret ?_ | refine out_thenS_exit ?_ | refine out_ret ?_ | refine out_normal ?_ | refine out_retH ?_ | refine out_normalH ?_ | refine out_end ?_)) | refine at_go ?_ | (with_reducible refine And.intro (at_go ?_) (at_go ?_)) | ((with_reducible refine And.intro (fun h => ?_) (fun h => ?_)) <;> try (exfalso; omega)) | (with_reducible refine And.intro (by omega) ?_) | fail | simp (disch := first | omega | (simp only [length_ints, length_u8s, List.length_take, List.length_set, List.length_reverse, List.length_replicate, List.length_append, List.length_cons, List.length_nil, List.length_map]; omega)) only [push_cast, ↓reduceIte, reduceIte, reduceCtorEq, Nat.reduceAdd, Nat.reduceLT, Nat.reduceEqDiff, Nat.reduceLeDiff, Int.reduceAdd, Int.reduceLT, Int.reduceLE, Nat.reduceMul, ti3, ti5, ti22, ti28, ti30, a0, a1, length_u8s, getD_u8s, wrap64])
  refine go_loop rfl (fun m s H => ∃ k : Nat, k ≤ 12 ∧ k ≤ xs.length ∧ m = 12 - k ∧ H = [.row 1 30 [[.sl 1 (u8s xs) c]], .row 1 3 (ints ((xs.take k).map fun x => Int.tmod x n))] ∧ s 2 = .ptr 0 0 0 1 ∧ s 1 = .int .i64 n ∧ s 6 = .int .i64 (k : Int) ∧ s 5 = .own 1 k k none) trivial (weak_nil (t := 5) (sz := 1) (ty := 3) (z := 0) ?_) ⟨0, by omega, by omega, rfl, rfl, ?_⟩ ?_
  · (simp (disch := first | omega | (simp only [length_ints, length_u8s, List.length_take, List.length_set, List.length_reverse, List.length_replicate, List.length_append, List.length_cons, List.length_nil, List.length_map]; omega)) only [push_cast, ↓reduceIte, reduceIte, reduceCtorEq, Nat.reduceAdd, Nat.reduceLT, Nat.reduceEqDiff, Nat.reduceLeDiff, Int.reduceAdd, Int.reduceLT, Int.reduceLE, Nat.reduceMul, ti3, ti5, ti22, ti28, ti30, a0, a1, length_u8s, getD_u8s, wrap64]) <;> (first | rfl | exact ⟨rfl, rfl⟩ | omega | (congr 1; omega) | (simp; done) | ((repeat' apply And.intro) <;> first | rfl | omega | (congr 1; omega)))
  · (simp (disch := first | omega | (simp only [length_ints, length_u8s, List.length_take, List.length_set, List.length_reverse, List.length_replicate, List.length_append, List.length_cons, List.length_nil, List.length_map]; omega)) only [push_cast, ↓reduceIte, reduceIte, reduceCtorEq, Nat.reduceAdd, Nat.reduceLT, Nat.reduceEqDiff, Nat.reduceLeDiff, Int.reduceAdd, Int.reduceLT, Int.reduceLE, Nat.reduceMul, ti3, ti5, ti22, ti28, ti30, a0, a1, length_u8s, getD_u8s, wrap64]) <;> (first | rfl | exact ⟨rfl, rfl⟩ | omega | (congr 1; omega) | (simp; done) | ((repeat' apply And.intro) <;> first | rfl | omega | (congr 1; omega)))
  · rintro m s H ⟨k, hk, hk2, rfl, rfl, a2, a1, a6, a5⟩
    repeat' (first | (first | (refine acc_id ?_; first | refine acc_pure rfl rfl ?_ | refine acc_end rfl ?_ | refine acc_eff rfl rfl ?_ | refine acc_call rfl ?_ | refine acc_gp rfl rfl rfl ?_ | refine acc_gc rfl rfl ?_) | (refine go_id ?_; first | refine go_seq rfl ?_ | refine go_region rfl rfl ?_ | refine go_draw (dr := allQ) rfl rfl mixed (by kernel_rfl) ?_ | refine go_cond rfl ?_ | refine go_block rfl ?_ | refine go_skip rfl ?_ | refine go_ret rfl ?_ | refine go_exit rfl ?_) | (refine out_id ?_; first | refine out_then ?_ | refine out_then_ret ?_ | refine out_then_exit ?_ | refine out_block_ret ?_ | refine out_block ?_ | refine out_block_exit rfl ?_ | refine out_block_exit' rfl ?_ | refine out_thenS_ret ?_ | refine out_thenS_exit ?_ | refine out_ret ?_ | refine out_normal ?_ | refine out_retH ?_ | refine out_normalH ?_ | refine out_end ?_)) | refine at_go ?_ | (with_reducible refine And.intro (at_go ?_) (at_go ?_)) | ((with_reducible refine And.intro (fun h => ?_) (fun h => ?_)) <;> try (exfalso; omega)) | (with_reducible refine And.intro (by omega) ?_) | fail | simp (disch := first | omega | (simp only [length_ints, length_u8s, List.length_take, List.length_set, List.length_reverse, List.length_replicate, List.length_append, List.length_cons, List.length_nil, List.length_map]; omega)) only [push_cast, ↓reduceIte, reduceIte, reduceCtorEq, Nat.reduceAdd, Nat.reduceLT, Nat.reduceEqDiff, Nat.reduceLeDiff, Int.reduceAdd, Int.reduceLT, Int.reduceLE, Nat.reduceMul, ti3, ti5, ti22, ti28, ti30, a2, a1, a5, a6, length_ints, length_u8s, getD_u8s, wrap64])
    · have hm : xs.getD k 0 ∈ xs := by
        rw [List.getD_eq_getElem?_getD, List.getElem?_eq_getElem h.1]; exact List.getElem_mem h.1
      have hr := hb _ hm
      refine out_thenS ⟨⟨⟨h.1, by omega⟩, by simp only [maxLen]; omega, by omega⟩, 12 - (k + 1), _, _, by omega, Weak.refl _ _, k + 1, by omega, by omega, rfl, ?_, ?_⟩
      · rw [wrap64 (xs.getD k 0) (by omega) (by omega), ints_snoc, take_succ_getD xs k h.1]; simp
      · (simp (disch := first | omega | (simp only [length_ints, length_u8s, List.length_take, List.length_set, List.length_reverse, List.length_replicate, List.length_append, List.length_cons, List.length_nil, List.length_map]; omega)) only [push_cast, ↓reduceIte, reduceIte, reduceCtorEq, Nat.reduceAdd, Nat.reduceLT, Nat.reduceEqDiff, Nat.reduceLeDiff, Int.reduceAdd, Int.reduceLT, Int.reduceLE, Nat.reduceMul, ti3, ti5, ti22, ti28, ti30, a2, a1, a5, a6, length_ints, length_u8s, getD_u8s, wrap64]) <;> (first | rfl | exact ⟨rfl, rfl⟩ | omega | (congr 1; omega) | (simp; done) | ((repeat' apply And.intro) <;> first | rfl | omega | (congr 1; omega)))
    · have hk3 : wOf xs n = (xs.take k).map fun x => Int.tmod x n := by
        have : k = 12 ∨ k = xs.length := by
          omega
        rcases this with rfl | rfl
        · rfl
        · rw [wOf, List.take_of_length_le (by omega), List.take_of_length_le (Nat.le_refl _)]
      rw [hk3]
      exact ⟨all_ints _, rfl⟩


theorem ints_set (xs : List Int) (i : Nat) (v : Int) : (ints xs).set i [.int .i64 v] = ints (xs.set i v) := by simp [ints, List.map_set]
theorem times20_own (B0 B1 : Blk) (n x : Int) (hn : n ≤ 1000000) : ACalls Tryd.prog G0 20 [.int .i64 n, .int .i64 x] [B0, B1] (.own 2 n.toNat n.toNat none) [B0, B1, .row 1 3 (ints (List.replicate n.toNat x))] := by
  refine ac_go 17 [.tmp 4] Tryd.func20 rfl rfl rfl (by simp) ?_
  intro s ⟨a0, a1, hz⟩
  simp only [Nat.zero_add, Nat.reduceAdd] at a1
  clear hz
  repeat' (first | (first | (refine acc_id ?_; first | refine acc_pure rfl rfl ?_ | refine acc_end rfl ?_ | refine acc_eff rfl rfl ?_ | refine acc_call rfl ?_ | refine acc_gp rfl rfl rfl ?_ | refine acc_gc rfl rfl ?_) | (refine go_id ?_; first | refine go_seq rfl ?_ | refine go_region rfl rfl ?_ | refine go_draw (dr := allQ) rfl rfl mixed (by kernel_rfl) ?_ | refine go_cond rfl ?_ | refine go_block rfl ?_ | refine go_skip rfl ?_ | refine go_ret rfl ?_ | refine go_exit rfl ?_) | (refine out_id ?_; first | refine out_then ?_ | refine out_then_ret ?_ | refine out_then_exit ?_ | refine out_block_ret ?_ | refine out_block ?_ | refine out_block_exit rfl ?_ | refine out_block_exit' rfl ?_ | refine out_thenS_ret ?_ | refine out_thenS_exit ?_ | refine out_ret ?_ | refine out_normal ?_ | refine out_retH ?_ | refine out_normalH ?_ | refine out_end ?_)) | refine at_go ?_ | (with_reducible refine And.intro (at_go ?_) (at_go ?_)) | ((with_reducible refine And.intro (fun h => ?_) (fun h => ?_)) <;> try (exfalso; omega)) | (with_reducible refine And.intro (by omega) ?_) | fail | simp (disch := first | omega | (simp only [length_ints, List.length_set, List.length_reverse, List.length_replicate, List.length_append, List.length_cons, List.length_nil, List.length_map]; omega)) only [push_cast, ↓reduceIte, reduceIte, reduceCtorEq, Nat.reduceAdd, Nat.reduceLT, Nat.reduceEqDiff, Nat.reduceLeDiff, Int.reduceAdd, Int.reduceLT, Int.reduceLE, Nat.reduceMul, ti3, ti22, a0, a1, wrap64])
  refine go_loop rfl (fun m s H => ∃ k : Nat, (k : Int) ≤ max n 0 ∧ m = n.toNat - k ∧ H = [B0, B1, .row 1 3 (ints (List.replicate k x))] ∧ s 0 = .int .i64 n ∧ s 1 = .int .i64 x ∧ s 6 = .int .i64 (k : Int) ∧ s 5 = .own 2 k k none) trivial (weak_nil (t := 5) (sz := 1) (ty := 3) (z := 0) ?_) ⟨0, by omega, rfl, rfl, ?_⟩ ?_
  · simp (disch := first | omega | (simp only [length_ints, List.length_set, List.length_reverse, List.length_replicate, List.length_append, List.length_cons, List.length_nil, List.length_map]; omega)) only [push_cast, ↓reduceIte, reduceIte, reduceCtorEq, Nat.reduceAdd, Nat.reduceLT, Nat.reduceEqDiff, Nat.reduceLeDiff, Int.reduceAdd, Int.reduceLT, Int.reduceLE, Nat.reduceMul, ti3, ti22, a0, a1, wrap64]
  · simp (disch := first | omega | (simp only [length_ints, List.length_set, List.length_reverse, List.length_replicate, List.length_append, List.length_cons, List.length_nil, List.length_map]; omega)) only [push_cast, ↓reduceIte, reduceIte, reduceCtorEq, Nat.reduceAdd, Nat.reduceLT, Nat.reduceEqDiff, Nat.reduceLeDiff, Int.reduceAdd, Int.reduceLT, Int.reduceLE, Nat.reduceMul, ti3, ti22, a0, a1, wrap64]
  · rintro m s H ⟨k, hk, rfl, rfl, a0, a1, a6, a5⟩
    repeat' (first | (first | (refine acc_id ?_; first | refine acc_pure rfl rfl ?_ | refine acc_end rfl ?_ | refine acc_eff rfl rfl ?_ | refine acc_call rfl ?_ | refine acc_gp rfl rfl rfl ?_ | refine acc_gc rfl rfl ?_) | (refine go_id ?_; first | refine go_seq rfl ?_ | refine go_region rfl rfl ?_ | refine go_draw (dr := allQ) rfl rfl mixed (by kernel_rfl) ?_ | refine go_cond rfl ?_ | refine go_block rfl ?_ | refine go_skip rfl ?_ | refine go_ret rfl ?_ | refine go_exit rfl ?_) | (refine out_id ?_; first | refine out_then ?_ | refine out_then_ret ?_ | refine out_then_exit ?_ | refine out_block_ret ?_ | refine out_block ?_ | refine out_block_exit rfl ?_ | refine out_block_exit' rfl ?_ | refine out_thenS_ret ?_ | refine out_thenS_exit ?_ | refine out_ret ?_ | refine out_normal ?_ | refine out_retH ?_ | refine out_normalH ?_ | refine out_end ?_)) | refine at_go ?_ | (with_reducible refine And.intro (at_go ?_) (at_go ?_)) | ((with_reducible refine And.intro (fun h => ?_) (fun h => ?_)) <;> try (exfalso; omega)) | (with_reducible refine And.intro (by omega) ?_) | fail | simp (disch := first | omega | (simp only [length_ints, List.length_set, List.length_reverse, List.length_replicate, List.length_append, List.length_cons, List.length_nil, List.length_map]; omega)) only [push_cast, ↓reduceIte, reduceIte, reduceCtorEq, Nat.reduceAdd, Nat.reduceLT, Nat.reduceEqDiff, Nat.reduceLeDiff, Int.reduceAdd, Int.reduceLT, Int.reduceLE, Nat.reduceMul, ti3, ti22, a0, a1, a5, a6, wrap64, length_ints])
    · refine out_thenS ⟨⟨by simp only [maxLen]; omega, by omega⟩, n.toNat - (k + 1), _, _, by omega, Weak.refl _ _, k + 1, by omega, rfl, by rw [List.replicate_succ']; simp [ints], ?_⟩
      simp (disch := first | omega | (simp only [length_ints, List.length_set, List.length_reverse, List.length_replicate, List.length_append, List.length_cons, List.length_nil, List.length_map]; omega)) only [push_cast, ↓reduceIte, reduceIte, reduceCtorEq, Nat.reduceAdd, Nat.reduceLT, Nat.reduceEqDiff, Nat.reduceLeDiff, Int.reduceAdd, Int.reduceLT, Int.reduceLE, Nat.reduceMul, ti3, ti22, a0, a1, a5, a6, wrap64, length_ints]
    · have : n.toNat = k := by omega
      rw [this]
      exact ⟨rfl, rfl⟩
theorem wNext_own3 (B0 B1 : Blk) (xs : List Int) (n : Int) (hx : xs.length ≤ 1000000) (hm : nextM xs n = ([], 3)) : ACalls Tryd.prog G0 18 [.own 2 xs.length xs.length none, .int .i64 n] [B0, B1, .row 1 3 (ints xs)] (.tup [.sl 1 [] (some 0), .int .i64 3]) [B0, B1, .row 1 3 (ints xs)] := by
  have h := wNext xs none n hx
  rw [hm] at h
  refine ac_lend 1 ?_ ?_ h rfl
  · have e : (ints xs).take xs.length = ints xs := List.take_of_length_le (by simp [ints])
    simp [okA, okC, isLen, shOf, e, length_ints, AV.closed, AV.ids]
    simp [ints, AV.ids]
  · have e : (ints xs).take xs.length = ints xs := List.take_of_length_le (by simp [ints])
    simp [closeA, closeC, e, length_ints]
    try rw [closeInts]
/-! The longest words. -/
theorem incR_top (n : Int) : ∀ k : Nat, incR n (List.replicate k (n - 1)) = none
  | 0 => rfl
  | k + 1 => by rw [List.replicate_succ, incR, if_neg (by omega), incR_top n k]; rfl
theorem ok_rep {n : Int} (hn : 1 ≤ n) (k : Nat) : okW n (List.replicate k (n - 1)) := fun x hx => by rw [List.eq_of_mem_replicate hx]; omega
theorem next_top {n : Int} (hn : 1 ≤ n) (hn2 : n ≤ 16) : nextM (List.replicate 256 (n - 1)) n = ([], 3) := by
  have h1 := check_of_ok hn hn2 _ (ok_rep hn 256) (by simp)
  have h2 : afterM (List.replicate 256 (n - 1)) n = List.replicate 257 0 := by
    rw [afterM, List.reverse_replicate, incR_top]; simp
  rw [nextM, if_neg (fun q => q h1), h2, if_pos (by rw [List.length_replicate]; omega)]
/-- The longest word with a 0 at place 200, and what comes behind it. -/
def longM (n : Int) : List Int := (List.replicate 256 (n - 1)).set 200 0
def nextLong (n : Int) : List Int := (curM (longM n) 55).set 200 1
theorem longM_len (n : Int) : (longM n).length = 256 := by simp [longM]
theorem longM_getD (n : Int) (j : Nat) (h : j < 256) : (longM n).getD j 0 = if j = 200 then 0 else n - 1 := by
  simp only [longM, List.getD_eq_getElem?_getD, List.getElem?_set, List.getElem?_replicate, List.length_replicate]
  by_cases e : 200 = j
  · subst e; simp
  · rw [if_neg e, if_pos h, if_neg (by omega)]; rfl
theorem ok_long {n : Int} (hn : 1 ≤ n) : okW n (longM n) := fun x hx => by
  rcases List.mem_or_eq_of_mem_set hx with h | h
  · exact ok_rep hn 256 x h
  · omega
theorem next_long {n : Int} (hn : 2 ≤ n) (hn2 : n ≤ 16) : nextM (longM n) n = (nextLong n, 0) := by
  have hl := longM_len n
  have h1 := check_of_ok (by omega) hn2 _ (ok_long (n := n) (by omega)) (by omega)
  have h2 : afterM (longM n) n = nextLong n := by
    have := afterM_hit (longM n) n 55 (by omega) (fun j hj => by rw [hl, longM_getD n _ (by omega), if_neg (by omega)]; omega) (by rw [hl, longM_getD n _ (by omega), if_pos (by omega)]; omega)
    rw [this, hl, longM_getD n _ (by omega), if_pos (by omega)]; rfl
  have h3 : (nextLong n).length = 256 := by rw [nextLong, List.length_set, curM_length _ _ (by omega), hl]
  rw [nextM, if_neg (fun q => q h1), h2, if_neg (by omega)]
theorem nextLong_len (n : Int) : (nextLong n).length = 256 := by rw [nextLong, List.length_set, curM_length _ _ (by rw [longM_len]; omega), longM_len]
theorem nextLong_200 (n : Int) : (nextLong n).getD 200 0 = 1 := by
  have hl : (curM (longM n) 55).length = 256 := by rw [curM_length _ _ (by rw [longM_len]; omega), longM_len]
  rw [nextLong, getD_set_same _ _ _ _ (by omega)]
theorem nextLong_255 (n : Int) : (nextLong n).getD 255 0 = 0 := by
  have hl := longM_len n
  rw [nextLong, List.getD_eq_getElem?_getD, List.getElem?_set_ne (by omega), curM, List.getElem?_append_right (by simp; omega)]
  simp [hl]
theorem nextLong_199 (n : Int) : (nextLong n).getD 199 0 = n - 1 := by
  have hl := longM_len n
  rw [nextLong, List.getD_eq_getElem?_getD, List.getElem?_set_ne (by omega), curM, List.getElem?_append_left (by simp; omega), List.getElem?_take, if_pos (by omega), ← List.getD_eq_getElem?_getD, longM_getD n _ (by omega), if_neg (by omega)]
end Go.Proofs
