import Derived.Test.YtjoldnonnjleoaaDoorW15
/- Words: the reference's Number and Text, words.Text. -/
namespace Go.Proofs
open Go Go.V
set_option linter.unusedVariables false
set_option linter.unusedSimpArgs false
set_option maxHeartbeats 0
set_option maxRecDepth 100000
theorem tdiv10 (n : Int) : n.tdiv 10 = if 0 ≤ n then n / 10 else -((-n) / 10) := by
  split
  · rw [Int.tdiv_eq_ediv_of_nonneg (by assumption)]
  · have : n = -(-n) := by omega
    conv => lhs; rw [this]
    rw [Int.neg_tdiv, Int.tdiv_eq_ediv_of_nonneg (by omega)]
theorem tmod10 (n : Int) : n.tmod 10 = if 0 ≤ n then n % 10 else -((-n) % 10) := by
  split
  · rw [Int.tmod_eq_emod_of_nonneg (by assumption)]
  · have : n = -(-n) := by omega
    conv => lhs; rw [this]
    rw [Int.neg_tmod, Int.tmod_eq_emod_of_nonneg (by omega)]
theorem itoa_small (n : Int) (h0 : 0 ≤ n) (h1 : n < 10) : Lib.itoa n = [UInt8.ofNat (48 + n.toNat)] := by
  rw [Lib.itoa, if_neg (by omega), Lib.decDigits, dif_pos (by omega)]
theorem itoa_neg (n : Int) (h : n < 0) : Lib.itoa n = 45 :: Lib.itoa (-n) := by
  rw [Lib.itoa, if_pos h, Lib.itoa, if_neg (by omega), show n.natAbs = (-n).toNat by omega]
theorem itoa_big (n : Int) (h : 10 ≤ n) : Lib.itoa n = Lib.itoa (n / 10) ++ Lib.itoa (n % 10) := by
  rw [itoa_small (n % 10) (by omega) (by omega), Lib.itoa, if_neg (by omega), Lib.itoa, if_neg (by omega), Lib.decDigits, dif_neg (by omega)]
  rw [show (n / 10).toNat = n.toNat / 10 by omega, show (n % 10).toNat = n.toNat % 10 by omega]
theorem itoa_len (n : Int) (h0 : -9223372036854775808 ≤ n) (h1 : n ≤ 9223372036854775807) : (Lib.itoa n).length ≤ 20 := by
  have key : ∀ (k : Nat) (u : Nat), u < 10 ^ k → 0 < k → (Lib.decDigits u).length ≤ k := by
    intro k
    induction k with
    | zero => intro u _ h; omega
    | succ k ih =>
      intro u hu _
      rw [Lib.decDigits]
      split
      · simp
      · rename_i hb
        have hk : 0 < k := by
          rcases Nat.eq_zero_or_pos k with q | q
          · subst q; omega
          · exact q
        have := ih (u / 10) (by rw [Nat.pow_succ] at hu; omega) hk
        simp; omega
  unfold Lib.itoa
  split
  · have := key 19 n.natAbs (by omega) (by omega)
    simp; omega
  · have := key 19 n.toNat (by omega) (by omega)
    omega
theorem digit_cut (n : Int) (h0 : 0 ≤ n) (h1 : n < 10) : List.drop n.toNat (48 :: List.take n.toNat [(49 : UInt8), 50, 51, 52, 53, 54, 55, 56, 57]) = [UInt8.ofNat (48 + n.toNat)] := by
  have key : ∀ m : Fin 10, List.drop m.val (48 :: List.take m.val [(49 : UInt8), 50, 51, 52, 53, 54, 55, 56, 57]) = [UInt8.ofNat (48 + m.val)] := by decide
  exact key ⟨n.toNat, by omega⟩
theorem refNumber : ∀ (k : Nat) (n : Int), 2 * n.natAbs + (if n < 0 then 1 else 0) ≤ k → -9223372036854775808 ≤ n → n ≤ 9223372036854775807 → PC Tryd.prog G0 43 [.int .i64 n] (.str (Lib.itoa n)) := by
  intro k
  induction k using Nat.strongRecOn with
  | _ k ih =>
  intro n hk h0 h1
  have hd := tdiv10 n
  have hm := tmod10 n
  by_cases hn : n < 0
  · rw [if_pos hn] at hk
    rw [if_neg (by omega)] at hd hm
    by_cases hs : -10 < n
    · have e2 : (0 - n) = -n := by omega
      have hl := itoa_len (-n) (by omega) (by omega)
      refine pc_go 0 36 [.tmp 2] Tryd.func43 rfl rfl rfl (by simp) ?_
      intro s ⟨a0, hz⟩
      clear hz
      repeat' (first | (first | (refine acc_id ?_; first | refine acc_pure rfl rfl ?_ | refine acc_end rfl ?_ | refine acc_eff rfl rfl ?_ | refine acc_call rfl ?_ | refine acc_gp rfl rfl rfl ?_ | refine acc_gc rfl rfl ?_) | (refine go_id ?_; first | refine go_seq rfl ?_ | refine go_region rfl rfl ?_ | refine go_draw (dr := allQ) rfl rfl mixed (by kernel_rfl) ?_ | refine go_cond rfl ?_ | refine go_block rfl ?_ | refine go_skip rfl ?_ | refine go_ret rfl ?_ | refine go_exit rfl ?_) | (refine out_id ?_; first | refine out_then ?_ | refine out_then_ret ?_ | refine out_then_exit ?_ | refine out_block_ret ?_ | refine out_block ?_ | refine out_block_exit rfl ?_ | refine out_block_exit' rfl ?_ | refine out_thenS_ret ?_ | refine out_thenS_exit ?_ | refine out_ret ?_ | refine out_normal ?_ | refine out_retH ?_ | refine out_normalH ?_ | refine out_end ?_)) | refine at_go ?_ | (with_reducible refine And.intro (at_go ?_) (at_go ?_)) | ((with_reducible refine And.intro (fun h => ?_) (fun h => ?_)) <;> try (exfalso; omega)) | (with_reducible refine And.intro (by omega) ?_) | (first | (refine ⟨_, _, pc_lift (ih (2 * (-n).natAbs) (by omega) (-n) (by rw [if_neg (by omega)]; omega) (by omega) (by omega)) (by (simp [idsL, idsE, AV.ids, Nat.add_zero])) _, ?_⟩) | (refine ⟨_, pc_lift (ih (2 * (-n).natAbs) (by omega) (-n) (by rw [if_neg (by omega)]; omega) (by omega) (by omega)) (by (simp [idsL, idsE, AV.ids, Nat.add_zero])) _, ?_⟩) | (refine ⟨_, fun _ => pc_lift (ih (2 * (-n).natAbs) (by omega) (-n) (by rw [if_neg (by omega)]; omega) (by omega) (by omega)) (by (simp [idsL, idsE, AV.ids, Nat.add_zero])) _, ?_⟩)) | simp (disch := first | omega | (simp only [List.length_nil, List.length_set, List.length_reverse, List.length_replicate, List.length_append, List.length_cons, List.length_nil, List.length_map]; omega)) only [push_cast, ↓reduceIte, reduceIte, reduceCtorEq, Nat.reduceAdd, Nat.reduceLT, Nat.reduceEqDiff, Nat.reduceLeDiff, Int.reduceAdd, Int.reduceLT, Int.reduceLE, Nat.reduceMul, ti3, ti9, ti10, en43, a0, wrap64, e2])
      exact ⟨by simp only [maxLen]; omega, by rw [itoa_neg n hn]⟩
    · have l1 := itoa_len (-((-n) / 10)) (by omega) (by omega)
      have l2 := itoa_len ((-n) % 10) (by omega) (by omega)
      have e2 : 0 - -((-n) % 10) = (-n) % 10 := by omega
      refine pc_go 0 36 [.tmp 2] Tryd.func43 rfl rfl rfl (by simp) ?_
      intro s ⟨a0, hz⟩
      clear hz
      repeat' (first | (first | (refine acc_id ?_; first | refine acc_pure rfl rfl ?_ | refine acc_end rfl ?_ | refine acc_eff rfl rfl ?_ | refine acc_call rfl ?_ | refine acc_gp rfl rfl rfl ?_ | refine acc_gc rfl rfl ?_) | (refine go_id ?_; first | refine go_seq rfl ?_ | refine go_region rfl rfl ?_ | refine go_draw (dr := allQ) rfl rfl mixed (by kernel_rfl) ?_ | refine go_cond rfl ?_ | refine go_block rfl ?_ | refine go_skip rfl ?_ | refine go_ret rfl ?_ | refine go_exit rfl ?_) | (refine out_id ?_; first | refine out_then ?_ | refine out_then_ret ?_ | refine out_then_exit ?_ | refine out_block_ret ?_ | refine out_block ?_ | refine out_block_exit rfl ?_ | refine out_block_exit' rfl ?_ | refine out_thenS_ret ?_ | refine out_thenS_exit ?_ | refine out_ret ?_ | refine out_normal ?_ | refine out_retH ?_ | refine out_normalH ?_ | refine out_end ?_)) | refine at_go ?_ | (with_reducible refine And.intro (at_go ?_) (at_go ?_)) | ((with_reducible refine And.intro (fun h => ?_) (fun h => ?_)) <;> try (exfalso; omega)) | (with_reducible refine And.intro (by omega) ?_) | (first | (refine ⟨_, _, pc_lift (ih (2 * (-((-n) / 10)).natAbs + 1) (by omega) (-((-n) / 10)) (by split <;> omega) (by omega) (by omega)) (by (simp [idsL, idsE, AV.ids, Nat.add_zero])) _, ?_⟩) | (refine ⟨_, pc_lift (ih (2 * (-((-n) / 10)).natAbs + 1) (by omega) (-((-n) / 10)) (by split <;> omega) (by omega) (by omega)) (by (simp [idsL, idsE, AV.ids, Nat.add_zero])) _, ?_⟩) | (refine ⟨_, fun _ => pc_lift (ih (2 * (-((-n) / 10)).natAbs + 1) (by omega) (-((-n) / 10)) (by split <;> omega) (by omega) (by omega)) (by (simp [idsL, idsE, AV.ids, Nat.add_zero])) _, ?_⟩) | (refine ⟨_, _, pc_lift (ih (2 * ((-n) % 10).natAbs) (by omega) ((-n) % 10) (by rw [if_neg (by omega)]; omega) (by omega) (by omega)) (by (simp [idsL, idsE, AV.ids, Nat.add_zero])) _, ?_⟩) | (refine ⟨_, pc_lift (ih (2 * ((-n) % 10).natAbs) (by omega) ((-n) % 10) (by rw [if_neg (by omega)]; omega) (by omega) (by omega)) (by (simp [idsL, idsE, AV.ids, Nat.add_zero])) _, ?_⟩) | (refine ⟨_, fun _ => pc_lift (ih (2 * ((-n) % 10).natAbs) (by omega) ((-n) % 10) (by rw [if_neg (by omega)]; omega) (by omega) (by omega)) (by (simp [idsL, idsE, AV.ids, Nat.add_zero])) _, ?_⟩)) | simp (disch := first | omega | (simp only [List.length_nil, List.length_set, List.length_reverse, List.length_replicate, List.length_append, List.length_cons, List.length_nil, List.length_map]; omega)) only [push_cast, ↓reduceIte, reduceIte, reduceCtorEq, Nat.reduceAdd, Nat.reduceLT, Nat.reduceEqDiff, Nat.reduceLeDiff, Int.reduceAdd, Int.reduceLT, Int.reduceLE, Nat.reduceMul, ti3, ti9, ti10, en43, a0, wrap64, hd, hm, e2])
      refine ⟨by simp only [maxLen]; omega, ?_⟩
      rw [itoa_neg n hn, itoa_neg (-((-n) / 10)) (by omega), itoa_big (-n) (by omega), Int.neg_neg, List.cons_append]
  · rw [if_neg hn] at hk
    rw [if_pos (by omega)] at hd hm
    by_cases hs : n < 10
    · have e2 : (n + 1).toNat = n.toNat + 1 := by omega
      refine pc_go 0 36 [.tmp 2] Tryd.func43 rfl rfl rfl (by simp) ?_
      intro s ⟨a0, hz⟩
      clear hz
      repeat' (first | (first | (refine acc_id ?_; first | refine acc_pure rfl rfl ?_ | refine acc_end rfl ?_ | refine acc_eff rfl rfl ?_ | refine acc_call rfl ?_ | refine acc_gp rfl rfl rfl ?_ | refine acc_gc rfl rfl ?_) | (refine go_id ?_; first | refine go_seq rfl ?_ | refine go_region rfl rfl ?_ | refine go_draw (dr := allQ) rfl rfl mixed (by kernel_rfl) ?_ | refine go_cond rfl ?_ | refine go_block rfl ?_ | refine go_skip rfl ?_ | refine go_ret rfl ?_ | refine go_exit rfl ?_) | (refine out_id ?_; first | refine out_then ?_ | refine out_then_ret ?_ | refine out_then_exit ?_ | refine out_block_ret ?_ | refine out_block ?_ | refine out_block_exit rfl ?_ | refine out_block_exit' rfl ?_ | refine out_thenS_ret ?_ | refine out_thenS_exit ?_ | refine out_ret ?_ | refine out_normal ?_ | refine out_retH ?_ | refine out_normalH ?_ | refine out_end ?_)) | refine at_go ?_ | (with_reducible refine And.intro (at_go ?_) (at_go ?_)) | ((with_reducible refine And.intro (fun h => ?_) (fun h => ?_)) <;> try (exfalso; omega)) | (with_reducible refine And.intro (by omega) ?_) | (first | (refine ⟨_, _, pc_lift (fail) (by (simp [idsL, idsE, AV.ids, Nat.add_zero])) _, ?_⟩) | (refine ⟨_, pc_lift (fail) (by (simp [idsL, idsE, AV.ids, Nat.add_zero])) _, ?_⟩) | (refine ⟨_, fun _ => pc_lift (fail) (by (simp [idsL, idsE, AV.ids, Nat.add_zero])) _, ?_⟩)) | simp (disch := first | omega | (simp only [List.length_nil, List.length_set, List.length_reverse, List.length_replicate, List.length_append, List.length_cons, List.length_nil, List.length_map]; omega)) only [push_cast, ↓reduceIte, reduceIte, reduceCtorEq, Nat.reduceAdd, Nat.reduceLT, Nat.reduceEqDiff, Nat.reduceLeDiff, Int.reduceAdd, Int.reduceLT, Int.reduceLE, Nat.reduceMul, ti3, ti9, ti10, en43, a0, wrap64, e2])
      rw [digit_cut n (by omega) hs, itoa_small n (by omega) hs]
    · have l1 := itoa_len (n / 10) (by omega) (by omega)
      have l2 := itoa_len (n % 10) (by omega) (by omega)
      refine pc_go 0 36 [.tmp 2] Tryd.func43 rfl rfl rfl (by simp) ?_
      intro s ⟨a0, hz⟩
      clear hz
      repeat' (first | (first | (refine acc_id ?_; first | refine acc_pure rfl rfl ?_ | refine acc_end rfl ?_ | refine acc_eff rfl rfl ?_ | refine acc_call rfl ?_ | refine acc_gp rfl rfl rfl ?_ | refine acc_gc rfl rfl ?_) | (refine go_id ?_; first | refine go_seq rfl ?_ | refine go_region rfl rfl ?_ | refine go_draw (dr := allQ) rfl rfl mixed (by kernel_rfl) ?_ | refine go_cond rfl ?_ | refine go_block rfl ?_ | refine go_skip rfl ?_ | refine go_ret rfl ?_ | refine go_exit rfl ?_) | (refine out_id ?_; first | refine out_then ?_ | refine out_then_ret ?_ | refine out_then_exit ?_ | refine out_block_ret ?_ | refine out_block ?_ | refine out_block_exit rfl ?_ | refine out_block_exit' rfl ?_ | refine out_thenS_ret ?_ | refine out_thenS_exit ?_ | refine out_ret ?_ | refine out_normal ?_ | refine out_retH ?_ | refine out_normalH ?_ | refine out_end ?_)) | refine at_go ?_ | (with_reducible refine And.intro (at_go ?_) (at_go ?_)) | ((with_reducible refine And.intro (fun h => ?_) (fun h => ?_)) <;> try (exfalso; omega)) | (with_reducible refine And.intro (by omega) ?_) | (first | (refine ⟨_, _, pc_lift (ih (2 * (n / 10).natAbs) (by omega) (n / 10) (by rw [if_neg (by omega)]; omega) (by omega) (by omega)) (by (simp [idsL, idsE, AV.ids, Nat.add_zero])) _, ?_⟩) | (refine ⟨_, pc_lift (ih (2 * (n / 10).natAbs) (by omega) (n / 10) (by rw [if_neg (by omega)]; omega) (by omega) (by omega)) (by (simp [idsL, idsE, AV.ids, Nat.add_zero])) _, ?_⟩) | (refine ⟨_, fun _ => pc_lift (ih (2 * (n / 10).natAbs) (by omega) (n / 10) (by rw [if_neg (by omega)]; omega) (by omega) (by omega)) (by (simp [idsL, idsE, AV.ids, Nat.add_zero])) _, ?_⟩) | (refine ⟨_, _, pc_lift (ih (2 * (n % 10).natAbs) (by omega) (n % 10) (by rw [if_neg (by omega)]; omega) (by omega) (by omega)) (by (simp [idsL, idsE, AV.ids, Nat.add_zero])) _, ?_⟩) | (refine ⟨_, pc_lift (ih (2 * (n % 10).natAbs) (by omega) (n % 10) (by rw [if_neg (by omega)]; omega) (by omega) (by omega)) (by (simp [idsL, idsE, AV.ids, Nat.add_zero])) _, ?_⟩) | (refine ⟨_, fun _ => pc_lift (ih (2 * (n % 10).natAbs) (by omega) (n % 10) (by rw [if_neg (by omega)]; omega) (by omega) (by omega)) (by (simp [idsL, idsE, AV.ids, Nat.add_zero])) _, ?_⟩)) | simp (disch := first | omega | (simp only [List.length_nil, List.length_set, List.length_reverse, List.length_replicate, List.length_append, List.length_cons, List.length_nil, List.length_map]; omega)) only [push_cast, ↓reduceIte, reduceIte, reduceCtorEq, Nat.reduceAdd, Nat.reduceLT, Nat.reduceEqDiff, Nat.reduceLeDiff, Int.reduceAdd, Int.reduceLT, Int.reduceLE, Nat.reduceMul, ti3, ti9, ti10, en43, a0, wrap64, hd, hm])
      exact ⟨by simp only [maxLen]; omega, by rw [← itoa_big n (by omega)]⟩
end Go.Proofs
