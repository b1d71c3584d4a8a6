import Derived.Test.YtjoldnonnjleoaaDoorW20
namespace Go.Proofs
open Go Go.V
set_option linter.unusedVariables false
set_option linter.unusedSimpArgs false
set_option maxHeartbeats 0
set_option maxRecDepth 100000
theorem rankR_append (n : Int) : ∀ (xs : List Int) (acc : Int) (ys : List Int), rankR n acc (xs ++ ys) = (rankR n acc xs).bind fun a => rankR n a ys
  | [], acc, ys => rfl
  | c :: cs, acc, ys => by
    rw [List.cons_append, rankR, rankR]
    split
    · rfl
    · exact rankR_append n cs _ ys
theorem rank_at (N : Nat) (hN : 1 ≤ N) : ∀ (k R : Nat), R ≤ k → R ≤ 4611686018427387903 → rankR N 0 (atL N R).reverse = some (R : Int)
  | 0, R, h, _ => by
    have : R = 0 := by omega
    subst this; rw [atL_zero]; rfl
  | k + 1, R, h, hR => by
    rcases Nat.eq_zero_or_pos R with h0 | h0
    · subst h0; rw [atL_zero]; rfl
    · have hd := Nat.div_add_mod (R - 1) N
      have hl : (R - 1) / N ≤ R - 1 := Nat.div_le_self _ _
      have ih := rank_at N hN k ((R - 1) / N) (by omega) (by omega)
      rw [atL_pos N R h0, List.reverse_cons, rankR_append, ih, Option.bind_some, rankR]
      generalize hc : (R - 1) % N = c at *
      generalize hq : (R - 1) / N = q at *
      have e : (q : Int) * N + c + 1 = R := by
        have : q * N + c + 1 = R := by rw [Nat.mul_comm]; omega
        exact_mod_cast this
      have hge : ¬ (4611686018427387903 - (c : Int) - 1).tdiv N < q := by
        have hpos : 0 ≤ 4611686018427387903 - (c : Int) - 1 := by
          have : c ≤ R - 1 := by rw [← hc]; exact Nat.mod_le _ _
          omega
        rw [Int.tdiv_eq_ediv_of_nonneg hpos, Int.not_lt, Int.le_ediv_iff_mul_le (by omega)]
        omega
      rw [if_neg hge, e]
      rfl
theorem atL_bad (N : Nat) (hN : 1 ≤ N) : ∀ (k R : Nat), R ≤ k → ∀ x ∈ atL N R, badI N x = false
  | 0, R, h, x, hx => by
    have : R = 0 := by omega
    subst this; rw [atL_zero] at hx; simp at hx
  | k + 1, R, h, x, hx => by
    rcases Nat.eq_zero_or_pos R with h0 | h0
    · subst h0; rw [atL_zero] at hx; simp at hx
    · have hl : (R - 1) / N ≤ R - 1 := Nat.div_le_self _ _
      rw [atL_pos N R h0] at hx
      rcases List.mem_cons.1 hx with rfl | hx
      · have := Nat.mod_lt (R - 1) (show 0 < N by omega)
        simp only [badI, Bool.or_eq_false_iff, decide_eq_false_iff_not]
        omega
      · exact atL_bad N hN k _ (by omega) x hx
theorem atE_range (r n : Int) : atE r n = 0 → 1 ≤ n ∧ n ≤ 16 ∧ 0 ≤ r ∧ r ≤ 4611686018427387903 := by
  intro h
  unfold atE at h
  split at h
  · cases h
  split at h
  · cases h
  omega
theorem at_check (r n : Int) (h : atE r n = 0) : checkM (atM r n).1 n = 0 := by
  have hr := atE_range r n h
  rw [atM, if_neg (by simp [h])]
  have hl := atL_short r n h
  obtain ⟨N, hN⟩ : ∃ N : Nat, n = N := ⟨n.toNat, by omega⟩
  subst hN
  simp only [Int.toNat_natCast] at *
  rw [checkM, if_neg (by simp; omega), if_neg (by omega), if_neg]
  simp only [List.any_reverse, List.any_eq_true, not_exists, not_and]
  intro x hx
  rw [atL_bad N (by omega) _ _ (Nat.le_refl _) x hx]; simp
theorem at_rank (r n : Int) (h : atE r n = 0) : rankM (atM r n).1 n = (r, 0) := by
  have hc := at_check r n h
  have hr := atE_range r n h
  rw [rankM_ok hc, atM, if_neg (by simp [h])]
  obtain ⟨N, hN⟩ : ∃ N : Nat, n = N := ⟨n.toNat, by omega⟩
  obtain ⟨R, hR⟩ : ∃ R : Nat, r = R := ⟨r.toNat, by omega⟩
  subst hN; subst hR
  simp only [Int.toNat_natCast] at *
  rw [rank_at N (by omega) R R (Nat.le_refl _) (by omega)]
theorem at_len (r n : Int) : (atM r n).1.length ≤ 256 := by
  by_cases h : atE r n = 0
  · rw [atM, if_neg (by simp [h])]
    have := atL_short r n h
    simpa using this
  · rw [atM, if_pos h]; simp
theorem raw_law (r n : Int) : PC Tryd.prog G0 6 [.int .i64 r, .int .i64 n] (.bool true) := by
  by_cases he : atE r n = 0
  · have hc := at_check r n he
    have hk := at_rank r n he
    have hl := at_len r n
    have hr := atE_range r n he
    have hm : (atM r n).2 = 0 := by rw [atM, if_neg (by simp [he])]
    have h1 : ¬ (n = 1 ∧ 256 < r) := by
      unfold atE at he
      rw [if_neg (by omega), if_neg (by omega)] at he
      intro q; rw [if_pos q] at he; cases he
    have hA := wAt r n
    have hR := wRank (atM r n).1 (some (atM r n).1.length) n (by omega)
    have hC := refCheck (atM r n).1 (some (atM r n).1.length) n (by omega)
    rw [hm] at hA
    rw [hk] at hR
    rw [hc] at hC
    generalize (atM r n).1 = w at *
    refine pc_go 1 76 [.tmp 4] Tryd.func6 rfl rfl rfl (by simp) ?_
    intro s ⟨a0, a1, hz⟩
    simp only [Nat.zero_add, Nat.reduceAdd] at a1
    clear hz
    repeat' (first | (first | (refine acc_id ?_; first | refine acc_pure rfl rfl ?_ | refine acc_end rfl ?_ | refine acc_eff rfl rfl ?_ | refine acc_call rfl ?_ | refine acc_gp rfl rfl rfl ?_ | refine acc_gc rfl rfl ?_) | (refine go_id ?_; first | refine go_seq rfl ?_ | refine go_region rfl rfl ?_ | refine go_draw (dr := allQ) rfl rfl mixed (by kernel_rfl) ?_ | refine go_cond rfl ?_ | refine go_block rfl ?_ | refine go_skip rfl ?_ | refine go_ret rfl ?_ | refine go_exit rfl ?_) | (refine out_id ?_; first | refine out_then ?_ | refine out_then_ret ?_ | refine out_then_exit ?_ | refine out_block_ret ?_ | refine out_block ?_ | refine out_block_exit rfl ?_ | refine out_block_exit' rfl ?_ | refine out_thenS_ret ?_ | refine out_thenS_exit ?_ | refine out_ret ?_ | refine out_normal ?_ | refine out_retH ?_ | refine out_normalH ?_ | refine out_end ?_)) | refine at_go ?_ | (with_reducible refine And.intro (at_go ?_) (at_go ?_)) | ((with_reducible refine And.intro (fun h => ?_) (fun h => ?_)) <;> try (exfalso; omega)) | (with_reducible refine And.intro (by omega) ?_) | (first | (refine ⟨_, _, pc_lift (hA) (by (simp [idsL, idsE, AV.ids, idsE_ints])) _, ?_⟩) | (refine ⟨_, pc_lift (hA) (by (simp [idsL, idsE, AV.ids, idsE_ints])) _, ?_⟩) | (refine ⟨_, fun _ => pc_lift (hA) (by (simp [idsL, idsE, AV.ids, idsE_ints])) _, ?_⟩) | (refine ⟨_, _, pc_lift (hR) (by (simp [idsL, idsE, AV.ids, idsE_ints])) _, ?_⟩) | (refine ⟨_, pc_lift (hR) (by (simp [idsL, idsE, AV.ids, idsE_ints])) _, ?_⟩) | (refine ⟨_, fun _ => pc_lift (hR) (by (simp [idsL, idsE, AV.ids, idsE_ints])) _, ?_⟩) | (refine ⟨_, _, pc_lift (hC) (by (simp [idsL, idsE, AV.ids, idsE_ints])) _, ?_⟩) | (refine ⟨_, pc_lift (hC) (by (simp [idsL, idsE, AV.ids, idsE_ints])) _, ?_⟩) | (refine ⟨_, fun _ => pc_lift (hC) (by (simp [idsL, idsE, AV.ids, idsE_ints])) _, ?_⟩) | (refine ⟨_, _, pc_lift (lives16) (by (simp [idsL, idsE, AV.ids, idsE_ints])) _, ?_⟩) | (refine ⟨_, pc_lift (lives16) (by (simp [idsL, idsE, AV.ids, idsE_ints])) _, ?_⟩) | (refine ⟨_, fun _ => pc_lift (lives16) (by (simp [idsL, idsE, AV.ids, idsE_ints])) _, ?_⟩)) | simp (disch := first | omega | (simp only [length_ints, List.length_set, List.length_reverse, List.length_replicate, List.length_append, List.length_cons, List.length_nil, List.length_map]; omega)) only [push_cast, ↓reduceIte, reduceIte, reduceCtorEq, Nat.reduceAdd, Nat.reduceLT, Nat.reduceEqDiff, Nat.reduceLeDiff, Int.reduceAdd, Int.reduceLT, Int.reduceLE, Nat.reduceMul, ti3, ti22, ti32, en16, en19, en21, en22, en25, a0, a1, length_ints, wrap64])
    all_goals trace_state
    all_goals sorry
  · have hm : atM r n = ([], atE r n) := by rw [atM, if_pos he]
    have hA := wAt r n
    rw [hm] at hA
    have hW : ∀ f : Int, PC Tryd.prog G0 21 [.sl 1 (ints []) (some 0), .int .i64 f, .sl 0 [] (some 0), .int .i64 f] (.bool true) := fun f => by
      have h := word21 [] [] 0 (some 0) f f (by simp) (by simp)
      have e : (decide (f = f) && sameM [] [] && decide (0 = ([] : List Int).length)) = true := by simp [sameM, cmpM, lexI]
      rw [e] at h
      exact ac_eqv h (by simp [eqvL, ints])
    refine pc_go 1 76 [.tmp 4] Tryd.func6 rfl rfl rfl (by simp) ?_
    intro s ⟨a0, a1, hz⟩
    simp only [Nat.zero_add, Nat.reduceAdd] at a1
    clear hz
    by_cases c1 : 16 < n
    · have e : atE r n = 3 := by rw [atE, if_pos c1]
      rw [e] at hA
      repeat' (first | (first | (refine acc_id ?_; first | refine acc_pure rfl rfl ?_ | refine acc_end rfl ?_ | refine acc_eff rfl rfl ?_ | refine acc_call rfl ?_ | refine acc_gp rfl rfl rfl ?_ | refine acc_gc rfl rfl ?_) | (refine go_id ?_; first | refine go_seq rfl ?_ | refine go_region rfl rfl ?_ | refine go_draw (dr := allQ) rfl rfl mixed (by kernel_rfl) ?_ | refine go_cond rfl ?_ | refine go_block rfl ?_ | refine go_skip rfl ?_ | refine go_ret rfl ?_ | refine go_exit rfl ?_) | (refine out_id ?_; first | refine out_then ?_ | refine out_then_ret ?_ | refine out_then_exit ?_ | refine out_block_ret ?_ | refine out_block ?_ | refine out_block_exit rfl ?_ | refine out_block_exit' rfl ?_ | refine out_thenS_ret ?_ | refine out_thenS_exit ?_ | refine out_ret ?_ | refine out_normal ?_ | refine out_retH ?_ | refine out_normalH ?_ | refine out_end ?_)) | refine at_go ?_ | (with_reducible refine And.intro (at_go ?_) (at_go ?_)) | ((with_reducible refine And.intro (fun h => ?_) (fun h => ?_)) <;> try (exfalso; omega)) | (with_reducible refine And.intro (by omega) ?_) | (first | (refine ⟨_, _, pc_lift (hA) (by (simp [idsL, idsE, AV.ids, idsE_ints])) _, ?_⟩) | (refine ⟨_, pc_lift (hA) (by (simp [idsL, idsE, AV.ids, idsE_ints])) _, ?_⟩) | (refine ⟨_, fun _ => pc_lift (hA) (by (simp [idsL, idsE, AV.ids, idsE_ints])) _, ?_⟩) | (refine ⟨_, _, pc_lift (hW _) (by (simp [idsL, idsE, AV.ids, idsE_ints])) _, ?_⟩) | (refine ⟨_, pc_lift (hW _) (by (simp [idsL, idsE, AV.ids, idsE_ints])) _, ?_⟩) | (refine ⟨_, fun _ => pc_lift (hW _) (by (simp [idsL, idsE, AV.ids, idsE_ints])) _, ?_⟩) | (refine ⟨_, _, pc_lift (lives16) (by (simp [idsL, idsE, AV.ids, idsE_ints])) _, ?_⟩) | (refine ⟨_, pc_lift (lives16) (by (simp [idsL, idsE, AV.ids, idsE_ints])) _, ?_⟩) | (refine ⟨_, fun _ => pc_lift (lives16) (by (simp [idsL, idsE, AV.ids, idsE_ints])) _, ?_⟩)) | simp (disch := first | omega | (simp only [length_ints, List.length_set, List.length_reverse, List.length_replicate, List.length_append, List.length_cons, List.length_nil, List.length_map]; omega)) only [push_cast, ↓reduceIte, reduceIte, reduceCtorEq, Nat.reduceAdd, Nat.reduceLT, Nat.reduceEqDiff, Nat.reduceLeDiff, Int.reduceAdd, Int.reduceLT, Int.reduceLE, Nat.reduceMul, ti3, ti22, ti32, en16, en19, en21, en22, en25, a0, a1, length_ints, wrap64])
    · by_cases c2 : n < 1 ∨ r < 0 ∨ 4611686018427387903 < r
      · have e : atE r n = 1 := by rw [atE, if_neg c1, if_pos c2]
        rw [e] at hA
        repeat' (first | (first | (refine acc_id ?_; first | refine acc_pure rfl rfl ?_ | refine acc_end rfl ?_ | refine acc_eff rfl rfl ?_ | refine acc_call rfl ?_ | refine acc_gp rfl rfl rfl ?_ | refine acc_gc rfl rfl ?_) | (refine go_id ?_; first | refine go_seq rfl ?_ | refine go_region rfl rfl ?_ | refine go_draw (dr := allQ) rfl rfl mixed (by kernel_rfl) ?_ | refine go_cond rfl ?_ | refine go_block rfl ?_ | refine go_skip rfl ?_ | refine go_ret rfl ?_ | refine go_exit rfl ?_) | (refine out_id ?_; first | refine out_then ?_ | refine out_then_ret ?_ | refine out_then_exit ?_ | refine out_block_ret ?_ | refine out_block ?_ | refine out_block_exit rfl ?_ | refine out_block_exit' rfl ?_ | refine out_thenS_ret ?_ | refine out_thenS_exit ?_ | refine out_ret ?_ | refine out_normal ?_ | refine out_retH ?_ | refine out_normalH ?_ | refine out_end ?_)) | refine at_go ?_ | (with_reducible refine And.intro (at_go ?_) (at_go ?_)) | ((with_reducible refine And.intro (fun h => ?_) (fun h => ?_)) <;> try (exfalso; omega)) | (with_reducible refine And.intro (by omega) ?_) | (first | (refine ⟨_, _, pc_lift (hA) (by (simp [idsL, idsE, AV.ids, idsE_ints])) _, ?_⟩) | (refine ⟨_, pc_lift (hA) (by (simp [idsL, idsE, AV.ids, idsE_ints])) _, ?_⟩) | (refine ⟨_, fun _ => pc_lift (hA) (by (simp [idsL, idsE, AV.ids, idsE_ints])) _, ?_⟩) | (refine ⟨_, _, pc_lift (hW _) (by (simp [idsL, idsE, AV.ids, idsE_ints])) _, ?_⟩) | (refine ⟨_, pc_lift (hW _) (by (simp [idsL, idsE, AV.ids, idsE_ints])) _, ?_⟩) | (refine ⟨_, fun _ => pc_lift (hW _) (by (simp [idsL, idsE, AV.ids, idsE_ints])) _, ?_⟩) | (refine ⟨_, _, pc_lift (lives16) (by (simp [idsL, idsE, AV.ids, idsE_ints])) _, ?_⟩) | (refine ⟨_, pc_lift (lives16) (by (simp [idsL, idsE, AV.ids, idsE_ints])) _, ?_⟩) | (refine ⟨_, fun _ => pc_lift (lives16) (by (simp [idsL, idsE, AV.ids, idsE_ints])) _, ?_⟩)) | simp (disch := first | omega | (simp only [length_ints, List.length_set, List.length_reverse, List.length_replicate, List.length_append, List.length_cons, List.length_nil, List.length_map]; omega)) only [push_cast, ↓reduceIte, reduceIte, reduceCtorEq, Nat.reduceAdd, Nat.reduceLT, Nat.reduceEqDiff, Nat.reduceLeDiff, Int.reduceAdd, Int.reduceLT, Int.reduceLE, Nat.reduceMul, ti3, ti22, ti32, en16, en19, en21, en22, en25, a0, a1, length_ints, wrap64])
      · by_cases c3 : n = 1 ∧ 256 < r
        · have e : atE r n = 3 := by rw [atE, if_neg c1, if_neg c2, if_pos c3]
          rw [e] at hA
          repeat' (first | (first | (refine acc_id ?_; first | refine acc_pure rfl rfl ?_ | refine acc_end rfl ?_ | refine acc_eff rfl rfl ?_ | refine acc_call rfl ?_ | refine acc_gp rfl rfl rfl ?_ | refine acc_gc rfl rfl ?_) | (refine go_id ?_; first | refine go_seq rfl ?_ | refine go_region rfl rfl ?_ | refine go_draw (dr := allQ) rfl rfl mixed (by kernel_rfl) ?_ | refine go_cond rfl ?_ | refine go_block rfl ?_ | refine go_skip rfl ?_ | refine go_ret rfl ?_ | refine go_exit rfl ?_) | (refine out_id ?_; first | refine out_then ?_ | refine out_then_ret ?_ | refine out_then_exit ?_ | refine out_block_ret ?_ | refine out_block ?_ | refine out_block_exit rfl ?_ | refine out_block_exit' rfl ?_ | refine out_thenS_ret ?_ | refine out_thenS_exit ?_ | refine out_ret ?_ | refine out_normal ?_ | refine out_retH ?_ | refine out_normalH ?_ | refine out_end ?_)) | refine at_go ?_ | (with_reducible refine And.intro (at_go ?_) (at_go ?_)) | ((with_reducible refine And.intro (fun h => ?_) (fun h => ?_)) <;> try (exfalso; omega)) | (with_reducible refine And.intro (by omega) ?_) | (first | (refine ⟨_, _, pc_lift (hA) (by (simp [idsL, idsE, AV.ids, idsE_ints])) _, ?_⟩) | (refine ⟨_, pc_lift (hA) (by (simp [idsL, idsE, AV.ids, idsE_ints])) _, ?_⟩) | (refine ⟨_, fun _ => pc_lift (hA) (by (simp [idsL, idsE, AV.ids, idsE_ints])) _, ?_⟩) | (refine ⟨_, _, pc_lift (hW _) (by (simp [idsL, idsE, AV.ids, idsE_ints])) _, ?_⟩) | (refine ⟨_, pc_lift (hW _) (by (simp [idsL, idsE, AV.ids, idsE_ints])) _, ?_⟩) | (refine ⟨_, fun _ => pc_lift (hW _) (by (simp [idsL, idsE, AV.ids, idsE_ints])) _, ?_⟩) | (refine ⟨_, _, pc_lift (lives16) (by (simp [idsL, idsE, AV.ids, idsE_ints])) _, ?_⟩) | (refine ⟨_, pc_lift (lives16) (by (simp [idsL, idsE, AV.ids, idsE_ints])) _, ?_⟩) | (refine ⟨_, fun _ => pc_lift (lives16) (by (simp [idsL, idsE, AV.ids, idsE_ints])) _, ?_⟩)) | simp (disch := first | omega | (simp only [length_ints, List.length_set, List.length_reverse, List.length_replicate, List.length_append, List.length_cons, List.length_nil, List.length_map]; omega)) only [push_cast, ↓reduceIte, reduceIte, reduceCtorEq, Nat.reduceAdd, Nat.reduceLT, Nat.reduceEqDiff, Nat.reduceLeDiff, Int.reduceAdd, Int.reduceLT, Int.reduceLE, Nat.reduceMul, ti3, ti22, ti32, en16, en19, en21, en22, en25, a0, a1, length_ints, wrap64])
        · exact absurd (by rw [atE, if_neg c1, if_neg c2, if_neg c3]) he
end Go.Proofs
