import Derived.Test.YtjoldnonnjleoaaDoorW43
/- Words: the walk of the reference's Parse: other texts. -/
namespace Go.Proofs
open Go Go.V
set_option linter.unusedVariables false
set_option linter.unusedSimpArgs false
set_option maxHeartbeats 0
set_option maxRecDepth 100000
theorem refParse_none (s0 : List UInt8) (hs : s0.length ≤ 1000000) (hne : s0 ≠ [45]) (hw : piecesM (split1 32 s0) = none) : PC Tryd.prog G0 29 [.str s0] (.tup [.sl 1 [] (some 0), .int .i64 0]) := by
  refine pc_go 1 87 [.tmp 2, .tmp 3] Tryd.func29 rfl rfl rfl (by simp) ?_
  intro s ⟨a0, hz⟩
  clear hz
  repeat' (first | (first | (refine acc_id ?_; first | refine acc_pure rfl rfl ?_ | refine acc_end rfl ?_ | refine acc_eff rfl rfl ?_ | refine acc_call rfl ?_ | refine acc_gp rfl rfl rfl ?_ | refine acc_gc rfl rfl ?_) | (refine go_id ?_; first | refine go_seq rfl ?_ | refine go_region rfl rfl ?_ | refine go_draw (dr := allQ) rfl rfl mixed (by kernel_rfl) ?_ | refine go_cond rfl ?_ | refine go_block rfl ?_ | refine go_skip rfl ?_ | refine go_ret rfl ?_ | refine go_exit rfl ?_) | (refine out_id ?_; first | refine out_then ?_ | refine out_then_ret ?_ | refine out_then_exit ?_ | refine out_block_ret ?_ | refine out_block ?_ | refine out_block_exit rfl ?_ | refine out_block_exit' rfl ?_ | refine out_thenS_ret ?_ | refine out_thenS_exit ?_ | refine out_ret ?_ | refine out_normal ?_ | refine out_retH ?_ | refine out_normalH ?_ | refine out_end ?_)) | refine at_go ?_ | (with_reducible refine And.intro (at_go ?_) (at_go ?_)) | ((with_reducible refine And.intro (fun h => ?_) (fun h => ?_)) <;> try (exfalso; omega)) | (with_reducible refine And.intro (by omega) ?_) | (first | (refine ⟨_, _, pc_lift (fail) (by (simp [idsL, idsE, AV.ids, idsE_ints])) _, ?_⟩) | (refine ⟨_, pc_lift (fail) (by (simp [idsL, idsE, AV.ids, idsE_ints])) _, ?_⟩) | (refine ⟨_, fun _ => pc_lift (fail) (by (simp [idsL, idsE, AV.ids, idsE_ints])) _, ?_⟩)) | simp (disch := first | omega | (simp only [length_ints, List.length_set, List.length_reverse, List.length_replicate, List.length_append, List.length_cons, List.length_nil, List.length_map]; omega)) only [push_cast, ↓reduceIte, reduceIte, reduceCtorEq, Nat.reduceAdd, Nat.reduceLT, Nat.reduceEqDiff, Nat.reduceLeDiff, Int.reduceAdd, Int.reduceLT, Int.reduceLE, Nat.reduceMul, ti3, ti5, ti9, ti22, a0, wrap64, hne])
  refine go_loop rfl (fun m s H => ∃ (a : Nat) (xs : List Int), a ≤ s0.length ∧ xs.length ≤ a ∧ m = s0.length - a ∧ H = [.row 1 3 (ints xs)] ∧ s 0 = .str s0 ∧ s 4 = .own 0 xs.length xs.length none ∧ s 5 = .int .i64 (a : Int) ∧ piecesM (split1 32 (s0.drop a)) = none) trivial (weak_nil (t := 4) (sz := 1) (ty := 3) (z := 0) ?_) ⟨0, [], by omega, by simp, rfl, rfl, ?_⟩ ?_
  · (simp (disch := first | omega | (simp only [length_ints, List.length_set, List.length_reverse, List.length_replicate, List.length_append, List.length_cons, List.length_nil, List.length_map]; omega)) only [push_cast, ↓reduceIte, reduceIte, reduceCtorEq, Nat.reduceAdd, Nat.reduceLT, Nat.reduceEqDiff, Nat.reduceLeDiff, Int.reduceAdd, Int.reduceLT, Int.reduceLE, Nat.reduceMul, ti3, ti5, ti9, ti22, a0, wrap64, hne]) <;> (first | rfl | exact ⟨rfl, rfl⟩ | omega | (congr 1; omega) | (simp; done) | ((repeat' apply And.intro) <;> first | rfl | omega | (congr 1; omega)))
  · simp (disch := first | omega | (simp only [length_ints, List.length_set, List.length_reverse, List.length_replicate, List.length_append, List.length_cons, List.length_nil, List.length_map]; omega)) only [push_cast, ↓reduceIte, reduceIte, reduceCtorEq, Nat.reduceAdd, Nat.reduceLT, Nat.reduceEqDiff, Nat.reduceLeDiff, Int.reduceAdd, Int.reduceLT, Int.reduceLE, Nat.reduceMul, ti3, ti5, ti9, ti22, a0, wrap64, hne]
    rw [hw]
  · rintro m s H ⟨a, xs, ha, hxa, rfl, rfl, a0, a4, a5, hm⟩
    obtain ⟨t, ht⟩ : ∃ t, t = s0.drop a := ⟨_, rfl⟩
    have htl : t.length = s0.length - a := by rw [ht]; simp
    rw [← ht] at hm
    have hl := dlen_le 10 t
    repeat' (first | (first | (refine acc_id ?_; first | refine acc_pure rfl rfl ?_ | refine acc_end rfl ?_ | refine acc_eff rfl rfl ?_ | refine acc_call rfl ?_ | refine acc_gp rfl rfl rfl ?_ | refine acc_gc rfl rfl ?_) | (refine go_id ?_; first | refine go_seq rfl ?_ | refine go_region rfl rfl ?_ | refine go_draw (dr := allQ) rfl rfl mixed (by kernel_rfl) ?_ | refine go_cond rfl ?_ | refine go_block rfl ?_ | refine go_skip rfl ?_ | refine go_ret rfl ?_ | refine go_exit rfl ?_) | (refine out_id ?_; first | refine out_then ?_ | refine out_then_ret ?_ | refine out_then_exit ?_ | refine out_block_ret ?_ | refine out_block ?_ | refine out_block_exit rfl ?_ | refine out_block_exit' rfl ?_ | refine out_thenS_ret ?_ | refine out_thenS_exit ?_ | refine out_ret ?_ | refine out_normal ?_ | refine out_retH ?_ | refine out_normalH ?_ | refine out_end ?_)) | refine at_go ?_ | (with_reducible refine And.intro (at_go ?_) (at_go ?_)) | ((with_reducible refine And.intro (fun h => ?_) (fun h => ?_)) <;> try (exfalso; omega)) | (with_reducible refine And.intro (by omega) ?_) | (first | (refine ⟨_, _, pc_lift (fail) (by (simp [idsL, idsE, AV.ids, idsE_ints])) _, ?_⟩) | (refine ⟨_, pc_lift (fail) (by (simp [idsL, idsE, AV.ids, idsE_ints])) _, ?_⟩) | (refine ⟨_, fun _ => pc_lift (fail) (by (simp [idsL, idsE, AV.ids, idsE_ints])) _, ?_⟩)) | simp (disch := first | omega | (simp only [length_ints, List.length_set, List.length_reverse, List.length_replicate, List.length_append, List.length_cons, List.length_nil, List.length_map]; omega)) only [push_cast, ↓reduceIte, reduceIte, reduceCtorEq, Nat.reduceAdd, Nat.reduceLT, Nat.reduceEqDiff, Nat.reduceLeDiff, Int.reduceAdd, Int.reduceLT, Int.reduceLE, Nat.reduceMul, ti3, ti5, ti9, ti22, a0, a4, a5, wrap64])
    refine go_loop rfl (fun m s H => ∃ (j : Nat), j ≤ dlen 10 t ∧ m = 10 - j ∧ H = [.row 1 3 (ints xs)] ∧ s 0 = .str s0 ∧ s 4 = .own 0 xs.length xs.length none ∧ s 5 = .int .i64 (a : Int) ∧ s 7 = .int .i64 ((a + j : Nat) : Int) ∧ s 6 = .int .i64 (numF 0 (t.take j)) ∧ 0 ≤ numF 0 (t.take j) ∧ numF 0 (t.take j) < ((10 ^ j : Nat) : Int)) trivial (Weak.refl _ _) ⟨0, by omega, rfl, rfl, ?_⟩ ?_
    · simp (disch := first | omega | (simp only [length_ints, List.length_set, List.length_reverse, List.length_replicate, List.length_append, List.length_cons, List.length_nil, List.length_map]; omega)) only [push_cast, ↓reduceIte, reduceIte, reduceCtorEq, Nat.reduceAdd, Nat.reduceLT, Nat.reduceEqDiff, Nat.reduceLeDiff, Int.reduceAdd, Int.reduceLT, Int.reduceLE, Nat.reduceMul, ti3, ti5, ti9, ti22, a0, a4, a5, wrap64]
      simp [numF]
    · rintro m s H ⟨j, hj, rfl, rfl, a0, a4, a5, a7, a6, n0, n1⟩
      by_cases hlt : j < dlen 10 t
      · obtain ⟨hjl, hjd⟩ := dlen_more 10 t j hlt
        have hc : s0.getD (a + j) 0 = t.getD j 0 := by rw [ht, getD_drop]
        have hsucc : t.take (j + 1) = t.take j ++ [t.getD j 0] := by rw [List.take_succ_eq_append_getElem hjl]; simp [hjl]
        have hnum : numF 0 (t.take (j + 1)) = 10 * numF 0 (t.take j) + (((t.getD j 0).toNat : Int) - 48) := by rw [hsucc, numF_append]; rfl
        simp only [isD, Bool.and_eq_true, decide_eq_true_eq] at hjd
        have hpow : 10 ^ j ≤ 10 ^ 10 := Nat.pow_le_pow_right (by decide) (by omega)
        have hpow2 : 10 ^ (j + 1) = 10 ^ j * 10 := Nat.pow_succ ..
        have hpow3 : (10 : Int) ^ (j + 1) = ((10 ^ j * 10 : Nat) : Int) := by rw [← Nat.pow_succ]; simp
        have h10 : (10 : Nat) ^ 10 = 10000000000 := by decide
        generalize t.getD j 0 = c at *
        generalize numF 0 (t.take j) = n at *
        generalize 10 ^ j = P at *
        have eN : ((a : Int) + (j : Int)).toNat = a + j := by omega
        have w8 : IntKind.u8.wrap ((c.toNat : Int) - 48) = (c.toNat : Int) - 48 := by rw [IntKind.wrap_u8]; omega
        repeat' (first | (first | (refine acc_id ?_; first | refine acc_pure rfl rfl ?_ | refine acc_end rfl ?_ | refine acc_eff rfl rfl ?_ | refine acc_call rfl ?_ | refine acc_gp rfl rfl rfl ?_ | refine acc_gc rfl rfl ?_) | (refine go_id ?_; first | refine go_seq rfl ?_ | refine go_region rfl rfl ?_ | refine go_draw (dr := allQ) rfl rfl mixed (by kernel_rfl) ?_ | refine go_cond rfl ?_ | refine go_block rfl ?_ | refine go_skip rfl ?_ | refine go_ret rfl ?_ | refine go_exit rfl ?_) | (refine out_id ?_; first | refine out_then ?_ | refine out_then_ret ?_ | refine out_then_exit ?_ | refine out_block_ret ?_ | refine out_block ?_ | refine out_block_exit rfl ?_ | refine out_block_exit' rfl ?_ | refine out_thenS_ret ?_ | refine out_thenS_exit ?_ | refine out_ret ?_ | refine out_normal ?_ | refine out_retH ?_ | refine out_normalH ?_ | refine out_end ?_)) | refine at_go ?_ | (with_reducible refine And.intro (at_go ?_) (at_go ?_)) | ((with_reducible refine And.intro (fun h => ?_) (fun h => ?_)) <;> try (exfalso; omega)) | (with_reducible refine And.intro (by omega) ?_) | (first | (refine ⟨_, _, pc_lift (fail) (by (simp [idsL, idsE, AV.ids, idsE_ints])) _, ?_⟩) | (refine ⟨_, pc_lift (fail) (by (simp [idsL, idsE, AV.ids, idsE_ints])) _, ?_⟩) | (refine ⟨_, fun _ => pc_lift (fail) (by (simp [idsL, idsE, AV.ids, idsE_ints])) _, ?_⟩)) | simp (disch := first | omega | (simp only [length_ints, List.length_set, List.length_reverse, List.length_replicate, List.length_append, List.length_cons, List.length_nil, List.length_map]; omega)) only [push_cast, ↓reduceIte, reduceIte, reduceCtorEq, Nat.reduceAdd, Nat.reduceLT, Nat.reduceEqDiff, Nat.reduceLeDiff, Int.reduceAdd, Int.reduceLT, Int.reduceLE, Nat.reduceMul, ti3, ti5, ti9, ti22, a0, a4, a5, a6, a7, wrap64, hc, eN, w8])
        refine out_round (10 - (j + 1)) (by omega) ⟨by omega, by omega⟩ ⟨j + 1, by omega, rfl, rfl, ?_⟩
        rw [hnum]
        first | rw [hpow2] | rw [hpow3]
        (simp (disch := first | omega | (simp only [length_ints, List.length_set, List.length_reverse, List.length_replicate, List.length_append, List.length_cons, List.length_nil, List.length_map]; omega)) only [push_cast, ↓reduceIte, reduceIte, reduceCtorEq, Nat.reduceAdd, Nat.reduceLT, Nat.reduceEqDiff, Nat.reduceLeDiff, Int.reduceAdd, Int.reduceLT, Int.reduceLE, Nat.reduceMul, ti3, ti5, ti9, ti22, a0, a4, a5, a6, a7, wrap64, hc, eN, w8]) <;> (first | rfl | exact ⟨rfl, rfl⟩ | omega | (congr 1; omega) | (simp; done) | ((repeat' apply And.intro) <;> first | rfl | omega | (congr 1; omega)))
      · have hj' : j = dlen 10 t := by omega
        have hstop := dlen_stop 10 t
        rw [← hj'] at hstop
        by_cases hf : failP t
        · have hF := hf
          rw [failP, ← hj'] at hF
          have hc0 : s0.getD a 0 = t.getD 0 0 := by rw [ht, getD_drop, Nat.add_zero]
          have hcK : s0.getD (a + j) 0 = t.getD j 0 := by rw [ht, getD_drop]
          have eN : ((a : Int) + (j : Int)).toNat = a + j := by omega
          have hF' : j = 0 ∨ 9 < j ∨ (1 < j ∧ (t.getD 0 0).toNat = 48) ∨ (j < t.length ∧ (t.getD j 0).toNat ≠ 32) := by
            rcases hF with h | h | h | h
            · exact .inl h
            · exact .inr (.inl h)
            · exact .inr (.inr (.inl ⟨h.1, by rw [h.2]; rfl⟩))
            · exact .inr (.inr (.inr ⟨h.1, fun q => h.2 (UInt8.toNat_inj.1 q)⟩))
          have hstop' : j = 10 ∨ j = t.length ∨ ¬ (48 ≤ (t.getD j 0).toNat ∧ (t.getD j 0).toNat ≤ 57) := by
            rcases hstop with h | h | h
            · exact .inl h
            · exact .inr (.inl h)
            · refine .inr (.inr fun q => ?_)
              have e : isD (t.getD j 0) = true := by unfold isD; rw [decide_eq_true q.1, decide_eq_true q.2]; rfl
              rw [h] at e; cases e
          clear hF hstop hf
          rw [← hj'] at hl
          generalize hn : numF 0 (t.take j) = n at *
          generalize 10 ^ j = P at *
          generalize t.getD 0 0 = c0 at *
          generalize t.getD j 0 = cK at *
          have hB1 : xs.length + 1 ≤ maxLen := by simp only [maxLen]; omega
          repeat' (first | (first | (refine acc_id ?_; first | refine acc_pure rfl rfl ?_ | refine acc_end rfl ?_ | refine acc_eff rfl rfl ?_ | refine acc_call rfl ?_ | refine acc_gp rfl rfl rfl ?_ | refine acc_gc rfl rfl ?_) | (refine go_id ?_; first | refine go_seq rfl ?_ | refine go_region rfl rfl ?_ | refine go_draw (dr := allQ) rfl rfl mixed (by kernel_rfl) ?_ | refine go_cond rfl ?_ | refine go_block rfl ?_ | refine go_skip rfl ?_ | refine go_ret rfl ?_ | refine go_exit rfl ?_) | (refine out_id ?_; first | refine out_then ?_ | refine out_then_ret ?_ | refine out_then_exit ?_ | refine out_block_ret ?_ | refine out_block ?_ | refine out_block_exit rfl ?_ | refine out_block_exit' rfl ?_ | refine out_thenS_ret ?_ | refine out_thenS_exit ?_ | refine out_ret ?_ | refine out_normal ?_ | refine out_retH ?_ | refine out_normalH ?_ | refine out_end ?_)) | refine at_go ?_ | (with_reducible refine And.intro (at_go ?_) (at_go ?_)) | ((with_reducible refine And.intro (fun h => ?_) (fun h => ?_)) <;> try (exfalso; omega)) | (with_reducible refine And.intro (by omega) ?_) | (first | (refine ⟨_, _, pc_lift (fail) (by (simp [idsL, idsE, AV.ids, idsE_ints])) _, ?_⟩) | (refine ⟨_, pc_lift (fail) (by (simp [idsL, idsE, AV.ids, idsE_ints])) _, ?_⟩) | (refine ⟨_, fun _ => pc_lift (fail) (by (simp [idsL, idsE, AV.ids, idsE_ints])) _, ?_⟩)) | simp (disch := first | omega | (simp only [length_ints, List.length_set, List.length_reverse, List.length_replicate, List.length_append, List.length_cons, List.length_nil, List.length_map]; omega)) only [push_cast, ↓reduceIte, reduceIte, reduceCtorEq, Nat.reduceAdd, Nat.reduceLT, Nat.reduceEqDiff, Nat.reduceLeDiff, Int.reduceAdd, Int.reduceLT, Int.reduceLE, Nat.reduceMul, ti3, ti5, ti9, ti22, a0, a4, a5, a6, a7, wrap64, hc0, hcK, eN, ints_snoc, length_ints])
        · clear hstop
          have hK := hf
          simp only [failP, not_or, not_and] at hK
          obtain ⟨k1, k2, k3, k4⟩ := hK
          have hstep := ok_step t hf
          rw [← hj'] at k1 k2 k3 k4 hstep hl
          have hc0 : s0.getD a 0 = t.getD 0 0 := by rw [ht, getD_drop, Nat.add_zero]
          have k3' : 1 < j → (t.getD 0 0).toNat ≠ 48 := fun q e => k3 q (UInt8.toNat_inj.1 e)
          have eN : ((a : Int) + (j : Int)).toNat = a + j := by omega
          have hpow : 10 ^ j ≤ 10 ^ 9 := Nat.pow_le_pow_right (by decide) (by omega)
          have h10 : (10 : Nat) ^ 9 = 1000000000 := by decide
          have hcK : s0.getD (a + j) 0 = t.getD j 0 := by rw [ht, getD_drop]
          generalize hn : numF 0 (t.take j) = n at *
          generalize 10 ^ j = P at *
          generalize t.getD 0 0 = c0 at *
          have hB1 : xs.length + 1 ≤ maxLen := by simp only [maxLen]; omega
          rcases hstep with ⟨hje, hp⟩ | ⟨hje, hp⟩
          · rw [hp] at hm; cases hm
          · have h32 : t.getD j 0 = 32 := by
              have := k4 hje
              exact Decidable.not_not.1 this
            rw [h32] at hcK
            have e32 : (32 : UInt8).toNat = 32 := rfl
            repeat' (first | (first | (refine acc_id ?_; first | refine acc_pure rfl rfl ?_ | refine acc_end rfl ?_ | refine acc_eff rfl rfl ?_ | refine acc_call rfl ?_ | refine acc_gp rfl rfl rfl ?_ | refine acc_gc rfl rfl ?_) | (refine go_id ?_; first | refine go_seq rfl ?_ | refine go_region rfl rfl ?_ | refine go_draw (dr := allQ) rfl rfl mixed (by kernel_rfl) ?_ | refine go_cond rfl ?_ | refine go_block rfl ?_ | refine go_skip rfl ?_ | refine go_ret rfl ?_ | refine go_exit rfl ?_) | (refine out_id ?_; first | refine out_then ?_ | refine out_then_ret ?_ | refine out_then_exit ?_ | refine out_block_ret ?_ | refine out_block ?_ | refine out_block_exit rfl ?_ | refine out_block_exit' rfl ?_ | refine out_thenS_ret ?_ | refine out_thenS_exit ?_ | refine out_ret ?_ | refine out_normal ?_ | refine out_retH ?_ | refine out_normalH ?_ | refine out_end ?_)) | refine at_go ?_ | (with_reducible refine And.intro (at_go ?_) (at_go ?_)) | ((with_reducible refine And.intro (fun h => ?_) (fun h => ?_)) <;> try (exfalso; omega)) | (with_reducible refine And.intro (by omega) ?_) | (first | (refine ⟨_, _, pc_lift (fail) (by (simp [idsL, idsE, AV.ids, idsE_ints])) _, ?_⟩) | (refine ⟨_, pc_lift (fail) (by (simp [idsL, idsE, AV.ids, idsE_ints])) _, ?_⟩) | (refine ⟨_, fun _ => pc_lift (fail) (by (simp [idsL, idsE, AV.ids, idsE_ints])) _, ?_⟩)) | simp (disch := first | omega | (simp only [length_ints, List.length_set, List.length_reverse, List.length_replicate, List.length_append, List.length_cons, List.length_nil, List.length_map]; omega)) only [push_cast, ↓reduceIte, reduceIte, reduceCtorEq, Nat.reduceAdd, Nat.reduceLT, Nat.reduceEqDiff, Nat.reduceLeDiff, Int.reduceAdd, Int.reduceLT, Int.reduceLE, Nat.reduceMul, ti3, ti5, ti9, ti22, a0, a4, a5, a6, a7, wrap64, hc0, eN, ints_snoc, hcK, e32, length_ints])
            have hdd : t.drop (j + 1) = s0.drop (a + j + 1) := by rw [ht, List.drop_drop]; congr 1
            have hnext : piecesM (split1 32 (s0.drop (a + j + 1))) = none := by
              rw [hp, hdd] at hm
              simpa using hm
            refine out_round (s0.length - (a + j + 1)) (by omega) trivial ⟨a + j + 1, xs ++ [n], by omega, by simp; omega, rfl, rfl, ?_⟩
            (simp (disch := first | omega | (simp only [length_ints, List.length_set, List.length_reverse, List.length_replicate, List.length_append, List.length_cons, List.length_nil, List.length_map]; omega)) only [push_cast, ↓reduceIte, reduceIte, reduceCtorEq, Nat.reduceAdd, Nat.reduceLT, Nat.reduceEqDiff, Nat.reduceLeDiff, Int.reduceAdd, Int.reduceLT, Int.reduceLE, Nat.reduceMul, ti3, ti5, ti9, ti22, a0, a4, a5, a6, a7, wrap64, hc0, eN, ints_snoc, hcK, e32, length_ints]) <;> (first | rfl | exact ⟨rfl, rfl⟩ | omega | (congr 1; omega) | (simp; done) | ((repeat' apply And.intro) <;> first | rfl | omega | (congr 1; omega)))
end Go.Proofs
