import Derived.Test.YtcpenghfjghecaaDoorL10
/- Lexemes: the law of tokens that are written, walked. -/
namespace Go.Proofs
open Go Go.V
set_option linter.unusedVariables false
set_option linter.unusedSimpArgs false
set_option maxHeartbeats 0
set_option maxRecDepth 100000
theorem tdiv10 (n : Int) : n.tdiv 10 = if 0 ≤ n then n / 10 else -((-n) / 10) := by
  split
  · rw [Int.tdiv_eq_ediv_of_nonneg (by assumption)]
  · have : n = -(-n) := by omega
    conv => lhs; rw [this]
    rw [Int.neg_tdiv, Int.tdiv_eq_ediv_of_nonneg (by omega)]
theorem tmod10 (n : Int) : n.tmod 10 = if 0 ≤ n then n % 10 else -((-n) % 10) := by
  split
  · rw [Int.tmod_eq_emod_of_nonneg (by assumption)]
  · have : n = -(-n) := by omega
    conv => lhs; rw [this]
    rw [Int.neg_tmod, Int.tmod_eq_emod_of_nonneg (by omega)]
theorem itoa_neg (n : Int) (h : n < 0) : Lib.itoa n = 45 :: Lib.itoa (-n) := by
  rw [Lib.itoa, if_pos h, Lib.itoa, if_neg (by omega), show n.natAbs = (-n).toNat by omega]
theorem itoa_len (n : Int) (h0 : -9223372036854775808 ≤ n) (h1 : n ≤ 9223372036854775807) : (Lib.itoa n).length ≤ 20 := by
  have key : ∀ (k : Nat) (u : Nat), u < 10 ^ k → 0 < k → (Lib.decDigits u).length ≤ k := by
    intro k
    induction k with
    | zero => intro u _ h; omega
    | succ k ih =>
      intro u hu _
      rw [Lib.decDigits]
      split
      · simp
      · rename_i hb
        have hk : 0 < k := by
          rcases Nat.eq_zero_or_pos k with q | q
          · subst q; omega
          · exact q
        have := ih (u / 10) (by rw [Nat.pow_succ] at hu; omega) hk
        simp; omega
  unfold Lib.itoa
  split
  · have := key 19 n.natAbs (by omega) (by omega)
    simp; omega
  · have := key 19 n.toNat (by omega) (by omega)
    omega
theorem digit_cut (n : Int) (h0 : 0 ≤ n) (h1 : n < 10) : List.drop n.toNat (48 :: List.take n.toNat [(49 : UInt8), 50, 51, 52, 53, 54, 55, 56, 57]) = [UInt8.ofNat (48 + n.toNat)] := by
  have key : ∀ m : Fin 10, List.drop m.val (48 :: List.take m.val [(49 : UInt8), 50, 51, 52, 53, 54, 55, 56, 57]) = [UInt8.ofNat (48 + m.val)] := by decide
  exact key ⟨n.toNat, by omega⟩
theorem refNumber19 : ∀ (k : Nat) (n : Int), 2 * n.natAbs + (if n < 0 then 1 else 0) ≤ k → -9223372036854775808 ≤ n → n ≤ 9223372036854775807 → PC Tryd.prog G0 19 [.int .i64 n] (.str (Lib.itoa n)) := by
  intro k
  induction k using Nat.strongRecOn with
  | _ k ih =>
  intro n hk h0 h1
  have hd := tdiv10 n
  have hm := tmod10 n
  by_cases hn : n < 0
  · rw [if_pos hn] at hk
    rw [if_neg (by omega)] at hd hm
    by_cases hs : -10 < n
    · have e2 : (0 - n) = -n := by omega
      have hl := itoa_len (-n) (by omega) (by omega)
      refine pc_go 0 36 [.tmp 2] Tryd.func19 rfl rfl rfl (by simp) ?_
      intro s ⟨a0, hz⟩
      clear hz
      repeat' (first | (first | (refine a0_ ?_; first | refine a1_ rfl rfl ?_ | refine a2_ rfl ?_ | refine a3_ rfl rfl ?_ | refine a4_ rfl ?_ | refine a5_ rfl rfl rfl ?_ | refine a6_ rfl rfl ?_ | refine a7_ rfl rfl ?_ | refine a8_ rfl rfl ?_ | refine a9_ rfl rfl rfl ?_) | (refine g0_ ?_; first | refine g1_ rfl ?_ | refine g2_ rfl rfl ?_ | refine go_draw (dr := allQ) rfl rfl mixed (by first | assumption | kernel_rfl) ?_ | refine g4_ rfl ?_ | refine g5_ rfl ?_ | refine g6_ rfl ?_ | refine g7_ rfl ?_ | refine g8_ rfl ?_ | refine ga_ rfl ?_ | refine gb_ rfl ?_) | (refine o0_ ?_; first | refine o1_ ?_ | refine o2_ ?_ | refine o3_ ?_ | refine o4_ ?_ | refine o5_ ?_ | refine o6_ rfl ?_ | refine o7_ rfl ?_ | refine o8_ ?_ | refine o9_ ?_ | refine oa_ ?_ | refine ob_ ?_ | refine oc_ ?_ | refine od_ ?_ | refine oe_ ?_ | refine of_ ?_ | refine og_ ?_ | refine oh_ ?_ | refine oi_ ?_ | refine oj_ ?_ | refine ok_ ?_)) | refine at_go ?_ | (with_reducible refine And.intro (at_go ?_) (at_go ?_)) | ((with_reducible refine And.intro (fun h => ?_) (fun h => ?_)) <;> try (exfalso; omega)) | (with_reducible refine And.intro (by first | omega | (simp only [maxLen]; omega)) ?_) | (first | (refine ⟨_, _, pc_lift (ih (2 * (-n).natAbs) (by omega) (-n) (by rw [if_neg (by omega)]; omega) (by omega) (by omega)) (by (simp [idsL, idsE, AV.ids, Nat.add_zero])) _, ?_⟩) | (refine ⟨_, pc_lift (ih (2 * (-n).natAbs) (by omega) (-n) (by rw [if_neg (by omega)]; omega) (by omega) (by omega)) (by (simp [idsL, idsE, AV.ids, Nat.add_zero])) _, ?_⟩) | (refine ⟨_, fun _ => pc_lift (ih (2 * (-n).natAbs) (by omega) (-n) (by rw [if_neg (by omega)]; omega) (by omega) (by omega)) (by (simp [idsL, idsE, AV.ids, Nat.add_zero])) _, ?_⟩)) | simp (disch := first | omega | (simp only [length_tks, List.length_set, List.length_reverse, List.length_replicate, List.length_append, List.length_cons, List.length_nil, List.length_map]; omega)) only [push_cast, ↓reduceIte, reduceIte, reduceCtorEq, Nat.reduceAdd, Nat.reduceLT, Nat.reduceEqDiff, Nat.reduceLeDiff, Int.reduceAdd, Int.reduceLT, Int.reduceLE, Nat.reduceMul, a0, wrap64, e2])
      rw [itoa_neg n hn]
    · have l1 := itoa_len (-((-n) / 10)) (by omega) (by omega)
      have l2 := itoa_len ((-n) % 10) (by omega) (by omega)
      have e2 : 0 - -((-n) % 10) = (-n) % 10 := by omega
      refine pc_go 0 36 [.tmp 2] Tryd.func19 rfl rfl rfl (by simp) ?_
      intro s ⟨a0, hz⟩
      clear hz
      repeat' (first | (first | (refine a0_ ?_; first | refine a1_ rfl rfl ?_ | refine a2_ rfl ?_ | refine a3_ rfl rfl ?_ | refine a4_ rfl ?_ | refine a5_ rfl rfl rfl ?_ | refine a6_ rfl rfl ?_ | refine a7_ rfl rfl ?_ | refine a8_ rfl rfl ?_ | refine a9_ rfl rfl rfl ?_) | (refine g0_ ?_; first | refine g1_ rfl ?_ | refine g2_ rfl rfl ?_ | refine go_draw (dr := allQ) rfl rfl mixed (by first | assumption | kernel_rfl) ?_ | refine g4_ rfl ?_ | refine g5_ rfl ?_ | refine g6_ rfl ?_ | refine g7_ rfl ?_ | refine g8_ rfl ?_ | refine ga_ rfl ?_ | refine gb_ rfl ?_) | (refine o0_ ?_; first | refine o1_ ?_ | refine o2_ ?_ | refine o3_ ?_ | refine o4_ ?_ | refine o5_ ?_ | refine o6_ rfl ?_ | refine o7_ rfl ?_ | refine o8_ ?_ | refine o9_ ?_ | refine oa_ ?_ | refine ob_ ?_ | refine oc_ ?_ | refine od_ ?_ | refine oe_ ?_ | refine of_ ?_ | refine og_ ?_ | refine oh_ ?_ | refine oi_ ?_ | refine oj_ ?_ | refine ok_ ?_)) | refine at_go ?_ | (with_reducible refine And.intro (at_go ?_) (at_go ?_)) | ((with_reducible refine And.intro (fun h => ?_) (fun h => ?_)) <;> try (exfalso; omega)) | (with_reducible refine And.intro (by first | omega | (simp only [maxLen]; omega)) ?_) | (first | (refine ⟨_, _, pc_lift (ih (2 * (-((-n) / 10)).natAbs + 1) (by omega) (-((-n) / 10)) (by split <;> omega) (by omega) (by omega)) (by (simp [idsL, idsE, AV.ids, Nat.add_zero])) _, ?_⟩) | (refine ⟨_, pc_lift (ih (2 * (-((-n) / 10)).natAbs + 1) (by omega) (-((-n) / 10)) (by split <;> omega) (by omega) (by omega)) (by (simp [idsL, idsE, AV.ids, Nat.add_zero])) _, ?_⟩) | (refine ⟨_, fun _ => pc_lift (ih (2 * (-((-n) / 10)).natAbs + 1) (by omega) (-((-n) / 10)) (by split <;> omega) (by omega) (by omega)) (by (simp [idsL, idsE, AV.ids, Nat.add_zero])) _, ?_⟩) | (refine ⟨_, _, pc_lift (ih (2 * ((-n) % 10).natAbs) (by omega) ((-n) % 10) (by rw [if_neg (by omega)]; omega) (by omega) (by omega)) (by (simp [idsL, idsE, AV.ids, Nat.add_zero])) _, ?_⟩) | (refine ⟨_, pc_lift (ih (2 * ((-n) % 10).natAbs) (by omega) ((-n) % 10) (by rw [if_neg (by omega)]; omega) (by omega) (by omega)) (by (simp [idsL, idsE, AV.ids, Nat.add_zero])) _, ?_⟩) | (refine ⟨_, fun _ => pc_lift (ih (2 * ((-n) % 10).natAbs) (by omega) ((-n) % 10) (by rw [if_neg (by omega)]; omega) (by omega) (by omega)) (by (simp [idsL, idsE, AV.ids, Nat.add_zero])) _, ?_⟩)) | simp (disch := first | omega | (simp only [length_tks, List.length_set, List.length_reverse, List.length_replicate, List.length_append, List.length_cons, List.length_nil, List.length_map]; omega)) only [push_cast, ↓reduceIte, reduceIte, reduceCtorEq, Nat.reduceAdd, Nat.reduceLT, Nat.reduceEqDiff, Nat.reduceLeDiff, Int.reduceAdd, Int.reduceLT, Int.reduceLE, Nat.reduceMul, a0, wrap64, hd, hm, e2])
      rw [itoa_neg n hn, itoa_neg (-((-n) / 10)) (by omega), itoa_big (-n) (by omega), Int.neg_neg, List.cons_append]
  · rw [if_neg hn] at hk
    rw [if_pos (by omega)] at hd hm
    by_cases hs : n < 10
    · have e2 : (n + 1).toNat = n.toNat + 1 := by omega
      refine pc_go 0 36 [.tmp 2] Tryd.func19 rfl rfl rfl (by simp) ?_
      intro s ⟨a0, hz⟩
      clear hz
      repeat' (first | (first | (refine a0_ ?_; first | refine a1_ rfl rfl ?_ | refine a2_ rfl ?_ | refine a3_ rfl rfl ?_ | refine a4_ rfl ?_ | refine a5_ rfl rfl rfl ?_ | refine a6_ rfl rfl ?_ | refine a7_ rfl rfl ?_ | refine a8_ rfl rfl ?_ | refine a9_ rfl rfl rfl ?_) | (refine g0_ ?_; first | refine g1_ rfl ?_ | refine g2_ rfl rfl ?_ | refine go_draw (dr := allQ) rfl rfl mixed (by first | assumption | kernel_rfl) ?_ | refine g4_ rfl ?_ | refine g5_ rfl ?_ | refine g6_ rfl ?_ | refine g7_ rfl ?_ | refine g8_ rfl ?_ | refine ga_ rfl ?_ | refine gb_ rfl ?_) | (refine o0_ ?_; first | refine o1_ ?_ | refine o2_ ?_ | refine o3_ ?_ | refine o4_ ?_ | refine o5_ ?_ | refine o6_ rfl ?_ | refine o7_ rfl ?_ | refine o8_ ?_ | refine o9_ ?_ | refine oa_ ?_ | refine ob_ ?_ | refine oc_ ?_ | refine od_ ?_ | refine oe_ ?_ | refine of_ ?_ | refine og_ ?_ | refine oh_ ?_ | refine oi_ ?_ | refine oj_ ?_ | refine ok_ ?_)) | refine at_go ?_ | (with_reducible refine And.intro (at_go ?_) (at_go ?_)) | ((with_reducible refine And.intro (fun h => ?_) (fun h => ?_)) <;> try (exfalso; omega)) | (with_reducible refine And.intro (by first | omega | (simp only [maxLen]; omega)) ?_) | fail | simp (disch := first | omega | (simp only [length_tks, List.length_set, List.length_reverse, List.length_replicate, List.length_append, List.length_cons, List.length_nil, List.length_map]; omega)) only [push_cast, ↓reduceIte, reduceIte, reduceCtorEq, Nat.reduceAdd, Nat.reduceLT, Nat.reduceEqDiff, Nat.reduceLeDiff, Int.reduceAdd, Int.reduceLT, Int.reduceLE, Nat.reduceMul, a0, wrap64, e2])
      rw [digit_cut n (by omega) hs, itoa_small n (by omega) hs]
    · have l1 := itoa_len (n / 10) (by omega) (by omega)
      have l2 := itoa_len (n % 10) (by omega) (by omega)
      refine pc_go 0 36 [.tmp 2] Tryd.func19 rfl rfl rfl (by simp) ?_
      intro s ⟨a0, hz⟩
      clear hz
      repeat' (first | (first | (refine a0_ ?_; first | refine a1_ rfl rfl ?_ | refine a2_ rfl ?_ | refine a3_ rfl rfl ?_ | refine a4_ rfl ?_ | refine a5_ rfl rfl rfl ?_ | refine a6_ rfl rfl ?_ | refine a7_ rfl rfl ?_ | refine a8_ rfl rfl ?_ | refine a9_ rfl rfl rfl ?_) | (refine g0_ ?_; first | refine g1_ rfl ?_ | refine g2_ rfl rfl ?_ | refine go_draw (dr := allQ) rfl rfl mixed (by first | assumption | kernel_rfl) ?_ | refine g4_ rfl ?_ | refine g5_ rfl ?_ | refine g6_ rfl ?_ | refine g7_ rfl ?_ | refine g8_ rfl ?_ | refine ga_ rfl ?_ | refine gb_ rfl ?_) | (refine o0_ ?_; first | refine o1_ ?_ | refine o2_ ?_ | refine o3_ ?_ | refine o4_ ?_ | refine o5_ ?_ | refine o6_ rfl ?_ | refine o7_ rfl ?_ | refine o8_ ?_ | refine o9_ ?_ | refine oa_ ?_ | refine ob_ ?_ | refine oc_ ?_ | refine od_ ?_ | refine oe_ ?_ | refine of_ ?_ | refine og_ ?_ | refine oh_ ?_ | refine oi_ ?_ | refine oj_ ?_ | refine ok_ ?_)) | refine at_go ?_ | (with_reducible refine And.intro (at_go ?_) (at_go ?_)) | ((with_reducible refine And.intro (fun h => ?_) (fun h => ?_)) <;> try (exfalso; omega)) | (with_reducible refine And.intro (by first | omega | (simp only [maxLen]; omega)) ?_) | (first | (refine ⟨_, _, pc_lift (ih (2 * (n / 10).natAbs) (by omega) (n / 10) (by rw [if_neg (by omega)]; omega) (by omega) (by omega)) (by (simp [idsL, idsE, AV.ids, Nat.add_zero])) _, ?_⟩) | (refine ⟨_, pc_lift (ih (2 * (n / 10).natAbs) (by omega) (n / 10) (by rw [if_neg (by omega)]; omega) (by omega) (by omega)) (by (simp [idsL, idsE, AV.ids, Nat.add_zero])) _, ?_⟩) | (refine ⟨_, fun _ => pc_lift (ih (2 * (n / 10).natAbs) (by omega) (n / 10) (by rw [if_neg (by omega)]; omega) (by omega) (by omega)) (by (simp [idsL, idsE, AV.ids, Nat.add_zero])) _, ?_⟩) | (refine ⟨_, _, pc_lift (ih (2 * (n % 10).natAbs) (by omega) (n % 10) (by rw [if_neg (by omega)]; omega) (by omega) (by omega)) (by (simp [idsL, idsE, AV.ids, Nat.add_zero])) _, ?_⟩) | (refine ⟨_, pc_lift (ih (2 * (n % 10).natAbs) (by omega) (n % 10) (by rw [if_neg (by omega)]; omega) (by omega) (by omega)) (by (simp [idsL, idsE, AV.ids, Nat.add_zero])) _, ?_⟩) | (refine ⟨_, fun _ => pc_lift (ih (2 * (n % 10).natAbs) (by omega) (n % 10) (by rw [if_neg (by omega)]; omega) (by omega) (by omega)) (by (simp [idsL, idsE, AV.ids, Nat.add_zero])) _, ?_⟩)) | simp (disch := first | omega | (simp only [length_tks, List.length_set, List.length_reverse, List.length_replicate, List.length_append, List.length_cons, List.length_nil, List.length_map]; omega)) only [push_cast, ↓reduceIte, reduceIte, reduceCtorEq, Nat.reduceAdd, Nat.reduceLT, Nat.reduceEqDiff, Nat.reduceLeDiff, Int.reduceAdd, Int.reduceLT, Int.reduceLE, Nat.reduceMul, a0, wrap64, hd, hm])
      rw [← itoa_big n (by omega)]
theorem number19 (H : List Blk) (n : Int) (h0 : -9223372036854775808 ≤ n) (h1 : n ≤ 9223372036854775807) : ACalls Tryd.prog G0 19 [.int .i64 n] H (.str (Lib.itoa n)) H :=
  pc_lift (refNumber19 _ n (Nat.le_refl _) h0 h1) (by simp [idsL, AV.ids]) H

theorem goodT_take (l : List Tk) (k : Nat) (h : k < l.length) : goodT (l.take (k + 1)) = (goodT (l.take k) && decide (chkT (l.getD k tk0).k (l.getD k tk0).t = 0)) := by
  rw [take_snoc l tk0 k h, goodT, goodT, List.all_append]; simp
def wantT (l : List Tk) (k : Nat) : Int := if goodT (l.take k) = true then 0 else 1
theorem jn_take (l : List Tk) (k : Nat) (h : k < l.length) : jn ((txts l).take (k + 1)) = (if 0 < k then jn ((txts l).take k) ++ [32] else jn ((txts l).take k)) ++ (l.getD k tk0).t := by
  have h2 : (txts l).getD k [] = (l.getD k tk0).t := by simp [txts, h]
  rw [take_snoc (txts l) [] k (by rw [length_txts]; exact h), h2]
  rcases Nat.eq_zero_or_pos k with rfl | hk
  · simp [jn]
  · rw [if_pos hk, jn_snoc _ _ (by intro q; have := congrArg List.length q; rw [List.length_take, length_txts, List.length_nil] at this; omega), List.append_assoc]
    rfl
theorem kts_txts (l : List Tk) : (kts l).map (·.2) = txts l := by simp [kts, txts, Function.comp_def]
theorem law7 (l : List Tk) (c : Option Nat) : PC Tryd.prog G0 7 [.sl 4 (tks l) c] (.bool true) := by
  have h12 := lives12
  by_cases h1 : 60 < l.length
  · have h1' : (60 : Int) < l.length := by omega
    refine pc_go 0 156 [.tmp 2] Tryd.func7 rfl rfl rfl (by simp) ?_
    intro s ⟨a0, hz⟩
    clear hz
    repeat' (first | (first | (refine a0_ ?_; first | refine a1_ rfl rfl ?_ | refine a2_ rfl ?_ | refine a3_ rfl rfl ?_ | refine a4_ rfl ?_ | refine a5_ rfl rfl rfl ?_ | refine a6_ rfl rfl ?_ | refine a7_ rfl rfl ?_ | refine a8_ rfl rfl ?_ | refine a9_ rfl rfl rfl ?_) | (refine g0_ ?_; first | refine g1_ rfl ?_ | refine g2_ rfl rfl ?_ | refine go_draw (dr := allQ) rfl rfl mixed (by first | assumption | kernel_rfl) ?_ | refine g4_ rfl ?_ | refine g5_ rfl ?_ | refine g6_ rfl ?_ | refine g7_ rfl ?_ | refine g8_ rfl ?_ | refine ga_ rfl ?_ | refine gb_ rfl ?_) | (refine o0_ ?_; first | refine o1_ ?_ | refine o2_ ?_ | refine o3_ ?_ | refine o4_ ?_ | refine o5_ ?_ | refine o6_ rfl ?_ | refine o7_ rfl ?_ | refine o8_ ?_ | refine o9_ ?_ | refine oa_ ?_ | refine ob_ ?_ | refine oc_ ?_ | refine od_ ?_ | refine oe_ ?_ | refine of_ ?_ | refine og_ ?_ | refine oh_ ?_ | refine oi_ ?_ | refine oj_ ?_ | refine ok_ ?_)) | refine at_go ?_ | (with_reducible refine And.intro (at_go ?_) (at_go ?_)) | ((with_reducible refine And.intro (fun h => ?_) (fun h => ?_)) <;> try (exfalso; omega)) | (with_reducible refine And.intro (by first | omega | (simp only [maxLen]; omega)) ?_) | fail | simp (disch := first | omega | (simp only [length_tks, List.length_set, List.length_reverse, List.length_replicate, List.length_append, List.length_cons, List.length_nil, List.length_map]; omega)) only [push_cast, ↓reduceIte, reduceIte, reduceCtorEq, Nat.reduceAdd, Nat.reduceLT, Nat.reduceEqDiff, Nat.reduceLeDiff, Int.reduceAdd, Int.reduceLT, Int.reduceLE, Nat.reduceMul, a0, h1'])
  · have h1' : ¬ (60 : Int) < l.length := by omega
    refine pc_go 0 156 [.tmp 2] Tryd.func7 rfl rfl rfl (by simp) ?_
    intro s ⟨a0, hz⟩
    clear hz
    repeat' (first | (first | (refine a0_ ?_; first | refine a1_ rfl rfl ?_ | refine a2_ rfl ?_ | refine a3_ rfl rfl ?_ | refine a4_ rfl ?_ | refine a5_ rfl rfl rfl ?_ | refine a6_ rfl rfl ?_ | refine a7_ rfl rfl ?_ | refine a8_ rfl rfl ?_ | refine a9_ rfl rfl rfl ?_) | (refine g0_ ?_; first | refine g1_ rfl ?_ | refine g2_ rfl rfl ?_ | refine go_draw (dr := allQ) rfl rfl mixed (by first | assumption | kernel_rfl) ?_ | refine g4_ rfl ?_ | refine g5_ rfl ?_ | refine g6_ rfl ?_ | refine g7_ rfl ?_ | refine g8_ rfl ?_ | refine ga_ rfl ?_ | refine gb_ rfl ?_) | (refine o0_ ?_; first | refine o1_ ?_ | refine o2_ ?_ | refine o3_ ?_ | refine o4_ ?_ | refine o5_ ?_ | refine o6_ rfl ?_ | refine o7_ rfl ?_ | refine o8_ ?_ | refine o9_ ?_ | refine oa_ ?_ | refine ob_ ?_ | refine oc_ ?_ | refine od_ ?_ | refine oe_ ?_ | refine of_ ?_ | refine og_ ?_ | refine oh_ ?_ | refine oi_ ?_ | refine oj_ ?_ | refine ok_ ?_)) | refine at_go ?_ | (with_reducible refine And.intro (at_go ?_) (at_go ?_)) | ((with_reducible refine And.intro (fun h => ?_) (fun h => ?_)) <;> try (exfalso; omega)) | (with_reducible refine And.intro (by first | omega | (simp only [maxLen]; omega)) ?_) | fail | simp (disch := first | omega | (simp only [length_tks, List.length_set, List.length_reverse, List.length_replicate, List.length_append, List.length_cons, List.length_nil, List.length_map]; omega)) only [push_cast, ↓reduceIte, reduceIte, reduceCtorEq, Nat.reduceAdd, Nat.reduceLT, Nat.reduceEqDiff, Nat.reduceLeDiff, Int.reduceAdd, Int.reduceLT, Int.reduceLE, Nat.reduceMul, a0, h1'])
    refine go_loop rfl (fun mz s' H' => ∃ i : Nat, i ≤ l.length ∧ mz = l.length - i ∧ H' = [] ∧ s' 0 = .sl 4 (tks l) c ∧ s' 3 = .int .i64 (wantT l i) ∧ s' 4 = .str (jn ((txts l).take i)) ∧ s' 5 = .int .i64 i ∧ (∀ t ∈ l.take i, t.t.length ≤ 40)) (m := l.length) (by (first | trivial | ((repeat' apply And.intro) <;> first | trivial | assumption | omega | (simp only [maxLen]; omega) | (simp only [length_tks, List.length_replicate, List.length_append, List.length_cons, List.length_nil, List.length_map, List.length_take, List.length_drop, List.length_set, List.length_reverse, maxLen] <;> omega)))) (Weak.refl _ _) ⟨0, by omega, by omega, rfl, ?_⟩ ?_
    · simp (disch := first | omega | (simp only [length_tks, List.length_set, List.length_reverse, List.length_replicate, List.length_append, List.length_cons, List.length_nil, List.length_map]; omega)) only [push_cast, ↓reduceIte, reduceIte, reduceCtorEq, Nat.reduceAdd, Nat.reduceLT, Nat.reduceEqDiff, Nat.reduceLeDiff, Int.reduceAdd, Int.reduceLT, Int.reduceLE, Nat.reduceMul, a0, h1']
      refine ⟨rfl, rfl, fun t ht => ?_⟩
      simp at ht
    · rintro mz s' H' ⟨i, hi, rfl, rfl, b0, b3, b4, b5, ih⟩
      rcases Nat.lt_or_ge i l.length with hlt | hge
      · have e1 := getD_tks l i hlt
        have hjl : (jn ((txts l).take i)).length ≤ i * (40 + 1) := by
          have h := jn_len ((txts l).take i) 40 fun x hx => by
            rw [txts, ← List.map_take] at hx
            obtain ⟨t, ht, rfl⟩ := List.mem_map.1 hx
            exact ih t ht
          rwa [List.length_take, length_txts, Nat.min_eq_left hi] at h
        have hi60 : i * (40 + 1) ≤ 60 * 41 := Nat.mul_le_mul_right _ (by omega)
        by_cases hbig : 40 < (l.getD i tk0).t.length
        · have hbig' : (40 : Int) < ((l.getD i tk0).t.length : Int) := by omega
          generalize l.getD i tk0 = x at *
          obtain ⟨xk, xt, xl, xc⟩ := x
          simp only [tkA] at e1 hbig'
          repeat' (first | (first | (refine a0_ ?_; first | refine a1_ rfl rfl ?_ | refine a2_ rfl ?_ | refine a3_ rfl rfl ?_ | refine a4_ rfl ?_ | refine a5_ rfl rfl rfl ?_ | refine a6_ rfl rfl ?_ | refine a7_ rfl rfl ?_ | refine a8_ rfl rfl ?_ | refine a9_ rfl rfl rfl ?_) | (refine g0_ ?_; first | refine g1_ rfl ?_ | refine g2_ rfl rfl ?_ | refine go_draw (dr := allQ) rfl rfl mixed (by first | assumption | kernel_rfl) ?_ | refine g4_ rfl ?_ | refine g5_ rfl ?_ | refine g6_ rfl ?_ | refine g7_ rfl ?_ | refine g8_ rfl ?_ | refine ga_ rfl ?_ | refine gb_ rfl ?_) | (refine o0_ ?_; first | refine o1_ ?_ | refine o2_ ?_ | refine o3_ ?_ | refine o4_ ?_ | refine o5_ ?_ | refine o6_ rfl ?_ | refine o7_ rfl ?_ | refine o8_ ?_ | refine o9_ ?_ | refine oa_ ?_ | refine ob_ ?_ | refine oc_ ?_ | refine od_ ?_ | refine oe_ ?_ | refine of_ ?_ | refine og_ ?_ | refine oh_ ?_ | refine oi_ ?_ | refine oj_ ?_ | refine ok_ ?_)) | refine at_go ?_ | (with_reducible refine And.intro (at_go ?_) (at_go ?_)) | ((with_reducible refine And.intro (fun h => ?_) (fun h => ?_)) <;> try (exfalso; omega)) | (with_reducible refine And.intro (by first | omega | (simp only [maxLen]; omega)) ?_) | fail | simp (disch := first | omega | (simp only [length_tks, List.length_set, List.length_reverse, List.length_replicate, List.length_append, List.length_cons, List.length_nil, List.length_map]; omega)) only [push_cast, ↓reduceIte, reduceIte, reduceCtorEq, Nat.reduceAdd, Nat.reduceLT, Nat.reduceEqDiff, Nat.reduceLeDiff, Int.reduceAdd, Int.reduceLT, Int.reduceLE, Nat.reduceMul, b0, b3, b4, b5, e1, hbig'])
        · have hbig' : ¬ (40 : Int) < ((l.getD i tk0).t.length : Int) := by omega
          have h17 := valid17 (l.getD i tk0) (by omega)
          have h13 := check13 (l.getD i tk0) (by omega)
          have h18 := value18 (l.getD i tk0) (by omega)
          have hg := goodT_take l i hlt
          have hj := jn_take l i hlt
          have hnum := fun h => @atoi_valid (l.getD i tk0).t h
          have hcz := chkT_zero (l.getD i tk0).k (l.getD i tk0).t
          have hor := chkT_or (l.getD i tk0).k (l.getD i tk0).t
          have ih2 : (l.getD i tk0).t.length ≤ 40 → ∀ t ∈ l.take (i + 1), t.t.length ≤ 40 := fun q t ht => by
            rw [take_snoc l tk0 i hlt, List.mem_append] at ht
            rcases ht with ht | ht
            · exact ih t ht
            · simp only [List.mem_cons, List.not_mem_nil, or_false] at ht
              rw [ht]; exact q
          have hw1 : wantT l (i + 1) = if wantT l i = 0 then chkT (l.getD i tk0).k (l.getD i tk0).t else wantT l i := by
            unfold wantT
            rw [hg]
            rcases hor with q | q <;> rw [q] <;> cases goodT (l.take i) <;> rfl
          have hwi : wantT l i = 0 ∨ wantT l i = 1 := by unfold wantT; split <;> simp
          unfold valM at h18
          generalize l.getD i tk0 = x at *
          obtain ⟨xk, xt, xl, xc⟩ := x
          simp only [tkA] at e1 hbig' h17 h13 h18 hj hnum hcz hor hw1 ih2
          have ih2 := ih2 (by omega)
          generalize wantT l i = w at *
          generalize jn ((txts l).take i) = J at *
          rcases hor with hor | hor
          · by_cases hk : xk = 2
            · subst hk
              obtain ⟨n, n1, n2, n3, n4⟩ := hnum (hcz.1 hor)
              have h19 := fun H => number19 H n (by omega) (by omega)
              rw [n2] at h19
              rw [hor] at h17 h13 h18 hw1
              rw [n1] at h18
              simp only [and_self, if_true, Int.sub_zero] at h18 h17
              repeat' (first | (first | (refine a0_ ?_; first | refine a1_ rfl rfl ?_ | refine a2_ rfl ?_ | refine a3_ rfl rfl ?_ | refine a4_ rfl ?_ | refine a5_ rfl rfl rfl ?_ | refine a6_ rfl rfl ?_ | refine a7_ rfl rfl ?_ | refine a8_ rfl rfl ?_ | refine a9_ rfl rfl rfl ?_) | (refine g0_ ?_; first | refine g1_ rfl ?_ | refine g2_ rfl rfl ?_ | refine go_draw (dr := allQ) rfl rfl mixed (by first | assumption | kernel_rfl) ?_ | refine g4_ rfl ?_ | refine g5_ rfl ?_ | refine g6_ rfl ?_ | refine g7_ rfl ?_ | refine g8_ rfl ?_ | refine ga_ rfl ?_ | refine gb_ rfl ?_) | (refine o0_ ?_; first | refine o1_ ?_ | refine o2_ ?_ | refine o3_ ?_ | refine o4_ ?_ | refine o5_ ?_ | refine o6_ rfl ?_ | refine o7_ rfl ?_ | refine o8_ ?_ | refine o9_ ?_ | refine oa_ ?_ | refine ob_ ?_ | refine oc_ ?_ | refine od_ ?_ | refine oe_ ?_ | refine of_ ?_ | refine og_ ?_ | refine oh_ ?_ | refine oi_ ?_ | refine oj_ ?_ | refine ok_ ?_)) | refine at_go ?_ | (with_reducible refine And.intro (at_go ?_) (at_go ?_)) | ((with_reducible refine And.intro (fun h => ?_) (fun h => ?_)) <;> try (exfalso; omega)) | (with_reducible refine And.intro (by first | omega | (simp only [maxLen]; omega)) ?_) | (first | (refine ⟨_, _, pc_lift (h17) (by (simp [idsL, idsE, AV.ids, Nat.add_zero])) _, ?_⟩) | (refine ⟨_, pc_lift (h17) (by (simp [idsL, idsE, AV.ids, Nat.add_zero])) _, ?_⟩) | (refine ⟨_, fun _ => pc_lift (h17) (by (simp [idsL, idsE, AV.ids, Nat.add_zero])) _, ?_⟩) | (refine ⟨_, _, pc_lift (h13) (by (simp [idsL, idsE, AV.ids, Nat.add_zero])) _, ?_⟩) | (refine ⟨_, pc_lift (h13) (by (simp [idsL, idsE, AV.ids, Nat.add_zero])) _, ?_⟩) | (refine ⟨_, fun _ => pc_lift (h13) (by (simp [idsL, idsE, AV.ids, Nat.add_zero])) _, ?_⟩) | (refine ⟨_, _, pc_lift (h18) (by (simp [idsL, idsE, AV.ids, Nat.add_zero])) _, ?_⟩) | (refine ⟨_, pc_lift (h18) (by (simp [idsL, idsE, AV.ids, Nat.add_zero])) _, ?_⟩) | (refine ⟨_, fun _ => pc_lift (h18) (by (simp [idsL, idsE, AV.ids, Nat.add_zero])) _, ?_⟩) | (refine ⟨_, _, h19 _, ?_⟩) | (refine ⟨_, h19 _, ?_⟩) | (refine ⟨_, fun _ => h19 _, ?_⟩)) | simp (disch := first | omega | (simp only [length_tks, List.length_set, List.length_reverse, List.length_replicate, List.length_append, List.length_cons, List.length_nil, List.length_map]; omega)) only [push_cast, ↓reduceIte, reduceIte, reduceCtorEq, Nat.reduceAdd, Nat.reduceLT, Nat.reduceEqDiff, Nat.reduceLeDiff, Int.reduceAdd, Int.reduceLT, Int.reduceLE, Nat.reduceMul, b0, b3, b4, b5, e1, hbig', Int.reduceEq, Int.reduceSub])
              · rename_i hw
                refine out_round (l.length - (i + 1)) (by omega) (by (first | trivial | ((repeat' apply And.intro) <;> first | trivial | assumption | omega | (simp only [maxLen]; omega) | (simp only [length_tks, List.length_replicate, List.length_append, List.length_cons, List.length_nil, List.length_map, List.length_take, List.length_drop, List.length_set, List.length_reverse, maxLen] <;> omega)))) ⟨i + 1, by omega, rfl, rfl, ?_⟩
                rw [hw1, hj, if_pos hw, if_pos (by omega)]
                simp (disch := first | omega | (simp only [length_tks, List.length_set, List.length_reverse, List.length_replicate, List.length_append, List.length_cons, List.length_nil, List.length_map]; omega)) only [push_cast, ↓reduceIte, reduceIte, reduceCtorEq, Nat.reduceAdd, Nat.reduceLT, Nat.reduceEqDiff, Nat.reduceLeDiff, Int.reduceAdd, Int.reduceLT, Int.reduceLE, Nat.reduceMul, b0, b3, b4, b5, e1, hbig', Int.reduceEq, Int.reduceSub]
                exact ih2
              · rename_i hw
                refine out_round (l.length - (i + 1)) (by omega) (by (first | trivial | ((repeat' apply And.intro) <;> first | trivial | assumption | omega | (simp only [maxLen]; omega) | (simp only [length_tks, List.length_replicate, List.length_append, List.length_cons, List.length_nil, List.length_map, List.length_take, List.length_drop, List.length_set, List.length_reverse, maxLen] <;> omega)))) ⟨i + 1, by omega, rfl, rfl, ?_⟩
                rw [hw1, hj, if_pos hw, if_neg (by omega)]
                simp (disch := first | omega | (simp only [length_tks, List.length_set, List.length_reverse, List.length_replicate, List.length_append, List.length_cons, List.length_nil, List.length_map]; omega)) only [push_cast, ↓reduceIte, reduceIte, reduceCtorEq, Nat.reduceAdd, Nat.reduceLT, Nat.reduceEqDiff, Nat.reduceLeDiff, Int.reduceAdd, Int.reduceLT, Int.reduceLE, Nat.reduceMul, b0, b3, b4, b5, e1, hbig', Int.reduceEq, Int.reduceSub]
                exact ih2
              · rename_i hw
                refine out_round (l.length - (i + 1)) (by omega) (by (first | trivial | ((repeat' apply And.intro) <;> first | trivial | assumption | omega | (simp only [maxLen]; omega) | (simp only [length_tks, List.length_replicate, List.length_append, List.length_cons, List.length_nil, List.length_map, List.length_take, List.length_drop, List.length_set, List.length_reverse, maxLen] <;> omega)))) ⟨i + 1, by omega, rfl, rfl, ?_⟩
                rw [hw1, hj, if_neg hw, if_pos (by omega)]
                simp (disch := first | omega | (simp only [length_tks, List.length_set, List.length_reverse, List.length_replicate, List.length_append, List.length_cons, List.length_nil, List.length_map]; omega)) only [push_cast, ↓reduceIte, reduceIte, reduceCtorEq, Nat.reduceAdd, Nat.reduceLT, Nat.reduceEqDiff, Nat.reduceLeDiff, Int.reduceAdd, Int.reduceLT, Int.reduceLE, Nat.reduceMul, b0, b3, b4, b5, e1, hbig', Int.reduceEq, Int.reduceSub]
                exact ih2
              · rename_i hw
                refine out_round (l.length - (i + 1)) (by omega) (by (first | trivial | ((repeat' apply And.intro) <;> first | trivial | assumption | omega | (simp only [maxLen]; omega) | (simp only [length_tks, List.length_replicate, List.length_append, List.length_cons, List.length_nil, List.length_map, List.length_take, List.length_drop, List.length_set, List.length_reverse, maxLen] <;> omega)))) ⟨i + 1, by omega, rfl, rfl, ?_⟩
                rw [hw1, hj, if_neg hw, if_neg (by omega)]
                simp (disch := first | omega | (simp only [length_tks, List.length_set, List.length_reverse, List.length_replicate, List.length_append, List.length_cons, List.length_nil, List.length_map]; omega)) only [push_cast, ↓reduceIte, reduceIte, reduceCtorEq, Nat.reduceAdd, Nat.reduceLT, Nat.reduceEqDiff, Nat.reduceLeDiff, Int.reduceAdd, Int.reduceLT, Int.reduceLE, Nat.reduceMul, b0, b3, b4, b5, e1, hbig', Int.reduceEq, Int.reduceSub]
                exact ih2
            · rw [hor] at h17 h13 h18 hw1
              simp only [hk, and_false, if_false, Int.sub_zero] at h18 h17
              repeat' (first | (first | (refine a0_ ?_; first | refine a1_ rfl rfl ?_ | refine a2_ rfl ?_ | refine a3_ rfl rfl ?_ | refine a4_ rfl ?_ | refine a5_ rfl rfl rfl ?_ | refine a6_ rfl rfl ?_ | refine a7_ rfl rfl ?_ | refine a8_ rfl rfl ?_ | refine a9_ rfl rfl rfl ?_) | (refine g0_ ?_; first | refine g1_ rfl ?_ | refine g2_ rfl rfl ?_ | refine go_draw (dr := allQ) rfl rfl mixed (by first | assumption | kernel_rfl) ?_ | refine g4_ rfl ?_ | refine g5_ rfl ?_ | refine g6_ rfl ?_ | refine g7_ rfl ?_ | refine g8_ rfl ?_ | refine ga_ rfl ?_ | refine gb_ rfl ?_) | (refine o0_ ?_; first | refine o1_ ?_ | refine o2_ ?_ | refine o3_ ?_ | refine o4_ ?_ | refine o5_ ?_ | refine o6_ rfl ?_ | refine o7_ rfl ?_ | refine o8_ ?_ | refine o9_ ?_ | refine oa_ ?_ | refine ob_ ?_ | refine oc_ ?_ | refine od_ ?_ | refine oe_ ?_ | refine of_ ?_ | refine og_ ?_ | refine oh_ ?_ | refine oi_ ?_ | refine oj_ ?_ | refine ok_ ?_)) | refine at_go ?_ | (with_reducible refine And.intro (at_go ?_) (at_go ?_)) | ((with_reducible refine And.intro (fun h => ?_) (fun h => ?_)) <;> try (exfalso; omega)) | (with_reducible refine And.intro (by first | omega | (simp only [maxLen]; omega)) ?_) | (first | (refine ⟨_, _, pc_lift (h17) (by (simp [idsL, idsE, AV.ids, Nat.add_zero])) _, ?_⟩) | (refine ⟨_, pc_lift (h17) (by (simp [idsL, idsE, AV.ids, Nat.add_zero])) _, ?_⟩) | (refine ⟨_, fun _ => pc_lift (h17) (by (simp [idsL, idsE, AV.ids, Nat.add_zero])) _, ?_⟩) | (refine ⟨_, _, pc_lift (h13) (by (simp [idsL, idsE, AV.ids, Nat.add_zero])) _, ?_⟩) | (refine ⟨_, pc_lift (h13) (by (simp [idsL, idsE, AV.ids, Nat.add_zero])) _, ?_⟩) | (refine ⟨_, fun _ => pc_lift (h13) (by (simp [idsL, idsE, AV.ids, Nat.add_zero])) _, ?_⟩) | (refine ⟨_, _, pc_lift (h18) (by (simp [idsL, idsE, AV.ids, Nat.add_zero])) _, ?_⟩) | (refine ⟨_, pc_lift (h18) (by (simp [idsL, idsE, AV.ids, Nat.add_zero])) _, ?_⟩) | (refine ⟨_, fun _ => pc_lift (h18) (by (simp [idsL, idsE, AV.ids, Nat.add_zero])) _, ?_⟩) | (refine ⟨AV.str [], ?_⟩; refine acc_id ?_)) | simp (disch := first | omega | (simp only [length_tks, List.length_set, List.length_reverse, List.length_replicate, List.length_append, List.length_cons, List.length_nil, List.length_map]; omega)) only [push_cast, ↓reduceIte, reduceIte, reduceCtorEq, Nat.reduceAdd, Nat.reduceLT, Nat.reduceEqDiff, Nat.reduceLeDiff, Int.reduceAdd, Int.reduceLT, Int.reduceLE, Nat.reduceMul, b0, b3, b4, b5, e1, hbig', hk, Int.reduceEq, Int.reduceSub])
              · rename_i hw
                refine out_round (l.length - (i + 1)) (by omega) (by (first | trivial | ((repeat' apply And.intro) <;> first | trivial | assumption | omega | (simp only [maxLen]; omega) | (simp only [length_tks, List.length_replicate, List.length_append, List.length_cons, List.length_nil, List.length_map, List.length_take, List.length_drop, List.length_set, List.length_reverse, maxLen] <;> omega)))) ⟨i + 1, by omega, rfl, rfl, ?_⟩
                rw [hw1, hj, if_pos hw, if_pos (by omega)]
                simp (disch := first | omega | (simp only [length_tks, List.length_set, List.length_reverse, List.length_replicate, List.length_append, List.length_cons, List.length_nil, List.length_map]; omega)) only [push_cast, ↓reduceIte, reduceIte, reduceCtorEq, Nat.reduceAdd, Nat.reduceLT, Nat.reduceEqDiff, Nat.reduceLeDiff, Int.reduceAdd, Int.reduceLT, Int.reduceLE, Nat.reduceMul, b0, b3, b4, b5, e1, hbig', hk, Int.reduceEq, Int.reduceSub]
                exact ih2
              · rename_i hw
                refine out_round (l.length - (i + 1)) (by omega) (by (first | trivial | ((repeat' apply And.intro) <;> first | trivial | assumption | omega | (simp only [maxLen]; omega) | (simp only [length_tks, List.length_replicate, List.length_append, List.length_cons, List.length_nil, List.length_map, List.length_take, List.length_drop, List.length_set, List.length_reverse, maxLen] <;> omega)))) ⟨i + 1, by omega, rfl, rfl, ?_⟩
                rw [hw1, hj, if_pos hw, if_neg (by omega)]
                simp (disch := first | omega | (simp only [length_tks, List.length_set, List.length_reverse, List.length_replicate, List.length_append, List.length_cons, List.length_nil, List.length_map]; omega)) only [push_cast, ↓reduceIte, reduceIte, reduceCtorEq, Nat.reduceAdd, Nat.reduceLT, Nat.reduceEqDiff, Nat.reduceLeDiff, Int.reduceAdd, Int.reduceLT, Int.reduceLE, Nat.reduceMul, b0, b3, b4, b5, e1, hbig', hk, Int.reduceEq, Int.reduceSub]
                exact ih2
              · rename_i hw
                refine out_round (l.length - (i + 1)) (by omega) (by (first | trivial | ((repeat' apply And.intro) <;> first | trivial | assumption | omega | (simp only [maxLen]; omega) | (simp only [length_tks, List.length_replicate, List.length_append, List.length_cons, List.length_nil, List.length_map, List.length_take, List.length_drop, List.length_set, List.length_reverse, maxLen] <;> omega)))) ⟨i + 1, by omega, rfl, rfl, ?_⟩
                rw [hw1, hj, if_neg hw, if_pos (by omega)]
                simp (disch := first | omega | (simp only [length_tks, List.length_set, List.length_reverse, List.length_replicate, List.length_append, List.length_cons, List.length_nil, List.length_map]; omega)) only [push_cast, ↓reduceIte, reduceIte, reduceCtorEq, Nat.reduceAdd, Nat.reduceLT, Nat.reduceEqDiff, Nat.reduceLeDiff, Int.reduceAdd, Int.reduceLT, Int.reduceLE, Nat.reduceMul, b0, b3, b4, b5, e1, hbig', hk, Int.reduceEq, Int.reduceSub]
                exact ih2
              · rename_i hw
                refine out_round (l.length - (i + 1)) (by omega) (by (first | trivial | ((repeat' apply And.intro) <;> first | trivial | assumption | omega | (simp only [maxLen]; omega) | (simp only [length_tks, List.length_replicate, List.length_append, List.length_cons, List.length_nil, List.length_map, List.length_take, List.length_drop, List.length_set, List.length_reverse, maxLen] <;> omega)))) ⟨i + 1, by omega, rfl, rfl, ?_⟩
                rw [hw1, hj, if_neg hw, if_neg (by omega)]
                simp (disch := first | omega | (simp only [length_tks, List.length_set, List.length_reverse, List.length_replicate, List.length_append, List.length_cons, List.length_nil, List.length_map]; omega)) only [push_cast, ↓reduceIte, reduceIte, reduceCtorEq, Nat.reduceAdd, Nat.reduceLT, Nat.reduceEqDiff, Nat.reduceLeDiff, Int.reduceAdd, Int.reduceLT, Int.reduceLE, Nat.reduceMul, b0, b3, b4, b5, e1, hbig', hk, Int.reduceEq, Int.reduceSub]
                exact ih2
          · rw [hor] at h17 h13 h18 hw1
            simp only [show ¬ ((1 : Int) = 0) by decide, false_and, if_false, Int.sub_self] at h18 h17
            repeat' (first | (first | (refine a0_ ?_; first | refine a1_ rfl rfl ?_ | refine a2_ rfl ?_ | refine a3_ rfl rfl ?_ | refine a4_ rfl ?_ | refine a5_ rfl rfl rfl ?_ | refine a6_ rfl rfl ?_ | refine a7_ rfl rfl ?_ | refine a8_ rfl rfl ?_ | refine a9_ rfl rfl rfl ?_) | (refine g0_ ?_; first | refine g1_ rfl ?_ | refine g2_ rfl rfl ?_ | refine go_draw (dr := allQ) rfl rfl mixed (by first | assumption | kernel_rfl) ?_ | refine g4_ rfl ?_ | refine g5_ rfl ?_ | refine g6_ rfl ?_ | refine g7_ rfl ?_ | refine g8_ rfl ?_ | refine ga_ rfl ?_ | refine gb_ rfl ?_) | (refine o0_ ?_; first | refine o1_ ?_ | refine o2_ ?_ | refine o3_ ?_ | refine o4_ ?_ | refine o5_ ?_ | refine o6_ rfl ?_ | refine o7_ rfl ?_ | refine o8_ ?_ | refine o9_ ?_ | refine oa_ ?_ | refine ob_ ?_ | refine oc_ ?_ | refine od_ ?_ | refine oe_ ?_ | refine of_ ?_ | refine og_ ?_ | refine oh_ ?_ | refine oi_ ?_ | refine oj_ ?_ | refine ok_ ?_)) | refine at_go ?_ | (with_reducible refine And.intro (at_go ?_) (at_go ?_)) | ((with_reducible refine And.intro (fun h => ?_) (fun h => ?_)) <;> try (exfalso; omega)) | (with_reducible refine And.intro (by first | omega | (simp only [maxLen]; omega)) ?_) | (first | (refine ⟨_, _, pc_lift (h17) (by (simp [idsL, idsE, AV.ids, Nat.add_zero])) _, ?_⟩) | (refine ⟨_, pc_lift (h17) (by (simp [idsL, idsE, AV.ids, Nat.add_zero])) _, ?_⟩) | (refine ⟨_, fun _ => pc_lift (h17) (by (simp [idsL, idsE, AV.ids, Nat.add_zero])) _, ?_⟩) | (refine ⟨_, _, pc_lift (h13) (by (simp [idsL, idsE, AV.ids, Nat.add_zero])) _, ?_⟩) | (refine ⟨_, pc_lift (h13) (by (simp [idsL, idsE, AV.ids, Nat.add_zero])) _, ?_⟩) | (refine ⟨_, fun _ => pc_lift (h13) (by (simp [idsL, idsE, AV.ids, Nat.add_zero])) _, ?_⟩) | (refine ⟨_, _, pc_lift (h18) (by (simp [idsL, idsE, AV.ids, Nat.add_zero])) _, ?_⟩) | (refine ⟨_, pc_lift (h18) (by (simp [idsL, idsE, AV.ids, Nat.add_zero])) _, ?_⟩) | (refine ⟨_, fun _ => pc_lift (h18) (by (simp [idsL, idsE, AV.ids, Nat.add_zero])) _, ?_⟩) | (refine ⟨AV.str [], ?_⟩; refine acc_id ?_)) | simp (disch := first | omega | (simp only [length_tks, List.length_set, List.length_reverse, List.length_replicate, List.length_append, List.length_cons, List.length_nil, List.length_map]; omega)) only [push_cast, ↓reduceIte, reduceIte, reduceCtorEq, Nat.reduceAdd, Nat.reduceLT, Nat.reduceEqDiff, Nat.reduceLeDiff, Int.reduceAdd, Int.reduceLT, Int.reduceLE, Nat.reduceMul, b0, b3, b4, b5, e1, hbig', Int.reduceEq, Int.reduceSub])
            · rename_i hw
              refine out_round (l.length - (i + 1)) (by omega) (by (first | trivial | ((repeat' apply And.intro) <;> first | trivial | assumption | omega | (simp only [maxLen]; omega) | (simp only [length_tks, List.length_replicate, List.length_append, List.length_cons, List.length_nil, List.length_map, List.length_take, List.length_drop, List.length_set, List.length_reverse, maxLen] <;> omega)))) ⟨i + 1, by omega, rfl, rfl, ?_⟩
              rw [hw1, hj, if_pos hw, if_pos (by omega)]
              simp (disch := first | omega | (simp only [length_tks, List.length_set, List.length_reverse, List.length_replicate, List.length_append, List.length_cons, List.length_nil, List.length_map]; omega)) only [push_cast, ↓reduceIte, reduceIte, reduceCtorEq, Nat.reduceAdd, Nat.reduceLT, Nat.reduceEqDiff, Nat.reduceLeDiff, Int.reduceAdd, Int.reduceLT, Int.reduceLE, Nat.reduceMul, b0, b3, b4, b5, e1, hbig', Int.reduceEq, Int.reduceSub]
              exact ih2
            · rename_i hw
              refine out_round (l.length - (i + 1)) (by omega) (by (first | trivial | ((repeat' apply And.intro) <;> first | trivial | assumption | omega | (simp only [maxLen]; omega) | (simp only [length_tks, List.length_replicate, List.length_append, List.length_cons, List.length_nil, List.length_map, List.length_take, List.length_drop, List.length_set, List.length_reverse, maxLen] <;> omega)))) ⟨i + 1, by omega, rfl, rfl, ?_⟩
              rw [hw1, hj, if_pos hw, if_neg (by omega)]
              simp (disch := first | omega | (simp only [length_tks, List.length_set, List.length_reverse, List.length_replicate, List.length_append, List.length_cons, List.length_nil, List.length_map]; omega)) only [push_cast, ↓reduceIte, reduceIte, reduceCtorEq, Nat.reduceAdd, Nat.reduceLT, Nat.reduceEqDiff, Nat.reduceLeDiff, Int.reduceAdd, Int.reduceLT, Int.reduceLE, Nat.reduceMul, b0, b3, b4, b5, e1, hbig', Int.reduceEq, Int.reduceSub]
              exact ih2
            · rename_i hw
              refine out_round (l.length - (i + 1)) (by omega) (by (first | trivial | ((repeat' apply And.intro) <;> first | trivial | assumption | omega | (simp only [maxLen]; omega) | (simp only [length_tks, List.length_replicate, List.length_append, List.length_cons, List.length_nil, List.length_map, List.length_take, List.length_drop, List.length_set, List.length_reverse, maxLen] <;> omega)))) ⟨i + 1, by omega, rfl, rfl, ?_⟩
              rw [hw1, hj, if_neg hw, if_pos (by omega)]
              simp (disch := first | omega | (simp only [length_tks, List.length_set, List.length_reverse, List.length_replicate, List.length_append, List.length_cons, List.length_nil, List.length_map]; omega)) only [push_cast, ↓reduceIte, reduceIte, reduceCtorEq, Nat.reduceAdd, Nat.reduceLT, Nat.reduceEqDiff, Nat.reduceLeDiff, Int.reduceAdd, Int.reduceLT, Int.reduceLE, Nat.reduceMul, b0, b3, b4, b5, e1, hbig', Int.reduceEq, Int.reduceSub]
              exact ih2
            · rename_i hw
              refine out_round (l.length - (i + 1)) (by omega) (by (first | trivial | ((repeat' apply And.intro) <;> first | trivial | assumption | omega | (simp only [maxLen]; omega) | (simp only [length_tks, List.length_replicate, List.length_append, List.length_cons, List.length_nil, List.length_map, List.length_take, List.length_drop, List.length_set, List.length_reverse, maxLen] <;> omega)))) ⟨i + 1, by omega, rfl, rfl, ?_⟩
              rw [hw1, hj, if_neg hw, if_neg (by omega)]
              simp (disch := first | omega | (simp only [length_tks, List.length_set, List.length_reverse, List.length_replicate, List.length_append, List.length_cons, List.length_nil, List.length_map]; omega)) only [push_cast, ↓reduceIte, reduceIte, reduceCtorEq, Nat.reduceAdd, Nat.reduceLT, Nat.reduceEqDiff, Nat.reduceLeDiff, Int.reduceAdd, Int.reduceLT, Int.reduceLE, Nat.reduceMul, b0, b3, b4, b5, e1, hbig', Int.reduceEq, Int.reduceSub]
              exact ih2
      · obtain rfl : i = l.length := by omega
        rw [List.take_of_length_le (Nat.le_refl _)] at ih
        rw [List.take_of_length_le (by rw [length_txts]; exact Nat.le_refl _)] at b4
        have hgw : wantT l l.length = if goodT l = true then 0 else 1 := by rw [wantT, List.take_of_length_le (Nat.le_refl _)]
        rw [hgw] at b3
        have h16 := text16 l c (by omega) (fun t ht => by have := ih t ht; omega)
        cases hg : goodT l with
        | false =>
          rw [hg] at h16 b3
          simp only [Bool.false_eq_true, if_false] at h16 b3
          repeat' (first | (first | (refine a0_ ?_; first | refine a1_ rfl rfl ?_ | refine a2_ rfl ?_ | refine a3_ rfl rfl ?_ | refine a4_ rfl ?_ | refine a5_ rfl rfl rfl ?_ | refine a6_ rfl rfl ?_ | refine a7_ rfl rfl ?_ | refine a8_ rfl rfl ?_ | refine a9_ rfl rfl rfl ?_) | (refine g0_ ?_; first | refine g1_ rfl ?_ | refine g2_ rfl rfl ?_ | refine go_draw (dr := allQ) rfl rfl mixed (by first | assumption | kernel_rfl) ?_ | refine g4_ rfl ?_ | refine g5_ rfl ?_ | refine g6_ rfl ?_ | refine g7_ rfl ?_ | refine g8_ rfl ?_ | refine ga_ rfl ?_ | refine gb_ rfl ?_) | (refine o0_ ?_; first | refine o1_ ?_ | refine o2_ ?_ | refine o3_ ?_ | refine o4_ ?_ | refine o5_ ?_ | refine o6_ rfl ?_ | refine o7_ rfl ?_ | refine o8_ ?_ | refine o9_ ?_ | refine oa_ ?_ | refine ob_ ?_ | refine oc_ ?_ | refine od_ ?_ | refine oe_ ?_ | refine of_ ?_ | refine og_ ?_ | refine oh_ ?_ | refine oi_ ?_ | refine oj_ ?_ | refine ok_ ?_)) | refine at_go ?_ | (with_reducible refine And.intro (at_go ?_) (at_go ?_)) | ((with_reducible refine And.intro (fun h => ?_) (fun h => ?_)) <;> try (exfalso; omega)) | (with_reducible refine And.intro (by first | omega | (simp only [maxLen]; omega)) ?_) | (first | (refine ⟨_, _, pc_lift (h16) (by (simp [idsL, idsE, AV.ids, Nat.add_zero])) _, ?_⟩) | (refine ⟨_, pc_lift (h16) (by (simp [idsL, idsE, AV.ids, Nat.add_zero])) _, ?_⟩) | (refine ⟨_, fun _ => pc_lift (h16) (by (simp [idsL, idsE, AV.ids, Nat.add_zero])) _, ?_⟩) | (refine ⟨_, _, pc_lift (h12) (by (simp [idsL, idsE, AV.ids, Nat.add_zero])) _, ?_⟩) | (refine ⟨_, pc_lift (h12) (by (simp [idsL, idsE, AV.ids, Nat.add_zero])) _, ?_⟩) | (refine ⟨_, fun _ => pc_lift (h12) (by (simp [idsL, idsE, AV.ids, Nat.add_zero])) _, ?_⟩)) | simp (disch := first | omega | (simp only [length_tks, List.length_set, List.length_reverse, List.length_replicate, List.length_append, List.length_cons, List.length_nil, List.length_map]; omega)) only [push_cast, ↓reduceIte, reduceIte, reduceCtorEq, Nat.reduceAdd, Nat.reduceLT, Nat.reduceEqDiff, Nat.reduceLeDiff, Int.reduceAdd, Int.reduceLT, Int.reduceLE, Nat.reduceMul, b0, b3, b4, b5, Int.reduceEq])
        | true =>
          rw [hg] at h16 b3
          simp only [if_true] at h16 b3
          have hjl : (jn (txts l)).length ≤ 60 * 41 := by
            have h := jn_len (txts l) 40 fun x hx => by
              obtain ⟨t, ht, rfl⟩ := List.mem_map.1 hx
              exact ih t ht
            rw [length_txts] at h
            have : l.length * (40 + 1) ≤ 60 * 41 := Nat.mul_le_mul_right _ (by omega)
            omega
          have h9 := of9 (jn (txts l)) (by omega)
          obtain ⟨ts, q1, q2⟩ := lex_join (kts l) (fun x hx => by
            obtain ⟨t, ht, rfl⟩ := List.mem_map.1 hx
            exact (chkT_zero t.k t.t).1 (of_decide_eq_true (List.all_eq_true.1 hg t ht))) 1 1
          rw [kts_txts] at q1
          have hR : ofS (jn (txts l)) = (ts, 0, 0, 0) := by rw [ofS, if_neg (by omega), q1]; rfl
          unfold ofA at h9
          have hln : ts.length ≤ 1000000 := by have := ofS_len (jn (txts l)); rw [hR] at this; simp only at this; omega
          rw [hR] at h9
          simp only at h9
          have h20 := same20 ts l (some ts.length) c hln (by omega)
          rw [alike_refl ts l q2] at h20
          generalize jn (txts l) = J at *
          repeat' (first | (first | (refine a0_ ?_; first | refine a1_ rfl rfl ?_ | refine a2_ rfl ?_ | refine a3_ rfl rfl ?_ | refine a4_ rfl ?_ | refine a5_ rfl rfl rfl ?_ | refine a6_ rfl rfl ?_ | refine a7_ rfl rfl ?_ | refine a8_ rfl rfl ?_ | refine a9_ rfl rfl rfl ?_) | (refine g0_ ?_; first | refine g1_ rfl ?_ | refine g2_ rfl rfl ?_ | refine go_draw (dr := allQ) rfl rfl mixed (by first | assumption | kernel_rfl) ?_ | refine g4_ rfl ?_ | refine g5_ rfl ?_ | refine g6_ rfl ?_ | refine g7_ rfl ?_ | refine g8_ rfl ?_ | refine ga_ rfl ?_ | refine gb_ rfl ?_) | (refine o0_ ?_; first | refine o1_ ?_ | refine o2_ ?_ | refine o3_ ?_ | refine o4_ ?_ | refine o5_ ?_ | refine o6_ rfl ?_ | refine o7_ rfl ?_ | refine o8_ ?_ | refine o9_ ?_ | refine oa_ ?_ | refine ob_ ?_ | refine oc_ ?_ | refine od_ ?_ | refine oe_ ?_ | refine of_ ?_ | refine og_ ?_ | refine oh_ ?_ | refine oi_ ?_ | refine oj_ ?_ | refine ok_ ?_)) | refine at_go ?_ | (with_reducible refine And.intro (at_go ?_) (at_go ?_)) | ((with_reducible refine And.intro (fun h => ?_) (fun h => ?_)) <;> try (exfalso; omega)) | (with_reducible refine And.intro (by first | omega | (simp only [maxLen]; omega)) ?_) | (first | (refine ⟨_, _, pc_lift (h16) (by (simp [idsL, idsE, AV.ids, Nat.add_zero])) _, ?_⟩) | (refine ⟨_, pc_lift (h16) (by (simp [idsL, idsE, AV.ids, Nat.add_zero])) _, ?_⟩) | (refine ⟨_, fun _ => pc_lift (h16) (by (simp [idsL, idsE, AV.ids, Nat.add_zero])) _, ?_⟩) | (refine ⟨_, _, pc_lift (h9) (by (simp [idsL, idsE, AV.ids, Nat.add_zero])) _, ?_⟩) | (refine ⟨_, pc_lift (h9) (by (simp [idsL, idsE, AV.ids, Nat.add_zero])) _, ?_⟩) | (refine ⟨_, fun _ => pc_lift (h9) (by (simp [idsL, idsE, AV.ids, Nat.add_zero])) _, ?_⟩) | (refine ⟨_, _, pc_lift (h20) (by (simp [idsL, idsE, AV.ids, Nat.add_zero])) _, ?_⟩) | (refine ⟨_, pc_lift (h20) (by (simp [idsL, idsE, AV.ids, Nat.add_zero])) _, ?_⟩) | (refine ⟨_, fun _ => pc_lift (h20) (by (simp [idsL, idsE, AV.ids, Nat.add_zero])) _, ?_⟩) | (refine ⟨_, _, pc_lift (h12) (by (simp [idsL, idsE, AV.ids, Nat.add_zero])) _, ?_⟩) | (refine ⟨_, pc_lift (h12) (by (simp [idsL, idsE, AV.ids, Nat.add_zero])) _, ?_⟩) | (refine ⟨_, fun _ => pc_lift (h12) (by (simp [idsL, idsE, AV.ids, Nat.add_zero])) _, ?_⟩)) | simp (disch := first | omega | (simp only [length_tks, List.length_set, List.length_reverse, List.length_replicate, List.length_append, List.length_cons, List.length_nil, List.length_map]; omega)) only [push_cast, ↓reduceIte, reduceIte, reduceCtorEq, Nat.reduceAdd, Nat.reduceLT, Nat.reduceEqDiff, Nat.reduceLeDiff, Int.reduceAdd, Int.reduceLT, Int.reduceLE, Nat.reduceMul, b0, b3, b4, b5, Int.reduceEq])
end Go.Proofs
