import Derived.Test.YtcpenghfjghecaaDoorL4
/- Lexemes: the document's words and comparisons, walked. -/
namespace Go.Proofs
open Go Go.V
set_option linter.unusedVariables false
set_option linter.unusedSimpArgs false
set_option maxHeartbeats 0
set_option maxRecDepth 100000
theorem all_take {w : Bs} {k : Nat} (hk : k < w.length) : (w.take (k + 1)).all digB = ((w.take k).all digB && digB (w.getD k 0)) := by
  rw [take_snoc w 0 k hk, List.all_append]; simp
theorem refWord29 (w : Bs) (hw : w ≠ []) (hs : w.length ≤ 1000000) : PC Tryd.prog G0 29 [.str w] (.tup [.int .u8 (kindW w).1, .int .i64 (kindW w).2]) := by
  have h0 := headD_getD w
  have h1 := letter45 (w.getD 0 0)
  have hl : 0 < w.length := List.length_pos_iff.2 hw
  have ka := kindW_letter w
  have kr := kindW_ref w
  rw [h0] at ka kr
  have e48 : (((w.getD 0 0).toNat : Int) = 48) = (w.getD 0 0 = 48) := by
    apply propext
    rw [← UInt8.toNat_inj]
    show _ ↔ (w.getD 0 0).toNat = 48
    omega
  cases hc : letB (w.getD 0 0) with
  | true =>
    rw [hc] at h1
    rw [ka hc]
    generalize hcc : w.getD 0 0 = c at *
    refine pc_go 0 36 [.tmp 2, .tmp 3] Tryd.func29 rfl rfl rfl (by simp) ?_
    intro s ⟨a0, hz⟩
    clear hz
    repeat' (first | (first | (refine a0_ ?_; first | refine a1_ rfl rfl ?_ | refine a2_ rfl ?_ | refine a3_ rfl rfl ?_ | refine a4_ rfl ?_ | refine a5_ rfl rfl rfl ?_ | refine a6_ rfl rfl ?_ | refine a7_ rfl rfl ?_ | refine a8_ rfl rfl ?_ | refine a9_ rfl rfl rfl ?_) | (refine g0_ ?_; first | refine g1_ rfl ?_ | refine g2_ rfl rfl ?_ | refine go_draw (dr := allQ) rfl rfl mixed (by first | assumption | kernel_rfl) ?_ | refine g4_ rfl ?_ | refine g5_ rfl ?_ | refine g6_ rfl ?_ | refine g7_ rfl ?_ | refine g8_ rfl ?_ | refine ga_ rfl ?_ | refine gb_ rfl ?_) | (refine o0_ ?_; first | refine o1_ ?_ | refine o2_ ?_ | refine o3_ ?_ | refine o4_ ?_ | refine o5_ ?_ | refine o6_ rfl ?_ | refine o7_ rfl ?_ | refine o8_ ?_ | refine o9_ ?_ | refine oa_ ?_ | refine ob_ ?_ | refine oc_ ?_ | refine od_ ?_ | refine oe_ ?_ | refine of_ ?_ | refine og_ ?_ | refine oh_ ?_ | refine oi_ ?_ | refine oj_ ?_ | refine ok_ ?_)) | refine at_go ?_ | (with_reducible refine And.intro (at_go ?_) (at_go ?_)) | ((with_reducible refine And.intro (fun h => ?_) (fun h => ?_)) <;> try (exfalso; omega)) | (with_reducible refine And.intro (by first | omega | (simp only [maxLen]; omega)) ?_) | (first | (refine ⟨_, _, pc_lift (h1) (by (simp [idsL, idsE, AV.ids, Nat.add_zero])) _, ?_⟩) | (refine ⟨_, pc_lift (h1) (by (simp [idsL, idsE, AV.ids, Nat.add_zero])) _, ?_⟩) | (refine ⟨_, fun _ => pc_lift (h1) (by (simp [idsL, idsE, AV.ids, Nat.add_zero])) _, ?_⟩)) | simp (disch := first | omega | (simp only [length_tks, List.length_set, List.length_reverse, List.length_replicate, List.length_append, List.length_cons, List.length_nil, List.length_map]; omega)) only [push_cast, ↓reduceIte, reduceIte, reduceCtorEq, Nat.reduceAdd, Nat.reduceLT, Nat.reduceEqDiff, Nat.reduceLeDiff, Int.reduceAdd, Int.reduceLT, Int.reduceLE, Nat.reduceMul, a0, bI, Int.reduceEq, hcc])
    · rw [if_neg (by omega)]; exact ⟨rfl, rfl⟩
    · rw [if_pos (by omega)]; exact ⟨rfl, rfl⟩
  | false =>
    rw [hc] at h1
    have kr := kr (by rw [hc]; decide)
    generalize hcc : w.getD 0 0 = c at *
    refine pc_go 0 36 [.tmp 2, .tmp 3] Tryd.func29 rfl rfl rfl (by simp) ?_
    intro s ⟨a0, hz⟩
    clear hz
    repeat' (first | (first | (refine a0_ ?_; first | refine a1_ rfl rfl ?_ | refine a2_ rfl ?_ | refine a3_ rfl rfl ?_ | refine a4_ rfl ?_ | refine a5_ rfl rfl rfl ?_ | refine a6_ rfl rfl ?_ | refine a7_ rfl rfl ?_ | refine a8_ rfl rfl ?_ | refine a9_ rfl rfl rfl ?_) | (refine g0_ ?_; first | refine g1_ rfl ?_ | refine g2_ rfl rfl ?_ | refine go_draw (dr := allQ) rfl rfl mixed (by first | assumption | kernel_rfl) ?_ | refine g4_ rfl ?_ | refine g5_ rfl ?_ | refine g6_ rfl ?_ | refine g7_ rfl ?_ | refine g8_ rfl ?_ | refine ga_ rfl ?_ | refine gb_ rfl ?_) | (refine o0_ ?_; first | refine o1_ ?_ | refine o2_ ?_ | refine o3_ ?_ | refine o4_ ?_ | refine o5_ ?_ | refine o6_ rfl ?_ | refine o7_ rfl ?_ | refine o8_ ?_ | refine o9_ ?_ | refine oa_ ?_ | refine ob_ ?_ | refine oc_ ?_ | refine od_ ?_ | refine oe_ ?_ | refine of_ ?_ | refine og_ ?_ | refine oh_ ?_ | refine oi_ ?_ | refine oj_ ?_ | refine ok_ ?_)) | refine at_go ?_ | (with_reducible refine And.intro (at_go ?_) (at_go ?_)) | ((with_reducible refine And.intro (fun h => ?_) (fun h => ?_)) <;> try (exfalso; omega)) | (with_reducible refine And.intro (by first | omega | (simp only [maxLen]; omega)) ?_) | (first | (refine ⟨_, _, pc_lift (h1) (by (simp [idsL, idsE, AV.ids, Nat.add_zero])) _, ?_⟩) | (refine ⟨_, pc_lift (h1) (by (simp [idsL, idsE, AV.ids, Nat.add_zero])) _, ?_⟩) | (refine ⟨_, fun _ => pc_lift (h1) (by (simp [idsL, idsE, AV.ids, Nat.add_zero])) _, ?_⟩)) | simp (disch := first | omega | (simp only [length_tks, List.length_set, List.length_reverse, List.length_replicate, List.length_append, List.length_cons, List.length_nil, List.length_map]; omega)) only [push_cast, ↓reduceIte, reduceIte, reduceCtorEq, Nat.reduceAdd, Nat.reduceLT, Nat.reduceEqDiff, Nat.reduceLeDiff, Int.reduceAdd, Int.reduceLT, Int.reduceLE, Nat.reduceMul, a0, bI, Int.reduceEq, hcc])
    refine go_loop rfl (fun mz s' H' => ∃ k : Nat, k ≤ w.length ∧ mz = w.length - k ∧ H' = [] ∧ s' 0 = .str w ∧ s' 4 = .int .i64 k ∧ (w.take k).all digB = true) (m := w.length) (by (first | trivial | ((repeat' apply And.intro) <;> first | trivial | assumption | omega | (simp only [maxLen]; omega) | (simp only [length_tks, List.length_replicate, List.length_append, List.length_cons, List.length_nil, List.length_map, List.length_take, List.length_drop, List.length_set, List.length_reverse, maxLen] <;> omega)))) (Weak.refl _ _) ⟨0, by omega, by omega, rfl, ?_⟩ ?_
    · simp (disch := first | omega | (simp only [length_tks, List.length_set, List.length_reverse, List.length_replicate, List.length_append, List.length_cons, List.length_nil, List.length_map]; omega)) only [push_cast, ↓reduceIte, reduceIte, reduceCtorEq, Nat.reduceAdd, Nat.reduceLT, Nat.reduceEqDiff, Nat.reduceLeDiff, Int.reduceAdd, Int.reduceLT, Int.reduceLE, Nat.reduceMul, a0, bI, Int.reduceEq, hcc]
    · rintro mz s' H' ⟨k, hk, rfl, rfl, b0, b4, ik⟩
      rcases Nat.lt_or_ge k w.length with hlt | hge
      · have e1 := all_take hlt
        rw [ik, Bool.true_and] at e1
        have h2 := digit46 (w.getD k 0)
        have hfalse : digB (w.getD k 0) = false → w.all digB = false := fun q => by
          rw [Bool.eq_false_iff]
          intro h
          have := List.all_eq_true.1 h _ (getD_mem 0 hlt)
          rw [q] at this; cases this
        generalize hdd : w.getD k 0 = d at *
        cases hd : digB d with
        | true =>
          rw [hd] at h2 e1
          repeat' (first | (first | (refine a0_ ?_; first | refine a1_ rfl rfl ?_ | refine a2_ rfl ?_ | refine a3_ rfl rfl ?_ | refine a4_ rfl ?_ | refine a5_ rfl rfl rfl ?_ | refine a6_ rfl rfl ?_ | refine a7_ rfl rfl ?_ | refine a8_ rfl rfl ?_ | refine a9_ rfl rfl rfl ?_) | (refine g0_ ?_; first | refine g1_ rfl ?_ | refine g2_ rfl rfl ?_ | refine go_draw (dr := allQ) rfl rfl mixed (by first | assumption | kernel_rfl) ?_ | refine g4_ rfl ?_ | refine g5_ rfl ?_ | refine g6_ rfl ?_ | refine g7_ rfl ?_ | refine g8_ rfl ?_ | refine ga_ rfl ?_ | refine gb_ rfl ?_) | (refine o0_ ?_; first | refine o1_ ?_ | refine o2_ ?_ | refine o3_ ?_ | refine o4_ ?_ | refine o5_ ?_ | refine o6_ rfl ?_ | refine o7_ rfl ?_ | refine o8_ ?_ | refine o9_ ?_ | refine oa_ ?_ | refine ob_ ?_ | refine oc_ ?_ | refine od_ ?_ | refine oe_ ?_ | refine of_ ?_ | refine og_ ?_ | refine oh_ ?_ | refine oi_ ?_ | refine oj_ ?_ | refine ok_ ?_)) | refine at_go ?_ | (with_reducible refine And.intro (at_go ?_) (at_go ?_)) | ((with_reducible refine And.intro (fun h => ?_) (fun h => ?_)) <;> try (exfalso; omega)) | (with_reducible refine And.intro (by first | omega | (simp only [maxLen]; omega)) ?_) | (first | (refine ⟨_, _, pc_lift (h2) (by (simp [idsL, idsE, AV.ids, Nat.add_zero])) _, ?_⟩) | (refine ⟨_, pc_lift (h2) (by (simp [idsL, idsE, AV.ids, Nat.add_zero])) _, ?_⟩) | (refine ⟨_, fun _ => pc_lift (h2) (by (simp [idsL, idsE, AV.ids, Nat.add_zero])) _, ?_⟩)) | simp (disch := first | omega | (simp only [length_tks, List.length_set, List.length_reverse, List.length_replicate, List.length_append, List.length_cons, List.length_nil, List.length_map]; omega)) only [push_cast, ↓reduceIte, reduceIte, reduceCtorEq, Nat.reduceAdd, Nat.reduceLT, Nat.reduceEqDiff, Nat.reduceLeDiff, Int.reduceAdd, Int.reduceLT, Int.reduceLE, Nat.reduceMul, b0, b4, bI, Int.reduceEq, hdd])
          refine out_round (w.length - (k + 1)) (by omega) (by (first | trivial | ((repeat' apply And.intro) <;> first | trivial | assumption | omega | (simp only [maxLen]; omega) | (simp only [length_tks, List.length_replicate, List.length_append, List.length_cons, List.length_nil, List.length_map, List.length_take, List.length_drop, List.length_set, List.length_reverse, maxLen] <;> omega)))) ⟨k + 1, by omega, rfl, rfl, ?_⟩
          simp (disch := first | omega | (simp only [length_tks, List.length_set, List.length_reverse, List.length_replicate, List.length_append, List.length_cons, List.length_nil, List.length_map]; omega)) only [push_cast, ↓reduceIte, reduceIte, reduceCtorEq, Nat.reduceAdd, Nat.reduceLT, Nat.reduceEqDiff, Nat.reduceLeDiff, Int.reduceAdd, Int.reduceLT, Int.reduceLE, Nat.reduceMul, b0, b4, bI, Int.reduceEq, hdd]
          exact e1
        | false =>
          rw [hd] at h2
          rw [hfalse hd, if_neg (by decide)] at kr
          rw [kr]
          repeat' (first | (first | (refine a0_ ?_; first | refine a1_ rfl rfl ?_ | refine a2_ rfl ?_ | refine a3_ rfl rfl ?_ | refine a4_ rfl ?_ | refine a5_ rfl rfl rfl ?_ | refine a6_ rfl rfl ?_ | refine a7_ rfl rfl ?_ | refine a8_ rfl rfl ?_ | refine a9_ rfl rfl rfl ?_) | (refine g0_ ?_; first | refine g1_ rfl ?_ | refine g2_ rfl rfl ?_ | refine go_draw (dr := allQ) rfl rfl mixed (by first | assumption | kernel_rfl) ?_ | refine g4_ rfl ?_ | refine g5_ rfl ?_ | refine g6_ rfl ?_ | refine g7_ rfl ?_ | refine g8_ rfl ?_ | refine ga_ rfl ?_ | refine gb_ rfl ?_) | (refine o0_ ?_; first | refine o1_ ?_ | refine o2_ ?_ | refine o3_ ?_ | refine o4_ ?_ | refine o5_ ?_ | refine o6_ rfl ?_ | refine o7_ rfl ?_ | refine o8_ ?_ | refine o9_ ?_ | refine oa_ ?_ | refine ob_ ?_ | refine oc_ ?_ | refine od_ ?_ | refine oe_ ?_ | refine of_ ?_ | refine og_ ?_ | refine oh_ ?_ | refine oi_ ?_ | refine oj_ ?_ | refine ok_ ?_)) | refine at_go ?_ | (with_reducible refine And.intro (at_go ?_) (at_go ?_)) | ((with_reducible refine And.intro (fun h => ?_) (fun h => ?_)) <;> try (exfalso; omega)) | (with_reducible refine And.intro (by first | omega | (simp only [maxLen]; omega)) ?_) | (first | (refine ⟨_, _, pc_lift (h2) (by (simp [idsL, idsE, AV.ids, Nat.add_zero])) _, ?_⟩) | (refine ⟨_, pc_lift (h2) (by (simp [idsL, idsE, AV.ids, Nat.add_zero])) _, ?_⟩) | (refine ⟨_, fun _ => pc_lift (h2) (by (simp [idsL, idsE, AV.ids, Nat.add_zero])) _, ?_⟩)) | simp (disch := first | omega | (simp only [length_tks, List.length_set, List.length_reverse, List.length_replicate, List.length_append, List.length_cons, List.length_nil, List.length_map]; omega)) only [push_cast, ↓reduceIte, reduceIte, reduceCtorEq, Nat.reduceAdd, Nat.reduceLT, Nat.reduceEqDiff, Nat.reduceLeDiff, Int.reduceAdd, Int.reduceLT, Int.reduceLE, Nat.reduceMul, b0, b4, bI, Int.reduceEq, hdd])
      · obtain rfl : k = w.length := by omega
        rw [List.take_length] at ik
        rw [if_pos ik] at kr
        rw [kr]
        repeat' (first | (first | (refine a0_ ?_; first | refine a1_ rfl rfl ?_ | refine a2_ rfl ?_ | refine a3_ rfl rfl ?_ | refine a4_ rfl ?_ | refine a5_ rfl rfl rfl ?_ | refine a6_ rfl rfl ?_ | refine a7_ rfl rfl ?_ | refine a8_ rfl rfl ?_ | refine a9_ rfl rfl rfl ?_) | (refine g0_ ?_; first | refine g1_ rfl ?_ | refine g2_ rfl rfl ?_ | refine go_draw (dr := allQ) rfl rfl mixed (by first | assumption | kernel_rfl) ?_ | refine g4_ rfl ?_ | refine g5_ rfl ?_ | refine g6_ rfl ?_ | refine g7_ rfl ?_ | refine g8_ rfl ?_ | refine ga_ rfl ?_ | refine gb_ rfl ?_) | (refine o0_ ?_; first | refine o1_ ?_ | refine o2_ ?_ | refine o3_ ?_ | refine o4_ ?_ | refine o5_ ?_ | refine o6_ rfl ?_ | refine o7_ rfl ?_ | refine o8_ ?_ | refine o9_ ?_ | refine oa_ ?_ | refine ob_ ?_ | refine oc_ ?_ | refine od_ ?_ | refine oe_ ?_ | refine of_ ?_ | refine og_ ?_ | refine oh_ ?_ | refine oi_ ?_ | refine oj_ ?_ | refine ok_ ?_)) | refine at_go ?_ | (with_reducible refine And.intro (at_go ?_) (at_go ?_)) | ((with_reducible refine And.intro (fun h => ?_) (fun h => ?_)) <;> try (exfalso; omega)) | (with_reducible refine And.intro (by first | omega | (simp only [maxLen]; omega)) ?_) | fail | simp (disch := first | omega | (simp only [length_tks, List.length_set, List.length_reverse, List.length_replicate, List.length_append, List.length_cons, List.length_nil, List.length_map]; omega)) only [push_cast, ↓reduceIte, reduceIte, reduceCtorEq, Nat.reduceAdd, Nat.reduceLT, Nat.reduceEqDiff, Nat.reduceLeDiff, Int.reduceAdd, Int.reduceLT, Int.reduceLE, Nat.reduceMul, b0, b4, hcc, e48])
        · rw [if_pos (h.elim (fun q => .inl (by omega)) fun q => .inr ⟨by omega, q.2⟩)]; exact ⟨rfl, rfl⟩
        · rw [if_neg (fun q => q.elim (fun q => h.1 (by omega)) fun q => h.2.elim (fun w => w (by omega)) fun w => w q.2)]; exact ⟨rfl, rfl⟩
def alikeM (a b : List Tk) : Bool := decide (kts a = kts b)
theorem kts_len (a : List Tk) : (kts a).length = a.length := by simp [kts]
theorem kts_at (a : List Tk) (k : Nat) (h : k < a.length) : (kts a).getD k (0, []) = ((a.getD k tk0).k, (a.getD k tk0).t) := by simp [kts, h]
theorem refAlike21 (a b : List Tk) (c d : Option Nat) (ha : a.length ≤ 1000000) (hb : b.length ≤ 1000000) : PC Tryd.prog G0 21 [.sl 4 (tks a) c, .sl 4 (tks b) d] (.int .i64 (bI (alikeM a b))) := by
  have hne : ∀ k, k < a.length → k < b.length → ((a.getD k tk0).k ≠ (b.getD k tk0).k ∨ (a.getD k tk0).t ≠ (b.getD k tk0).t) → alikeM a b = false := fun k h1 h2 h3 => by
    rw [alikeM, decide_eq_false]
    intro q
    have : (kts a).getD k (0, []) = (kts b).getD k (0, []) := by rw [q]
    rw [kts_at a k h1, kts_at b k h2, Prod.mk.injEq] at this
    rcases h3 with h | h
    · exact h this.1
    · exact h this.2
  refine pc_go 0 41 [.tmp 4] Tryd.func21 rfl rfl rfl (by simp) ?_
  intro s ⟨a0, a1, hz⟩
  simp only [Nat.zero_add, Nat.reduceAdd] at a1
  clear hz
  repeat' (first | (first | (refine a0_ ?_; first | refine a1_ rfl rfl ?_ | refine a2_ rfl ?_ | refine a3_ rfl rfl ?_ | refine a4_ rfl ?_ | refine a5_ rfl rfl rfl ?_ | refine a6_ rfl rfl ?_ | refine a7_ rfl rfl ?_ | refine a8_ rfl rfl ?_ | refine a9_ rfl rfl rfl ?_) | (refine g0_ ?_; first | refine g1_ rfl ?_ | refine g2_ rfl rfl ?_ | refine go_draw (dr := allQ) rfl rfl mixed (by first | assumption | kernel_rfl) ?_ | refine g4_ rfl ?_ | refine g5_ rfl ?_ | refine g6_ rfl ?_ | refine g7_ rfl ?_ | refine g8_ rfl ?_ | refine ga_ rfl ?_ | refine gb_ rfl ?_) | (refine o0_ ?_; first | refine o1_ ?_ | refine o2_ ?_ | refine o3_ ?_ | refine o4_ ?_ | refine o5_ ?_ | refine o6_ rfl ?_ | refine o7_ rfl ?_ | refine o8_ ?_ | refine o9_ ?_ | refine oa_ ?_ | refine ob_ ?_ | refine oc_ ?_ | refine od_ ?_ | refine oe_ ?_ | refine of_ ?_ | refine og_ ?_ | refine oh_ ?_ | refine oi_ ?_ | refine oj_ ?_ | refine ok_ ?_)) | refine at_go ?_ | (with_reducible refine And.intro (at_go ?_) (at_go ?_)) | ((with_reducible refine And.intro (fun h => ?_) (fun h => ?_)) <;> try (exfalso; omega)) | (with_reducible refine And.intro (by first | omega | (simp only [maxLen]; omega)) ?_) | fail | simp (disch := first | omega | (simp only [length_tks, List.length_set, List.length_reverse, List.length_replicate, List.length_append, List.length_cons, List.length_nil, List.length_map]; omega)) only [push_cast, ↓reduceIte, reduceIte, reduceCtorEq, Nat.reduceAdd, Nat.reduceLT, Nat.reduceEqDiff, Nat.reduceLeDiff, Int.reduceAdd, Int.reduceLT, Int.reduceLE, Nat.reduceMul, a0, a1])
  · rw [alikeM, decide_eq_false (fun q => h (by have := congrArg List.length q; rw [kts_len, kts_len] at this; omega))]; rfl
  · have hlen := h
    refine go_loop rfl (fun mz s' H' => ∃ k : Nat, k ≤ a.length ∧ mz = a.length - k ∧ H' = [] ∧ s' 0 = .sl 4 (tks a) c ∧ s' 1 = .sl 4 (tks b) d ∧ s' 5 = .int .i64 k ∧ (∀ j, j < k → (a.getD j tk0).k = (b.getD j tk0).k ∧ (a.getD j tk0).t = (b.getD j tk0).t)) (m := a.length) (by (first | trivial | ((repeat' apply And.intro) <;> first | trivial | assumption | omega | (simp only [maxLen]; omega) | (simp only [length_tks, List.length_replicate, List.length_append, List.length_cons, List.length_nil, List.length_map, List.length_take, List.length_drop, List.length_set, List.length_reverse, maxLen] <;> omega)))) (Weak.refl _ _) ⟨0, by omega, by omega, rfl, ?_⟩ ?_
    · simp (disch := first | omega | (simp only [length_tks, List.length_set, List.length_reverse, List.length_replicate, List.length_append, List.length_cons, List.length_nil, List.length_map]; omega)) only [push_cast, ↓reduceIte, reduceIte, reduceCtorEq, Nat.reduceAdd, Nat.reduceLT, Nat.reduceEqDiff, Nat.reduceLeDiff, Int.reduceAdd, Int.reduceLT, Int.reduceLE, Nat.reduceMul, a0, a1]
      exact fun j q => absurd q (by omega)
    · rintro mz s' H' ⟨k, hk, rfl, rfl, b0, b1, b5, ik⟩
      rcases Nat.lt_or_ge k a.length with hlt | hge
      · have e1 := getD_tks a k hlt
        have e2 := getD_tks b k (by omega)
        have hne := hne k hlt (by omega)
        have hst : ((a.getD k tk0).k = (b.getD k tk0).k ∧ (a.getD k tk0).t = (b.getD k tk0).t) → (∀ j, j < k + 1 → (a.getD j tk0).k = (b.getD j tk0).k ∧ (a.getD j tk0).t = (b.getD j tk0).t) := fun q j hj => by
          by_cases e : j = k
          · subst e; exact q
          · exact ik j (by omega)
        generalize a.getD k tk0 = x at *
        generalize b.getD k tk0 = y at *
        obtain ⟨xk, xt, xl, xc⟩ := x
        obtain ⟨yk, yt, yl, yc⟩ := y
        simp only [tkA] at e1 e2 hne hst
        by_cases q1 : xk = yk
        · by_cases q2 : xt = yt
          · subst q1 q2
            repeat' (first | (first | (refine a0_ ?_; first | refine a1_ rfl rfl ?_ | refine a2_ rfl ?_ | refine a3_ rfl rfl ?_ | refine a4_ rfl ?_ | refine a5_ rfl rfl rfl ?_ | refine a6_ rfl rfl ?_ | refine a7_ rfl rfl ?_ | refine a8_ rfl rfl ?_ | refine a9_ rfl rfl rfl ?_) | (refine g0_ ?_; first | refine g1_ rfl ?_ | refine g2_ rfl rfl ?_ | refine go_draw (dr := allQ) rfl rfl mixed (by first | assumption | kernel_rfl) ?_ | refine g4_ rfl ?_ | refine g5_ rfl ?_ | refine g6_ rfl ?_ | refine g7_ rfl ?_ | refine g8_ rfl ?_ | refine ga_ rfl ?_ | refine gb_ rfl ?_) | (refine o0_ ?_; first | refine o1_ ?_ | refine o2_ ?_ | refine o3_ ?_ | refine o4_ ?_ | refine o5_ ?_ | refine o6_ rfl ?_ | refine o7_ rfl ?_ | refine o8_ ?_ | refine o9_ ?_ | refine oa_ ?_ | refine ob_ ?_ | refine oc_ ?_ | refine od_ ?_ | refine oe_ ?_ | refine of_ ?_ | refine og_ ?_ | refine oh_ ?_ | refine oi_ ?_ | refine oj_ ?_ | refine ok_ ?_)) | refine at_go ?_ | (with_reducible refine And.intro (at_go ?_) (at_go ?_)) | ((with_reducible refine And.intro (fun h => ?_) (fun h => ?_)) <;> try (exfalso; omega)) | (with_reducible refine And.intro (by first | omega | (simp only [maxLen]; omega)) ?_) | fail | simp (disch := first | omega | (simp only [length_tks, List.length_set, List.length_reverse, List.length_replicate, List.length_append, List.length_cons, List.length_nil, List.length_map]; omega)) only [push_cast, ↓reduceIte, reduceIte, reduceCtorEq, Nat.reduceAdd, Nat.reduceLT, Nat.reduceEqDiff, Nat.reduceLeDiff, Int.reduceAdd, Int.reduceLT, Int.reduceLE, Nat.reduceMul, b0, b1, b5, e1, e2])
            refine out_round (a.length - (k + 1)) (by omega) (by (first | trivial | ((repeat' apply And.intro) <;> first | trivial | assumption | omega | (simp only [maxLen]; omega) | (simp only [length_tks, List.length_replicate, List.length_append, List.length_cons, List.length_nil, List.length_map, List.length_take, List.length_drop, List.length_set, List.length_reverse, maxLen] <;> omega)))) ⟨k + 1, by omega, rfl, rfl, ?_⟩
            simp (disch := first | omega | (simp only [length_tks, List.length_set, List.length_reverse, List.length_replicate, List.length_append, List.length_cons, List.length_nil, List.length_map]; omega)) only [push_cast, ↓reduceIte, reduceIte, reduceCtorEq, Nat.reduceAdd, Nat.reduceLT, Nat.reduceEqDiff, Nat.reduceLeDiff, Int.reduceAdd, Int.reduceLT, Int.reduceLE, Nat.reduceMul, b0, b1, b5, e1, e2]
            exact hst ⟨rfl, rfl⟩
          · rw [hne (.inr q2)]
            subst q1
            repeat' (first | (first | (refine a0_ ?_; first | refine a1_ rfl rfl ?_ | refine a2_ rfl ?_ | refine a3_ rfl rfl ?_ | refine a4_ rfl ?_ | refine a5_ rfl rfl rfl ?_ | refine a6_ rfl rfl ?_ | refine a7_ rfl rfl ?_ | refine a8_ rfl rfl ?_ | refine a9_ rfl rfl rfl ?_) | (refine g0_ ?_; first | refine g1_ rfl ?_ | refine g2_ rfl rfl ?_ | refine go_draw (dr := allQ) rfl rfl mixed (by first | assumption | kernel_rfl) ?_ | refine g4_ rfl ?_ | refine g5_ rfl ?_ | refine g6_ rfl ?_ | refine g7_ rfl ?_ | refine g8_ rfl ?_ | refine ga_ rfl ?_ | refine gb_ rfl ?_) | (refine o0_ ?_; first | refine o1_ ?_ | refine o2_ ?_ | refine o3_ ?_ | refine o4_ ?_ | refine o5_ ?_ | refine o6_ rfl ?_ | refine o7_ rfl ?_ | refine o8_ ?_ | refine o9_ ?_ | refine oa_ ?_ | refine ob_ ?_ | refine oc_ ?_ | refine od_ ?_ | refine oe_ ?_ | refine of_ ?_ | refine og_ ?_ | refine oh_ ?_ | refine oi_ ?_ | refine oj_ ?_ | refine ok_ ?_)) | refine at_go ?_ | (with_reducible refine And.intro (at_go ?_) (at_go ?_)) | ((with_reducible refine And.intro (fun h => ?_) (fun h => ?_)) <;> try (exfalso; omega)) | (with_reducible refine And.intro (by first | omega | (simp only [maxLen]; omega)) ?_) | fail | simp (disch := first | omega | (simp only [length_tks, List.length_set, List.length_reverse, List.length_replicate, List.length_append, List.length_cons, List.length_nil, List.length_map]; omega)) only [push_cast, ↓reduceIte, reduceIte, reduceCtorEq, Nat.reduceAdd, Nat.reduceLT, Nat.reduceEqDiff, Nat.reduceLeDiff, Int.reduceAdd, Int.reduceLT, Int.reduceLE, Nat.reduceMul, b0, b1, b5, e1, e2, q2])
            rfl
        · rw [hne (.inl q1)]
          repeat' (first | (first | (refine a0_ ?_; first | refine a1_ rfl rfl ?_ | refine a2_ rfl ?_ | refine a3_ rfl rfl ?_ | refine a4_ rfl ?_ | refine a5_ rfl rfl rfl ?_ | refine a6_ rfl rfl ?_ | refine a7_ rfl rfl ?_ | refine a8_ rfl rfl ?_ | refine a9_ rfl rfl rfl ?_) | (refine g0_ ?_; first | refine g1_ rfl ?_ | refine g2_ rfl rfl ?_ | refine go_draw (dr := allQ) rfl rfl mixed (by first | assumption | kernel_rfl) ?_ | refine g4_ rfl ?_ | refine g5_ rfl ?_ | refine g6_ rfl ?_ | refine g7_ rfl ?_ | refine g8_ rfl ?_ | refine ga_ rfl ?_ | refine gb_ rfl ?_) | (refine o0_ ?_; first | refine o1_ ?_ | refine o2_ ?_ | refine o3_ ?_ | refine o4_ ?_ | refine o5_ ?_ | refine o6_ rfl ?_ | refine o7_ rfl ?_ | refine o8_ ?_ | refine o9_ ?_ | refine oa_ ?_ | refine ob_ ?_ | refine oc_ ?_ | refine od_ ?_ | refine oe_ ?_ | refine of_ ?_ | refine og_ ?_ | refine oh_ ?_ | refine oi_ ?_ | refine oj_ ?_ | refine ok_ ?_)) | refine at_go ?_ | (with_reducible refine And.intro (at_go ?_) (at_go ?_)) | ((with_reducible refine And.intro (fun h => ?_) (fun h => ?_)) <;> try (exfalso; omega)) | (with_reducible refine And.intro (by first | omega | (simp only [maxLen]; omega)) ?_) | fail | simp (disch := first | omega | (simp only [length_tks, List.length_set, List.length_reverse, List.length_replicate, List.length_append, List.length_cons, List.length_nil, List.length_map]; omega)) only [push_cast, ↓reduceIte, reduceIte, reduceCtorEq, Nat.reduceAdd, Nat.reduceLT, Nat.reduceEqDiff, Nat.reduceLeDiff, Int.reduceAdd, Int.reduceLT, Int.reduceLE, Nat.reduceMul, b0, b1, b5, e1, e2, q1])
          rfl
      · obtain rfl : k = a.length := by omega
        have : alikeM a b = true := by
          rw [alikeM, decide_eq_true]
          refine ext_getD (0, []) (by rw [kts_len, kts_len]; omega) fun j hj => ?_
          rw [kts_len] at hj
          rw [kts_at a j hj, kts_at b j (by omega), (ik j hj).1, (ik j hj).2]
        rw [this]
        repeat' (first | (first | (refine a0_ ?_; first | refine a1_ rfl rfl ?_ | refine a2_ rfl ?_ | refine a3_ rfl rfl ?_ | refine a4_ rfl ?_ | refine a5_ rfl rfl rfl ?_ | refine a6_ rfl rfl ?_ | refine a7_ rfl rfl ?_ | refine a8_ rfl rfl ?_ | refine a9_ rfl rfl rfl ?_) | (refine g0_ ?_; first | refine g1_ rfl ?_ | refine g2_ rfl rfl ?_ | refine go_draw (dr := allQ) rfl rfl mixed (by first | assumption | kernel_rfl) ?_ | refine g4_ rfl ?_ | refine g5_ rfl ?_ | refine g6_ rfl ?_ | refine g7_ rfl ?_ | refine g8_ rfl ?_ | refine ga_ rfl ?_ | refine gb_ rfl ?_) | (refine o0_ ?_; first | refine o1_ ?_ | refine o2_ ?_ | refine o3_ ?_ | refine o4_ ?_ | refine o5_ ?_ | refine o6_ rfl ?_ | refine o7_ rfl ?_ | refine o8_ ?_ | refine o9_ ?_ | refine oa_ ?_ | refine ob_ ?_ | refine oc_ ?_ | refine od_ ?_ | refine oe_ ?_ | refine of_ ?_ | refine og_ ?_ | refine oh_ ?_ | refine oi_ ?_ | refine oj_ ?_ | refine ok_ ?_)) | refine at_go ?_ | (with_reducible refine And.intro (at_go ?_) (at_go ?_)) | ((with_reducible refine And.intro (fun h => ?_) (fun h => ?_)) <;> try (exfalso; omega)) | (with_reducible refine And.intro (by first | omega | (simp only [maxLen]; omega)) ?_) | fail | simp (disch := first | omega | (simp only [length_tks, List.length_set, List.length_reverse, List.length_replicate, List.length_append, List.length_cons, List.length_nil, List.length_map]; omega)) only [push_cast, ↓reduceIte, reduceIte, reduceCtorEq, Nat.reduceAdd, Nat.reduceLT, Nat.reduceEqDiff, Nat.reduceLeDiff, Int.reduceAdd, Int.reduceLT, Int.reduceLE, Nat.reduceMul, b0, b1, b5])
        rfl
end Go.Proofs
