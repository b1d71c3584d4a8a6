import Derived.Test.YtcpenghfjghecaaDoorL9
import Derived.Test.YtcpenghfjghecaaDoorV47
/- Lexemes: the laws of what texts are divided into, and of what is the same, walked. -/
namespace Go.Proofs
open Go Go.V
set_option linter.unusedVariables false
set_option linter.unusedSimpArgs false
set_option maxHeartbeats 0
set_option maxRecDepth 100000
theorem lexG_len : ∀ (f : Nat) (s : Bs) (l c : Int) (ts : List Tk), lexG f s l c = .ok ts → ts.length ≤ s.length
  | 0, _, _, _, ts, h => by rw [lexG] at h; injection h with h; subst h; simp
  | f + 1, [], _, _, ts, h => by rw [lexG] at h; injection h with h; subst h; simp
  | f + 1, b :: r, l, c, ts, h => by
    rw [lexG] at h
    simp only [List.length_cons]
    split at h
    · have := lexG_len f _ _ _ _ h; omega
    · split at h
      · have := lexG_len f _ _ _ _ h; omega
      · split at h
        · have := lexG_len f _ _ _ _ h
          have := toNl_len r
          omega
        · split at h
          · cases h
          · rename_i q
            have hp := tokS_pos (b := b) (r := r) (by simpa using q)
            cases q2 : lexG f ((b :: r).drop (tokS (b :: r)).2.1) l (c + (tokS (b :: r)).2.1) with
            | ok m =>
              rw [q2] at h
              injection h with h
              have := lexG_len f _ _ _ _ q2
              rw [List.length_drop, List.length_cons] at this
              subst h
              simp only [List.length_cons]; omega
            | err x y z => rw [q2] at h; cases h
theorem ofS_len (s : Bs) : (ofS s).1.length ≤ s.length := by
  unfold ofS
  split
  · simp
  · cases h : lexR s 1 1 with
    | ok ts => exact lexG_len _ _ _ _ _ h
    | err => simp [ofR]
theorem law3 (s0 : Bs) : PC Tryd.prog G0 3 [.str s0] (.bool true) := by
  by_cases hl : 4000 < s0.length
  · have hl' : (4000 : Int) < s0.length := by omega
    refine pc_go 0 57 [.tmp 2] Tryd.func3 rfl rfl rfl (by simp) ?_
    intro s ⟨a0, hz⟩
    clear hz
    repeat' (first | (first | (refine a0_ ?_; first | refine a1_ rfl rfl ?_ | refine a2_ rfl ?_ | refine a3_ rfl rfl ?_ | refine a4_ rfl ?_ | refine a5_ rfl rfl rfl ?_ | refine a6_ rfl rfl ?_ | refine a7_ rfl rfl ?_ | refine a8_ rfl rfl ?_ | refine a9_ rfl rfl rfl ?_) | (refine g0_ ?_; first | refine g1_ rfl ?_ | refine g2_ rfl rfl ?_ | refine go_draw (dr := allQ) rfl rfl mixed (by first | assumption | kernel_rfl) ?_ | refine g4_ rfl ?_ | refine g5_ rfl ?_ | refine g6_ rfl ?_ | refine g7_ rfl ?_ | refine g8_ rfl ?_ | refine ga_ rfl ?_ | refine gb_ rfl ?_) | (refine o0_ ?_; first | refine o1_ ?_ | refine o2_ ?_ | refine o3_ ?_ | refine o4_ ?_ | refine o5_ ?_ | refine o6_ rfl ?_ | refine o7_ rfl ?_ | refine o8_ ?_ | refine o9_ ?_ | refine oa_ ?_ | refine ob_ ?_ | refine oc_ ?_ | refine od_ ?_ | refine oe_ ?_ | refine of_ ?_ | refine og_ ?_ | refine oh_ ?_ | refine oi_ ?_ | refine oj_ ?_ | refine ok_ ?_)) | refine at_go ?_ | (with_reducible refine And.intro (at_go ?_) (at_go ?_)) | ((with_reducible refine And.intro (fun h => ?_) (fun h => ?_)) <;> try (exfalso; omega)) | (with_reducible refine And.intro (by first | omega | (simp only [maxLen]; omega)) ?_) | fail | simp (disch := first | omega | (simp only [length_tks, List.length_set, List.length_reverse, List.length_replicate, List.length_append, List.length_cons, List.length_nil, List.length_map]; omega)) only [push_cast, ↓reduceIte, reduceIte, reduceCtorEq, Nat.reduceAdd, Nat.reduceLT, Nat.reduceEqDiff, Nat.reduceLeDiff, Int.reduceAdd, Int.reduceLT, Int.reduceLE, Nat.reduceMul, a0, hl'])
  · have hl' : ¬ (4000 : Int) < s0.length := by omega
    have h9 := of9 s0 (by omega)
    have h10 := refOf10 s0 (by omega)
    have hln := ofS_len s0
    have h11 := refEqual11 (ofS s0).1 (ofS s0).1 (some (ofS s0).1.length) (refC s0) (by omega) (by omega)
    have h12 := lives12
    rw [decide_eq_true rfl] at h11
    unfold ofA at h9
    unfold refA at h10
    generalize refC s0 = rc at *
    generalize ofS s0 = R at *
    have hb : bI true = 1 := rfl
    rw [hb] at h11
    refine pc_go 0 57 [.tmp 2] Tryd.func3 rfl rfl rfl (by simp) ?_
    intro s ⟨a0, hz⟩
    clear hz
    repeat' (first | (first | (refine a0_ ?_; first | refine a1_ rfl rfl ?_ | refine a2_ rfl ?_ | refine a3_ rfl rfl ?_ | refine a4_ rfl ?_ | refine a5_ rfl rfl rfl ?_ | refine a6_ rfl rfl ?_ | refine a7_ rfl rfl ?_ | refine a8_ rfl rfl ?_ | refine a9_ rfl rfl rfl ?_) | (refine g0_ ?_; first | refine g1_ rfl ?_ | refine g2_ rfl rfl ?_ | refine go_draw (dr := allQ) rfl rfl mixed (by first | assumption | kernel_rfl) ?_ | refine g4_ rfl ?_ | refine g5_ rfl ?_ | refine g6_ rfl ?_ | refine g7_ rfl ?_ | refine g8_ rfl ?_ | refine ga_ rfl ?_ | refine gb_ rfl ?_) | (refine o0_ ?_; first | refine o1_ ?_ | refine o2_ ?_ | refine o3_ ?_ | refine o4_ ?_ | refine o5_ ?_ | refine o6_ rfl ?_ | refine o7_ rfl ?_ | refine o8_ ?_ | refine o9_ ?_ | refine oa_ ?_ | refine ob_ ?_ | refine oc_ ?_ | refine od_ ?_ | refine oe_ ?_ | refine of_ ?_ | refine og_ ?_ | refine oh_ ?_ | refine oi_ ?_ | refine oj_ ?_ | refine ok_ ?_)) | refine at_go ?_ | (with_reducible refine And.intro (at_go ?_) (at_go ?_)) | ((with_reducible refine And.intro (fun h => ?_) (fun h => ?_)) <;> try (exfalso; omega)) | (with_reducible refine And.intro (by first | omega | (simp only [maxLen]; omega)) ?_) | (first | (refine ⟨_, _, pc_lift (h9) (by (simp [idsL, idsE, AV.ids, Nat.add_zero])) _, ?_⟩) | (refine ⟨_, pc_lift (h9) (by (simp [idsL, idsE, AV.ids, Nat.add_zero])) _, ?_⟩) | (refine ⟨_, fun _ => pc_lift (h9) (by (simp [idsL, idsE, AV.ids, Nat.add_zero])) _, ?_⟩) | (refine ⟨_, _, pc_lift (h10) (by (simp [idsL, idsE, AV.ids, Nat.add_zero])) _, ?_⟩) | (refine ⟨_, pc_lift (h10) (by (simp [idsL, idsE, AV.ids, Nat.add_zero])) _, ?_⟩) | (refine ⟨_, fun _ => pc_lift (h10) (by (simp [idsL, idsE, AV.ids, Nat.add_zero])) _, ?_⟩) | (refine ⟨_, _, pc_lift (h11) (by (simp [idsL, idsE, AV.ids, Nat.add_zero])) _, ?_⟩) | (refine ⟨_, pc_lift (h11) (by (simp [idsL, idsE, AV.ids, Nat.add_zero])) _, ?_⟩) | (refine ⟨_, fun _ => pc_lift (h11) (by (simp [idsL, idsE, AV.ids, Nat.add_zero])) _, ?_⟩) | (refine ⟨_, _, pc_lift (h12) (by (simp [idsL, idsE, AV.ids, Nat.add_zero])) _, ?_⟩) | (refine ⟨_, pc_lift (h12) (by (simp [idsL, idsE, AV.ids, Nat.add_zero])) _, ?_⟩) | (refine ⟨_, fun _ => pc_lift (h12) (by (simp [idsL, idsE, AV.ids, Nat.add_zero])) _, ?_⟩)) | simp (disch := first | omega | (simp only [length_tks, List.length_set, List.length_reverse, List.length_replicate, List.length_append, List.length_cons, List.length_nil, List.length_map]; omega)) only [push_cast, ↓reduceIte, reduceIte, reduceCtorEq, Nat.reduceAdd, Nat.reduceLT, Nat.reduceEqDiff, Nat.reduceLeDiff, Int.reduceAdd, Int.reduceLT, Int.reduceLE, Nat.reduceMul, a0, hl', Int.reduceEq])
/-- Tokens of which the first ones have another line. -/
def putL (a : List Tk) (p : Int) (k : Nat) : List Tk := (a.take k).map (fun t => ⟨t.k, t.t, p, t.c⟩) ++ a.drop k
theorem putL_len (a : List Tk) (p : Int) (k : Nat) : (putL a p k).length = a.length := by simp [putL]; omega
theorem putL_zero (a : List Tk) (p : Int) : putL a p 0 = a := by simp [putL]
theorem putL_at (a : List Tk) (p : Int) (k : Nat) (h : k < a.length) : (putL a p k).getD k tk0 = a.getD k tk0 := by
  rw [putL, List.getD_eq_getElem?_getD, List.getElem?_append_right (by simp; omega)]
  simp [List.getElem?_drop, Nat.min_eq_left (Nat.le_of_lt h)]
theorem putL_set (a : List Tk) (p : Int) (k : Nat) (h : k < a.length) : (tks (putL a p k)).set k (tkA ⟨(a.getD k tk0).k, (a.getD k tk0).t, p, (a.getD k tk0).c⟩) = tks (putL a p (k + 1)) := by
  have e : (tks (putL a p k)).set k (tkA ⟨(a.getD k tk0).k, (a.getD k tk0).t, p, (a.getD k tk0).c⟩) = tks ((putL a p k).set k ⟨(a.getD k tk0).k, (a.getD k tk0).t, p, (a.getD k tk0).c⟩) := by rw [tks, tks, List.map_set]
  rw [e, putL, putL, List.set_append_right _ _ (by simp; omega), take_snoc a tk0 k h, drop_cons a tk0 k h]
  have h1 : ((a.take k).map (fun t : Tk => (⟨t.k, t.t, p, t.c⟩ : Tk))).length = k := by simp; omega
  rw [h1, Nat.sub_self, List.set_cons_zero, List.map_append, List.append_assoc]
  rfl
theorem putL_kts (a : List Tk) (p : Int) : kts (putL a p a.length) = kts a := by simp [putL, kts, Function.comp_def]
theorem alike_refl (a b : List Tk) (h : kts a = kts b) : alikeM a b = true := by rw [alikeM, decide_eq_true h]
theorem alike_tail (x : Tk) (r : List Tk) : alikeM (x :: r) r = false := by
  rw [alikeM, decide_eq_false]
  intro q
  have := congrArg List.length q
  simp [kts] at this
theorem law8 (a b : List Tk) (c d : Option Nat) (p : Int) : PC Tryd.prog G0 8 [.sl 4 (tks a) c, .sl 4 (tks b) d, .int .i64 p] (.bool true) := by
  by_cases ha : 60 < a.length
  · have ha' : (60 : Int) < a.length := by omega
    refine pc_go 0 64 [.tmp 6] Tryd.func8 rfl rfl rfl (by simp) ?_
    intro s ⟨a0, a1, a2, hz⟩
    simp only [Nat.zero_add, Nat.reduceAdd] at a1 a2
    clear hz
    repeat' (first | (first | (refine a0_ ?_; first | refine a1_ rfl rfl ?_ | refine a2_ rfl ?_ | refine a3_ rfl rfl ?_ | refine a4_ rfl ?_ | refine a5_ rfl rfl rfl ?_ | refine a6_ rfl rfl ?_ | refine a7_ rfl rfl ?_ | refine a8_ rfl rfl ?_ | refine a9_ rfl rfl rfl ?_) | (refine g0_ ?_; first | refine g1_ rfl ?_ | refine g2_ rfl rfl ?_ | refine go_draw (dr := allQ) rfl rfl mixed (by first | assumption | kernel_rfl) ?_ | refine g4_ rfl ?_ | refine g5_ rfl ?_ | refine g6_ rfl ?_ | refine g7_ rfl ?_ | refine g8_ rfl ?_ | refine ga_ rfl ?_ | refine gb_ rfl ?_) | (refine o0_ ?_; first | refine o1_ ?_ | refine o2_ ?_ | refine o3_ ?_ | refine o4_ ?_ | refine o5_ ?_ | refine o6_ rfl ?_ | refine o7_ rfl ?_ | refine o8_ ?_ | refine o9_ ?_ | refine oa_ ?_ | refine ob_ ?_ | refine oc_ ?_ | refine od_ ?_ | refine oe_ ?_ | refine of_ ?_ | refine og_ ?_ | refine oh_ ?_ | refine oi_ ?_ | refine oj_ ?_ | refine ok_ ?_)) | refine at_go ?_ | (with_reducible refine And.intro (at_go ?_) (at_go ?_)) | ((with_reducible refine And.intro (fun h => ?_) (fun h => ?_)) <;> try (exfalso; omega)) | (with_reducible refine And.intro (by first | omega | (simp only [maxLen]; omega)) ?_) | fail | simp (disch := first | omega | (simp only [length_tks, List.length_set, List.length_reverse, List.length_replicate, List.length_append, List.length_cons, List.length_nil, List.length_map]; omega)) only [push_cast, ↓reduceIte, reduceIte, reduceCtorEq, Nat.reduceAdd, Nat.reduceLT, Nat.reduceEqDiff, Nat.reduceLeDiff, Int.reduceAdd, Int.reduceLT, Int.reduceLE, Nat.reduceMul, a0, a1, a2, ha'])
  · have ha' : ¬ (60 : Int) < a.length := by omega
    by_cases hb : 60 < b.length
    · have hb' : (60 : Int) < b.length := by omega
      refine pc_go 0 64 [.tmp 6] Tryd.func8 rfl rfl rfl (by simp) ?_
      intro s ⟨a0, a1, a2, hz⟩
      simp only [Nat.zero_add, Nat.reduceAdd] at a1 a2
      clear hz
      repeat' (first | (first | (refine a0_ ?_; first | refine a1_ rfl rfl ?_ | refine a2_ rfl ?_ | refine a3_ rfl rfl ?_ | refine a4_ rfl ?_ | refine a5_ rfl rfl rfl ?_ | refine a6_ rfl rfl ?_ | refine a7_ rfl rfl ?_ | refine a8_ rfl rfl ?_ | refine a9_ rfl rfl rfl ?_) | (refine g0_ ?_; first | refine g1_ rfl ?_ | refine g2_ rfl rfl ?_ | refine go_draw (dr := allQ) rfl rfl mixed (by first | assumption | kernel_rfl) ?_ | refine g4_ rfl ?_ | refine g5_ rfl ?_ | refine g6_ rfl ?_ | refine g7_ rfl ?_ | refine g8_ rfl ?_ | refine ga_ rfl ?_ | refine gb_ rfl ?_) | (refine o0_ ?_; first | refine o1_ ?_ | refine o2_ ?_ | refine o3_ ?_ | refine o4_ ?_ | refine o5_ ?_ | refine o6_ rfl ?_ | refine o7_ rfl ?_ | refine o8_ ?_ | refine o9_ ?_ | refine oa_ ?_ | refine ob_ ?_ | refine oc_ ?_ | refine od_ ?_ | refine oe_ ?_ | refine of_ ?_ | refine og_ ?_ | refine oh_ ?_ | refine oi_ ?_ | refine oj_ ?_ | refine ok_ ?_)) | refine at_go ?_ | (with_reducible refine And.intro (at_go ?_) (at_go ?_)) | ((with_reducible refine And.intro (fun h => ?_) (fun h => ?_)) <;> try (exfalso; omega)) | (with_reducible refine And.intro (by first | omega | (simp only [maxLen]; omega)) ?_) | fail | simp (disch := first | omega | (simp only [length_tks, List.length_set, List.length_reverse, List.length_replicate, List.length_append, List.length_cons, List.length_nil, List.length_map]; omega)) only [push_cast, ↓reduceIte, reduceIte, reduceCtorEq, Nat.reduceAdd, Nat.reduceLT, Nat.reduceEqDiff, Nat.reduceLeDiff, Int.reduceAdd, Int.reduceLT, Int.reduceLE, Nat.reduceMul, a0, a1, a2, ha', hb'])
    · have hb' : ¬ (60 : Int) < b.length := by omega
      have h20 := same20 a b c d (by omega) (by omega)
      have h21 := refAlike21 a b c d (by omega) (by omega)
      have h12 := lives12
      have hbi : (bI (alikeM a b) = 1) = (alikeM a b = true) := bI_one _
      match a, ha, ha', h20, h21, hbi with
      | [], ha, ha', h20, h21, hbi =>
        have p1 : PC Tryd.prog G0 20 [.sl 4 [] c, .sl 4 [] (some 0)] (.bool true) := same20 [] [] c (some 0) (by decide) (by decide)
        have p2 : PC Tryd.prog G0 20 [.sl 4 [] (some 0), .sl 4 [] c] (.bool true) := same20 [] [] (some 0) c (by decide) (by decide)
        have q1 : PC Tryd.prog G0 20 [.sl 4 [] c, .sl 0 [] (some 0)] (.bool true) := ac_eqv p1 (by simp [eqvL])
        have q2 : PC Tryd.prog G0 20 [.sl 0 [] (some 0), .sl 4 [] c] (.bool true) := ac_eqv p2 (by simp [eqvL])
        simp only [tks_nil] at h20 h21 ⊢
        generalize alikeM [] b = x at *
        refine pc_go 0 64 [.tmp 6] Tryd.func8 rfl rfl rfl (by simp) ?_
        intro s ⟨a0, a1, a2, hz⟩
        simp only [Nat.zero_add, Nat.reduceAdd] at a1 a2
        clear hz
        repeat' (first | (first | (refine a0_ ?_; first | refine a1_ rfl rfl ?_ | refine a2_ rfl ?_ | refine a3_ rfl rfl ?_ | refine a4_ rfl ?_ | refine a5_ rfl rfl rfl ?_ | refine a6_ rfl rfl ?_ | refine a7_ rfl rfl ?_ | refine a8_ rfl rfl ?_ | refine a9_ rfl rfl rfl ?_) | (refine g0_ ?_; first | refine g1_ rfl ?_ | refine g2_ rfl rfl ?_ | refine go_draw (dr := allQ) rfl rfl mixed (by first | assumption | kernel_rfl) ?_ | refine g4_ rfl ?_ | refine g5_ rfl ?_ | refine g6_ rfl ?_ | refine g7_ rfl ?_ | refine g8_ rfl ?_ | refine ga_ rfl ?_ | refine gb_ rfl ?_) | (refine o0_ ?_; first | refine o1_ ?_ | refine o2_ ?_ | refine o3_ ?_ | refine o4_ ?_ | refine o5_ ?_ | refine o6_ rfl ?_ | refine o7_ rfl ?_ | refine o8_ ?_ | refine o9_ ?_ | refine oa_ ?_ | refine ob_ ?_ | refine oc_ ?_ | refine od_ ?_ | refine oe_ ?_ | refine of_ ?_ | refine og_ ?_ | refine oh_ ?_ | refine oi_ ?_ | refine oj_ ?_ | refine ok_ ?_)) | refine at_go ?_ | (with_reducible refine And.intro (at_go ?_) (at_go ?_)) | ((with_reducible refine And.intro (fun h => ?_) (fun h => ?_)) <;> try (exfalso; omega)) | (with_reducible refine And.intro (by first | omega | (simp only [maxLen]; omega)) ?_) | (first | (refine ⟨_, _, pc_lift (h20) (by (simp [idsL, idsE, AV.ids, Nat.add_zero])) _, ?_⟩) | (refine ⟨_, pc_lift (h20) (by (simp [idsL, idsE, AV.ids, Nat.add_zero])) _, ?_⟩) | (refine ⟨_, fun _ => pc_lift (h20) (by (simp [idsL, idsE, AV.ids, Nat.add_zero])) _, ?_⟩) | (refine ⟨_, _, pc_lift (h21) (by (simp [idsL, idsE, AV.ids, Nat.add_zero])) _, ?_⟩) | (refine ⟨_, pc_lift (h21) (by (simp [idsL, idsE, AV.ids, Nat.add_zero])) _, ?_⟩) | (refine ⟨_, fun _ => pc_lift (h21) (by (simp [idsL, idsE, AV.ids, Nat.add_zero])) _, ?_⟩) | (refine ⟨_, _, pc_lift (q1) (by (simp [idsL, idsE, AV.ids, Nat.add_zero])) _, ?_⟩) | (refine ⟨_, pc_lift (q1) (by (simp [idsL, idsE, AV.ids, Nat.add_zero])) _, ?_⟩) | (refine ⟨_, fun _ => pc_lift (q1) (by (simp [idsL, idsE, AV.ids, Nat.add_zero])) _, ?_⟩) | (refine ⟨_, _, pc_lift (q2) (by (simp [idsL, idsE, AV.ids, Nat.add_zero])) _, ?_⟩) | (refine ⟨_, pc_lift (q2) (by (simp [idsL, idsE, AV.ids, Nat.add_zero])) _, ?_⟩) | (refine ⟨_, fun _ => pc_lift (q2) (by (simp [idsL, idsE, AV.ids, Nat.add_zero])) _, ?_⟩) | (refine ⟨_, _, pc_lift (h12) (by (simp [idsL, idsE, AV.ids, Nat.add_zero])) _, ?_⟩) | (refine ⟨_, pc_lift (h12) (by (simp [idsL, idsE, AV.ids, Nat.add_zero])) _, ?_⟩) | (refine ⟨_, fun _ => pc_lift (h12) (by (simp [idsL, idsE, AV.ids, Nat.add_zero])) _, ?_⟩) | (refine ⟨AV.str [], ?_⟩; refine acc_id ?_)) | simp (disch := first | omega | (simp only [length_tks, List.length_set, List.length_reverse, List.length_replicate, List.length_append, List.length_cons, List.length_nil, List.length_map]; omega)) only [push_cast, ↓reduceIte, reduceIte, reduceCtorEq, Nat.reduceAdd, Nat.reduceLT, Nat.reduceEqDiff, Nat.reduceLeDiff, Int.reduceAdd, Int.reduceLT, Int.reduceLE, Nat.reduceMul, a0, a1, a2, ha', hb', hbi, Int.reduceEq])
        refine go_loop rfl (fun mz s' H' => mz = 0 ∧ H' = [] ∧ s' 0 = .sl 4 [] c ∧ s' 1 = .sl 4 (tks b) d ∧ s' 2 = .int .i64 p ∧ s' 7 = .sl 0 [] (some 0) ∧ s' 8 = .int .i64 0) (m := 0) (by (first | trivial | ((repeat' apply And.intro) <;> first | trivial | assumption | omega | (simp only [maxLen]; omega) | (simp only [length_tks, List.length_replicate, List.length_append, List.length_cons, List.length_nil, List.length_map, List.length_take, List.length_drop, List.length_set, List.length_reverse, maxLen] <;> omega)))) (Weak.refl _ _) ⟨rfl, rfl, ?_⟩ ?_
        · simp (disch := first | omega | (simp only [length_tks, List.length_set, List.length_reverse, List.length_replicate, List.length_append, List.length_cons, List.length_nil, List.length_map]; omega)) only [push_cast, ↓reduceIte, reduceIte, reduceCtorEq, Nat.reduceAdd, Nat.reduceLT, Nat.reduceEqDiff, Nat.reduceLeDiff, Int.reduceAdd, Int.reduceLT, Int.reduceLE, Nat.reduceMul, a0, a1, a2, ha', hb', hbi, Int.reduceEq]
        · rintro mz s' H' ⟨rfl, rfl, b0, b1, b2, b7, b8⟩
          repeat' (first | (first | (refine a0_ ?_; first | refine a1_ rfl rfl ?_ | refine a2_ rfl ?_ | refine a3_ rfl rfl ?_ | refine a4_ rfl ?_ | refine a5_ rfl rfl rfl ?_ | refine a6_ rfl rfl ?_ | refine a7_ rfl rfl ?_ | refine a8_ rfl rfl ?_ | refine a9_ rfl rfl rfl ?_) | (refine g0_ ?_; first | refine g1_ rfl ?_ | refine g2_ rfl rfl ?_ | refine go_draw (dr := allQ) rfl rfl mixed (by first | assumption | kernel_rfl) ?_ | refine g4_ rfl ?_ | refine g5_ rfl ?_ | refine g6_ rfl ?_ | refine g7_ rfl ?_ | refine g8_ rfl ?_ | refine ga_ rfl ?_ | refine gb_ rfl ?_) | (refine o0_ ?_; first | refine o1_ ?_ | refine o2_ ?_ | refine o3_ ?_ | refine o4_ ?_ | refine o5_ ?_ | refine o6_ rfl ?_ | refine o7_ rfl ?_ | refine o8_ ?_ | refine o9_ ?_ | refine oa_ ?_ | refine ob_ ?_ | refine oc_ ?_ | refine od_ ?_ | refine oe_ ?_ | refine of_ ?_ | refine og_ ?_ | refine oh_ ?_ | refine oi_ ?_ | refine oj_ ?_ | refine ok_ ?_)) | refine at_go ?_ | (with_reducible refine And.intro (at_go ?_) (at_go ?_)) | ((with_reducible refine And.intro (fun h => ?_) (fun h => ?_)) <;> try (exfalso; omega)) | (with_reducible refine And.intro (by first | omega | (simp only [maxLen]; omega)) ?_) | (first | (refine ⟨_, _, pc_lift (h20) (by (simp [idsL, idsE, AV.ids, Nat.add_zero])) _, ?_⟩) | (refine ⟨_, pc_lift (h20) (by (simp [idsL, idsE, AV.ids, Nat.add_zero])) _, ?_⟩) | (refine ⟨_, fun _ => pc_lift (h20) (by (simp [idsL, idsE, AV.ids, Nat.add_zero])) _, ?_⟩) | (refine ⟨_, _, pc_lift (h21) (by (simp [idsL, idsE, AV.ids, Nat.add_zero])) _, ?_⟩) | (refine ⟨_, pc_lift (h21) (by (simp [idsL, idsE, AV.ids, Nat.add_zero])) _, ?_⟩) | (refine ⟨_, fun _ => pc_lift (h21) (by (simp [idsL, idsE, AV.ids, Nat.add_zero])) _, ?_⟩) | (refine ⟨_, _, pc_lift (q1) (by (simp [idsL, idsE, AV.ids, Nat.add_zero])) _, ?_⟩) | (refine ⟨_, pc_lift (q1) (by (simp [idsL, idsE, AV.ids, Nat.add_zero])) _, ?_⟩) | (refine ⟨_, fun _ => pc_lift (q1) (by (simp [idsL, idsE, AV.ids, Nat.add_zero])) _, ?_⟩) | (refine ⟨_, _, pc_lift (q2) (by (simp [idsL, idsE, AV.ids, Nat.add_zero])) _, ?_⟩) | (refine ⟨_, pc_lift (q2) (by (simp [idsL, idsE, AV.ids, Nat.add_zero])) _, ?_⟩) | (refine ⟨_, fun _ => pc_lift (q2) (by (simp [idsL, idsE, AV.ids, Nat.add_zero])) _, ?_⟩) | (refine ⟨_, _, pc_lift (h12) (by (simp [idsL, idsE, AV.ids, Nat.add_zero])) _, ?_⟩) | (refine ⟨_, pc_lift (h12) (by (simp [idsL, idsE, AV.ids, Nat.add_zero])) _, ?_⟩) | (refine ⟨_, fun _ => pc_lift (h12) (by (simp [idsL, idsE, AV.ids, Nat.add_zero])) _, ?_⟩) | (refine ⟨AV.str [], ?_⟩; refine acc_id ?_)) | simp (disch := first | omega | (simp only [length_tks, List.length_set, List.length_reverse, List.length_replicate, List.length_append, List.length_cons, List.length_nil, List.length_map]; omega)) only [push_cast, ↓reduceIte, reduceIte, reduceCtorEq, Nat.reduceAdd, Nat.reduceLT, Nat.reduceEqDiff, Nat.reduceLeDiff, Int.reduceAdd, Int.reduceLT, Int.reduceLE, Nat.reduceMul, b0, b1, b2, b7, b8, hbi, Int.reduceEq])
          cases x <;> rfl
      | x :: r, ha, ha', h20, h21, hbi =>
        have hcons : tks (x :: r) = tkA x :: tks r := rfl
        have ha2 : ¬ (60 < (r.length : Int) + 1) := by rw [List.length_cons] at ha; omega
        refine pc_go 0 64 [.tmp 6] Tryd.func8 rfl rfl rfl (by simp) ?_
        intro s ⟨a0, a1, a2, hz⟩
        simp only [Nat.zero_add, Nat.reduceAdd] at a1 a2
        clear hz
        repeat' (first | (first | (refine a0_ ?_; first | refine a1_ rfl rfl ?_ | refine a2_ rfl ?_ | refine a3_ rfl rfl ?_ | refine a4_ rfl ?_ | refine a5_ rfl rfl rfl ?_ | refine a6_ rfl rfl ?_ | refine a7_ rfl rfl ?_ | refine a8_ rfl rfl ?_ | refine a9_ rfl rfl rfl ?_) | (refine g0_ ?_; first | refine g1_ rfl ?_ | refine g2_ rfl rfl ?_ | refine go_draw (dr := allQ) rfl rfl mixed (by first | assumption | kernel_rfl) ?_ | refine g4_ rfl ?_ | refine g5_ rfl ?_ | refine g6_ rfl ?_ | refine g7_ rfl ?_ | refine g8_ rfl ?_ | refine ga_ rfl ?_ | refine gb_ rfl ?_) | (refine o0_ ?_; first | refine o1_ ?_ | refine o2_ ?_ | refine o3_ ?_ | refine o4_ ?_ | refine o5_ ?_ | refine o6_ rfl ?_ | refine o7_ rfl ?_ | refine o8_ ?_ | refine o9_ ?_ | refine oa_ ?_ | refine ob_ ?_ | refine oc_ ?_ | refine od_ ?_ | refine oe_ ?_ | refine of_ ?_ | refine og_ ?_ | refine oh_ ?_ | refine oi_ ?_ | refine oj_ ?_ | refine ok_ ?_)) | refine at_go ?_ | (with_reducible refine And.intro (at_go ?_) (at_go ?_)) | ((with_reducible refine And.intro (fun h => ?_) (fun h => ?_)) <;> try (exfalso; omega)) | (with_reducible refine And.intro (by first | omega | (simp only [maxLen]; omega)) ?_) | fail | simp (disch := first | omega | (simp only [length_tks, List.length_set, List.length_reverse, List.length_replicate, List.length_append, List.length_cons, List.length_nil, List.length_map]; omega)) only [push_cast, ↓reduceIte, reduceIte, reduceCtorEq, Nat.reduceAdd, Nat.reduceLT, Nat.reduceEqDiff, Nat.reduceLeDiff, Int.reduceAdd, Int.reduceLT, Int.reduceLE, Nat.reduceMul, a0, a1, a2, ha2, hb', hcons])
        have h22 := same20 (x :: r) (putL (x :: r) p (x :: r).length) c none (by rw [List.length_cons]; omega) (by rw [putL_len, List.length_cons]; omega)
        have h23 := same20 (putL (x :: r) p (x :: r).length) (x :: r) none c (by rw [putL_len, List.length_cons]; omega) (by rw [List.length_cons]; omega)
        have h24 := fun c2 => same20 (x :: r) r c c2 (by rw [List.length_cons]; omega) (by omega)
        rw [alike_tail] at h24
        rw [alike_refl _ _ (putL_kts _ _)] at h23
        rw [alike_refl _ _ (putL_kts _ _).symm] at h22
        have htl : List.drop 1 (tks (x :: r)) = tks r := rfl
        have hA0 : ¬ (((x :: r).length : Nat) : Int) = 0 := by simp; omega
        have hA1 : (1 : Int) ≤ (((x :: r).length : Nat) : Int) := by rw [List.length_cons]; omega
        refine go_loop rfl (fun mz s' H' => ∃ k, k ≤ (x :: r).length ∧ mz = (x :: r).length - k ∧ H' = [.row 4 33 (tks (putL (x :: r) p k))] ∧ s' 0 = .sl 4 (tks (x :: r)) c ∧ s' 1 = .sl 4 (tks b) d ∧ s' 2 = .int .i64 p ∧ s' 7 = .own 0 (x :: r).length (x :: r).length none ∧ s' 8 = .int .i64 k) (m := (x :: r).length) (by (first | trivial | ((repeat' apply And.intro) <;> first | trivial | assumption | omega | (simp only [maxLen]; omega) | (simp only [length_tks, List.length_replicate, List.length_append, List.length_cons, List.length_nil, List.length_map, List.length_take, List.length_drop, List.length_set, List.length_reverse, maxLen] <;> omega)))) (Weak.refl _ _) ⟨0, by omega, by omega, by rw [putL_zero]; rfl, ?_⟩ ?_
        · simp (disch := first | omega | (simp only [length_tks, List.length_set, List.length_reverse, List.length_replicate, List.length_append, List.length_cons, List.length_nil, List.length_map]; omega)) only [push_cast, ↓reduceIte, reduceIte, reduceCtorEq, Nat.reduceAdd, Nat.reduceLT, Nat.reduceEqDiff, Nat.reduceLeDiff, Int.reduceAdd, Int.reduceLT, Int.reduceLE, Nat.reduceMul, a0, a1, a2, ha2, hb', hcons]
        · generalize x :: r = A at *
          rintro mz s' H' ⟨k, hk, rfl, rfl, b0, b1, b2, b7, b8⟩
          have hpl := putL_len A p k
          rcases Nat.lt_or_ge k A.length with hlt | hge
          · have e1 := getD_tks (putL A p k) k (by omega)
            have e2 := putL_set A p k hlt
            rw [putL_at A p k hlt] at e1
            generalize A.getD k tk0 = t at *
            obtain ⟨tk, tt, tl, tc⟩ := t
            simp only [tkA] at e1 e2
            repeat' (first | (first | (refine a0_ ?_; first | refine a1_ rfl rfl ?_ | refine a2_ rfl ?_ | refine a3_ rfl rfl ?_ | refine a4_ rfl ?_ | refine a5_ rfl rfl rfl ?_ | refine a6_ rfl rfl ?_ | refine a7_ rfl rfl ?_ | refine a8_ rfl rfl ?_ | refine a9_ rfl rfl rfl ?_) | (refine g0_ ?_; first | refine g1_ rfl ?_ | refine g2_ rfl rfl ?_ | refine go_draw (dr := allQ) rfl rfl mixed (by first | assumption | kernel_rfl) ?_ | refine g4_ rfl ?_ | refine g5_ rfl ?_ | refine g6_ rfl ?_ | refine g7_ rfl ?_ | refine g8_ rfl ?_ | refine ga_ rfl ?_ | refine gb_ rfl ?_) | (refine o0_ ?_; first | refine o1_ ?_ | refine o2_ ?_ | refine o3_ ?_ | refine o4_ ?_ | refine o5_ ?_ | refine o6_ rfl ?_ | refine o7_ rfl ?_ | refine o8_ ?_ | refine o9_ ?_ | refine oa_ ?_ | refine ob_ ?_ | refine oc_ ?_ | refine od_ ?_ | refine oe_ ?_ | refine of_ ?_ | refine og_ ?_ | refine oh_ ?_ | refine oi_ ?_ | refine oj_ ?_ | refine ok_ ?_)) | refine at_go ?_ | (with_reducible refine And.intro (at_go ?_) (at_go ?_)) | ((with_reducible refine And.intro (fun h => ?_) (fun h => ?_)) <;> try (exfalso; omega)) | (with_reducible refine And.intro (by first | omega | (simp only [maxLen]; omega)) ?_) | fail | simp (disch := first | omega | (simp only [length_tks, List.length_set, List.length_reverse, List.length_replicate, List.length_append, List.length_cons, List.length_nil, List.length_map]; omega)) only [push_cast, ↓reduceIte, reduceIte, reduceCtorEq, Nat.reduceAdd, Nat.reduceLT, Nat.reduceEqDiff, Nat.reduceLeDiff, Int.reduceAdd, Int.reduceLT, Int.reduceLE, Nat.reduceMul, b0, b1, b2, b7, b8, e1, e2, hpl])
            refine out_round (A.length - (k + 1)) (by omega) (by (first | trivial | ((repeat' apply And.intro) <;> first | trivial | assumption | omega | (simp only [maxLen]; omega) | (simp only [length_tks, List.length_replicate, List.length_append, List.length_cons, List.length_nil, List.length_map, List.length_take, List.length_drop, List.length_set, List.length_reverse, maxLen] <;> omega)))) ⟨k + 1, by omega, rfl, rfl, ?_⟩
            simp (disch := first | omega | (simp only [length_tks, List.length_set, List.length_reverse, List.length_replicate, List.length_append, List.length_cons, List.length_nil, List.length_map]; omega)) only [push_cast, ↓reduceIte, reduceIte, reduceCtorEq, Nat.reduceAdd, Nat.reduceLT, Nat.reduceEqDiff, Nat.reduceLeDiff, Int.reduceAdd, Int.reduceLT, Int.reduceLE, Nat.reduceMul, b0, b1, b2, b7, b8, e1, e2, hpl]
          · obtain rfl : k = A.length := by omega
            repeat' (first | (first | (refine a0_ ?_; first | refine a1_ rfl rfl ?_ | refine a2_ rfl ?_ | refine a3_ rfl rfl ?_ | refine a4_ rfl ?_ | refine a5_ rfl rfl rfl ?_ | refine a6_ rfl rfl ?_ | refine a7_ rfl rfl ?_ | refine a8_ rfl rfl ?_ | refine a9_ rfl rfl rfl ?_) | (refine g0_ ?_; first | (with_reducible refine stop_at (p := [0, 1, 1, 1, 1]) ?_) | refine g1_ rfl ?_ | refine g2_ rfl rfl ?_ | refine go_draw (dr := allQ) rfl rfl mixed (by first | assumption | kernel_rfl) ?_ | refine g4_ rfl ?_ | refine g5_ rfl ?_ | refine g6_ rfl ?_ | refine g7_ rfl ?_ | refine g8_ rfl ?_ | refine ga_ rfl ?_ | refine gb_ rfl ?_) | (refine o0_ ?_; first | refine o1_ ?_ | refine o2_ ?_ | refine o3_ ?_ | refine o4_ ?_ | refine o5_ ?_ | refine o6_ rfl ?_ | refine o7_ rfl ?_ | refine o8_ ?_ | refine o9_ ?_ | refine oa_ ?_ | refine ob_ ?_ | refine oc_ ?_ | refine od_ ?_ | refine oe_ ?_ | refine of_ ?_ | refine og_ ?_ | refine oh_ ?_ | refine oi_ ?_ | refine oj_ ?_ | refine ok_ ?_)) | refine at_go ?_ | (with_reducible refine And.intro (at_go ?_) (at_go ?_)) | ((with_reducible refine And.intro (fun h => ?_) (fun h => ?_)) <;> try (exfalso; omega)) | (with_reducible refine And.intro (by first | omega | (simp only [maxLen]; omega)) ?_) | fail | simp (disch := first | omega | (simp only [length_tks, List.length_set, List.length_reverse, List.length_replicate, List.length_append, List.length_cons, List.length_nil, List.length_map]; omega)) only [push_cast, ↓reduceIte, reduceIte, reduceCtorEq, Nat.reduceAdd, Nat.reduceLT, Nat.reduceEqDiff, Nat.reduceLeDiff, Int.reduceAdd, Int.reduceLT, Int.reduceLE, Nat.reduceMul, b0, b1, b2, b7, b8])
            refine Halt.mk (go_close 1 (by (first | trivial | ((repeat' apply And.intro) <;> first | trivial | assumption | omega | (simp only [maxLen]; omega) | (simp only [length_tks, List.length_replicate, List.length_append, List.length_cons, List.length_nil, List.length_map, List.length_take, List.length_drop, List.length_set, List.length_reverse, maxLen] <;> omega)))) fun s1 hs1 => ?_)
            have c0 := hs1 0
            have c1 := hs1 1
            have c7 := hs1 7
            simp only [updS, b0, b1, b7, Nat.reduceEqDiff, reduceIte] at c0 c1 c7
            rw [close_sl (idsE_tks _ _)] at c0 c1
            rw [close_own (z := 4) (t := 33) (es := tks (putL A p A.length)) rfl (by rw [length_tks, hpl]) (by rw [length_tks, hpl]) (idsE_tks _ _)] at c7
            generalize alikeM A b = y at *
            repeat' (first | (first | (refine a0_ ?_; first | refine a1_ rfl rfl ?_ | refine a2_ rfl ?_ | refine a3_ rfl rfl ?_ | refine a4_ rfl ?_ | refine a5_ rfl rfl rfl ?_ | refine a6_ rfl rfl ?_ | refine a7_ rfl rfl ?_ | refine a8_ rfl rfl ?_ | refine a9_ rfl rfl rfl ?_) | (refine g0_ ?_; first | refine g1_ rfl ?_ | refine g2_ rfl rfl ?_ | refine go_draw (dr := allQ) rfl rfl mixed (by first | assumption | kernel_rfl) ?_ | refine g4_ rfl ?_ | refine g5_ rfl ?_ | refine g6_ rfl ?_ | refine g7_ rfl ?_ | refine g8_ rfl ?_ | refine ga_ rfl ?_ | refine gb_ rfl ?_) | (refine o0_ ?_; first | refine o1_ ?_ | refine o2_ ?_ | refine o3_ ?_ | refine o4_ ?_ | refine o5_ ?_ | refine o6_ rfl ?_ | refine o7_ rfl ?_ | refine o8_ ?_ | refine o9_ ?_ | refine oa_ ?_ | refine ob_ ?_ | refine oc_ ?_ | refine od_ ?_ | refine oe_ ?_ | refine of_ ?_ | refine og_ ?_ | refine oh_ ?_ | refine oi_ ?_ | refine oj_ ?_ | refine ok_ ?_)) | refine at_go ?_ | (with_reducible refine And.intro (at_go ?_) (at_go ?_)) | ((with_reducible refine And.intro (fun h => ?_) (fun h => ?_)) <;> try (exfalso; omega)) | (with_reducible refine And.intro (by first | omega | (simp only [maxLen]; omega)) ?_) | (first | (refine ⟨_, _, pc_lift (h20) (by (simp [idsL, idsE, AV.ids, Nat.add_zero])) _, ?_⟩) | (refine ⟨_, pc_lift (h20) (by (simp [idsL, idsE, AV.ids, Nat.add_zero])) _, ?_⟩) | (refine ⟨_, fun _ => pc_lift (h20) (by (simp [idsL, idsE, AV.ids, Nat.add_zero])) _, ?_⟩) | (refine ⟨_, _, pc_lift (h21) (by (simp [idsL, idsE, AV.ids, Nat.add_zero])) _, ?_⟩) | (refine ⟨_, pc_lift (h21) (by (simp [idsL, idsE, AV.ids, Nat.add_zero])) _, ?_⟩) | (refine ⟨_, fun _ => pc_lift (h21) (by (simp [idsL, idsE, AV.ids, Nat.add_zero])) _, ?_⟩) | (refine ⟨_, _, pc_lift (h22) (by (simp [idsL, idsE, AV.ids, Nat.add_zero])) _, ?_⟩) | (refine ⟨_, pc_lift (h22) (by (simp [idsL, idsE, AV.ids, Nat.add_zero])) _, ?_⟩) | (refine ⟨_, fun _ => pc_lift (h22) (by (simp [idsL, idsE, AV.ids, Nat.add_zero])) _, ?_⟩) | (refine ⟨_, _, pc_lift (h23) (by (simp [idsL, idsE, AV.ids, Nat.add_zero])) _, ?_⟩) | (refine ⟨_, pc_lift (h23) (by (simp [idsL, idsE, AV.ids, Nat.add_zero])) _, ?_⟩) | (refine ⟨_, fun _ => pc_lift (h23) (by (simp [idsL, idsE, AV.ids, Nat.add_zero])) _, ?_⟩) | (refine ⟨_, _, pc_lift (h24 _) (by (simp [idsL, idsE, AV.ids, Nat.add_zero])) _, ?_⟩) | (refine ⟨_, pc_lift (h24 _) (by (simp [idsL, idsE, AV.ids, Nat.add_zero])) _, ?_⟩) | (refine ⟨_, fun _ => pc_lift (h24 _) (by (simp [idsL, idsE, AV.ids, Nat.add_zero])) _, ?_⟩) | (refine ⟨_, _, pc_lift (h12) (by (simp [idsL, idsE, AV.ids, Nat.add_zero])) _, ?_⟩) | (refine ⟨_, pc_lift (h12) (by (simp [idsL, idsE, AV.ids, Nat.add_zero])) _, ?_⟩) | (refine ⟨_, fun _ => pc_lift (h12) (by (simp [idsL, idsE, AV.ids, Nat.add_zero])) _, ?_⟩)) | simp (disch := first | omega | (simp only [length_tks, List.length_set, List.length_reverse, List.length_replicate, List.length_append, List.length_cons, List.length_nil, List.length_map]; omega)) only [push_cast, ↓reduceIte, reduceIte, reduceCtorEq, Nat.reduceAdd, Nat.reduceLT, Nat.reduceEqDiff, Nat.reduceLeDiff, Int.reduceAdd, Int.reduceLT, Int.reduceLE, Nat.reduceMul, c0, c1, c7, hbi, Int.reduceEq, hA0, hA1, htl])
            cases y <;> rfl
end Go.Proofs
