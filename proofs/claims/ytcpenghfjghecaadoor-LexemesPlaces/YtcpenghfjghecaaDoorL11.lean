import Derived.Test.YtcpenghfjghecaaDoorL10
/- Lexemes: the law of places, walked. -/
namespace Go.Proofs
open Go Go.V
set_option linter.unusedVariables false
set_option linter.unusedSimpArgs false
set_option maxHeartbeats 0
set_option maxRecDepth 100000
theorem posT_one (s : Bs) (k : Nat) (h : k < s.length) : posT 1 1 (s.take (k + 1)) = if s.getD k 0 = 10 then ((posT 1 1 (s.take k)).1 + 1, 1) else ((posT 1 1 (s.take k)).1, (posT 1 1 (s.take k)).2 + 1) := by
  rw [take_snoc s 0 k h, posT_app]
  generalize posT 1 1 (s.take k) = P
  rw [posT, posT, posT]
theorem remB_one (s : Bs) (k : Nat) (h : k < s.length) : remB false (s.take (k + 1)) = (!decide (s.getD k 0 = 10) && (remB false (s.take k) || decide (s.getD k 0 = 35))) := by
  rw [take_snoc s 0 k h, remB_app]; rfl
theorem law4 (s0 : Bs) : PC Tryd.prog G0 4 [.str s0] (.bool true) := by
  by_cases hl : 4000 < s0.length
  · have hl' : (4000 : Int) < s0.length := by omega
    refine pc_go 0 162 [.tmp 2] Tryd.func4 rfl rfl rfl (by simp) ?_
    intro s ⟨a0, hz⟩
    clear hz
    repeat' (first | (first | (refine a0_ ?_; first | refine a1_ rfl rfl ?_ | refine a2_ rfl ?_ | refine a3_ rfl rfl ?_ | refine a4_ rfl ?_ | refine a5_ rfl rfl rfl ?_ | refine a6_ rfl rfl ?_ | refine a7_ rfl rfl ?_ | refine a8_ rfl rfl ?_ | refine a9_ rfl rfl rfl ?_) | (refine g0_ ?_; first | refine g1_ rfl ?_ | refine g2_ rfl rfl ?_ | refine go_draw (dr := allQ) rfl rfl mixed (by first | assumption | kernel_rfl) ?_ | refine g4_ rfl ?_ | refine g5_ rfl ?_ | refine g6_ rfl ?_ | refine g7_ rfl ?_ | refine g8_ rfl ?_ | refine ga_ rfl ?_ | refine gb_ rfl ?_) | (refine o0_ ?_; first | refine o1_ ?_ | refine o2_ ?_ | refine o3_ ?_ | refine o4_ ?_ | refine o5_ ?_ | refine o6_ rfl ?_ | refine o7_ rfl ?_ | refine o8_ ?_ | refine o9_ ?_ | refine oa_ ?_ | refine ob_ ?_ | refine oc_ ?_ | refine od_ ?_ | refine oe_ ?_ | refine of_ ?_ | refine og_ ?_ | refine oh_ ?_ | refine oi_ ?_ | refine oj_ ?_ | refine ok_ ?_)) | refine at_go ?_ | (with_reducible refine And.intro (at_go ?_) (at_go ?_)) | ((with_reducible refine And.intro (fun h => ?_) (fun h => ?_)) <;> try (exfalso; omega)) | (with_reducible refine And.intro (by first | omega | (simp only [maxLen]; omega)) ?_) | fail | simp (disch := first | omega | (simp only [length_tks, List.length_set, List.length_reverse, List.length_replicate, List.length_append, List.length_cons, List.length_nil, List.length_map]; omega)) only [push_cast, ↓reduceIte, reduceIte, reduceCtorEq, Nat.reduceAdd, Nat.reduceLT, Nat.reduceEqDiff, Nat.reduceLeDiff, Int.reduceAdd, Int.reduceLT, Int.reduceLE, Nat.reduceMul, a0, hl'])
  · have hl' : ¬ (4000 : Int) < s0.length := by omega
    have h9 := of9 s0 (by omega)
    have h12 := lives12
    have hR : ofS s0 = ofR (lexR s0 1 1) := by rw [ofS, if_neg (by omega)]
    unfold ofA at h9
    have hE := lexG_err (s0.length + 1) s0 1 1
    have hLR : lexG (s0.length + 1) s0 1 1 = lexR s0 1 1 := rfl
    rw [hLR] at hE
    have hpl := place_at s0
    have hlen := ofS_len s0
    rw [hR] at h9 hlen
    cases hL : lexR s0 1 1 with
    | err l' c' e =>
      have he := hE l' c' e hL
      rw [hL] at h9
      simp only [ofR, tks_nil, List.length_nil] at h9
      refine pc_go 0 162 [.tmp 2] Tryd.func4 rfl rfl rfl (by simp) ?_
      intro s ⟨a0, hz⟩
      clear hz
      repeat' (first | (first | (refine a0_ ?_; first | refine a1_ rfl rfl ?_ | refine a2_ rfl ?_ | refine a3_ rfl rfl ?_ | refine a4_ rfl ?_ | refine a5_ rfl rfl rfl ?_ | refine a6_ rfl rfl ?_ | refine a7_ rfl rfl ?_ | refine a8_ rfl rfl ?_ | refine a9_ rfl rfl rfl ?_) | (refine g0_ ?_; first | refine g1_ rfl ?_ | refine g2_ rfl rfl ?_ | refine go_draw (dr := allQ) rfl rfl mixed (by first | assumption | kernel_rfl) ?_ | refine g4_ rfl ?_ | refine g5_ rfl ?_ | refine g6_ rfl ?_ | refine g7_ rfl ?_ | refine g8_ rfl ?_ | refine ga_ rfl ?_ | refine gb_ rfl ?_) | (refine o0_ ?_; first | refine o1_ ?_ | refine o2_ ?_ | refine o3_ ?_ | refine o4_ ?_ | refine o5_ ?_ | refine o6_ rfl ?_ | refine o7_ rfl ?_ | refine o8_ ?_ | refine o9_ ?_ | refine oa_ ?_ | refine ob_ ?_ | refine oc_ ?_ | refine od_ ?_ | refine oe_ ?_ | refine of_ ?_ | refine og_ ?_ | refine oh_ ?_ | refine oi_ ?_ | refine oj_ ?_ | refine ok_ ?_)) | refine at_go ?_ | (with_reducible refine And.intro (at_go ?_) (at_go ?_)) | ((with_reducible refine And.intro (fun h => ?_) (fun h => ?_)) <;> try (exfalso; omega)) | (with_reducible refine And.intro (by first | omega | (simp only [maxLen]; omega)) ?_) | (first | (refine ⟨_, _, pc_lift (h9) (by (simp [idsL, idsE, AV.ids, Nat.add_zero])) _, ?_⟩) | (refine ⟨_, pc_lift (h9) (by (simp [idsL, idsE, AV.ids, Nat.add_zero])) _, ?_⟩) | (refine ⟨_, fun _ => pc_lift (h9) (by (simp [idsL, idsE, AV.ids, Nat.add_zero])) _, ?_⟩) | (refine ⟨_, _, pc_lift (h12) (by (simp [idsL, idsE, AV.ids, Nat.add_zero])) _, ?_⟩) | (refine ⟨_, pc_lift (h12) (by (simp [idsL, idsE, AV.ids, Nat.add_zero])) _, ?_⟩) | (refine ⟨_, fun _ => pc_lift (h12) (by (simp [idsL, idsE, AV.ids, Nat.add_zero])) _, ?_⟩)) | simp (disch := first | omega | (simp only [length_tks, List.length_set, List.length_reverse, List.length_replicate, List.length_append, List.length_cons, List.length_nil, List.length_map]; omega)) only [push_cast, ↓reduceIte, reduceIte, reduceCtorEq, Nat.reduceAdd, Nat.reduceLT, Nat.reduceEqDiff, Nat.reduceLeDiff, Int.reduceAdd, Int.reduceLT, Int.reduceLE, Nat.reduceMul, a0, hl', he, Int.reduceEq])
    | ok L =>
      have hpl := hpl L hL
      rw [hL] at h9 hlen
      simp only [ofR] at h9 hlen
      refine pc_go 0 162 [.tmp 2] Tryd.func4 rfl rfl rfl (by simp) ?_
      intro s ⟨a0, hz⟩
      clear hz
      repeat' (first | (first | (refine a0_ ?_; first | refine a1_ rfl rfl ?_ | refine a2_ rfl ?_ | refine a3_ rfl rfl ?_ | refine a4_ rfl ?_ | refine a5_ rfl rfl rfl ?_ | refine a6_ rfl rfl ?_ | refine a7_ rfl rfl ?_ | refine a8_ rfl rfl ?_ | refine a9_ rfl rfl rfl ?_) | (refine g0_ ?_; first | refine g1_ rfl ?_ | refine g2_ rfl rfl ?_ | refine go_draw (dr := allQ) rfl rfl mixed (by first | assumption | kernel_rfl) ?_ | refine g4_ rfl ?_ | refine g5_ rfl ?_ | refine g6_ rfl ?_ | refine g7_ rfl ?_ | refine g8_ rfl ?_ | refine ga_ rfl ?_ | refine gb_ rfl ?_) | (refine o0_ ?_; first | refine o1_ ?_ | refine o2_ ?_ | refine o3_ ?_ | refine o4_ ?_ | refine o5_ ?_ | refine o6_ rfl ?_ | refine o7_ rfl ?_ | refine o8_ ?_ | refine o9_ ?_ | refine oa_ ?_ | refine ob_ ?_ | refine oc_ ?_ | refine od_ ?_ | refine oe_ ?_ | refine of_ ?_ | refine og_ ?_ | refine oh_ ?_ | refine oi_ ?_ | refine oj_ ?_ | refine ok_ ?_)) | refine at_go ?_ | (with_reducible refine And.intro (at_go ?_) (at_go ?_)) | ((with_reducible refine And.intro (fun h => ?_) (fun h => ?_)) <;> try (exfalso; omega)) | (with_reducible refine And.intro (by first | omega | (simp only [maxLen]; omega)) ?_) | (first | (refine ⟨_, _, pc_lift (h9) (by (simp [idsL, idsE, AV.ids, Nat.add_zero])) _, ?_⟩) | (refine ⟨_, pc_lift (h9) (by (simp [idsL, idsE, AV.ids, Nat.add_zero])) _, ?_⟩) | (refine ⟨_, fun _ => pc_lift (h9) (by (simp [idsL, idsE, AV.ids, Nat.add_zero])) _, ?_⟩)) | simp (disch := first | omega | (simp only [length_tks, List.length_set, List.length_reverse, List.length_replicate, List.length_append, List.length_cons, List.length_nil, List.length_map]; omega)) only [push_cast, ↓reduceIte, reduceIte, reduceCtorEq, Nat.reduceAdd, Nat.reduceLT, Nat.reduceEqDiff, Nat.reduceLeDiff, Int.reduceAdd, Int.reduceLT, Int.reduceLE, Nat.reduceMul, a0, hl', Int.reduceEq])
      refine go_loop rfl (fun mz s' H' => ∃ (i : Nat) (l c : Int), i ≤ L.length ∧ mz = L.length - i ∧ (l, c) = posT 1 1 (s0.take (eG s0 L i)) ∧ remB false (s0.take (eG s0 L i)) = false ∧ H' = [] ∧ s' 0 = .str s0 ∧ s' 3 = .sl 4 (tks L) (some L.length) ∧ s' 7 = .int .i64 (eG s0 L i) ∧ s' 8 = .int .i64 l ∧ s' 9 = .int .i64 c ∧ s' 10 = .bool false ∧ s' 11 = .int .i64 i) (m := L.length) (by (first | trivial | ((repeat' apply And.intro) <;> first | trivial | assumption | omega | (simp only [maxLen]; omega) | (simp only [length_tks, List.length_replicate, List.length_append, List.length_cons, List.length_nil, List.length_map, List.length_take, List.length_drop, List.length_set, List.length_reverse, maxLen] <;> omega)))) (Weak.refl _ _) ⟨0, 1, 1, by omega, by omega, ?_, ?_, rfl, ?_⟩ ?_
      · simp [eG, posT]
      · simp [eG, remB]
      · simp (disch := first | omega | (simp only [length_tks, List.length_set, List.length_reverse, List.length_replicate, List.length_append, List.length_cons, List.length_nil, List.length_map]; omega)) only [push_cast, ↓reduceIte, reduceIte, reduceCtorEq, Nat.reduceAdd, Nat.reduceLT, Nat.reduceEqDiff, Nat.reduceLeDiff, Int.reduceAdd, Int.reduceLT, Int.reduceLE, Nat.reduceMul, a0, hl', Int.reduceEq]
        rfl
      · rintro mz s' H' ⟨i, l, c, hi, rfl, hlc, hrem, rfl, b0, b3, b7, b8, b9, b10, b11⟩
        have hP := hpl i hi
        have hgp := place_gap s0 L i hP
        have hst := fun hi => place_step s0 L i hi hP
        have hls : i = L.length → eG s0 L i + gapS false (s0.drop (eG s0 L i)) = s0.length := fun q => by
          rw [q] at hP ⊢; exact place_last s0 L hP
        have hple := hP.le
        have hgl := gapS_le false (s0.drop (eG s0 L i))
        rw [List.length_drop] at hgl
        have heG1 : ∀ hi : i < L.length, eG s0 L (i + 1) = eG s0 L i + gapS false (s0.drop (eG s0 L i)) + (L.getD i tk0).t.length := fun hi => by
          rw [eG, List.drop_eq_getElem_cons hi, List.headD_cons]; simp [hi]
        generalize hgg : gapS false (s0.drop (eG s0 L i)) = g at *
        generalize eG s0 L i = e0 at *
        repeat' (first | (first | (refine a0_ ?_; first | refine a1_ rfl rfl ?_ | refine a2_ rfl ?_ | refine a3_ rfl rfl ?_ | refine a4_ rfl ?_ | refine a5_ rfl rfl rfl ?_ | refine a6_ rfl rfl ?_ | refine a7_ rfl rfl ?_ | refine a8_ rfl rfl ?_ | refine a9_ rfl rfl rfl ?_) | (refine g0_ ?_; first | refine g1_ rfl ?_ | refine g2_ rfl rfl ?_ | refine go_draw (dr := allQ) rfl rfl mixed (by first | assumption | kernel_rfl) ?_ | refine g4_ rfl ?_ | refine g5_ rfl ?_ | refine g6_ rfl ?_ | refine g7_ rfl ?_ | refine g8_ rfl ?_ | refine ga_ rfl ?_ | refine gb_ rfl ?_) | (refine o0_ ?_; first | refine o1_ ?_ | refine o2_ ?_ | refine o3_ ?_ | refine o4_ ?_ | refine o5_ ?_ | refine o6_ rfl ?_ | refine o7_ rfl ?_ | refine o8_ ?_ | refine o9_ ?_ | refine oa_ ?_ | refine ob_ ?_ | refine oc_ ?_ | refine od_ ?_ | refine oe_ ?_ | refine of_ ?_ | refine og_ ?_ | refine oh_ ?_ | refine oi_ ?_ | refine oj_ ?_ | refine ok_ ?_)) | refine at_go ?_ | (with_reducible refine And.intro (at_go ?_) (at_go ?_)) | ((with_reducible refine And.intro (fun h => ?_) (fun h => ?_)) <;> try (exfalso; omega)) | (with_reducible refine And.intro (by first | omega | (simp only [maxLen]; omega)) ?_) | fail | simp (disch := first | omega | (simp only [length_tks, List.length_set, List.length_reverse, List.length_replicate, List.length_append, List.length_cons, List.length_nil, List.length_map]; omega)) only [push_cast, ↓reduceIte, reduceIte, reduceCtorEq, Nat.reduceAdd, Nat.reduceLT, Nat.reduceEqDiff, Nat.reduceLeDiff, Int.reduceAdd, Int.reduceLT, Int.reduceLE, Nat.reduceMul, b0, b3, b7, b8, b9, b10, b11, Int.reduceEq])
        all_goals first | exact ⟨rfl, rfl, rfl⟩ | skip
        refine go_loop rfl (fun mz s' H' => ∃ (k : Nat), k ≤ g ∧ mz = g - k ∧ H' = [] ∧ s' 0 = .str s0 ∧ s' 3 = .sl 4 (tks L) (some L.length) ∧ s' 7 = .int .i64 ((e0 + k : Nat) : Int) ∧ s' 8 = .int .i64 (posT 1 1 (s0.take (e0 + k))).1 ∧ s' 9 = .int .i64 (posT 1 1 (s0.take (e0 + k))).2 ∧ s' 10 = .bool (remB false (s0.take (e0 + k))) ∧ s' 11 = .int .i64 i) (m := g) (by (first | trivial | ((repeat' apply And.intro) <;> first | trivial | assumption | omega | (simp only [maxLen]; omega) | (simp only [length_tks, List.length_replicate, List.length_append, List.length_cons, List.length_nil, List.length_map, List.length_take, List.length_drop, List.length_set, List.length_reverse, maxLen] <;> omega)))) (Weak.refl _ _) ⟨0, by omega, by omega, rfl, ?_⟩ ?_
        · simp (disch := first | omega | (simp only [length_tks, List.length_set, List.length_reverse, List.length_replicate, List.length_append, List.length_cons, List.length_nil, List.length_map]; omega)) only [push_cast, ↓reduceIte, reduceIte, reduceCtorEq, Nat.reduceAdd, Nat.reduceLT, Nat.reduceEqDiff, Nat.reduceLeDiff, Int.reduceAdd, Int.reduceLT, Int.reduceLE, Nat.reduceMul, b0, b3, b7, b8, b9, b10, b11, Int.reduceEq]
          rw [hrem, ← hlc]
          exact ⟨rfl, rfl, rfl⟩
        · rintro mz s' H' ⟨k, hk, rfl, rfl, b0, b3, b7, b8, b9, b10, b11⟩
          have hbd := posT_bd (s0.take (e0 + k)) 1 1 1 (by omega) (by omega) (by omega) (by omega) (by omega)
          rw [List.length_take] at hbd
          rcases Nat.lt_or_ge k g with hlt | hge
          · have hlt2 : e0 + k < s0.length := by omega
            have p1 := posT_one s0 (e0 + k) hlt2
            have r1 := remB_one s0 (e0 + k) hlt2
            obtain ⟨w1, w2, w3⟩ := hgp k hlt
            have hN : ((e0 : Int) + (k : Int)).toNat = e0 + k := by omega
            have eL : ∀ hi : i < L.length, L[i] = L.getD i tk0 := fun hi => by simp [hi]
            generalize posT 1 1 (s0.take (e0 + k)) = P at *
            obtain ⟨l2, c2⟩ := P
            generalize remB false (s0.take (e0 + k)) = rm at *
            have v10 : (s0.getD (e0 + k) 0 = 10) = (((s0.getD (e0 + k) 0).toNat : Int) = 10) := by
              apply propext; rw [← UInt8.toNat_inj]; show (s0.getD (e0 + k) 0).toNat = 10 ↔ _; omega
            have v35 : (s0.getD (e0 + k) 0 = 35) = (((s0.getD (e0 + k) 0).toNat : Int) = 35) := by
              apply propext; rw [← UInt8.toNat_inj]; show (s0.getD (e0 + k) 0).toNat = 35 ↔ _; omega
            have vbl : (blkB (s0.getD (e0 + k) 0) = true) = (((s0.getD (e0 + k) 0).toNat : Int) = 32 ∨ ((s0.getD (e0 + k) 0).toNat : Int) = 9 ∨ ((s0.getD (e0 + k) 0).toNat : Int) = 13) := by
              apply propext
              simp only [blkB, Bool.or_eq_true, decide_eq_true_eq, ← UInt8.toNat_inj, or_assoc]
              show ((s0.getD (e0 + k) 0).toNat = 32 ∨ (s0.getD (e0 + k) 0).toNat = 9 ∨ (s0.getD (e0 + k) 0).toNat = 13) ↔ _
              omega
            have hbe : s0[e0 + k] = s0.getD (e0 + k) 0 := by simp [hlt2]
            have w4 : (¬ ((s0.getD (e0 + k) 0).toNat : Int) = 10 ∧ (rm = true ∨ ((s0.getD (e0 + k) 0).toNat : Int) = 35)) ∨ (((s0.getD (e0 + k) 0).toNat : Int) = 32 ∨ ((s0.getD (e0 + k) 0).toNat : Int) = 9 ∨ ((s0.getD (e0 + k) 0).toNat : Int) = 13) ∨ ((s0.getD (e0 + k) 0).toNat : Int) = 10 := by
              rw [← vbl, ← v10, ← v35, ← hbe]
              rcases w3 with w | w | w
              · left
                simpa [remB] using w
              · exact .inr (.inl w)
              · exact .inr (.inr w)
            simp only [v10, v35] at p1 r1
            clear w3 vbl
            simp only at b8 b9 hbd
            generalize hv : ((s0.getD (e0 + k) 0).toNat : Int) = v at *
            rcases Nat.lt_or_ge i L.length with hil | hil
            · have e1 := getD_tks L i hil
              have w1 := w1 hil
              rw [eL hil] at w1
              generalize L.getD i tk0 = t at *
              obtain ⟨tk, tt, tl, tc⟩ := t
              simp only [tkA] at e1 w1
              cases rm
              all_goals (
                repeat' (first | (first | (refine a0_ ?_; first | refine a1_ rfl rfl ?_ | refine a2_ rfl ?_ | refine a3_ rfl rfl ?_ | refine a4_ rfl ?_ | refine a5_ rfl rfl rfl ?_ | refine a6_ rfl rfl ?_ | refine a7_ rfl rfl ?_ | refine a8_ rfl rfl ?_ | refine a9_ rfl rfl rfl ?_) | (refine g0_ ?_; first | refine g1_ rfl ?_ | refine g2_ rfl rfl ?_ | refine go_draw (dr := allQ) rfl rfl mixed (by first | assumption | kernel_rfl) ?_ | refine g4_ rfl ?_ | refine g5_ rfl ?_ | refine g6_ rfl ?_ | refine g7_ rfl ?_ | refine g8_ rfl ?_ | refine ga_ rfl ?_ | refine gb_ rfl ?_) | (refine o0_ ?_; first | refine o1_ ?_ | refine o2_ ?_ | refine o3_ ?_ | refine o4_ ?_ | refine o5_ ?_ | refine o6_ rfl ?_ | refine o7_ rfl ?_ | refine o8_ ?_ | refine o9_ ?_ | refine oa_ ?_ | refine ob_ ?_ | refine oc_ ?_ | refine od_ ?_ | refine oe_ ?_ | refine of_ ?_ | refine og_ ?_ | refine oh_ ?_ | refine oi_ ?_ | refine oj_ ?_ | refine ok_ ?_)) | refine at_go ?_ | (with_reducible refine And.intro (at_go ?_) (at_go ?_)) | ((with_reducible refine And.intro (fun h => ?_) (fun h => ?_)) <;> try (exfalso; omega)) | (with_reducible refine And.intro (by first | omega | (simp only [maxLen]; omega)) ?_) | fail | simp (disch := first | omega | (simp only [length_tks, List.length_set, List.length_reverse, List.length_replicate, List.length_append, List.length_cons, List.length_nil, List.length_map]; omega)) only [push_cast, ↓reduceIte, reduceIte, reduceCtorEq, Nat.reduceAdd, Nat.reduceLT, Nat.reduceEqDiff, Nat.reduceLeDiff, Int.reduceAdd, Int.reduceLT, Int.reduceLE, Nat.reduceMul, b0, b3, b7, b8, b9, b10, b11, hN, hv, e1, Int.reduceEq]))
              · exfalso
                rcases w4 with w | w | w
                · rcases w.2 with u | u
                  · cases u
                  · omega
                · omega
                · omega
              · refine out_round (g - (k + 1)) (by omega) (by (first | trivial | ((repeat' apply And.intro) <;> first | trivial | assumption | omega | (simp only [maxLen]; omega) | (simp only [length_tks, List.length_replicate, List.length_append, List.length_cons, List.length_nil, List.length_map, List.length_take, List.length_drop, List.length_set, List.length_reverse, maxLen] <;> omega)))) ⟨k + 1, by omega, rfl, rfl, ?_⟩
                rw [show e0 + (k + 1) = e0 + k + 1 by omega, p1, r1, if_pos h]
                simp (disch := first | omega | (simp only [length_tks, List.length_set, List.length_reverse, List.length_replicate, List.length_append, List.length_cons, List.length_nil, List.length_map]; omega)) only [push_cast, ↓reduceIte, reduceIte, reduceCtorEq, Nat.reduceAdd, Nat.reduceLT, Nat.reduceEqDiff, Nat.reduceLeDiff, Int.reduceAdd, Int.reduceLT, Int.reduceLE, Nat.reduceMul, b0, b3, b7, b8, b9, b10, b11, hN, hv, e1, Int.reduceEq]
                simp [h]
                omega
              · refine out_round (g - (k + 1)) (by omega) (by (first | trivial | ((repeat' apply And.intro) <;> first | trivial | assumption | omega | (simp only [maxLen]; omega) | (simp only [length_tks, List.length_replicate, List.length_append, List.length_cons, List.length_nil, List.length_map, List.length_take, List.length_drop, List.length_set, List.length_reverse, maxLen] <;> omega)))) ⟨k + 1, by omega, rfl, rfl, ?_⟩
                rw [show e0 + (k + 1) = e0 + k + 1 by omega, p1, r1, if_neg h]
                simp (disch := first | omega | (simp only [length_tks, List.length_set, List.length_reverse, List.length_replicate, List.length_append, List.length_cons, List.length_nil, List.length_map]; omega)) only [push_cast, ↓reduceIte, reduceIte, reduceCtorEq, Nat.reduceAdd, Nat.reduceLT, Nat.reduceEqDiff, Nat.reduceLeDiff, Int.reduceAdd, Int.reduceLT, Int.reduceLE, Nat.reduceMul, b0, b3, b7, b8, b9, b10, b11, hN, hv, e1, Int.reduceEq]
                simp [h]
                omega
              · refine out_round (g - (k + 1)) (by omega) (by (first | trivial | ((repeat' apply And.intro) <;> first | trivial | assumption | omega | (simp only [maxLen]; omega) | (simp only [length_tks, List.length_replicate, List.length_append, List.length_cons, List.length_nil, List.length_map, List.length_take, List.length_drop, List.length_set, List.length_reverse, maxLen] <;> omega)))) ⟨k + 1, by omega, rfl, rfl, ?_⟩
                rw [show e0 + (k + 1) = e0 + k + 1 by omega, p1, r1, if_pos h]
                simp (disch := first | omega | (simp only [length_tks, List.length_set, List.length_reverse, List.length_replicate, List.length_append, List.length_cons, List.length_nil, List.length_map]; omega)) only [push_cast, ↓reduceIte, reduceIte, reduceCtorEq, Nat.reduceAdd, Nat.reduceLT, Nat.reduceEqDiff, Nat.reduceLeDiff, Int.reduceAdd, Int.reduceLT, Int.reduceLE, Nat.reduceMul, b0, b3, b7, b8, b9, b10, b11, hN, hv, e1, Int.reduceEq]
                simp [h]
                omega
              · refine out_round (g - (k + 1)) (by omega) (by (first | trivial | ((repeat' apply And.intro) <;> first | trivial | assumption | omega | (simp only [maxLen]; omega) | (simp only [length_tks, List.length_replicate, List.length_append, List.length_cons, List.length_nil, List.length_map, List.length_take, List.length_drop, List.length_set, List.length_reverse, maxLen] <;> omega)))) ⟨k + 1, by omega, rfl, rfl, ?_⟩
                rw [show e0 + (k + 1) = e0 + k + 1 by omega, p1, r1, if_neg h]
                simp (disch := first | omega | (simp only [length_tks, List.length_set, List.length_reverse, List.length_replicate, List.length_append, List.length_cons, List.length_nil, List.length_map]; omega)) only [push_cast, ↓reduceIte, reduceIte, reduceCtorEq, Nat.reduceAdd, Nat.reduceLT, Nat.reduceEqDiff, Nat.reduceLeDiff, Int.reduceAdd, Int.reduceLT, Int.reduceLE, Nat.reduceMul, b0, b3, b7, b8, b9, b10, b11, hN, hv, e1, Int.reduceEq]
                simp [h]
                omega
            · obtain rfl : i = L.length := by omega
              cases rm
              all_goals (
                repeat' (first | (first | (refine a0_ ?_; first | refine a1_ rfl rfl ?_ | refine a2_ rfl ?_ | refine a3_ rfl rfl ?_ | refine a4_ rfl ?_ | refine a5_ rfl rfl rfl ?_ | refine a6_ rfl rfl ?_ | refine a7_ rfl rfl ?_ | refine a8_ rfl rfl ?_ | refine a9_ rfl rfl rfl ?_) | (refine g0_ ?_; first | refine g1_ rfl ?_ | refine g2_ rfl rfl ?_ | refine go_draw (dr := allQ) rfl rfl mixed (by first | assumption | kernel_rfl) ?_ | refine g4_ rfl ?_ | refine g5_ rfl ?_ | refine g6_ rfl ?_ | refine g7_ rfl ?_ | refine g8_ rfl ?_ | refine ga_ rfl ?_ | refine gb_ rfl ?_) | (refine o0_ ?_; first | refine o1_ ?_ | refine o2_ ?_ | refine o3_ ?_ | refine o4_ ?_ | refine o5_ ?_ | refine o6_ rfl ?_ | refine o7_ rfl ?_ | refine o8_ ?_ | refine o9_ ?_ | refine oa_ ?_ | refine ob_ ?_ | refine oc_ ?_ | refine od_ ?_ | refine oe_ ?_ | refine of_ ?_ | refine og_ ?_ | refine oh_ ?_ | refine oi_ ?_ | refine oj_ ?_ | refine ok_ ?_)) | refine at_go ?_ | (with_reducible refine And.intro (at_go ?_) (at_go ?_)) | ((with_reducible refine And.intro (fun h => ?_) (fun h => ?_)) <;> try (exfalso; omega)) | (with_reducible refine And.intro (by first | omega | (simp only [maxLen]; omega)) ?_) | fail | simp (disch := first | omega | (simp only [length_tks, List.length_set, List.length_reverse, List.length_replicate, List.length_append, List.length_cons, List.length_nil, List.length_map]; omega)) only [push_cast, ↓reduceIte, reduceIte, reduceCtorEq, Nat.reduceAdd, Nat.reduceLT, Nat.reduceEqDiff, Nat.reduceLeDiff, Int.reduceAdd, Int.reduceLT, Int.reduceLE, Nat.reduceMul, b0, b3, b7, b8, b9, b10, b11, hN, hv, Int.reduceEq]))
              · exfalso
                rcases w4 with w | w | w
                · rcases w.2 with u | u
                  · cases u
                  · omega
                · omega
                · omega
              · refine out_round (g - (k + 1)) (by omega) (by (first | trivial | ((repeat' apply And.intro) <;> first | trivial | assumption | omega | (simp only [maxLen]; omega) | (simp only [length_tks, List.length_replicate, List.length_append, List.length_cons, List.length_nil, List.length_map, List.length_take, List.length_drop, List.length_set, List.length_reverse, maxLen] <;> omega)))) ⟨k + 1, by omega, rfl, rfl, ?_⟩
                rw [show e0 + (k + 1) = e0 + k + 1 by omega, p1, r1, if_pos h]
                simp (disch := first | omega | (simp only [length_tks, List.length_set, List.length_reverse, List.length_replicate, List.length_append, List.length_cons, List.length_nil, List.length_map]; omega)) only [push_cast, ↓reduceIte, reduceIte, reduceCtorEq, Nat.reduceAdd, Nat.reduceLT, Nat.reduceEqDiff, Nat.reduceLeDiff, Int.reduceAdd, Int.reduceLT, Int.reduceLE, Nat.reduceMul, b0, b3, b7, b8, b9, b10, b11, hN, hv, Int.reduceEq]
                simp [h]
                omega
              · refine out_round (g - (k + 1)) (by omega) (by (first | trivial | ((repeat' apply And.intro) <;> first | trivial | assumption | omega | (simp only [maxLen]; omega) | (simp only [length_tks, List.length_replicate, List.length_append, List.length_cons, List.length_nil, List.length_map, List.length_take, List.length_drop, List.length_set, List.length_reverse, maxLen] <;> omega)))) ⟨k + 1, by omega, rfl, rfl, ?_⟩
                rw [show e0 + (k + 1) = e0 + k + 1 by omega, p1, r1, if_neg h]
                simp (disch := first | omega | (simp only [length_tks, List.length_set, List.length_reverse, List.length_replicate, List.length_append, List.length_cons, List.length_nil, List.length_map]; omega)) only [push_cast, ↓reduceIte, reduceIte, reduceCtorEq, Nat.reduceAdd, Nat.reduceLT, Nat.reduceEqDiff, Nat.reduceLeDiff, Int.reduceAdd, Int.reduceLT, Int.reduceLE, Nat.reduceMul, b0, b3, b7, b8, b9, b10, b11, hN, hv, Int.reduceEq]
                simp [h]
                omega
              · refine out_round (g - (k + 1)) (by omega) (by (first | trivial | ((repeat' apply And.intro) <;> first | trivial | assumption | omega | (simp only [maxLen]; omega) | (simp only [length_tks, List.length_replicate, List.length_append, List.length_cons, List.length_nil, List.length_map, List.length_take, List.length_drop, List.length_set, List.length_reverse, maxLen] <;> omega)))) ⟨k + 1, by omega, rfl, rfl, ?_⟩
                rw [show e0 + (k + 1) = e0 + k + 1 by omega, p1, r1, if_pos h]
                simp (disch := first | omega | (simp only [length_tks, List.length_set, List.length_reverse, List.length_replicate, List.length_append, List.length_cons, List.length_nil, List.length_map]; omega)) only [push_cast, ↓reduceIte, reduceIte, reduceCtorEq, Nat.reduceAdd, Nat.reduceLT, Nat.reduceEqDiff, Nat.reduceLeDiff, Int.reduceAdd, Int.reduceLT, Int.reduceLE, Nat.reduceMul, b0, b3, b7, b8, b9, b10, b11, hN, hv, Int.reduceEq]
                simp [h]
                omega
              · refine out_round (g - (k + 1)) (by omega) (by (first | trivial | ((repeat' apply And.intro) <;> first | trivial | assumption | omega | (simp only [maxLen]; omega) | (simp only [length_tks, List.length_replicate, List.length_append, List.length_cons, List.length_nil, List.length_map, List.length_take, List.length_drop, List.length_set, List.length_reverse, maxLen] <;> omega)))) ⟨k + 1, by omega, rfl, rfl, ?_⟩
                rw [show e0 + (k + 1) = e0 + k + 1 by omega, p1, r1, if_neg h]
                simp (disch := first | omega | (simp only [length_tks, List.length_set, List.length_reverse, List.length_replicate, List.length_append, List.length_cons, List.length_nil, List.length_map]; omega)) only [push_cast, ↓reduceIte, reduceIte, reduceCtorEq, Nat.reduceAdd, Nat.reduceLT, Nat.reduceEqDiff, Nat.reduceLeDiff, Int.reduceAdd, Int.reduceLT, Int.reduceLE, Nat.reduceMul, b0, b3, b7, b8, b9, b10, b11, hN, hv, Int.reduceEq]
                simp [h]
                omega
          · obtain rfl : k = g := by omega
            rcases Nat.lt_or_ge i L.length with hil | hil
            · have e1 := getD_tks L i hil
              have eL : L[i] = L.getD i tk0 := by simp [hil]
              obtain ⟨s1, s2, s3, s4, s5, s6, s7⟩ := hst hil
              have heG := heG1 hil
              rw [eL] at s2 s3 s4 s5 s7
              have hval : chkT (L.getD i tk0).k (L.getD i tk0).t = 0 := by
                rw [chkT_zero]
                exact ⟨s7, fun q => by rw [q] at s3; simp at s3⟩
              have h13 := check13 (L.getD i tk0) (by omega)
              rw [hval] at h13
              have hby := tokS_bytes (L.getD i tk0).t
              rw [s7] at hby
              simp only [List.take_length] at hby
              generalize L.getD i tk0 = t at *
              obtain ⟨tk, tt, tl, tc⟩ := t
              simp only [tkA] at e1 s2 s3 s4 s5 h13 hby heG
              rw [s5] at b8 b9 hbd
              rw [s6] at b10
              simp only at b8 b9 hbd
              have hfl : posT 1 1 (s0.take (eG s0 L (i + 1))) = (tl, tc + tt.length) := by
                rw [heG, take_drop_add, posT_app, s5, s4, posT_flat tt _ _ hby]
              have hN1 : ((e0 : Int) + (k : Int)).toNat = e0 + k := by omega
              have hN2 : ((e0 : Int) + (k : Int) + (tt.length : Int)).toNat = e0 + k + tt.length := by omega
              have hsub : List.drop (e0 + k) (List.take (e0 + k + tt.length) s0) = tt := by
                rw [List.drop_take, show e0 + k + tt.length - (e0 + k) = tt.length by omega, s4]
              have hne : ¬ ((tt.length : Nat) : Int) = 0 := by omega
              have hil2 : ¬ ((i : Nat) : Int) = (L.length : Int) := by omega
              have hle2 : (e0 : Int) + (k : Int) + (tt.length : Int) ≤ (s0.length : Int) := by omega
              have hle3 : ¬ (s0.length : Int) < (e0 : Int) + (k : Int) + (tt.length : Int) := by omega
              repeat' (first | (first | (refine a0_ ?_; first | refine a1_ rfl rfl ?_ | refine a2_ rfl ?_ | refine a3_ rfl rfl ?_ | refine a4_ rfl ?_ | refine a5_ rfl rfl rfl ?_ | refine a6_ rfl rfl ?_ | refine a7_ rfl rfl ?_ | refine a8_ rfl rfl ?_ | refine a9_ rfl rfl rfl ?_) | (refine g0_ ?_; first | refine g1_ rfl ?_ | refine g2_ rfl rfl ?_ | refine go_draw (dr := allQ) rfl rfl mixed (by first | assumption | kernel_rfl) ?_ | refine g4_ rfl ?_ | refine g5_ rfl ?_ | refine g6_ rfl ?_ | refine g7_ rfl ?_ | refine g8_ rfl ?_ | refine ga_ rfl ?_ | refine gb_ rfl ?_) | (refine o0_ ?_; first | refine o1_ ?_ | refine o2_ ?_ | refine o3_ ?_ | refine o4_ ?_ | refine o5_ ?_ | refine o6_ rfl ?_ | refine o7_ rfl ?_ | refine o8_ ?_ | refine o9_ ?_ | refine oa_ ?_ | refine ob_ ?_ | refine oc_ ?_ | refine od_ ?_ | refine oe_ ?_ | refine of_ ?_ | refine og_ ?_ | refine oh_ ?_ | refine oi_ ?_ | refine oj_ ?_ | refine ok_ ?_)) | refine at_go ?_ | (with_reducible refine And.intro (at_go ?_) (at_go ?_)) | ((with_reducible refine And.intro (fun h => ?_) (fun h => ?_)) <;> try (exfalso; omega)) | (with_reducible refine And.intro (by first | omega | (simp only [maxLen]; omega)) ?_) | (first | (refine ⟨_, _, pc_lift (h13) (by (simp [idsL, idsE, AV.ids, Nat.add_zero])) _, ?_⟩) | (refine ⟨_, pc_lift (h13) (by (simp [idsL, idsE, AV.ids, Nat.add_zero])) _, ?_⟩) | (refine ⟨_, fun _ => pc_lift (h13) (by (simp [idsL, idsE, AV.ids, Nat.add_zero])) _, ?_⟩)) | simp (disch := first | omega | (simp only [length_tks, List.length_set, List.length_reverse, List.length_replicate, List.length_append, List.length_cons, List.length_nil, List.length_map]; omega)) only [push_cast, ↓reduceIte, reduceIte, reduceCtorEq, Nat.reduceAdd, Nat.reduceLT, Nat.reduceEqDiff, Nat.reduceLeDiff, Int.reduceAdd, Int.reduceLT, Int.reduceLE, Nat.reduceMul, b0, b3, b7, b8, b9, b10, b11, hN1, hN2, e1, hsub, hne, hil2, hle2, hle3, Int.reduceEq])
              refine out_round (L.length - (i + 1)) (by omega) (by (first | trivial | ((repeat' apply And.intro) <;> first | trivial | assumption | omega | (simp only [maxLen]; omega) | (simp only [length_tks, List.length_replicate, List.length_append, List.length_cons, List.length_nil, List.length_map, List.length_take, List.length_drop, List.length_set, List.length_reverse, maxLen] <;> omega)))) ⟨i + 1, tl, tc + tt.length, by omega, rfl, hfl.symm, s1.rem, rfl, ?_⟩
              rw [heG]
              simp (disch := first | omega | (simp only [length_tks, List.length_set, List.length_reverse, List.length_replicate, List.length_append, List.length_cons, List.length_nil, List.length_map]; omega)) only [push_cast, ↓reduceIte, reduceIte, reduceCtorEq, Nat.reduceAdd, Nat.reduceLT, Nat.reduceEqDiff, Nat.reduceLeDiff, Int.reduceAdd, Int.reduceLT, Int.reduceLE, Nat.reduceMul, b0, b3, b7, b8, b9, b10, b11, hN1, hN2, e1, hsub, hne, hil2, hle2, hle3, Int.reduceEq]
            · obtain rfl : i = L.length := by omega
              have hend := hls rfl
              have hq : ¬ ((e0 : Int) + (k : Int) < (s0.length : Int)) := by omega
              have hq2 : (e0 : Int) + (k : Int) = (s0.length : Int) := by omega
              repeat' (first | (first | (refine a0_ ?_; first | refine a1_ rfl rfl ?_ | refine a2_ rfl ?_ | refine a3_ rfl rfl ?_ | refine a4_ rfl ?_ | refine a5_ rfl rfl rfl ?_ | refine a6_ rfl rfl ?_ | refine a7_ rfl rfl ?_ | refine a8_ rfl rfl ?_ | refine a9_ rfl rfl rfl ?_) | (refine g0_ ?_; first | refine g1_ rfl ?_ | refine g2_ rfl rfl ?_ | refine go_draw (dr := allQ) rfl rfl mixed (by first | assumption | kernel_rfl) ?_ | refine g4_ rfl ?_ | refine g5_ rfl ?_ | refine g6_ rfl ?_ | refine g7_ rfl ?_ | refine g8_ rfl ?_ | refine ga_ rfl ?_ | refine gb_ rfl ?_) | (refine o0_ ?_; first | refine o1_ ?_ | refine o2_ ?_ | refine o3_ ?_ | refine o4_ ?_ | refine o5_ ?_ | refine o6_ rfl ?_ | refine o7_ rfl ?_ | refine o8_ ?_ | refine o9_ ?_ | refine oa_ ?_ | refine ob_ ?_ | refine oc_ ?_ | refine od_ ?_ | refine oe_ ?_ | refine of_ ?_ | refine og_ ?_ | refine oh_ ?_ | refine oi_ ?_ | refine oj_ ?_ | refine ok_ ?_)) | refine at_go ?_ | (with_reducible refine And.intro (at_go ?_) (at_go ?_)) | ((with_reducible refine And.intro (fun h => ?_) (fun h => ?_)) <;> try (exfalso; omega)) | (with_reducible refine And.intro (by first | omega | (simp only [maxLen]; omega)) ?_) | (first | (refine ⟨_, _, pc_lift (h12) (by (simp [idsL, idsE, AV.ids, Nat.add_zero])) _, ?_⟩) | (refine ⟨_, pc_lift (h12) (by (simp [idsL, idsE, AV.ids, Nat.add_zero])) _, ?_⟩) | (refine ⟨_, fun _ => pc_lift (h12) (by (simp [idsL, idsE, AV.ids, Nat.add_zero])) _, ?_⟩) | (refine ⟨AV.str [], ?_⟩; refine acc_id ?_)) | simp (disch := first | omega | (simp only [length_tks, List.length_set, List.length_reverse, List.length_replicate, List.length_append, List.length_cons, List.length_nil, List.length_map]; omega)) only [push_cast, ↓reduceIte, reduceIte, reduceCtorEq, Nat.reduceAdd, Nat.reduceLT, Nat.reduceEqDiff, Nat.reduceLeDiff, Int.reduceAdd, Int.reduceLT, Int.reduceLE, Nat.reduceMul, b0, b3, b7, b8, b9, b10, b11, hq, hq2, Int.reduceEq])
end Go.Proofs
