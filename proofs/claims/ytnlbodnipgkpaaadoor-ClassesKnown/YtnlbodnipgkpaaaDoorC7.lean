import Derived.Test.YtnlbodnipgkpaaaDoorC6
import Derived.Test.YtnlbodnipgkpaaaDoorCL
import Derived.Test.YtnlbodnipgkpaaaDoorCP6
/- Classes: Finer, text, Text. -/
namespace Go.Proofs
open Go Go.V
set_option linter.unusedVariables false
set_option linter.unusedSimpArgs false
set_option maxHeartbeats 0
set_option maxRecDepth 100000
theorem blkF_take (q : List Int) (l : List Nat) (k : Nat) (h : k < l.length) : blkF q l = false ↔ (¬ ∀ i ∈ l, gI q i = gI q (l.getD 0 0)) := by
  unfold blkF
  rw [← Bool.not_eq_true, List.all_eq_true]
  simp
/-- What Finer answers. -/
def finC (p q : List Int) : Bool × Int := if bothC p q ≠ 0 then (false, bothC p q) else (finB p q, 0)
theorem finer18 (p q : List Int) (c d : Option Nat) (hx : p.length ≤ 1000000) (hy : q.length ≤ 1000000) : PC Tryd.prog G0 18 [.sl 1 (ints p) c, .sl 1 (ints q) d] (.tup [.bool (finC p q).1, .int .i64 (finC p q).2]) := by
  have h1 := both36 p q c d hx hy
  have hz := @both_zero p q
  unfold finC
  generalize bothC p q = e at *
  refine pc_go 0 45 [.tmp 4, .tmp 5] Tryd.func18 rfl rfl rfl (by simp) ?_
  intro s ⟨a0, a1, hz⟩
  simp only [Nat.zero_add, Nat.reduceAdd] at a1
  clear hz
  by_cases he : e = 0
  · subst he
    obtain ⟨hp, hq, hl, hlen⟩ := hz rfl
    have hB := blocks34 p c hx hp
    rw [blkRows_L, ← length_blocksM] at hB
    have hne : ∀ l ∈ blocksM p, l ≠ [] ∧ ∀ i ∈ l, i < p.length := fun l hl' => by
      obtain ⟨b, hb, rfl⟩ := List.mem_map.1 hl'
      exact ⟨idxs_ne hp (List.mem_range.1 hb), fun i hi => (mem_idxs.1 hi).1⟩
    have hnB : (blocksM p).length ≤ 256 := by
      rw [length_blocksM, valid_count hp]; have := dd_len_le p; omega
    have hfin : finB p q = (blocksM p).all (blkF q) := rfl
    have hlB : ∀ l ∈ blocksM p, l.length ≤ 256 := fun l hl' => by
      obtain ⟨b, hb, rfl⟩ := List.mem_map.1 hl'
      have := idxs_len p b; omega
    generalize blocksM p = B at *
    repeat' (first | (first | (refine a0_ ?_; first | refine a1_ rfl rfl ?_ | refine a2_ rfl ?_ | refine a3_ rfl rfl ?_ | refine a4_ rfl ?_ | refine a5_ rfl rfl rfl ?_ | refine a6_ rfl rfl ?_ | refine a7_ rfl rfl ?_ | refine a8_ rfl rfl ?_ | refine a9_ rfl rfl rfl ?_) | (refine g0_ ?_; first | refine g1_ rfl ?_ | refine g2_ rfl rfl ?_ | refine go_draw (dr := allQ) rfl rfl mixed (by first | assumption | kernel_rfl) ?_ | refine g4_ rfl ?_ | refine g5_ rfl ?_ | refine g6_ rfl ?_ | refine g7_ rfl ?_ | refine g8_ rfl ?_ | refine ga_ rfl ?_ | refine gb_ rfl ?_) | (refine o0_ ?_; first | refine o1_ ?_ | refine o2_ ?_ | refine o3_ ?_ | refine o4_ ?_ | refine o5_ ?_ | refine o6_ rfl ?_ | refine o7_ rfl ?_ | refine o8_ ?_ | refine o9_ ?_ | refine oa_ ?_ | refine ob_ ?_ | refine oc_ ?_ | refine od_ ?_ | refine oe_ ?_ | refine of_ ?_ | refine og_ ?_ | refine oh_ ?_ | refine oi_ ?_ | refine oj_ ?_ | refine ok_ ?_)) | refine at_go ?_ | (with_reducible refine And.intro (at_go ?_) (at_go ?_)) | ((with_reducible refine And.intro (fun h => ?_) (fun h => ?_)) <;> try (exfalso; omega)) | (with_reducible refine And.intro (by first | omega | (simp only [maxLen]; omega)) ?_) | (first | (refine ⟨_, _, pc_lift (h1) (by (simp [idsL, idsE, AV.ids, Nat.add_zero])) _, ?_⟩) | (refine ⟨_, pc_lift (h1) (by (simp [idsL, idsE, AV.ids, Nat.add_zero])) _, ?_⟩) | (refine ⟨_, fun _ => pc_lift (h1) (by (simp [idsL, idsE, AV.ids, Nat.add_zero])) _, ?_⟩) | (refine ⟨_, _, pc_lift (hB) (by (simp [idsL, idsE, AV.ids, Nat.add_zero])) _, ?_⟩) | (refine ⟨_, pc_lift (hB) (by (simp [idsL, idsE, AV.ids, Nat.add_zero])) _, ?_⟩) | (refine ⟨_, fun _ => pc_lift (hB) (by (simp [idsL, idsE, AV.ids, Nat.add_zero])) _, ?_⟩)) | simp (disch := first | omega | (simp only [length_ints, length_prs, length_natsI, length_prsI, length_strs, List.length_set, List.length_reverse, List.length_replicate, List.length_append, List.length_cons, List.length_nil, List.length_map]; omega)) only [push_cast, ↓reduceIte, reduceIte, reduceCtorEq, Nat.reduceAdd, Nat.reduceLT, Nat.reduceEqDiff, Nat.reduceLeDiff, Int.reduceAdd, Int.reduceLT, Int.reduceLE, Nat.reduceMul, a0, a1])
    refine go_loop rfl (fun mz s' H' => ∃ j : Nat, j ≤ B.length ∧ mz = B.length - j ∧ H' = [] ∧ s' 1 = .sl 1 (ints q) d ∧ s' 7 = .bool true ∧ s' 19 = .sl 1 (rowsA (blkRowsL B)) (some B.length) ∧ s' 20 = .int .i64 B.length ∧ s' 21 = .int .i64 j ∧ (B.take j).all (blkF q) = true) (m := B.length) (by (first | trivial | ((repeat' apply And.intro) <;> first | trivial | assumption | omega | (simp only [maxLen]; omega) | (simp only [length_ints, length_prs, length_natsI, length_prsI, length_strs, List.length_replicate, List.length_append, List.length_cons, List.length_nil, List.length_map, List.length_take, List.length_drop, List.length_set, List.length_reverse, maxLen] <;> omega)))) (Weak.refl _ _) ⟨0, by omega, by omega, rfl, ?_⟩ ?_
    · simp (disch := first | omega | (simp only [length_ints, length_prs, length_natsI, length_prsI, length_strs, List.length_set, List.length_reverse, List.length_replicate, List.length_append, List.length_cons, List.length_nil, List.length_map]; omega)) only [push_cast, ↓reduceIte, reduceIte, reduceCtorEq, Nat.reduceAdd, Nat.reduceLT, Nat.reduceEqDiff, Nat.reduceLeDiff, Int.reduceAdd, Int.reduceLT, Int.reduceLE, Nat.reduceMul, a0, a1]
    · rintro mz s' H' ⟨j, hj, rfl, rfl, b1, b7, b19, b20, b21, ij⟩
      rcases Nat.lt_or_ge j B.length with hlt | hge
      · have e2 := getD_blkRowsL B j hlt
        obtain ⟨hl1, hl2⟩ := hne _ (getD_mem [] hlt)
        have hl3 := hlB _ (getD_mem [] hlt)
        have hbad : blkF q (B.getD j []) = false → finB p q = false := fun w => by
          rw [hfin, ← Bool.not_eq_true, List.all_eq_true]
          intro u; rw [u _ (getD_mem [] hlt)] at w; cases w
        have hgood : blkF q (B.getD j []) = true → (B.take (j + 1)).all (blkF q) = true := fun w => by
          rw [take_snoc B [] j hlt, List.all_append, ij, List.all_cons, w]; rfl
        generalize B.getD j [] = l at *
        have hl0 : 0 < l.length := List.length_pos_iff.2 hl1
        repeat' (first | (first | (refine a0_ ?_; first | refine a1_ rfl rfl ?_ | refine a2_ rfl ?_ | refine a3_ rfl rfl ?_ | refine a4_ rfl ?_ | refine a5_ rfl rfl rfl ?_ | refine a6_ rfl rfl ?_ | refine a7_ rfl rfl ?_ | refine a8_ rfl rfl ?_ | refine a9_ rfl rfl rfl ?_) | (refine g0_ ?_; first | refine g1_ rfl ?_ | refine g2_ rfl rfl ?_ | refine go_draw (dr := allQ) rfl rfl mixed (by first | assumption | kernel_rfl) ?_ | refine g4_ rfl ?_ | refine g5_ rfl ?_ | refine g6_ rfl ?_ | refine g7_ rfl ?_ | refine g8_ rfl ?_ | refine ga_ rfl ?_ | refine gb_ rfl ?_) | (refine o0_ ?_; first | refine o1_ ?_ | refine o2_ ?_ | refine o3_ ?_ | refine o4_ ?_ | refine o5_ ?_ | refine o6_ rfl ?_ | refine o7_ rfl ?_ | refine o8_ ?_ | refine o9_ ?_ | refine oa_ ?_ | refine ob_ ?_ | refine oc_ ?_ | refine od_ ?_ | refine oe_ ?_ | refine of_ ?_ | refine og_ ?_ | refine oh_ ?_ | refine oi_ ?_ | refine oj_ ?_ | refine ok_ ?_)) | refine at_go ?_ | (with_reducible refine And.intro (at_go ?_) (at_go ?_)) | ((with_reducible refine And.intro (fun h => ?_) (fun h => ?_)) <;> try (exfalso; omega)) | (with_reducible refine And.intro (by first | omega | (simp only [maxLen]; omega)) ?_) | fail | simp (disch := first | omega | (simp only [length_ints, length_prs, length_natsI, length_prsI, length_strs, List.length_set, List.length_reverse, List.length_replicate, List.length_append, List.length_cons, List.length_nil, List.length_map]; omega)) only [push_cast, ↓reduceIte, reduceIte, reduceCtorEq, Nat.reduceAdd, Nat.reduceLT, Nat.reduceEqDiff, Nat.reduceLeDiff, Int.reduceAdd, Int.reduceLT, Int.reduceLE, Nat.reduceMul, b1, b7, b19, b20, b21, e2])
        refine go_loop rfl (fun mz s' H' => ∃ i : Nat, i ≤ l.length ∧ mz = l.length - i ∧ H' = [] ∧ s' 1 = .sl 1 (ints q) d ∧ s' 7 = .bool true ∧ s' 9 = .sl 1 (ints (natsI l)) (some l.length) ∧ s' 19 = .sl 1 (rowsA (blkRowsL B)) (some B.length) ∧ s' 20 = .int .i64 B.length ∧ s' 21 = .int .i64 j ∧ s' 25 = .sl 1 (ints (natsI l)) (some l.length) ∧ s' 26 = .int .i64 l.length ∧ s' 27 = .int .i64 i ∧ (∀ x ∈ l.take i, gI q x = gI q (l.getD 0 0))) (m := l.length) (by (first | trivial | ((repeat' apply And.intro) <;> first | trivial | assumption | omega | (simp only [maxLen]; omega) | (simp only [length_ints, length_prs, length_natsI, length_prsI, length_strs, List.length_replicate, List.length_append, List.length_cons, List.length_nil, List.length_map, List.length_take, List.length_drop, List.length_set, List.length_reverse, maxLen] <;> omega)))) (Weak.refl _ _) ⟨0, by omega, by omega, rfl, ?_⟩ ?_
        · simp (disch := first | omega | (simp only [length_ints, length_prs, length_natsI, length_prsI, length_strs, List.length_set, List.length_reverse, List.length_replicate, List.length_append, List.length_cons, List.length_nil, List.length_map]; omega)) only [push_cast, ↓reduceIte, reduceIte, reduceCtorEq, Nat.reduceAdd, Nat.reduceLT, Nat.reduceEqDiff, Nat.reduceLeDiff, Int.reduceAdd, Int.reduceLT, Int.reduceLE, Nat.reduceMul, b1, b7, b19, b20, b21, e2]
          simp
        · rintro mz s' H' ⟨i, hi, rfl, rfl, b1, b7, b9, b19, b20, b21, b25, b26, b27, ii⟩
          rcases Nat.lt_or_ge i l.length with hlt2 | hge2
          · have e3 := natsI_ints l i hlt2
            have e4 := natsI_ints l 0 hl0
            have m1 := hl2 _ (getD_mem 0 hlt2)
            have m2 := hl2 _ (getD_mem 0 hl0)
            have e5 := getD_ints q (l.getD i 0) (by omega)
            have e6 := getD_ints q (l.getD 0 0) (by omega)
            have h5 : gI q (l.getD i 0) ≠ gI q (l.getD 0 0) → finB p q = false := fun w => hbad (by
              rw [blkF_take q l 0 hl0]; exact fun u => w (u _ (getD_mem 0 hlt2)))
            have h6 : gI q (l.getD i 0) = gI q (l.getD 0 0) → ∀ x ∈ l.take (i + 1), gI q x = gI q (l.getD 0 0) := fun w x hx => by
              rw [take_snoc l 0 i hlt2] at hx
              rcases List.mem_append.1 hx with u | u
              · exact ii x u
              · simp at u; rw [u]; simpa using w
            simp only [gI] at h5 h6
            generalize l.getD i 0 = x at *
            generalize l.getD 0 0 = y at *
            repeat' (first | (first | (refine a0_ ?_; first | refine a1_ rfl rfl ?_ | refine a2_ rfl ?_ | refine a3_ rfl rfl ?_ | refine a4_ rfl ?_ | refine a5_ rfl rfl rfl ?_ | refine a6_ rfl rfl ?_ | refine a7_ rfl rfl ?_ | refine a8_ rfl rfl ?_ | refine a9_ rfl rfl rfl ?_) | (refine g0_ ?_; first | refine g1_ rfl ?_ | refine g2_ rfl rfl ?_ | refine go_draw (dr := allQ) rfl rfl mixed (by first | assumption | kernel_rfl) ?_ | refine g4_ rfl ?_ | refine g5_ rfl ?_ | refine g6_ rfl ?_ | refine g7_ rfl ?_ | refine g8_ rfl ?_ | refine ga_ rfl ?_ | refine gb_ rfl ?_) | (refine o0_ ?_; first | refine o1_ ?_ | refine o2_ ?_ | refine o3_ ?_ | refine o4_ ?_ | refine o5_ ?_ | refine o6_ rfl ?_ | refine o7_ rfl ?_ | refine o8_ ?_ | refine o9_ ?_ | refine oa_ ?_ | refine ob_ ?_ | refine oc_ ?_ | refine od_ ?_ | refine oe_ ?_ | refine of_ ?_ | refine og_ ?_ | refine oh_ ?_ | refine oi_ ?_ | refine oj_ ?_ | refine ok_ ?_)) | refine at_go ?_ | (with_reducible refine And.intro (at_go ?_) (at_go ?_)) | ((with_reducible refine And.intro (fun h => ?_) (fun h => ?_)) <;> try (exfalso; omega)) | (with_reducible refine And.intro (by first | omega | (simp only [maxLen]; omega)) ?_) | fail | simp (disch := first | omega | (simp only [length_ints, length_prs, length_natsI, length_prsI, length_strs, List.length_set, List.length_reverse, List.length_replicate, List.length_append, List.length_cons, List.length_nil, List.length_map]; omega)) only [push_cast, ↓reduceIte, reduceIte, reduceCtorEq, Nat.reduceAdd, Nat.reduceLT, Nat.reduceEqDiff, Nat.reduceLeDiff, Int.reduceAdd, Int.reduceLT, Int.reduceLE, Nat.reduceMul, b1, b7, b9, b19, b20, b21, b25, b26, b27, e3, e4, e5, e6])
            · rw [h5 h]
            · refine out_round (l.length - (i + 1)) (by omega) (by (first | trivial | ((repeat' apply And.intro) <;> first | trivial | assumption | omega | (simp only [maxLen]; omega) | (simp only [length_ints, length_prs, length_natsI, length_prsI, length_strs, List.length_replicate, List.length_append, List.length_cons, List.length_nil, List.length_map, List.length_take, List.length_drop, List.length_set, List.length_reverse, maxLen] <;> omega)))) ⟨i + 1, by omega, rfl, rfl, ?_⟩
              simp (disch := first | omega | (simp only [length_ints, length_prs, length_natsI, length_prsI, length_strs, List.length_set, List.length_reverse, List.length_replicate, List.length_append, List.length_cons, List.length_nil, List.length_map]; omega)) only [push_cast, ↓reduceIte, reduceIte, reduceCtorEq, Nat.reduceAdd, Nat.reduceLT, Nat.reduceEqDiff, Nat.reduceLeDiff, Int.reduceAdd, Int.reduceLT, Int.reduceLE, Nat.reduceMul, b1, b7, b9, b19, b20, b21, b25, b26, b27, e3, e4, e5, e6]
              exact h6 h
          · obtain rfl : i = l.length := by omega
            rw [List.take_length] at ii
            have hg := hgood (by unfold blkF; rw [List.all_eq_true]; exact fun x hx => decide_eq_true (ii x hx))
            repeat' (first | (first | (refine a0_ ?_; first | refine a1_ rfl rfl ?_ | refine a2_ rfl ?_ | refine a3_ rfl rfl ?_ | refine a4_ rfl ?_ | refine a5_ rfl rfl rfl ?_ | refine a6_ rfl rfl ?_ | refine a7_ rfl rfl ?_ | refine a8_ rfl rfl ?_ | refine a9_ rfl rfl rfl ?_) | (refine g0_ ?_; first | refine g1_ rfl ?_ | refine g2_ rfl rfl ?_ | refine go_draw (dr := allQ) rfl rfl mixed (by first | assumption | kernel_rfl) ?_ | refine g4_ rfl ?_ | refine g5_ rfl ?_ | refine g6_ rfl ?_ | refine g7_ rfl ?_ | refine g8_ rfl ?_ | refine ga_ rfl ?_ | refine gb_ rfl ?_) | (refine o0_ ?_; first | refine o1_ ?_ | refine o2_ ?_ | refine o3_ ?_ | refine o4_ ?_ | refine o5_ ?_ | refine o6_ rfl ?_ | refine o7_ rfl ?_ | refine o8_ ?_ | refine o9_ ?_ | refine oa_ ?_ | refine ob_ ?_ | refine oc_ ?_ | refine od_ ?_ | refine oe_ ?_ | refine of_ ?_ | refine og_ ?_ | refine oh_ ?_ | refine oi_ ?_ | refine oj_ ?_ | refine ok_ ?_)) | refine at_go ?_ | (with_reducible refine And.intro (at_go ?_) (at_go ?_)) | ((with_reducible refine And.intro (fun h => ?_) (fun h => ?_)) <;> try (exfalso; omega)) | (with_reducible refine And.intro (by first | omega | (simp only [maxLen]; omega)) ?_) | fail | simp (disch := first | omega | (simp only [length_ints, length_prs, length_natsI, length_prsI, length_strs, List.length_set, List.length_reverse, List.length_replicate, List.length_append, List.length_cons, List.length_nil, List.length_map]; omega)) only [push_cast, ↓reduceIte, reduceIte, reduceCtorEq, Nat.reduceAdd, Nat.reduceLT, Nat.reduceEqDiff, Nat.reduceLeDiff, Int.reduceAdd, Int.reduceLT, Int.reduceLE, Nat.reduceMul, b1, b7, b9, b19, b20, b21, b25, b26, b27])
            refine out_round (B.length - (j + 1)) (by omega) (by (first | trivial | ((repeat' apply And.intro) <;> first | trivial | assumption | omega | (simp only [maxLen]; omega) | (simp only [length_ints, length_prs, length_natsI, length_prsI, length_strs, List.length_replicate, List.length_append, List.length_cons, List.length_nil, List.length_map, List.length_take, List.length_drop, List.length_set, List.length_reverse, maxLen] <;> omega)))) ⟨j + 1, by omega, rfl, rfl, ?_⟩
            simp (disch := first | omega | (simp only [length_ints, length_prs, length_natsI, length_prsI, length_strs, List.length_set, List.length_reverse, List.length_replicate, List.length_append, List.length_cons, List.length_nil, List.length_map]; omega)) only [push_cast, ↓reduceIte, reduceIte, reduceCtorEq, Nat.reduceAdd, Nat.reduceLT, Nat.reduceEqDiff, Nat.reduceLeDiff, Int.reduceAdd, Int.reduceLT, Int.reduceLE, Nat.reduceMul, b1, b7, b9, b19, b20, b21, b25, b26, b27]
            exact hg
      · obtain rfl : j = B.length := by omega
        rw [List.take_length, ← hfin] at ij
        repeat' (first | (first | (refine a0_ ?_; first | refine a1_ rfl rfl ?_ | refine a2_ rfl ?_ | refine a3_ rfl rfl ?_ | refine a4_ rfl ?_ | refine a5_ rfl rfl rfl ?_ | refine a6_ rfl rfl ?_ | refine a7_ rfl rfl ?_ | refine a8_ rfl rfl ?_ | refine a9_ rfl rfl rfl ?_) | (refine g0_ ?_; first | refine g1_ rfl ?_ | refine g2_ rfl rfl ?_ | refine go_draw (dr := allQ) rfl rfl mixed (by first | assumption | kernel_rfl) ?_ | refine g4_ rfl ?_ | refine g5_ rfl ?_ | refine g6_ rfl ?_ | refine g7_ rfl ?_ | refine g8_ rfl ?_ | refine ga_ rfl ?_ | refine gb_ rfl ?_) | (refine o0_ ?_; first | refine o1_ ?_ | refine o2_ ?_ | refine o3_ ?_ | refine o4_ ?_ | refine o5_ ?_ | refine o6_ rfl ?_ | refine o7_ rfl ?_ | refine o8_ ?_ | refine o9_ ?_ | refine oa_ ?_ | refine ob_ ?_ | refine oc_ ?_ | refine od_ ?_ | refine oe_ ?_ | refine of_ ?_ | refine og_ ?_ | refine oh_ ?_ | refine oi_ ?_ | refine oj_ ?_ | refine ok_ ?_)) | refine at_go ?_ | (with_reducible refine And.intro (at_go ?_) (at_go ?_)) | ((with_reducible refine And.intro (fun h => ?_) (fun h => ?_)) <;> try (exfalso; omega)) | (with_reducible refine And.intro (by first | omega | (simp only [maxLen]; omega)) ?_) | fail | simp (disch := first | omega | (simp only [length_ints, length_prs, length_natsI, length_prsI, length_strs, List.length_set, List.length_reverse, List.length_replicate, List.length_append, List.length_cons, List.length_nil, List.length_map]; omega)) only [push_cast, ↓reduceIte, reduceIte, reduceCtorEq, Nat.reduceAdd, Nat.reduceLT, Nat.reduceEqDiff, Nat.reduceLeDiff, Int.reduceAdd, Int.reduceLT, Int.reduceLE, Nat.reduceMul, b1, b7, b19, b20, b21])
        rw [ij]
  · rw [if_pos he]
    repeat' (first | (first | (refine a0_ ?_; first | refine a1_ rfl rfl ?_ | refine a2_ rfl ?_ | refine a3_ rfl rfl ?_ | refine a4_ rfl ?_ | refine a5_ rfl rfl rfl ?_ | refine a6_ rfl rfl ?_ | refine a7_ rfl rfl ?_ | refine a8_ rfl rfl ?_ | refine a9_ rfl rfl rfl ?_) | (refine g0_ ?_; first | refine g1_ rfl ?_ | refine g2_ rfl rfl ?_ | refine go_draw (dr := allQ) rfl rfl mixed (by first | assumption | kernel_rfl) ?_ | refine g4_ rfl ?_ | refine g5_ rfl ?_ | refine g6_ rfl ?_ | refine g7_ rfl ?_ | refine g8_ rfl ?_ | refine ga_ rfl ?_ | refine gb_ rfl ?_) | (refine o0_ ?_; first | refine o1_ ?_ | refine o2_ ?_ | refine o3_ ?_ | refine o4_ ?_ | refine o5_ ?_ | refine o6_ rfl ?_ | refine o7_ rfl ?_ | refine o8_ ?_ | refine o9_ ?_ | refine oa_ ?_ | refine ob_ ?_ | refine oc_ ?_ | refine od_ ?_ | refine oe_ ?_ | refine of_ ?_ | refine og_ ?_ | refine oh_ ?_ | refine oi_ ?_ | refine oj_ ?_ | refine ok_ ?_)) | refine at_go ?_ | (with_reducible refine And.intro (at_go ?_) (at_go ?_)) | ((with_reducible refine And.intro (fun h => ?_) (fun h => ?_)) <;> try (exfalso; omega)) | (with_reducible refine And.intro (by first | omega | (simp only [maxLen]; omega)) ?_) | (first | (refine ⟨_, _, pc_lift (h1) (by (simp [idsL, idsE, AV.ids, Nat.add_zero])) _, ?_⟩) | (refine ⟨_, pc_lift (h1) (by (simp [idsL, idsE, AV.ids, Nat.add_zero])) _, ?_⟩) | (refine ⟨_, fun _ => pc_lift (h1) (by (simp [idsL, idsE, AV.ids, Nat.add_zero])) _, ?_⟩)) | simp (disch := first | omega | (simp only [length_ints, length_prs, length_natsI, length_prsI, length_strs, List.length_set, List.length_reverse, List.length_replicate, List.length_append, List.length_cons, List.length_nil, List.length_map]; omega)) only [push_cast, ↓reduceIte, reduceIte, reduceCtorEq, Nat.reduceAdd, Nat.reduceLT, Nat.reduceEqDiff, Nat.reduceLeDiff, Int.reduceAdd, Int.reduceLT, Int.reduceLE, Nat.reduceMul, a0, a1, he])
/-! ### Text -/
theorem join_len (sep : Bs) (m : Nat) : ∀ (l : List Bs), (∀ x ∈ l, x.length ≤ m) → (Lib.join l sep).length ≤ l.length * (m + sep.length)
  | [], _ => by simp [Lib.join, List.intercalate]
  | [x], h => by
    rw [join_one]
    have := h x (by simp)
    simp; omega
  | x :: y :: r, h => by
    have ih := join_len sep m (y :: r) fun z hz => h z (List.mem_cons_of_mem _ hz)
    have hx := h x (by simp)
    rw [join_cons2, List.length_append, List.length_append]
    have e : (x :: y :: r).length * (m + sep.length) = (y :: r).length * (m + sep.length) + (m + sep.length) := by
      simp only [List.length_cons]; rw [Nat.succ_mul]
    omega
theorem dec_len : ∀ (k u : Nat), u < 10 ^ k → 0 < k → (Lib.decDigits u).length ≤ k
  | 0, u, _, h => by omega
  | k + 1, u, hu, _ => by
    rw [Lib.decDigits]
    split
    · simp
    · rename_i hb
      have hk : 0 < k := by
        rcases Nat.eq_zero_or_pos k with q | q
        · subst q; omega
        · exact q
      have := dec_len k (u / 10) (by rw [Nat.pow_succ] at hu; omega) hk
      simp; omega
theorem numT_len (i : Nat) (h : i ≤ 1000000) : (numT i).length ≤ 19 := by
  rw [numT, Lib.itoa, if_neg (by omega)]
  exact dec_len 19 _ (by omega) (by omega)
theorem text35 (p : List Int) (c : Option Nat) (hx : p.length ≤ 1000) (hv : Valid p) : PC Tryd.prog G0 35 [.sl 1 (ints p) c] (.str (textC p)) := by
  rw [textC]
  refine pc_go 0 39 [.tmp 2] Tryd.func35 rfl rfl rfl (by simp) ?_
  intro s ⟨a0, hz⟩
  clear hz
  by_cases hp0 : p = []
  · subst hp0
    repeat' (first | (first | (refine a0_ ?_; first | refine a1_ rfl rfl ?_ | refine a2_ rfl ?_ | refine a3_ rfl rfl ?_ | refine a4_ rfl ?_ | refine a5_ rfl rfl rfl ?_ | refine a6_ rfl rfl ?_ | refine a7_ rfl rfl ?_ | refine a8_ rfl rfl ?_ | refine a9_ rfl rfl rfl ?_) | (refine g0_ ?_; first | refine g1_ rfl ?_ | refine g2_ rfl rfl ?_ | refine go_draw (dr := allQ) rfl rfl mixed (by first | assumption | kernel_rfl) ?_ | refine g4_ rfl ?_ | refine g5_ rfl ?_ | refine g6_ rfl ?_ | refine g7_ rfl ?_ | refine g8_ rfl ?_ | refine ga_ rfl ?_ | refine gb_ rfl ?_) | (refine o0_ ?_; first | refine o1_ ?_ | refine o2_ ?_ | refine o3_ ?_ | refine o4_ ?_ | refine o5_ ?_ | refine o6_ rfl ?_ | refine o7_ rfl ?_ | refine o8_ ?_ | refine o9_ ?_ | refine oa_ ?_ | refine ob_ ?_ | refine oc_ ?_ | refine od_ ?_ | refine oe_ ?_ | refine of_ ?_ | refine og_ ?_ | refine oh_ ?_ | refine oi_ ?_ | refine oj_ ?_ | refine ok_ ?_)) | refine at_go ?_ | (with_reducible refine And.intro (at_go ?_) (at_go ?_)) | ((with_reducible refine And.intro (fun h => ?_) (fun h => ?_)) <;> try (exfalso; omega)) | (with_reducible refine And.intro (by first | omega | (simp only [maxLen]; omega)) ?_) | fail | simp (disch := first | omega | (simp only [length_ints, length_prs, length_natsI, length_prsI, length_strs, List.length_set, List.length_reverse, List.length_replicate, List.length_append, List.length_cons, List.length_nil, List.length_map]; omega)) only [push_cast, ↓reduceIte, reduceIte, reduceCtorEq, Nat.reduceAdd, Nat.reduceLT, Nat.reduceEqDiff, Nat.reduceLeDiff, Int.reduceAdd, Int.reduceLT, Int.reduceLE, Nat.reduceMul, a0])
  · have hpos : 0 < p.length := List.length_pos_iff.2 hp0
    rw [if_neg hp0]
    have hB := blocks34 p c (by omega) hv
    rw [blkRows_L, ← length_blocksM] at hB
    have hnB : (blocksM p).length ≤ 1000 := by
      rw [length_blocksM, valid_count hv]; have := dd_len_le p; omega
    have hlB : ∀ l ∈ blocksM p, l.length ≤ 1000 ∧ ∀ i ∈ l, i ≤ 1000 := fun l hl' => by
      obtain ⟨b, hb, rfl⟩ := List.mem_map.1 hl'
      exact ⟨by have := idxs_len p b; omega, fun i hi => by have := (mem_idxs.1 hi).1; omega⟩
    have hpl : ¬ (p.length : Int) = 0 := by omega
    generalize blocksM p = B at *
    repeat' (first | (first | (refine a0_ ?_; first | refine a1_ rfl rfl ?_ | refine a2_ rfl ?_ | refine a3_ rfl rfl ?_ | refine a4_ rfl ?_ | refine a5_ rfl rfl rfl ?_ | refine a6_ rfl rfl ?_ | refine a7_ rfl rfl ?_ | refine a8_ rfl rfl ?_ | refine a9_ rfl rfl rfl ?_) | (refine g0_ ?_; first | refine g1_ rfl ?_ | refine g2_ rfl rfl ?_ | refine go_draw (dr := allQ) rfl rfl mixed (by first | assumption | kernel_rfl) ?_ | refine g4_ rfl ?_ | refine g5_ rfl ?_ | refine g6_ rfl ?_ | refine g7_ rfl ?_ | refine g8_ rfl ?_ | refine ga_ rfl ?_ | refine gb_ rfl ?_) | (refine o0_ ?_; first | refine o1_ ?_ | refine o2_ ?_ | refine o3_ ?_ | refine o4_ ?_ | refine o5_ ?_ | refine o6_ rfl ?_ | refine o7_ rfl ?_ | refine o8_ ?_ | refine o9_ ?_ | refine oa_ ?_ | refine ob_ ?_ | refine oc_ ?_ | refine od_ ?_ | refine oe_ ?_ | refine of_ ?_ | refine og_ ?_ | refine oh_ ?_ | refine oi_ ?_ | refine oj_ ?_ | refine ok_ ?_)) | refine at_go ?_ | (with_reducible refine And.intro (at_go ?_) (at_go ?_)) | ((with_reducible refine And.intro (fun h => ?_) (fun h => ?_)) <;> try (exfalso; omega)) | (with_reducible refine And.intro (by first | omega | (simp only [maxLen]; omega)) ?_) | (first | (refine ⟨_, _, pc_lift (hB) (by (simp [idsL, idsE, AV.ids, Nat.add_zero])) _, ?_⟩) | (refine ⟨_, pc_lift (hB) (by (simp [idsL, idsE, AV.ids, Nat.add_zero])) _, ?_⟩) | (refine ⟨_, fun _ => pc_lift (hB) (by (simp [idsL, idsE, AV.ids, Nat.add_zero])) _, ?_⟩)) | simp (disch := first | omega | (simp only [length_ints, length_prs, length_natsI, length_prsI, length_strs, List.length_set, List.length_reverse, List.length_replicate, List.length_append, List.length_cons, List.length_nil, List.length_map]; omega)) only [push_cast, ↓reduceIte, reduceIte, reduceCtorEq, Nat.reduceAdd, Nat.reduceLT, Nat.reduceEqDiff, Nat.reduceLeDiff, Int.reduceAdd, Int.reduceLT, Int.reduceLE, Nat.reduceMul, a0, hpl])
    refine go_weak (by (first | trivial | ((repeat' apply And.intro) <;> first | trivial | assumption | omega | (simp only [maxLen]; omega) | (simp only [length_ints, length_prs, length_natsI, length_prsI, length_strs, List.length_replicate, List.length_append, List.length_cons, List.length_nil, List.length_map, List.length_take, List.length_drop, List.length_set, List.length_reverse, maxLen] <;> omega)))) (weak_nil (t := 3) (sz := 1) (ty := 9) rfl) ?_
    refine go_loop rfl (fun mz s' H' => ∃ j : Nat, j ≤ B.length ∧ mz = B.length - j ∧ H' = [.row 1 9 (strs ((B.take j).map blkT))] ∧ s' 3 = .own 0 j j none ∧ s' 13 = .sl 1 (rowsA (blkRowsL B)) (some B.length) ∧ s' 14 = .int .i64 B.length ∧ s' 15 = .int .i64 j) (m := B.length) (by (first | trivial | ((repeat' apply And.intro) <;> first | trivial | assumption | omega | (simp only [maxLen]; omega) | (simp only [length_ints, length_prs, length_natsI, length_prsI, length_strs, List.length_replicate, List.length_append, List.length_cons, List.length_nil, List.length_map, List.length_take, List.length_drop, List.length_set, List.length_reverse, maxLen] <;> omega)))) (Weak.refl _ _) ⟨0, by omega, by omega, (by first | rfl | simp [strs, List.take_zero, List.map_nil]), ?_⟩ ?_
    · simp (disch := first | omega | (simp only [length_ints, length_prs, length_natsI, length_prsI, length_strs, List.length_set, List.length_reverse, List.length_replicate, List.length_append, List.length_cons, List.length_nil, List.length_map]; omega)) only [push_cast, ↓reduceIte, reduceIte, reduceCtorEq, Nat.reduceAdd, Nat.reduceLT, Nat.reduceEqDiff, Nat.reduceLeDiff, Int.reduceAdd, Int.reduceLT, Int.reduceLE, Nat.reduceMul, a0, hpl]
    · rintro mz s' H' ⟨j, hj, rfl, rfl, b3, b13, b14, b15⟩
      have hTl : ∀ j, j ≤ B.length → ((B.take j).map blkT).length = j := fun j h => by simp; omega
      rcases Nat.lt_or_ge j B.length with hlt | hge
      · have e2 := getD_blkRowsL B j hlt
        obtain ⟨hl1, hl2⟩ := hlB _ (getD_mem [] hlt)
        have e3 := take_succ_map blkT B [] j hlt
        have hT := hTl j (by omega)
        have e4 := strs_snoc ((B.take j).map blkT) (blkT (B.getD j []))
        rw [← e3] at e4
        generalize (B.take j).map blkT = T at *
        generalize B.getD j [] = l at *
        repeat' (first | (first | (refine a0_ ?_; first | refine a1_ rfl rfl ?_ | refine a2_ rfl ?_ | refine a3_ rfl rfl ?_ | refine a4_ rfl ?_ | refine a5_ rfl rfl rfl ?_ | refine a6_ rfl rfl ?_ | refine a7_ rfl rfl ?_ | refine a8_ rfl rfl ?_ | refine a9_ rfl rfl rfl ?_) | (refine g0_ ?_; first | refine g1_ rfl ?_ | refine g2_ rfl rfl ?_ | refine go_draw (dr := allQ) rfl rfl mixed (by first | assumption | kernel_rfl) ?_ | refine g4_ rfl ?_ | refine g5_ rfl ?_ | refine g6_ rfl ?_ | refine g7_ rfl ?_ | refine g8_ rfl ?_ | refine ga_ rfl ?_ | refine gb_ rfl ?_) | (refine o0_ ?_; first | refine o1_ ?_ | refine o2_ ?_ | refine o3_ ?_ | refine o4_ ?_ | refine o5_ ?_ | refine o6_ rfl ?_ | refine o7_ rfl ?_ | refine o8_ ?_ | refine o9_ ?_ | refine oa_ ?_ | refine ob_ ?_ | refine oc_ ?_ | refine od_ ?_ | refine oe_ ?_ | refine of_ ?_ | refine og_ ?_ | refine oh_ ?_ | refine oi_ ?_ | refine oj_ ?_ | refine ok_ ?_)) | refine at_go ?_ | (with_reducible refine And.intro (at_go ?_) (at_go ?_)) | ((with_reducible refine And.intro (fun h => ?_) (fun h => ?_)) <;> try (exfalso; omega)) | (with_reducible refine And.intro (by first | omega | (simp only [maxLen]; omega)) ?_) | fail | simp (disch := first | omega | (simp only [length_ints, length_prs, length_natsI, length_prsI, length_strs, List.length_set, List.length_reverse, List.length_replicate, List.length_append, List.length_cons, List.length_nil, List.length_map]; omega)) only [push_cast, ↓reduceIte, reduceIte, reduceCtorEq, Nat.reduceAdd, Nat.reduceLT, Nat.reduceEqDiff, Nat.reduceLeDiff, Int.reduceAdd, Int.reduceLT, Int.reduceLE, Nat.reduceMul, b3, b13, b14, b15, e2])
        refine go_weak (by (first | trivial | ((repeat' apply And.intro) <;> first | trivial | assumption | omega | (simp only [maxLen]; omega) | (simp only [length_ints, length_prs, length_natsI, length_prsI, length_strs, List.length_replicate, List.length_append, List.length_cons, List.length_nil, List.length_map, List.length_take, List.length_drop, List.length_set, List.length_reverse, maxLen] <;> omega)))) (weak_nil (t := 6) (sz := 1) (ty := 9) rfl) ?_
        refine go_loop rfl (fun mz s' H' => ∃ i : Nat, i ≤ l.length ∧ mz = l.length - i ∧ H' = [.row 1 9 (strs T), .row 1 9 (strs ((l.take i).map numT))] ∧ s' 3 = .own 0 j j none ∧ s' 6 = .own 1 i i none ∧ s' 13 = .sl 1 (rowsA (blkRowsL B)) (some B.length) ∧ s' 14 = .int .i64 B.length ∧ s' 15 = .int .i64 j ∧ s' 19 = .sl 1 (ints (natsI l)) (some l.length) ∧ s' 20 = .int .i64 l.length ∧ s' 21 = .int .i64 i) (m := l.length) (by (first | trivial | ((repeat' apply And.intro) <;> first | trivial | assumption | omega | (simp only [maxLen]; omega) | (simp only [length_ints, length_prs, length_natsI, length_prsI, length_strs, List.length_replicate, List.length_append, List.length_cons, List.length_nil, List.length_map, List.length_take, List.length_drop, List.length_set, List.length_reverse, maxLen] <;> omega)))) (Weak.refl _ _) ⟨0, by omega, by omega, (by first | rfl | simp [strs, List.take_zero, List.map_nil]), ?_⟩ ?_
        · simp (disch := first | omega | (simp only [length_ints, length_prs, length_natsI, length_prsI, length_strs, List.length_set, List.length_reverse, List.length_replicate, List.length_append, List.length_cons, List.length_nil, List.length_map]; omega)) only [push_cast, ↓reduceIte, reduceIte, reduceCtorEq, Nat.reduceAdd, Nat.reduceLT, Nat.reduceEqDiff, Nat.reduceLeDiff, Int.reduceAdd, Int.reduceLT, Int.reduceLE, Nat.reduceMul, b3, b13, b14, b15, e2]
        · rintro mz s' H' ⟨i, hi, rfl, rfl, b3, b6, b13, b14, b15, b19, b20, b21⟩
          have hNl : ∀ i, i ≤ l.length → ((l.take i).map numT).length = i := fun i h => by simp; omega
          rcases Nat.lt_or_ge i l.length with hlt2 | hge2
          · have e5 := natsI_ints l i hlt2
            have e6 := take_succ_map numT l 0 i hlt2
            have e7 := strs_snoc ((l.take i).map numT) (numT (l.getD i 0))
            rw [← e6] at e7
            have hN := hNl i (by omega)
            have hit := fun H => itoa45 H (l.getD i 0 : Int) (by omega) (by have := hl2 _ (getD_mem 0 hlt2); omega)
            rw [← numT] at hit
            generalize (l.take i).map numT = N at *
            generalize l.getD i 0 = x at *
            repeat' (first | (first | (refine a0_ ?_; first | refine a1_ rfl rfl ?_ | refine a2_ rfl ?_ | refine a3_ rfl rfl ?_ | refine a4_ rfl ?_ | refine a5_ rfl rfl rfl ?_ | refine a6_ rfl rfl ?_ | refine a7_ rfl rfl ?_ | refine a8_ rfl rfl ?_ | refine a9_ rfl rfl rfl ?_) | (refine g0_ ?_; first | refine g1_ rfl ?_ | refine g2_ rfl rfl ?_ | refine go_draw (dr := allQ) rfl rfl mixed (by first | assumption | kernel_rfl) ?_ | refine g4_ rfl ?_ | refine g5_ rfl ?_ | refine g6_ rfl ?_ | refine g7_ rfl ?_ | refine g8_ rfl ?_ | refine ga_ rfl ?_ | refine gb_ rfl ?_) | (refine o0_ ?_; first | refine o1_ ?_ | refine o2_ ?_ | refine o3_ ?_ | refine o4_ ?_ | refine o5_ ?_ | refine o6_ rfl ?_ | refine o7_ rfl ?_ | refine o8_ ?_ | refine o9_ ?_ | refine oa_ ?_ | refine ob_ ?_ | refine oc_ ?_ | refine od_ ?_ | refine oe_ ?_ | refine of_ ?_ | refine og_ ?_ | refine oh_ ?_ | refine oi_ ?_ | refine oj_ ?_ | refine ok_ ?_)) | refine at_go ?_ | (with_reducible refine And.intro (at_go ?_) (at_go ?_)) | ((with_reducible refine And.intro (fun h => ?_) (fun h => ?_)) <;> try (exfalso; omega)) | (with_reducible refine And.intro (by first | omega | (simp only [maxLen]; omega)) ?_) | (first | (refine ⟨_, _, hit _, ?_⟩) | (refine ⟨_, hit _, ?_⟩) | (refine ⟨_, fun _ => hit _, ?_⟩)) | simp (disch := first | omega | (simp only [length_ints, length_prs, length_natsI, length_prsI, length_strs, List.length_set, List.length_reverse, List.length_replicate, List.length_append, List.length_cons, List.length_nil, List.length_map]; omega)) only [push_cast, ↓reduceIte, reduceIte, reduceCtorEq, Nat.reduceAdd, Nat.reduceLT, Nat.reduceEqDiff, Nat.reduceLeDiff, Int.reduceAdd, Int.reduceLT, Int.reduceLE, Nat.reduceMul, b3, b6, b13, b14, b15, b19, b20, b21, e5, hT, hN])
            refine out_round (l.length - (i + 1)) (by omega) (by (first | trivial | ((repeat' apply And.intro) <;> first | trivial | assumption | omega | (simp only [maxLen]; omega) | (simp only [length_ints, length_prs, length_natsI, length_prsI, length_strs, List.length_replicate, List.length_append, List.length_cons, List.length_nil, List.length_map, List.length_take, List.length_drop, List.length_set, List.length_reverse, maxLen] <;> omega)))) ⟨i + 1, by omega, rfl, by rw [e7], ?_⟩
            simp (disch := first | omega | (simp only [length_ints, length_prs, length_natsI, length_prsI, length_strs, List.length_set, List.length_reverse, List.length_replicate, List.length_append, List.length_cons, List.length_nil, List.length_map]; omega)) only [push_cast, ↓reduceIte, reduceIte, reduceCtorEq, Nat.reduceAdd, Nat.reduceLT, Nat.reduceEqDiff, Nat.reduceLeDiff, Int.reduceAdd, Int.reduceLT, Int.reduceLE, Nat.reduceMul, b3, b6, b13, b14, b15, b19, b20, b21, e5, hT, hN]
          · obtain rfl : i = l.length := by omega
            have hN := hNl l.length (by omega)
            rw [List.take_length] at *
            have hj1 : (Lib.join (l.map numT) [32]).length ≤ 20000 := by
              have := join_len [32] 19 (l.map numT) fun x hx => by
                obtain ⟨i, hi, rfl⟩ := List.mem_map.1 hx
                exact numT_len i (by have := hl2 i hi; omega)
              rw [hN] at this
              have : l.length * (19 + 1) ≤ 1000 * 20 := Nat.mul_le_mul_right _ hl1
              simp at *; omega
            have hjc := fun H => join46 (.row 1 9 (strs T) :: .row 1 9 (strs (l.map numT)) :: H) (.own 1 l.length l.length none) (l.map numT) [32] (.inr ⟨1, l.length, none, 9, strs (l.map numT), by rw [length_strs, hN], rfl, by rw [length_strs, hN]; omega, by rw [List.take_of_length_le (by rw [length_strs, hN]; omega)]⟩) (by omega) (by omega)
            have eb : Lib.join (l.map numT) [32] = blkT l := rfl
            rw [eb] at hjc
            generalize blkT l = bl at *
            repeat' (first | (first | (refine a0_ ?_; first | refine a1_ rfl rfl ?_ | refine a2_ rfl ?_ | refine a3_ rfl rfl ?_ | refine a4_ rfl ?_ | refine a5_ rfl rfl rfl ?_ | refine a6_ rfl rfl ?_ | refine a7_ rfl rfl ?_ | refine a8_ rfl rfl ?_ | refine a9_ rfl rfl rfl ?_) | (refine g0_ ?_; first | refine g1_ rfl ?_ | refine g2_ rfl rfl ?_ | refine go_draw (dr := allQ) rfl rfl mixed (by first | assumption | kernel_rfl) ?_ | refine g4_ rfl ?_ | refine g5_ rfl ?_ | refine g6_ rfl ?_ | refine g7_ rfl ?_ | refine g8_ rfl ?_ | refine ga_ rfl ?_ | refine gb_ rfl ?_) | (refine o0_ ?_; first | refine o1_ ?_ | refine o2_ ?_ | refine o3_ ?_ | refine o4_ ?_ | refine o5_ ?_ | refine o6_ rfl ?_ | refine o7_ rfl ?_ | refine o8_ ?_ | refine o9_ ?_ | refine oa_ ?_ | refine ob_ ?_ | refine oc_ ?_ | refine od_ ?_ | refine oe_ ?_ | refine of_ ?_ | refine og_ ?_ | refine oh_ ?_ | refine oi_ ?_ | refine oj_ ?_ | refine ok_ ?_)) | refine at_go ?_ | (with_reducible refine And.intro (at_go ?_) (at_go ?_)) | ((with_reducible refine And.intro (fun h => ?_) (fun h => ?_)) <;> try (exfalso; omega)) | (with_reducible refine And.intro (by first | omega | (simp only [maxLen]; omega)) ?_) | (first | (refine ⟨_, _, hjc _, ?_⟩) | (refine ⟨_, hjc _, ?_⟩) | (refine ⟨_, fun _ => hjc _, ?_⟩)) | simp (disch := first | omega | (simp only [length_ints, length_prs, length_natsI, length_prsI, length_strs, List.length_set, List.length_reverse, List.length_replicate, List.length_append, List.length_cons, List.length_nil, List.length_map]; omega)) only [push_cast, ↓reduceIte, reduceIte, reduceCtorEq, Nat.reduceAdd, Nat.reduceLT, Nat.reduceEqDiff, Nat.reduceLeDiff, Int.reduceAdd, Int.reduceLT, Int.reduceLE, Nat.reduceMul, b3, b6, b13, b14, b15, b19, b20, b21, hT])
            refine out_round_take (B.length - (j + 1)) 1 (by omega) (by (first | trivial | ((repeat' apply And.intro) <;> first | trivial | assumption | omega | (simp only [maxLen]; omega) | (simp only [length_ints, length_prs, length_natsI, length_prsI, length_strs, List.length_replicate, List.length_append, List.length_cons, List.length_nil, List.length_map, List.length_take, List.length_drop, List.length_set, List.length_reverse, maxLen] <;> omega)))) (by omega) (by simp) (by simp [Blk.below, idsE, idsL, AV.ids, idsE_strs]) ⟨j + 1, by omega, rfl, by rw [← e4]; rfl, ?_⟩
            simp (disch := first | omega | (simp only [length_ints, length_prs, length_natsI, length_prsI, length_strs, List.length_set, List.length_reverse, List.length_replicate, List.length_append, List.length_cons, List.length_nil, List.length_map]; omega)) only [push_cast, ↓reduceIte, reduceIte, reduceCtorEq, Nat.reduceAdd, Nat.reduceLT, Nat.reduceEqDiff, Nat.reduceLeDiff, Int.reduceAdd, Int.reduceLT, Int.reduceLE, Nat.reduceMul, b3, b6, b13, b14, b15, b19, b20, b21, scrub, AV.ids, idsL]
      · obtain rfl : j = B.length := by omega
        have hT := hTl B.length (by omega)
        rw [List.take_length] at *
        have hj2 : (Lib.join (B.map blkT) bar).length ≤ 140737488355328 := by
          have := join_len bar 20000 (B.map blkT) fun x hx => by
            obtain ⟨l, hl, rfl⟩ := List.mem_map.1 hx
            obtain ⟨hl1, hl2⟩ := hlB l hl
            have := join_len [32] 19 (l.map numT) fun x hx => by
              obtain ⟨i, hi, rfl⟩ := List.mem_map.1 hx
              exact numT_len i (by have := hl2 i hi; omega)
            have h3 : l.length * (19 + 1) ≤ 1000 * 20 := Nat.mul_le_mul_right _ hl1
            simp only [List.length_map, List.length_cons, List.length_nil] at this
            show (Lib.join (l.map numT) [32]).length ≤ _
            omega
          rw [hT] at this
          have h4 : B.length * (20000 + bar.length) ≤ 1000 * (20000 + bar.length) := Nat.mul_le_mul_right _ hnB
          have h5 : bar.length = 3 := rfl
          rw [h5] at this h4
          omega
        have hjc := fun H => join46 (.row 1 9 (strs (B.map blkT)) :: H) (.own 0 B.length B.length none) (B.map blkT) bar (.inr ⟨0, B.length, none, 9, strs (B.map blkT), by rw [length_strs, hT], rfl, by rw [length_strs, hT]; omega, by rw [List.take_of_length_le (by rw [length_strs, hT]; omega)]⟩) hj2 (by omega)
        repeat' (first | (first | (refine a0_ ?_; first | refine a1_ rfl rfl ?_ | refine a2_ rfl ?_ | refine a3_ rfl rfl ?_ | refine a4_ rfl ?_ | refine a5_ rfl rfl rfl ?_ | refine a6_ rfl rfl ?_ | refine a7_ rfl rfl ?_ | refine a8_ rfl rfl ?_ | refine a9_ rfl rfl rfl ?_) | (refine g0_ ?_; first | refine g1_ rfl ?_ | refine g2_ rfl rfl ?_ | refine go_draw (dr := allQ) rfl rfl mixed (by first | assumption | kernel_rfl) ?_ | refine g4_ rfl ?_ | refine g5_ rfl ?_ | refine g6_ rfl ?_ | refine g7_ rfl ?_ | refine g8_ rfl ?_ | refine ga_ rfl ?_ | refine gb_ rfl ?_) | (refine o0_ ?_; first | refine o1_ ?_ | refine o2_ ?_ | refine o3_ ?_ | refine o4_ ?_ | refine o5_ ?_ | refine o6_ rfl ?_ | refine o7_ rfl ?_ | refine o8_ ?_ | refine o9_ ?_ | refine oa_ ?_ | refine ob_ ?_ | refine oc_ ?_ | refine od_ ?_ | refine oe_ ?_ | refine of_ ?_ | refine og_ ?_ | refine oh_ ?_ | refine oi_ ?_ | refine oj_ ?_ | refine ok_ ?_)) | refine at_go ?_ | (with_reducible refine And.intro (at_go ?_) (at_go ?_)) | ((with_reducible refine And.intro (fun h => ?_) (fun h => ?_)) <;> try (exfalso; omega)) | (with_reducible refine And.intro (by first | omega | (simp only [maxLen]; omega)) ?_) | (first | (refine ⟨_, _, hjc _, ?_⟩) | (refine ⟨_, hjc _, ?_⟩) | (refine ⟨_, fun _ => hjc _, ?_⟩)) | simp (disch := first | omega | (simp only [length_ints, length_prs, length_natsI, length_prsI, length_strs, List.length_set, List.length_reverse, List.length_replicate, List.length_append, List.length_cons, List.length_nil, List.length_map]; omega)) only [push_cast, ↓reduceIte, reduceIte, reduceCtorEq, Nat.reduceAdd, Nat.reduceLT, Nat.reduceEqDiff, Nat.reduceLeDiff, Int.reduceAdd, Int.reduceLT, Int.reduceLE, Nat.reduceMul, b3, b13, b14, b15])
theorem text14 (p : List Int) (c : Option Nat) (hx : p.length ≤ 1000) : PC Tryd.prog G0 14 [.sl 1 (ints p) c] (.tup [.str (if checkC p = 0 then textC p else []), .int .i64 (checkC p)]) := by
  have hv := @check_zero p
  have hC := check11 p c (by omega)
  generalize hE : checkC p = e at *
  refine pc_go 0 12 [.tmp 2, .tmp 3] Tryd.func14 rfl rfl rfl (by simp) ?_
  intro s ⟨a0, hz⟩
  clear hz
  by_cases he : e = 0
  · subst he
    have h2 := text35 p c hx (hv rfl).1
    repeat' (first | (first | (refine a0_ ?_; first | refine a1_ rfl rfl ?_ | refine a2_ rfl ?_ | refine a3_ rfl rfl ?_ | refine a4_ rfl ?_ | refine a5_ rfl rfl rfl ?_ | refine a6_ rfl rfl ?_ | refine a7_ rfl rfl ?_ | refine a8_ rfl rfl ?_ | refine a9_ rfl rfl rfl ?_) | (refine g0_ ?_; first | refine g1_ rfl ?_ | refine g2_ rfl rfl ?_ | refine go_draw (dr := allQ) rfl rfl mixed (by first | assumption | kernel_rfl) ?_ | refine g4_ rfl ?_ | refine g5_ rfl ?_ | refine g6_ rfl ?_ | refine g7_ rfl ?_ | refine g8_ rfl ?_ | refine ga_ rfl ?_ | refine gb_ rfl ?_) | (refine o0_ ?_; first | refine o1_ ?_ | refine o2_ ?_ | refine o3_ ?_ | refine o4_ ?_ | refine o5_ ?_ | refine o6_ rfl ?_ | refine o7_ rfl ?_ | refine o8_ ?_ | refine o9_ ?_ | refine oa_ ?_ | refine ob_ ?_ | refine oc_ ?_ | refine od_ ?_ | refine oe_ ?_ | refine of_ ?_ | refine og_ ?_ | refine oh_ ?_ | refine oi_ ?_ | refine oj_ ?_ | refine ok_ ?_)) | refine at_go ?_ | (with_reducible refine And.intro (at_go ?_) (at_go ?_)) | ((with_reducible refine And.intro (fun h => ?_) (fun h => ?_)) <;> try (exfalso; omega)) | (with_reducible refine And.intro (by first | omega | (simp only [maxLen]; omega)) ?_) | (first | (refine ⟨_, _, pc_lift (hC) (by (simp [idsL, idsE, AV.ids, Nat.add_zero])) _, ?_⟩) | (refine ⟨_, pc_lift (hC) (by (simp [idsL, idsE, AV.ids, Nat.add_zero])) _, ?_⟩) | (refine ⟨_, fun _ => pc_lift (hC) (by (simp [idsL, idsE, AV.ids, Nat.add_zero])) _, ?_⟩) | (refine ⟨_, _, pc_lift (h2) (by (simp [idsL, idsE, AV.ids, Nat.add_zero])) _, ?_⟩) | (refine ⟨_, pc_lift (h2) (by (simp [idsL, idsE, AV.ids, Nat.add_zero])) _, ?_⟩) | (refine ⟨_, fun _ => pc_lift (h2) (by (simp [idsL, idsE, AV.ids, Nat.add_zero])) _, ?_⟩)) | simp (disch := first | omega | (simp only [length_ints, length_prs, length_natsI, length_prsI, length_strs, List.length_set, List.length_reverse, List.length_replicate, List.length_append, List.length_cons, List.length_nil, List.length_map]; omega)) only [push_cast, ↓reduceIte, reduceIte, reduceCtorEq, Nat.reduceAdd, Nat.reduceLT, Nat.reduceEqDiff, Nat.reduceLeDiff, Int.reduceAdd, Int.reduceLT, Int.reduceLE, Nat.reduceMul, a0])
  · rw [if_neg he]
    repeat' (first | (first | (refine a0_ ?_; first | refine a1_ rfl rfl ?_ | refine a2_ rfl ?_ | refine a3_ rfl rfl ?_ | refine a4_ rfl ?_ | refine a5_ rfl rfl rfl ?_ | refine a6_ rfl rfl ?_ | refine a7_ rfl rfl ?_ | refine a8_ rfl rfl ?_ | refine a9_ rfl rfl rfl ?_) | (refine g0_ ?_; first | refine g1_ rfl ?_ | refine g2_ rfl rfl ?_ | refine go_draw (dr := allQ) rfl rfl mixed (by first | assumption | kernel_rfl) ?_ | refine g4_ rfl ?_ | refine g5_ rfl ?_ | refine g6_ rfl ?_ | refine g7_ rfl ?_ | refine g8_ rfl ?_ | refine ga_ rfl ?_ | refine gb_ rfl ?_) | (refine o0_ ?_; first | refine o1_ ?_ | refine o2_ ?_ | refine o3_ ?_ | refine o4_ ?_ | refine o5_ ?_ | refine o6_ rfl ?_ | refine o7_ rfl ?_ | refine o8_ ?_ | refine o9_ ?_ | refine oa_ ?_ | refine ob_ ?_ | refine oc_ ?_ | refine od_ ?_ | refine oe_ ?_ | refine of_ ?_ | refine og_ ?_ | refine oh_ ?_ | refine oi_ ?_ | refine oj_ ?_ | refine ok_ ?_)) | refine at_go ?_ | (with_reducible refine And.intro (at_go ?_) (at_go ?_)) | ((with_reducible refine And.intro (fun h => ?_) (fun h => ?_)) <;> try (exfalso; omega)) | (with_reducible refine And.intro (by first | omega | (simp only [maxLen]; omega)) ?_) | (first | (refine ⟨_, _, pc_lift (hC) (by (simp [idsL, idsE, AV.ids, Nat.add_zero])) _, ?_⟩) | (refine ⟨_, pc_lift (hC) (by (simp [idsL, idsE, AV.ids, Nat.add_zero])) _, ?_⟩) | (refine ⟨_, fun _ => pc_lift (hC) (by (simp [idsL, idsE, AV.ids, Nat.add_zero])) _, ?_⟩)) | simp (disch := first | omega | (simp only [length_ints, length_prs, length_natsI, length_prsI, length_strs, List.length_set, List.length_reverse, List.length_replicate, List.length_append, List.length_cons, List.length_nil, List.length_map]; omega)) only [push_cast, ↓reduceIte, reduceIte, reduceCtorEq, Nat.reduceAdd, Nat.reduceLT, Nat.reduceEqDiff, Nat.reduceLeDiff, Int.reduceAdd, Int.reduceLT, Int.reduceLE, Nat.reduceMul, a0, he])
end Go.Proofs
