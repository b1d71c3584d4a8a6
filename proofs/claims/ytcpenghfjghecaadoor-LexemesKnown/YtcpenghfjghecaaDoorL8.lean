import Derived.Test.YtcpenghfjghecaaDoorL7
/- Lexemes: Text, walked. -/
namespace Go.Proofs
open Go Go.V
set_option linter.unusedVariables false
set_option linter.unusedSimpArgs false
set_option maxHeartbeats 0
set_option maxRecDepth 100000
theorem jn_join : ∀ l : List Bs, Lib.join l [32] = jn l
  | [] => rfl
  | [p] => by simp [Lib.join, List.intercalate, jn]
  | p :: q :: r => by
    have ih := jn_join (q :: r)
    rw [jn, ← ih]
    simp [Lib.join, List.intercalate, List.intersperse]
def txts (l : List Tk) : List Bs := l.map fun t => t.t
theorem length_txts (l : List Tk) : (txts l).length = l.length := by simp [txts]
/-- Words so far, empty ones behind. -/
def upT (l : List Tk) (k : Nat) : List Bs := (txts l).take k ++ List.replicate (l.length - k) []
theorem upT_len (l : List Tk) (k : Nat) (h : k ≤ l.length) : (upT l k).length = l.length := by simp [upT, length_txts]; omega
theorem upT_set (l : List Tk) (k : Nat) (h : k < l.length) : (strs (upT l k)).set k [.str (l.getD k tk0).t] = strs (upT l (k + 1)) := by
  have e : (strs (upT l k)).set k [.str (l.getD k tk0).t] = strs ((upT l k).set k (l.getD k tk0).t) := by rw [strs, strs, List.map_set]
  rw [e, upT, upT, List.set_append_right _ _ (by rw [List.length_take, length_txts]; omega), take_snoc (txts l) [] k (by rw [length_txts]; exact h)]
  have h1 : ((txts l).take k).length = k := by rw [List.length_take, length_txts]; omega
  obtain ⟨m, hm⟩ : ∃ m, l.length - k = m + 1 := ⟨l.length - k - 1, by omega⟩
  have h2 : (txts l).getD k [] = (l.getD k tk0).t := by simp [txts, h]
  rw [h1, Nat.sub_self, hm, show l.length - (k + 1) = m by omega, List.replicate_succ, List.set_cons_zero, h2, List.append_assoc]
  rfl
theorem upT_zero (l : List Tk) : strs (upT l 0) = List.replicate l.length [.str []] := by simp [upT, strs]
theorem upT_all (l : List Tk) : upT l l.length = txts l := by
  have : (txts l).length = l.length := length_txts l
  simp [upT, ← this]
def goodT (l : List Tk) : Bool := l.all fun t => decide (chkT t.k t.t = 0)
def sizeT (l : List Tk) (k : Nat) : Nat := (jn ((txts l).take k)).length
theorem chkT_or (k : Int) (w : Bs) : chkT k w = 0 ∨ chkT k w = 1 := by unfold chkT; split <;> simp
theorem sizeT_succ (l : List Tk) (k : Nat) (h : k < l.length) : sizeT l (k + 1) = sizeT l k + ((l.getD k tk0).t.length + min k 1) := by
  have h2 : (txts l).getD k [] = (l.getD k tk0).t := by simp [txts, h]
  rw [sizeT, take_snoc (txts l) [] k (by rw [length_txts]; exact h), h2]
  rcases Nat.eq_zero_or_pos k with rfl | hk
  · simp [sizeT, jn]
  · rw [jn_snoc _ _ (by intro q; have := congrArg List.length q; rw [List.length_take, length_txts, List.length_nil] at this; omega)]
    simp only [List.length_append, List.length_cons, sizeT]
    omega
theorem sizeT_le (l : List Tk) (m : Nat) (hm : ∀ t ∈ l, t.t.length ≤ m) (k : Nat) (hk : k ≤ l.length) : sizeT l k ≤ k * (m + 1) := by
  have h := jn_len ((txts l).take k) m fun x hx => by
    have := List.mem_of_mem_take hx
    obtain ⟨t, ht, rfl⟩ := List.mem_map.1 this
    exact hm t ht
  rw [List.length_take, length_txts, Nat.min_eq_left hk] at h
  exact h
theorem text16 (l : List Tk) (c : Option Nat) (hl : l.length ≤ 60) (hm : ∀ t ∈ l, t.t.length ≤ 1000) : PC Tryd.prog G0 16 [.sl 4 (tks l) c] (.tup [.str (if goodT l = true then jn (txts l) else []), .int .i64 (if goodT l = true then 0 else 1)]) := by
  refine pc_go 0 42 [.tmp 2, .tmp 3] Tryd.func16 rfl rfl rfl (by simp) ?_
  intro s ⟨a0, hz⟩
  clear hz
  repeat' (first | (first | (refine a0_ ?_; first | refine a1_ rfl rfl ?_ | refine a2_ rfl ?_ | refine a3_ rfl rfl ?_ | refine a4_ rfl ?_ | refine a5_ rfl rfl rfl ?_ | refine a6_ rfl rfl ?_ | refine a7_ rfl rfl ?_ | refine a8_ rfl rfl ?_ | refine a9_ rfl rfl rfl ?_) | (refine g0_ ?_; first | refine g1_ rfl ?_ | refine g2_ rfl rfl ?_ | refine go_draw (dr := allQ) rfl rfl mixed (by first | assumption | kernel_rfl) ?_ | refine g4_ rfl ?_ | refine g5_ rfl ?_ | refine g6_ rfl ?_ | refine g7_ rfl ?_ | refine g8_ rfl ?_ | refine ga_ rfl ?_ | refine gb_ rfl ?_) | (refine o0_ ?_; first | refine o1_ ?_ | refine o2_ ?_ | refine o3_ ?_ | refine o4_ ?_ | refine o5_ ?_ | refine o6_ rfl ?_ | refine o7_ rfl ?_ | refine o8_ ?_ | refine o9_ ?_ | refine oa_ ?_ | refine ob_ ?_ | refine oc_ ?_ | refine od_ ?_ | refine oe_ ?_ | refine of_ ?_ | refine og_ ?_ | refine oh_ ?_ | refine oi_ ?_ | refine oj_ ?_ | refine ok_ ?_)) | refine at_go ?_ | (with_reducible refine And.intro (at_go ?_) (at_go ?_)) | ((with_reducible refine And.intro (fun h => ?_) (fun h => ?_)) <;> try (exfalso; omega)) | (with_reducible refine And.intro (by first | omega | (simp only [maxLen]; omega)) ?_) | fail | simp (disch := first | omega | (simp only [length_tks, length_strs, List.length_set, List.length_reverse, List.length_replicate, List.length_append, List.length_cons, List.length_nil, List.length_map]; omega)) only [push_cast, ↓reduceIte, reduceIte, reduceCtorEq, Nat.reduceAdd, Nat.reduceLT, Nat.reduceEqDiff, Nat.reduceLeDiff, Int.reduceAdd, Int.reduceLT, Int.reduceLE, Nat.reduceMul, a0])
  refine go_loop rfl (fun mz s' H' => ∃ k : Nat, k ≤ l.length ∧ mz = l.length - k ∧ H' = [.row 1 9 (strs (upT l k))] ∧ s' 4 = .int .i64 (sizeT l k) ∧ s' 5 = .own 0 l.length l.length (some l.length) ∧ s' 12 = .sl 4 (tks l) c ∧ s' 13 = .int .i64 l.length ∧ s' 14 = .int .i64 k ∧ (∀ j, j < k → chkT (l.getD j tk0).k (l.getD j tk0).t = 0)) (m := l.length) (by (first | trivial | ((repeat' apply And.intro) <;> first | trivial | assumption | omega | (simp only [maxLen]; omega) | (simp only [length_tks, length_strs, List.length_replicate, List.length_append, List.length_cons, List.length_nil, List.length_map, List.length_take, List.length_drop, List.length_set, List.length_reverse, maxLen] <;> omega)))) (Weak.refl _ _) ⟨0, by omega, by omega, (by first | rfl | simp [upT_zero, sizeT, jn]), ?_⟩ ?_
  · simp (disch := first | omega | (simp only [length_tks, length_strs, List.length_set, List.length_reverse, List.length_replicate, List.length_append, List.length_cons, List.length_nil, List.length_map]; omega)) only [push_cast, ↓reduceIte, reduceIte, reduceCtorEq, Nat.reduceAdd, Nat.reduceLT, Nat.reduceEqDiff, Nat.reduceLeDiff, Int.reduceAdd, Int.reduceLT, Int.reduceLE, Nat.reduceMul, a0]
    refine ⟨by simp [sizeT, jn], fun j q => absurd q (by omega)⟩
  · rintro mz s' H' ⟨k, hk, rfl, rfl, b4, b5, b12, b13, b14, ik⟩
    rcases Nat.lt_or_ge k l.length with hlt | hge
    · have e1 := getD_tks l k hlt
      have h13 := check13 (l.getD k tk0) (by have := hm _ (getD_mem tk0 hlt); omega)
      have hs := sizeT_le l 1000 hm k (by omega)
      have hs2 := sizeT_succ l k hlt
      have hb := hm _ (getD_mem tk0 hlt)
      have hset := upT_set l k hlt
      have hul := upT_len l k (by omega)
      have e5 := getD_strs (upT l k) k (by omega)
      have hk1 : k * (1000 + 1) ≤ 60 * (1000 + 1) := Nat.mul_le_mul_right _ (by omega)
      have hor := chkT_or (l.getD k tk0).k (l.getD k tk0).t
      have hno : chkT (l.getD k tk0).k (l.getD k tk0).t = 1 → goodT l = false := fun q => by
        rw [goodT, Bool.eq_false_iff]
        intro w
        have := of_decide_eq_true (List.all_eq_true.1 w _ (getD_mem tk0 hlt))
        omega
      have hst : chkT (l.getD k tk0).k (l.getD k tk0).t = 0 → ∀ j, j < k + 1 → chkT (l.getD j tk0).k (l.getD j tk0).t = 0 := fun q j hj => by
        by_cases e : j = k
        · subst e; exact q
        · exact ik j (by omega)
      have hmin : (if (1 : Int) < (k : Int) then (1 : Int) else k) = ((min k 1 : Nat) : Int) := by split <;> omega
      generalize l.getD k tk0 = x at *
      obtain ⟨xk, xt, xl, xc⟩ := x
      simp only [tkA] at e1 hno hst h13 hs2 hb hset hor
      rcases hor with hor | hor
      · rw [hor] at h13
        repeat' (first | (first | (refine a0_ ?_; first | refine a1_ rfl rfl ?_ | refine a2_ rfl ?_ | refine a3_ rfl rfl ?_ | refine a4_ rfl ?_ | refine a5_ rfl rfl rfl ?_ | refine a6_ rfl rfl ?_ | refine a7_ rfl rfl ?_ | refine a8_ rfl rfl ?_ | refine a9_ rfl rfl rfl ?_) | (refine g0_ ?_; first | refine g1_ rfl ?_ | refine g2_ rfl rfl ?_ | refine go_draw (dr := allQ) rfl rfl mixed (by first | assumption | kernel_rfl) ?_ | refine g4_ rfl ?_ | refine g5_ rfl ?_ | refine g6_ rfl ?_ | refine g7_ rfl ?_ | refine g8_ rfl ?_ | refine ga_ rfl ?_ | refine gb_ rfl ?_) | (refine o0_ ?_; first | refine o1_ ?_ | refine o2_ ?_ | refine o3_ ?_ | refine o4_ ?_ | refine o5_ ?_ | refine o6_ rfl ?_ | refine o7_ rfl ?_ | refine o8_ ?_ | refine o9_ ?_ | refine oa_ ?_ | refine ob_ ?_ | refine oc_ ?_ | refine od_ ?_ | refine oe_ ?_ | refine of_ ?_ | refine og_ ?_ | refine oh_ ?_ | refine oi_ ?_ | refine oj_ ?_ | refine ok_ ?_)) | refine at_go ?_ | (with_reducible refine And.intro (at_go ?_) (at_go ?_)) | ((with_reducible refine And.intro (fun h => ?_) (fun h => ?_)) <;> try (exfalso; omega)) | (with_reducible refine And.intro (by first | omega | (simp only [maxLen]; omega)) ?_) | (first | (refine ⟨_, _, pc_lift (h13) (by (simp [idsL, idsE, AV.ids, Nat.add_zero])) _, ?_⟩) | (refine ⟨_, pc_lift (h13) (by (simp [idsL, idsE, AV.ids, Nat.add_zero])) _, ?_⟩) | (refine ⟨_, fun _ => pc_lift (h13) (by (simp [idsL, idsE, AV.ids, Nat.add_zero])) _, ?_⟩)) | simp (disch := first | omega | (simp only [length_tks, length_strs, List.length_set, List.length_reverse, List.length_replicate, List.length_append, List.length_cons, List.length_nil, List.length_map]; omega)) only [push_cast, ↓reduceIte, reduceIte, reduceCtorEq, Nat.reduceAdd, Nat.reduceLT, Nat.reduceEqDiff, Nat.reduceLeDiff, Int.reduceAdd, Int.reduceLT, Int.reduceLE, Nat.reduceMul, b4, b5, b12, b13, b14, e1, hul, e5, hset, hmin])
        refine out_round_take (l.length - (k + 1)) 1 (by omega) (by (first | trivial | ((repeat' apply And.intro) <;> first | trivial | assumption | omega | (simp only [maxLen]; omega) | (simp only [length_tks, length_strs, List.length_replicate, List.length_append, List.length_cons, List.length_nil, List.length_map, List.length_take, List.length_drop, List.length_set, List.length_reverse, maxLen] <;> omega)))) (by omega) (by simp) (by simp [Blk.below, idsE, idsL, AV.ids]) ⟨k + 1, by omega, rfl, rfl, ?_⟩
        simp (disch := first | omega | (simp only [length_tks, length_strs, List.length_set, List.length_reverse, List.length_replicate, List.length_append, List.length_cons, List.length_nil, List.length_map]; omega)) only [push_cast, ↓reduceIte, reduceIte, reduceCtorEq, Nat.reduceAdd, Nat.reduceLT, Nat.reduceEqDiff, Nat.reduceLeDiff, Int.reduceAdd, Int.reduceLT, Int.reduceLE, Nat.reduceMul, b4, b5, b12, b13, b14, scrub, AV.ids, idsL, hs2]
        exact hst hor
      · rw [hor] at h13
        rw [hno hor]
        repeat' (first | (first | (refine a0_ ?_; first | refine a1_ rfl rfl ?_ | refine a2_ rfl ?_ | refine a3_ rfl rfl ?_ | refine a4_ rfl ?_ | refine a5_ rfl rfl rfl ?_ | refine a6_ rfl rfl ?_ | refine a7_ rfl rfl ?_ | refine a8_ rfl rfl ?_ | refine a9_ rfl rfl rfl ?_) | (refine g0_ ?_; first | refine g1_ rfl ?_ | refine g2_ rfl rfl ?_ | refine go_draw (dr := allQ) rfl rfl mixed (by first | assumption | kernel_rfl) ?_ | refine g4_ rfl ?_ | refine g5_ rfl ?_ | refine g6_ rfl ?_ | refine g7_ rfl ?_ | refine g8_ rfl ?_ | refine ga_ rfl ?_ | refine gb_ rfl ?_) | (refine o0_ ?_; first | refine o1_ ?_ | refine o2_ ?_ | refine o3_ ?_ | refine o4_ ?_ | refine o5_ ?_ | refine o6_ rfl ?_ | refine o7_ rfl ?_ | refine o8_ ?_ | refine o9_ ?_ | refine oa_ ?_ | refine ob_ ?_ | refine oc_ ?_ | refine od_ ?_ | refine oe_ ?_ | refine of_ ?_ | refine og_ ?_ | refine oh_ ?_ | refine oi_ ?_ | refine oj_ ?_ | refine ok_ ?_)) | refine at_go ?_ | (with_reducible refine And.intro (at_go ?_) (at_go ?_)) | ((with_reducible refine And.intro (fun h => ?_) (fun h => ?_)) <;> try (exfalso; omega)) | (with_reducible refine And.intro (by first | omega | (simp only [maxLen]; omega)) ?_) | (first | (refine ⟨_, _, pc_lift (h13) (by (simp [idsL, idsE, AV.ids, Nat.add_zero])) _, ?_⟩) | (refine ⟨_, pc_lift (h13) (by (simp [idsL, idsE, AV.ids, Nat.add_zero])) _, ?_⟩) | (refine ⟨_, fun _ => pc_lift (h13) (by (simp [idsL, idsE, AV.ids, Nat.add_zero])) _, ?_⟩)) | simp (disch := first | omega | (simp only [length_tks, length_strs, List.length_set, List.length_reverse, List.length_replicate, List.length_append, List.length_cons, List.length_nil, List.length_map]; omega)) only [push_cast, ↓reduceIte, reduceIte, reduceCtorEq, Nat.reduceAdd, Nat.reduceLT, Nat.reduceEqDiff, Nat.reduceLeDiff, Int.reduceAdd, Int.reduceLT, Int.reduceLE, Nat.reduceMul, b4, b5, b12, b13, b14, e1, hul])
        all_goals exact ⟨rfl, rfl⟩
    · obtain rfl : k = l.length := by omega
      have hg : goodT l = true := List.all_eq_true.2 fun t ht => by
        obtain ⟨j, hj, rfl⟩ := List.mem_iff_getElem.1 ht
        have := ik j hj
        simp only [List.getD_eq_getElem?_getD, List.getElem?_eq_getElem hj, Option.getD_some] at this
        exact decide_eq_true this
      have hs := sizeT_le l 1000 hm l.length (by omega)
      have hk1 : l.length * (1000 + 1) ≤ 60 * (1000 + 1) := Nat.mul_le_mul_right _ (by omega)
      have hsz : (jn (txts l)).length = sizeT l l.length := by
        rw [sizeT, List.take_of_length_le (by rw [length_txts]; omega)]
      have hlt := length_txts l
      have hj := fun H => join33 (.row 1 9 (strs (txts l)) :: H) (.own 0 l.length l.length (some l.length)) (txts l) [32] (.inr ⟨0, l.length, some l.length, 9, strs (txts l), by rw [length_strs, hlt], rfl, by rw [length_strs, hlt]; omega, by rw [List.take_of_length_le (by rw [length_strs, hlt]; omega)]⟩) (by rw [jn_join, hsz]; omega) (by rw [hlt]; omega)
      rw [jn_join] at hj
      rw [if_pos hg, if_pos hg]
      rw [upT_all]
      generalize sizeT l l.length = z at *
      generalize jn (txts l) = J at *
      repeat' (first | (first | (refine a0_ ?_; first | refine a1_ rfl rfl ?_ | refine a2_ rfl ?_ | refine a3_ rfl rfl ?_ | refine a4_ rfl ?_ | refine a5_ rfl rfl rfl ?_ | refine a6_ rfl rfl ?_ | refine a7_ rfl rfl ?_ | refine a8_ rfl rfl ?_ | refine a9_ rfl rfl rfl ?_) | (refine g0_ ?_; first | refine g1_ rfl ?_ | refine g2_ rfl rfl ?_ | refine go_draw (dr := allQ) rfl rfl mixed (by first | assumption | kernel_rfl) ?_ | refine g4_ rfl ?_ | refine g5_ rfl ?_ | refine g6_ rfl ?_ | refine g7_ rfl ?_ | refine g8_ rfl ?_ | refine ga_ rfl ?_ | refine gb_ rfl ?_) | (refine o0_ ?_; first | refine o1_ ?_ | refine o2_ ?_ | refine o3_ ?_ | refine o4_ ?_ | refine o5_ ?_ | refine o6_ rfl ?_ | refine o7_ rfl ?_ | refine o8_ ?_ | refine o9_ ?_ | refine oa_ ?_ | refine ob_ ?_ | refine oc_ ?_ | refine od_ ?_ | refine oe_ ?_ | refine of_ ?_ | refine og_ ?_ | refine oh_ ?_ | refine oi_ ?_ | refine oj_ ?_ | refine ok_ ?_)) | refine at_go ?_ | (with_reducible refine And.intro (at_go ?_) (at_go ?_)) | ((with_reducible refine And.intro (fun h => ?_) (fun h => ?_)) <;> try (exfalso; omega)) | (with_reducible refine And.intro (by first | omega | (simp only [maxLen]; omega)) ?_) | (first | (refine ⟨_, _, hj _, ?_⟩) | (refine ⟨_, hj _, ?_⟩) | (refine ⟨_, fun _ => hj _, ?_⟩)) | simp (disch := first | omega | (simp only [length_tks, length_strs, List.length_set, List.length_reverse, List.length_replicate, List.length_append, List.length_cons, List.length_nil, List.length_map]; omega)) only [push_cast, ↓reduceIte, reduceIte, reduceCtorEq, Nat.reduceAdd, Nat.reduceLT, Nat.reduceEqDiff, Nat.reduceLeDiff, Int.reduceAdd, Int.reduceLT, Int.reduceLE, Nat.reduceMul, b4, b5, b12, b13, b14])
      all_goals trace_state
end Go.Proofs
