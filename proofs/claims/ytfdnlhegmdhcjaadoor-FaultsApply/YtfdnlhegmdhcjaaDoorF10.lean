import Derived.Test.YtfdnlhegmdhcjaaDoorF3
namespace Go.Proofs
open Go Go.V
set_option linter.unusedVariables false
set_option linter.unusedSimpArgs false
set_option maxHeartbeats 0
def lastK (ks : List Int) (j : Nat) : Int := if j = 0 then -1 else ks.getD (j - 1) 0
def okK (ks : List Int) (j : Nat) : Bool := decide (lastK ks j < ks.getD j 0) && decide (ks.getD j 0 ≤ 4)
def kindsOk (ks : List Int) : Bool := (List.range ks.length).all (okK ks)
theorem kindsOk_no {ks : List Int} {j : Nat} (hj : j < ks.length) (h : okK ks j = false) : kindsOk ks = false := by
 rw [Bool.eq_false_iff]
 intro hh
 rw [kindsOk, List.all_eq_true] at hh
 have := hh j (List.mem_range.2 hj)
 rw [h] at this; cases this
theorem kindsOk_yes {ks : List Int} (h : ∀ j, j < ks.length → okK ks j = true) : kindsOk ks = true := by
 rw [kindsOk, List.all_eq_true]
 exact fun j hj => h j (List.mem_range.1 hj)
theorem lastK_succ (ks : List Int) (j : Nat) : lastK ks (j + 1) = ks.getD j 0 := by simp [lastK]
theorem kinds_low {ks : List Int} (h : kindsOk ks = true) : ∀ j, j < ks.length → 0 ≤ ks.getD j 0 ∧ ks.getD j 0 ≤ 4 ∧ lastK ks j < ks.getD j 0 ∧ -1 ≤ lastK ks j := by
 rw [kindsOk, List.all_eq_true] at h
 intro j
 induction j with
 | zero =>
  intro hj
  have := h 0 (List.mem_range.2 hj)
  simp only [okK, lastK, if_true, Bool.and_eq_true, decide_eq_true_eq] at this
  simp only [lastK, if_true]
  omega
 | succ j ih =>
  intro hj
  have := h (j + 1) (List.mem_range.2 hj)
  have ih := ih (by omega)
  simp only [okK, lastK_succ, Bool.and_eq_true, decide_eq_true_eq] at this
  rw [lastK_succ]
  omega
def readyM (i o : Int) (l : List Row) (ks : List Int) (most : Int) : Int :=
 if machOk i o l ≠ 0 then machOk i o l else if kindsOk ks = false then 1 else if ¬(0 ≤ most ∧ most < 65537) then 1 else if 3 ≤ lastK ks ks.length ∧ l.length = 64 then 3 else 0
set_option maxRecDepth 100000 in
theorem ready40 (i o : Int) (l : List Row) (z : Nat) (c : Option Nat) (zk : Nat) (ks : List Int) (ck : Option Nat) (most : Int) (hz : l = [] ∨ z = 1) (hl : l.length ≤ 1000000) (hr : ∀ j, j < l.length → (l.getD j ([], none)).1.length ≤ 1000000) (hzk : ks = [] ∨ zk = 1) (hkl : ks.length ≤ 1000000) :
  PC Tryd.prog G0 40 [.agg [.int .i64 i, .int .i64 o, .sl z (rowsA l) c], .sl zk (ints ks) ck, .int .i64 most] (.int .i64 (readyM i o l ks most)) := by
 have hC := check36 i o l z c hz hl hr
 have hW := within39 most 65537
 unfold readyM
 by_cases hm : machOk i o l = 0
 ·rw [if_neg (by rw [hm]; decide)]
  rw [hm] at hC
  refine pc_go 1 42 [.tmp 6] Tryd.func40 rfl rfl rfl (by simp) ?_
  intro s ⟨a0, a1, a2, hz⟩
  simp only [Nat.zero_add, Nat.reduceAdd] at a1 a2
  clear hz
  repeat' (first|(first|(refine a0_ ?_; first|refine a1_ rfl rfl ?_|refine a2_ rfl ?_|refine a3_ rfl rfl ?_|refine a4_ rfl ?_|refine ak_ rfl rfl ?_|refine a5_ rfl rfl rfl ?_|refine a6_ rfl rfl ?_|refine a7_ rfl rfl ?_|refine a8_ rfl rfl ?_|refine a9_ rfl rfl rfl ?_)|(refine g0_ ?_; first|refine g1_ rfl ?_|refine g2_ rfl rfl ?_|refine go_draw (dr := allQ) rfl rfl mixed (by first|assumption|kernel_rfl) ?_|refine g4_ rfl ?_|refine g5_ rfl ?_|refine g6_ rfl ?_|refine g7_ rfl ?_|refine g8_ rfl ?_|refine ga_ rfl ?_|refine gb_ rfl ?_)|(refine o0_ ?_; first|refine o1_ ?_|refine o2_ ?_|refine o3_ ?_|refine o4_ ?_|refine o5_ ?_|refine o6_ rfl ?_|refine o7_ rfl ?_|refine o8_ ?_|refine o9_ ?_|refine oa_ ?_|refine ob_ ?_|refine oc_ ?_|refine od_ ?_|refine oe_ ?_|refine of_ ?_|refine og_ ?_|refine oh_ ?_|refine oi_ ?_|refine oj_ ?_|refine ok_ ?_))|refine at_go ?_|(with_reducible refine And.intro (at_go ?_) (at_go ?_))|((with_reducible refine And.intro (fun h => ?_) (fun h => ?_)) <;> try (exfalso; omega))|(with_reducible refine And.intro (by first|omega|(simp only [maxLen]; omega)) ?_)|(refine And.intro ⟨[_], rfl⟩ ?_)|(refine And.intro ⟨[], by simp only [List.append_nil]⟩ ?_)|(first|(refine ⟨_, _, pc_lift (hC) (by (simp [idsL, idsE, AV.ids, Nat.add_zero])) _, ?_⟩)|(refine ⟨_, pc_lift (hC) (by (simp [idsL, idsE, AV.ids, Nat.add_zero])) _, ?_⟩)|(refine ⟨_, fun _ => pc_lift (hC) (by (simp [idsL, idsE, AV.ids, Nat.add_zero])) _, ?_⟩))|simp (disch := first|omega|(simp only [List.length_map, lenF, lenS]; omega)) only [push_cast, ↓reduceIte, reduceIte, reduceCtorEq, Nat.reduceAdd, Nat.reduceLT, Nat.reduceEqDiff, Nat.reduceLeDiff, Int.reduceAdd, Int.reduceLT, Int.reduceLE, Nat.reduceMul, a0, a1, a2, Int.reduceEq])
  refine go_loop rfl (fun mz s' H' => ∃ k : Nat, k ≤ ks.length ∧ mz = ks.length - k ∧ H' = [.row 3 30 [[.int .i64 i, .int .i64 o, .sl z (rowsA l) c]]] ∧ s' 2 = .int .i64 most ∧ s' 3 = .ptr 0 0 0 1 ∧ s' 8 = .int .i64 (lastK ks k) ∧ s' 16 = .sl zk (ints ks) ck ∧ s' 17 = .int .i64 ks.length ∧ s' 18 = .int .i64 k ∧ ∀ j, j < k → okK ks j = true) (m := ks.length) (by (first|trivial|((repeat' apply And.intro) <;> first|trivial|assumption|omega|(simp only [maxLen]; omega)|(simp only [List.length_map, maxLen, lenF, lenS] <;> omega)))) (Weak.refl _ _) ⟨0, by omega, by omega, rfl, ?_⟩ ?_
  ·simp (disch := first|omega|(simp only [List.length_map, lenF, lenS]; omega)) only [push_cast, ↓reduceIte, reduceIte, reduceCtorEq, Nat.reduceAdd, Nat.reduceLT, Nat.reduceEqDiff, Nat.reduceLeDiff, Int.reduceAdd, Int.reduceLT, Int.reduceLE, Nat.reduceMul, a0, a1, a2, Int.reduceEq]
   exact ⟨rfl, fun j hj => by omega⟩
  ·rintro mz s' H' ⟨k, hk, rfl, rfl, b2, b3, b8, b16, b17, b18, ik⟩
   rcases Nat.lt_or_ge k ks.length with hlt|hge
   ·obtain rfl : zk = 1 := by
     rcases hzk with q|q
     ·rw [q] at hlt; simp at hlt
     ·exact q
    have e1 := getD_ints ks k hlt
    have hs := snocB (P := fun j => okK ks j = true) (k := k) ik
    have hno := kindsOk_no (ks := ks) (j := k) hlt
    have hls := lastK_succ ks k
    have hok : okK ks k = (decide (lastK ks k < ks.getD k 0) && decide (ks.getD k 0 ≤ 4)) := rfl
    rw [hok] at hs hno
    generalize lastK ks k = la at *
    generalize ks.getD k 0 = x at *
    repeat' (first|(first|(refine a0_ ?_; first|refine a1_ rfl rfl ?_|refine a2_ rfl ?_|refine a3_ rfl rfl ?_|refine a4_ rfl ?_|refine ak_ rfl rfl ?_|refine a5_ rfl rfl rfl ?_|refine a6_ rfl rfl ?_|refine a7_ rfl rfl ?_|refine a8_ rfl rfl ?_|refine a9_ rfl rfl rfl ?_)|(refine g0_ ?_; first|refine g1_ rfl ?_|refine g2_ rfl rfl ?_|refine go_draw (dr := allQ) rfl rfl mixed (by first|assumption|kernel_rfl) ?_|refine g4_ rfl ?_|refine g5_ rfl ?_|refine g6_ rfl ?_|refine g7_ rfl ?_|refine g8_ rfl ?_|refine ga_ rfl ?_|refine gb_ rfl ?_)|(refine o0_ ?_; first|refine o1_ ?_|refine o2_ ?_|refine o3_ ?_|refine o4_ ?_|refine o5_ ?_|refine o6_ rfl ?_|refine o7_ rfl ?_|refine o8_ ?_|refine o9_ ?_|refine oa_ ?_|refine ob_ ?_|refine oc_ ?_|refine od_ ?_|refine oe_ ?_|refine of_ ?_|refine og_ ?_|refine oh_ ?_|refine oi_ ?_|refine oj_ ?_|refine ok_ ?_))|refine at_go ?_|(with_reducible refine And.intro (at_go ?_) (at_go ?_))|((with_reducible refine And.intro (fun h => ?_) (fun h => ?_)) <;> try (exfalso; omega))|(with_reducible refine And.intro (by first|omega|(simp only [maxLen]; omega)) ?_)|(refine And.intro ⟨[_], rfl⟩ ?_)|(refine And.intro ⟨[], by simp only [List.append_nil]⟩ ?_)|fail|simp (disch := first|omega|(simp only [List.length_map, lenF, lenS]; omega)) only [push_cast, ↓reduceIte, reduceIte, reduceCtorEq, Nat.reduceAdd, Nat.reduceLT, Nat.reduceEqDiff, Nat.reduceLeDiff, Int.reduceAdd, Int.reduceLT, Int.reduceLE, Nat.reduceMul, b2, b3, b8, b16, b17, b18, e1])
    ·rw [hno (by rw [Bool.and_eq_false_iff]; simp; omega), if_pos rfl]
    ·refine out_round (ks.length - (k + 1)) (by omega) (by (first|trivial|((repeat' apply And.intro) <;> first|trivial|assumption|omega|(simp only [maxLen]; omega)|(simp only [List.length_map, maxLen, lenF, lenS] <;> omega)))) ⟨k + 1, by omega, rfl, rfl, ?_⟩
     simp (disch := first|omega|(simp only [List.length_map, lenF, lenS]; omega)) only [push_cast, ↓reduceIte, reduceIte, reduceCtorEq, Nat.reduceAdd, Nat.reduceLT, Nat.reduceEqDiff, Nat.reduceLeDiff, Int.reduceAdd, Int.reduceLT, Int.reduceLE, Nat.reduceMul, b2, b3, b8, b16, b17, b18, e1]
     exact ⟨by rw [hls], hs (by simp; omega)⟩
   ·obtain rfl : k = ks.length := by omega
    have hyes := kindsOk_yes ik
    rw [hyes, if_neg (by simp)]
    repeat' (first|(first|(refine a0_ ?_; first|refine a1_ rfl rfl ?_|refine a2_ rfl ?_|refine a3_ rfl rfl ?_|refine a4_ rfl ?_|refine ak_ rfl rfl ?_|refine a5_ rfl rfl rfl ?_|refine a6_ rfl rfl ?_|refine a7_ rfl rfl ?_|refine a8_ rfl rfl ?_|refine a9_ rfl rfl rfl ?_)|(refine g0_ ?_; first|refine g1_ rfl ?_|refine g2_ rfl rfl ?_|refine go_draw (dr := allQ) rfl rfl mixed (by first|assumption|kernel_rfl) ?_|refine g4_ rfl ?_|refine g5_ rfl ?_|refine g6_ rfl ?_|refine g7_ rfl ?_|refine g8_ rfl ?_|refine ga_ rfl ?_|refine gb_ rfl ?_)|(refine o0_ ?_; first|refine o1_ ?_|refine o2_ ?_|refine o3_ ?_|refine o4_ ?_|refine o5_ ?_|refine o6_ rfl ?_|refine o7_ rfl ?_|refine o8_ ?_|refine o9_ ?_|refine oa_ ?_|refine ob_ ?_|refine oc_ ?_|refine od_ ?_|refine oe_ ?_|refine of_ ?_|refine og_ ?_|refine oh_ ?_|refine oi_ ?_|refine oj_ ?_|refine ok_ ?_))|refine at_go ?_|(with_reducible refine And.intro (at_go ?_) (at_go ?_))|((with_reducible refine And.intro (fun h => ?_) (fun h => ?_)) <;> try (exfalso; omega))|(with_reducible refine And.intro (by first|omega|(simp only [maxLen]; omega)) ?_)|(refine And.intro ⟨[_], rfl⟩ ?_)|(refine And.intro ⟨[], by simp only [List.append_nil]⟩ ?_)|(first|(refine ⟨_, _, pc_lift (hW) (by (simp [idsL, idsE, AV.ids, Nat.add_zero])) _, ?_⟩)|(refine ⟨_, pc_lift (hW) (by (simp [idsL, idsE, AV.ids, Nat.add_zero])) _, ?_⟩)|(refine ⟨_, fun _ => pc_lift (hW) (by (simp [idsL, idsE, AV.ids, Nat.add_zero])) _, ?_⟩))|simp (disch := first|omega|(simp only [List.length_map, lenF, lenS]; omega)) only [push_cast, ↓reduceIte, reduceIte, reduceCtorEq, Nat.reduceAdd, Nat.reduceLT, Nat.reduceEqDiff, Nat.reduceLeDiff, Int.reduceAdd, Int.reduceLT, Int.reduceLE, Nat.reduceMul, b2, b3, b8, b16, b17, b18])
    all_goals (congr 1; (repeat' split) <;> first|rfl|omega)
 ·rw [if_pos hm]
  refine pc_go 1 42 [.tmp 6] Tryd.func40 rfl rfl rfl (by simp) ?_
  intro s ⟨a0, a1, a2, hz⟩
  simp only [Nat.zero_add, Nat.reduceAdd] at a1 a2
  clear hz
  repeat' (first|(first|(refine a0_ ?_; first|refine a1_ rfl rfl ?_|refine a2_ rfl ?_|refine a3_ rfl rfl ?_|refine a4_ rfl ?_|refine ak_ rfl rfl ?_|refine a5_ rfl rfl rfl ?_|refine a6_ rfl rfl ?_|refine a7_ rfl rfl ?_|refine a8_ rfl rfl ?_|refine a9_ rfl rfl rfl ?_)|(refine g0_ ?_; first|refine g1_ rfl ?_|refine g2_ rfl rfl ?_|refine go_draw (dr := allQ) rfl rfl mixed (by first|assumption|kernel_rfl) ?_|refine g4_ rfl ?_|refine g5_ rfl ?_|refine g6_ rfl ?_|refine g7_ rfl ?_|refine g8_ rfl ?_|refine ga_ rfl ?_|refine gb_ rfl ?_)|(refine o0_ ?_; first|refine o1_ ?_|refine o2_ ?_|refine o3_ ?_|refine o4_ ?_|refine o5_ ?_|refine o6_ rfl ?_|refine o7_ rfl ?_|refine o8_ ?_|refine o9_ ?_|refine oa_ ?_|refine ob_ ?_|refine oc_ ?_|refine od_ ?_|refine oe_ ?_|refine of_ ?_|refine og_ ?_|refine oh_ ?_|refine oi_ ?_|refine oj_ ?_|refine ok_ ?_))|refine at_go ?_|(with_reducible refine And.intro (at_go ?_) (at_go ?_))|((with_reducible refine And.intro (fun h => ?_) (fun h => ?_)) <;> try (exfalso; omega))|(with_reducible refine And.intro (by first|omega|(simp only [maxLen]; omega)) ?_)|(refine And.intro ⟨[_], rfl⟩ ?_)|(refine And.intro ⟨[], by simp only [List.append_nil]⟩ ?_)|(first|(refine ⟨_, _, pc_lift (hC) (by (simp [idsL, idsE, AV.ids, Nat.add_zero])) _, ?_⟩)|(refine ⟨_, pc_lift (hC) (by (simp [idsL, idsE, AV.ids, Nat.add_zero])) _, ?_⟩)|(refine ⟨_, fun _ => pc_lift (hC) (by (simp [idsL, idsE, AV.ids, Nat.add_zero])) _, ?_⟩))|simp (disch := first|omega|(simp only [List.length_map, lenF, lenS]; omega)) only [push_cast, ↓reduceIte, reduceIte, reduceCtorEq, Nat.reduceAdd, Nat.reduceLT, Nat.reduceEqDiff, Nat.reduceLeDiff, Int.reduceAdd, Int.reduceLT, Int.reduceLE, Nat.reduceMul, a0, a1, a2, hm])
end Go.Proofs
