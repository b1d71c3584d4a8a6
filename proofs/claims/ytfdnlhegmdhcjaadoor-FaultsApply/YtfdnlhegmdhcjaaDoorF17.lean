import Derived.Test.YtfdnlhegmdhcjaaDoorF4a
import Derived.Test.YtfdnlhegmdhcjaaDoorFL
import Derived.Test.YtfdnlhegmdhcjaaDoorV54
namespace Go.Proofs
open Go Go.V
set_option linter.unusedVariables false
set_option linter.unusedSimpArgs false
set_option maxHeartbeats 0
theorem join_small (p : Bs) (l : List Int) (hl : l.length ≤ 5) (hp : p.length ≤ 100) (h : ∀ n ∈ l, 0 ≤ n ∧ n ≤ 999) : (Lib.join (p :: l.map Lib.itoa) [32]).length ≤ 140737488355328 := by
 rw [join_nums, List.length_append]
 have : ∀ l : List Int, (∀ n ∈ l, 0 ≤ n ∧ n ≤ 999) → (numsB l).length ≤ 4 * l.length := fun l => by
  induction l with
  | nil => intro _; simp [numsB]
  | cons x xs ih =>
   intro h
   have h1 := itoa_len3 (h x List.mem_cons_self).1 (h x List.mem_cons_self).2
   have h2 := ih fun n hn => h n (List.mem_cons_of_mem _ hn)
   simp only [numsB, List.flatMap_cons, List.length_append, List.length_cons] at *
   omega
 have := this l h
 omega
def textV (f : Flt) : AV := if okF f = true then .tup [.str (nameF f.k ++ numsB (fldF f)), .int .i64 0] else .tup [.str [], .int .i64 1]
theorem tab_row (k : Int) (h : 0 ≤ k ∧ k < 5) : (tableG.drop (k.toNat * 4)).take 4 = [.str (nameF k), .bool (hasT k), .bool (hasA k), .bool (hasO k)] := by
 have hk : k = 0 ∨ k = 1 ∨ k = 2 ∨ k = 3 ∨ k = 4 := by omega
 rcases hk with rfl|rfl|rfl|rfl|rfl <;> rfl
theorem tab_len : tableG.length = 20 := rfl
def fl5 (k : Int) : List Bool := [true, true, hasT k, hasA k, hasO k]
def incN (k : Int) (L : List Int) : Nat → List Int
 | 0 => []
 | q + 1 => incN k L q ++ if (fl5 k).getD q false = true then [L.getD q 0] else []
theorem incN_len (k : Int) (L : List Int) : ∀ q, (incN k L q).length ≤ q
 | 0 => Nat.le_refl _
 | q + 1 => by rw [incN, List.length_append]; have := incN_len k L q; split <;> simp <;> omega
theorem incN_all (f : Flt) : incN f.k [f.s, f.i, f.t, f.a, f.o] 5 = fldF f := by
 simp [incN, fl5, fldF]
theorem incN_mem (k : Int) (L : List Int) : ∀ q, ∀ n ∈ incN k L q, ∃ j, j < q ∧ n = L.getD j 0
 | 0, n, h => by cases h
 | q + 1, n, h => by
  rw [incN] at h
  rcases List.mem_append.1 h with w|w
  ·obtain ⟨j, hj, e⟩ := incN_mem k L q n w
   exact ⟨j, by omega, e⟩
  ·split at w
   ·exact ⟨q, by omega, List.mem_singleton.1 w⟩
   ·cases w
def wrd (k : Int) (L : List Int) (q : Nat) : List Bs := nameF k :: (incN k L q).map Lib.itoa
theorem okF_no {f : Flt} {j : Nat} (hj : j < 5) (h : ¬ (0 ≤ [f.s, f.i, f.t, f.a, f.o].getD j 0 ∧ [f.s, f.i, f.t, f.a, f.o].getD j 0 < 1000)) : okF f = false := by
 rw [Bool.eq_false_iff]
 intro hh
 simp only [okF, Bool.and_eq_true, in3_iff] at hh
 apply h
 have hj5 : j = 0 ∨ j = 1 ∨ j = 2 ∨ j = 3 ∨ j = 4 := by omega
 rcases hj5 with rfl|rfl|rfl|rfl|rfl <;> simp <;> omega
theorem okF_yes {f : Flt} (hp : plainF f = true) (h : ∀ j, j < 5 → 0 ≤ [f.s, f.i, f.t, f.a, f.o].getD j 0 ∧ [f.s, f.i, f.t, f.a, f.o].getD j 0 < 1000) : okF f = true := by
 have h0 := h 0 (by omega); have h1 := h 1 (by omega); have h2 := h 2 (by omega); have h3 := h 3 (by omega); have h4 := h 4 (by omega)
 simp at h0 h1 h2 h3 h4
 simp only [okF, hp, Bool.true_and, Bool.and_eq_true, in3_iff]
 omega
theorem strs_len (xs : List Bs) : (strs xs).length = xs.length := by simp [strs]
theorem wrd_len (k : Int) (L : List Int) (q : Nat) : (wrd k L q).length = (incN k L q).length + 1 := by simp [wrd]
theorem fl5_get (k : Int) (q : Nat) (h : q < 5) : ([[AV.bool true], [.bool true], [.bool (hasT k)], [.bool (hasA k)], [.bool (hasO k)]] : List (List AV)).getD q [] = [.bool ((fl5 k).getD q false)] := by
 have hj5 : q = 0 ∨ q = 1 ∨ q = 2 ∨ q = 3 ∨ q = 4 := by omega
 rcases hj5 with rfl|rfl|rfl|rfl|rfl <;> rfl
set_option maxRecDepth 100000 in
theorem text23 (f : Flt) : PC Tryd.prog G0 23 [.agg (flA f)] (textV f) := by
 have hP := plain37 f
 by_cases hpl : plainF f = true
 ·rw [hpl] at hP
  have hk : 0 ≤ f.k ∧ f.k < 5 := by
   simp only [plainF, Bool.and_eq_true, decide_eq_true_eq] at hpl
   omega
  have ek := tab_row f.k hk
  have ek0 := fl5_get f.k
  have hno := fun j hj => okF_no (f := f) (j := j) hj
  have hyes := okF_yes hpl
  have hall := incN_all f
  have hmem := incN_mem f.k [f.s, f.i, f.t, f.a, f.o] 5
  have hw := fun n => within39 n 1000
  have k20 : f.k.toNat * 4 + 4 ≤ 20 := by omega
  unfold textV
  unfold flA at *
  have hLi : ints [f.s, f.i, f.t, f.a, f.o] = [[AV.int .i64 f.s], [.int .i64 f.i], [.int .i64 f.t], [.int .i64 f.a], [.int .i64 f.o]] := rfl
  have hL5 : [f.s, f.i, f.t, f.a, f.o].length = 5 := rfl
  generalize hL : [f.s, f.i, f.t, f.a, f.o] = L at *
  refine pc_go 0 56 [.tmp 2, .tmp 3] Tryd.func23 rfl rfl rfl (by simp) ?_
  intro s ⟨a0, hz⟩
  clear hz
  repeat' (first|(first|(refine a0_ ?_; first|refine a1_ rfl rfl ?_|refine a2_ rfl ?_|refine a3_ rfl rfl ?_|refine a4_ rfl ?_|refine ak_ rfl rfl ?_|refine a5_ rfl rfl rfl ?_|refine a6_ rfl rfl ?_|refine a7_ rfl rfl ?_|refine a8_ rfl rfl ?_|refine a9_ rfl rfl rfl ?_)|(refine g0_ ?_; first|refine g1_ rfl ?_|refine g2_ rfl rfl ?_|refine go_draw (dr := allQ) rfl rfl mixed (by first|assumption|kernel_rfl) ?_|refine g4_ rfl ?_|refine g5_ rfl ?_|refine g6_ rfl ?_|refine g7_ rfl ?_|refine g8_ rfl ?_|refine ga_ rfl ?_|refine gb_ rfl ?_)|(refine o0_ ?_; first|refine o1_ ?_|refine o2_ ?_|refine o3_ ?_|refine o4_ ?_|refine o5_ ?_|refine o6_ rfl ?_|refine o7_ rfl ?_|refine o8_ ?_|refine o9_ ?_|refine oa_ ?_|refine ob_ ?_|refine oc_ ?_|refine od_ ?_|refine oe_ ?_|refine of_ ?_|refine og_ ?_|refine oh_ ?_|refine oi_ ?_|refine oj_ ?_|refine ok_ ?_))|refine at_go ?_|(with_reducible refine And.intro (at_go ?_) (at_go ?_))|((with_reducible refine And.intro (fun h => ?_) (fun h => ?_)) <;> try (exfalso; omega))|(with_reducible refine And.intro (by first|omega|(simp only [maxLen]; omega)) ?_)|(refine And.intro ⟨[_], rfl⟩ ?_)|(refine And.intro ⟨[], by simp only [List.append_nil]⟩ ?_)|(first|(refine ⟨_, _, pc_lift (hP) (by (simp [idsL, idsE, AV.ids, Nat.add_zero])) _, ?_⟩)|(refine ⟨_, pc_lift (hP) (by (simp [idsL, idsE, AV.ids, Nat.add_zero])) _, ?_⟩)|(refine ⟨_, fun _ => pc_lift (hP) (by (simp [idsL, idsE, AV.ids, Nat.add_zero])) _, ?_⟩))|simp (disch := first|omega|(simp only [List.length_map, lenF, lenS]; omega)) only [push_cast, ↓reduceIte, reduceIte, reduceCtorEq, Nat.reduceAdd, Nat.reduceLT, Nat.reduceEqDiff, Nat.reduceLeDiff, Int.reduceAdd, Int.reduceLT, Int.reduceLE, Nat.reduceMul, a0, ev_g0, ek, tab_len, k20])
  refine go_loop rfl (fun mz s' H' => ∃ q : Nat, q ≤ 5 ∧ mz = 5 - q ∧ (∀ j, j < q → 0 ≤ L.getD j 0 ∧ L.getD j 0 < 1000) ∧ s' 1 = .ptr 0 0 0 1 ∧ s' 4 = .ptr 1 0 0 1 ∧ s' 28 = .sl 1 (ints L) (some 5) ∧ s' 29 = .int .i64 5 ∧ s' 30 = .int .i64 q ∧
   ((q = 0 ∧ s' 5 = .sl 1 [[.str (nameF f.k)]] (some 1) ∧ H' = [.row 6 33 [[.int .i64 f.k, .int .i64 f.s, .int .i64 f.i, .int .i64 f.t, .int .i64 f.a, .int .i64 f.o]], .row 4 81 [[.str (nameF f.k), .bool (hasT f.k), .bool (hasA f.k), .bool (hasO f.k)]]]) ∨
    (1 ≤ q ∧ s' 5 = .own 2 (wrd f.k L q).length (wrd f.k L q).length none ∧ H' = [.row 6 33 [[.int .i64 f.k, .int .i64 f.s, .int .i64 f.i, .int .i64 f.t, .int .i64 f.a, .int .i64 f.o]], .row 4 81 [[.str (nameF f.k), .bool (hasT f.k), .bool (hasA f.k), .bool (hasO f.k)]], .row 1 9 (strs (wrd f.k L q))]))) (m := 5) (by (first|trivial|((repeat' apply And.intro) <;> first|trivial|assumption|omega|(simp only [maxLen]; omega)|(simp only [List.length_map, maxLen, lenF, lenS] <;> omega)))) (Weak.refl _ _) ⟨0, by omega, by omega, fun j hj => by omega, ?_, ?_, ?_, ?_, ?_, .inl ⟨rfl, ?_, ?_⟩⟩ ?_
  ·simp (disch := first|omega|(simp only [List.length_map, lenF, lenS]; omega)) only [push_cast, ↓reduceIte, reduceIte, reduceCtorEq, Nat.reduceAdd, Nat.reduceLT, Nat.reduceEqDiff, Nat.reduceLeDiff, Int.reduceAdd, Int.reduceLT, Int.reduceLE, Nat.reduceMul, a0, ev_g0, ek, tab_len, k20]
  ·simp (disch := first|omega|(simp only [List.length_map, lenF, lenS]; omega)) only [push_cast, ↓reduceIte, reduceIte, reduceCtorEq, Nat.reduceAdd, Nat.reduceLT, Nat.reduceEqDiff, Nat.reduceLeDiff, Int.reduceAdd, Int.reduceLT, Int.reduceLE, Nat.reduceMul, a0, ev_g0, ek, tab_len, k20]
  ·simp (disch := first|omega|(simp only [List.length_map, lenF, lenS]; omega)) only [push_cast, ↓reduceIte, reduceIte, reduceCtorEq, Nat.reduceAdd, Nat.reduceLT, Nat.reduceEqDiff, Nat.reduceLeDiff, Int.reduceAdd, Int.reduceLT, Int.reduceLE, Nat.reduceMul, a0, ev_g0, ek, tab_len, k20]
   rw [hLi]
  ·simp (disch := first|omega|(simp only [List.length_map, lenF, lenS]; omega)) only [push_cast, ↓reduceIte, reduceIte, reduceCtorEq, Nat.reduceAdd, Nat.reduceLT, Nat.reduceEqDiff, Nat.reduceLeDiff, Int.reduceAdd, Int.reduceLT, Int.reduceLE, Nat.reduceMul, a0, ev_g0, ek, tab_len, k20]
  ·simp (disch := first|omega|(simp only [List.length_map, lenF, lenS]; omega)) only [push_cast, ↓reduceIte, reduceIte, reduceCtorEq, Nat.reduceAdd, Nat.reduceLT, Nat.reduceEqDiff, Nat.reduceLeDiff, Int.reduceAdd, Int.reduceLT, Int.reduceLE, Nat.reduceMul, a0, ev_g0, ek, tab_len, k20]
  ·simp (disch := first|omega|(simp only [List.length_map, lenF, lenS]; omega)) only [push_cast, ↓reduceIte, reduceIte, reduceCtorEq, Nat.reduceAdd, Nat.reduceLT, Nat.reduceEqDiff, Nat.reduceLeDiff, Int.reduceAdd, Int.reduceLT, Int.reduceLE, Nat.reduceMul, a0, ev_g0, ek, tab_len, k20]
  ·simp (disch := first|omega|(simp only [List.length_map, lenF, lenS]; omega)) only [push_cast, ↓reduceIte, reduceIte, reduceCtorEq, Nat.reduceAdd, Nat.reduceLT, Nat.reduceEqDiff, Nat.reduceLeDiff, Int.reduceAdd, Int.reduceLT, Int.reduceLE, Nat.reduceMul, a0, ev_g0, ek, tab_len, k20]
  ·rintro mz s' H' ⟨q, hq, rfl, hin, b1, b4, b28, b29, b30, hcs⟩
   rcases Nat.lt_or_ge q 5 with hlt|hge
   ·have e1 := getD_ints L q (by omega)
    have e2 := ek0 q hlt
    have hwq := hw (L.getD q 0)
    have hno := hno q hlt
    have hs := snocB (P := fun j => 0 ≤ L.getD j 0 ∧ L.getD j 0 < 1000) (k := q) hin
    have hst : wrd f.k L (q + 1) = wrd f.k L q ++ if (fl5 f.k).getD q false = true then [Lib.itoa (L.getD q 0)] else [] := by
     simp only [wrd, incN, List.map_append, List.cons_append]
     split <;> rfl
    have hwl := wrd_len f.k L q
    have hil := incN_len f.k L q
    rcases hcs with ⟨rfl, b5, rfl⟩|⟨hq1, b5, rfl⟩
    ·have hf0 : (fl5 f.k).getD 0 false = true := rfl
     rw [hf0] at e2 hst
     rw [if_pos rfl] at hst
     have hw0 : wrd f.k L 0 = [nameF f.k] := rfl
     have b30 : s' 30 = .int .i64 0 := b30
     generalize L.getD 0 0 = x at *
     repeat' (first|(first|(refine a0_ ?_; first|refine a1_ rfl rfl ?_|refine a2_ rfl ?_|refine a3_ rfl rfl ?_|refine a4_ rfl ?_|refine ak_ rfl rfl ?_|refine a5_ rfl rfl rfl ?_|refine a6_ rfl rfl ?_|refine a7_ rfl rfl ?_|refine a8_ rfl rfl ?_|refine a9_ rfl rfl rfl ?_)|(refine g0_ ?_; first|refine g1_ rfl ?_|refine g2_ rfl rfl ?_|refine go_draw (dr := allQ) rfl rfl mixed (by first|assumption|kernel_rfl) ?_|refine g4_ rfl ?_|refine g5_ rfl ?_|refine g6_ rfl ?_|refine g7_ rfl ?_|refine g8_ rfl ?_|refine ga_ rfl ?_|refine gb_ rfl ?_)|(refine o0_ ?_; first|refine o1_ ?_|refine o2_ ?_|refine o3_ ?_|refine o4_ ?_|refine o5_ ?_|refine o6_ rfl ?_|refine o7_ rfl ?_|refine o8_ ?_|refine o9_ ?_|refine oa_ ?_|refine ob_ ?_|refine oc_ ?_|refine od_ ?_|refine oe_ ?_|refine of_ ?_|refine og_ ?_|refine oh_ ?_|refine oi_ ?_|refine oj_ ?_|refine ok_ ?_))|refine at_go ?_|(with_reducible refine And.intro (at_go ?_) (at_go ?_))|((with_reducible refine And.intro (fun h => ?_) (fun h => ?_)) <;> try (exfalso; omega))|(with_reducible refine And.intro (by first|omega|(simp only [maxLen]; omega)) ?_)|(refine And.intro ⟨[_], rfl⟩ ?_)|(refine And.intro ⟨[], by simp only [List.append_nil]⟩ ?_)|(first|(refine ⟨_, _, pc_lift (hwq) (by (simp [idsL, idsE, AV.ids, Nat.add_zero])) _, ?_⟩)|(refine ⟨_, pc_lift (hwq) (by (simp [idsL, idsE, AV.ids, Nat.add_zero])) _, ?_⟩)|(refine ⟨_, fun _ => pc_lift (hwq) (by (simp [idsL, idsE, AV.ids, Nat.add_zero])) _, ?_⟩)|(refine ⟨_, _, itoa46 _ _ (by omega) (by omega), ?_⟩)|(refine ⟨_, itoa46 _ _ (by omega) (by omega), ?_⟩)|(refine ⟨_, fun _ => itoa46 _ _ (by omega) (by omega), ?_⟩))|simp (disch := first|omega|(simp only [List.length_map, lenF, lenS]; omega)) only [push_cast, ↓reduceIte, reduceIte, reduceCtorEq, Nat.reduceAdd, Nat.reduceLT, Nat.reduceEqDiff, Nat.reduceLeDiff, Int.reduceAdd, Int.reduceLT, Int.reduceLE, Nat.reduceMul, b1, b4, b5, b28, b29, b30, e1, e2, hL5])
     ·rename_i hbad
      rw [if_neg (by rw [hno (by omega)]; simp)]; simp [eqv_tup, eqvL, eqv1, eqv_str, eqv_int]
     ·refine out_round (5 - (0 + 1)) (by omega) (by (first|trivial|((repeat' apply And.intro) <;> first|trivial|assumption|omega|(simp only [maxLen]; omega)|(simp only [List.length_map, maxLen, lenF, lenS] <;> omega)))) ⟨1, by omega, rfl, hs (by omega), ?_, ?_, ?_, ?_, ?_, .inr ⟨Nat.le_refl 1, ?_, ?_⟩⟩
      ·simp (disch := first|omega|(simp only [List.length_map, lenF, lenS]; omega)) only [push_cast, ↓reduceIte, reduceIte, reduceCtorEq, Nat.reduceAdd, Nat.reduceLT, Nat.reduceEqDiff, Nat.reduceLeDiff, Int.reduceAdd, Int.reduceLT, Int.reduceLE, Nat.reduceMul, b1, b4, b5, b28, b29, b30, e1, e2, hL5]
      ·simp (disch := first|omega|(simp only [List.length_map, lenF, lenS]; omega)) only [push_cast, ↓reduceIte, reduceIte, reduceCtorEq, Nat.reduceAdd, Nat.reduceLT, Nat.reduceEqDiff, Nat.reduceLeDiff, Int.reduceAdd, Int.reduceLT, Int.reduceLE, Nat.reduceMul, b1, b4, b5, b28, b29, b30, e1, e2, hL5]
      ·simp (disch := first|omega|(simp only [List.length_map, lenF, lenS]; omega)) only [push_cast, ↓reduceIte, reduceIte, reduceCtorEq, Nat.reduceAdd, Nat.reduceLT, Nat.reduceEqDiff, Nat.reduceLeDiff, Int.reduceAdd, Int.reduceLT, Int.reduceLE, Nat.reduceMul, b1, b4, b5, b28, b29, b30, e1, e2, hL5]
      ·simp (disch := first|omega|(simp only [List.length_map, lenF, lenS]; omega)) only [push_cast, ↓reduceIte, reduceIte, reduceCtorEq, Nat.reduceAdd, Nat.reduceLT, Nat.reduceEqDiff, Nat.reduceLeDiff, Int.reduceAdd, Int.reduceLT, Int.reduceLE, Nat.reduceMul, b1, b4, b5, b28, b29, b30, e1, e2, hL5]
      ·simp (disch := first|omega|(simp only [List.length_map, lenF, lenS]; omega)) only [push_cast, ↓reduceIte, reduceIte, reduceCtorEq, Nat.reduceAdd, Nat.reduceLT, Nat.reduceEqDiff, Nat.reduceLeDiff, Int.reduceAdd, Int.reduceLT, Int.reduceLE, Nat.reduceMul, b1, b4, b5, b28, b29, b30, e1, e2, hL5]
      ·simp (disch := first|omega|(simp only [List.length_map, lenF, lenS]; omega)) only [push_cast, ↓reduceIte, reduceIte, reduceCtorEq, Nat.reduceAdd, Nat.reduceLT, Nat.reduceEqDiff, Nat.reduceLeDiff, Int.reduceAdd, Int.reduceLT, Int.reduceLE, Nat.reduceMul, b1, b4, b5, b28, b29, b30, e1, e2, hL5]
       rw [hst, hw0]; rfl
      ·rw [hst, hw0]; rfl
    ·have t1 : (strs (wrd f.k L q)).take (wrd f.k L q).length = strs (wrd f.k L q) := List.take_of_length_le (by rw [strs_len]; omega)
     have t2 : (strs (wrd f.k L q)).drop ((wrd f.k L q).length + 1) = [] := List.drop_eq_nil_of_le (by rw [strs_len]; omega)
     have hls := strs_len (wrd f.k L q)
     have hsn : strs (wrd f.k L q) ++ [[.str (Lib.itoa (L.getD q 0))]] = strs (wrd f.k L q ++ [Lib.itoa (L.getD q 0)]) := by simp [strs]
     generalize L.getD q 0 = x at *
     cases hfb : (fl5 f.k).getD q false with
     | true =>
      rw [hfb] at e2 hst
      rw [if_pos rfl] at hst
      have hlw : (wrd f.k L (q + 1)).length = (wrd f.k L q).length + 1 := by rw [hst]; simp
      generalize wrd f.k L q = W at *
      repeat' (first|(first|(refine a0_ ?_; first|refine a1_ rfl rfl ?_|refine a2_ rfl ?_|refine a3_ rfl rfl ?_|refine a4_ rfl ?_|refine ak_ rfl rfl ?_|refine a5_ rfl rfl rfl ?_|refine a6_ rfl rfl ?_|refine a7_ rfl rfl ?_|refine a8_ rfl rfl ?_|refine a9_ rfl rfl rfl ?_)|(refine g0_ ?_; first|refine g1_ rfl ?_|refine g2_ rfl rfl ?_|refine go_draw (dr := allQ) rfl rfl mixed (by first|assumption|kernel_rfl) ?_|refine g4_ rfl ?_|refine g5_ rfl ?_|refine g6_ rfl ?_|refine g7_ rfl ?_|refine g8_ rfl ?_|refine ga_ rfl ?_|refine gb_ rfl ?_)|(refine o0_ ?_; first|refine o1_ ?_|refine o2_ ?_|refine o3_ ?_|refine o4_ ?_|refine o5_ ?_|refine o6_ rfl ?_|refine o7_ rfl ?_|refine o8_ ?_|refine o9_ ?_|refine oa_ ?_|refine ob_ ?_|refine oc_ ?_|refine od_ ?_|refine oe_ ?_|refine of_ ?_|refine og_ ?_|refine oh_ ?_|refine oi_ ?_|refine oj_ ?_|refine ok_ ?_))|refine at_go ?_|(with_reducible refine And.intro (at_go ?_) (at_go ?_))|((with_reducible refine And.intro (fun h => ?_) (fun h => ?_)) <;> try (exfalso; omega))|(with_reducible refine And.intro (by first|omega|(simp only [maxLen]; omega)) ?_)|(refine And.intro ⟨[_], rfl⟩ ?_)|(refine And.intro ⟨[], by simp only [List.append_nil]⟩ ?_)|(first|(refine ⟨_, _, pc_lift (hwq) (by (simp [idsL, idsE, AV.ids, Nat.add_zero])) _, ?_⟩)|(refine ⟨_, pc_lift (hwq) (by (simp [idsL, idsE, AV.ids, Nat.add_zero])) _, ?_⟩)|(refine ⟨_, fun _ => pc_lift (hwq) (by (simp [idsL, idsE, AV.ids, Nat.add_zero])) _, ?_⟩)|(refine ⟨_, _, itoa46 _ _ (by omega) (by omega), ?_⟩)|(refine ⟨_, itoa46 _ _ (by omega) (by omega), ?_⟩)|(refine ⟨_, fun _ => itoa46 _ _ (by omega) (by omega), ?_⟩))|simp (disch := first|omega|(simp only [List.length_map, lenF, lenS]; omega)) only [push_cast, ↓reduceIte, reduceIte, reduceCtorEq, Nat.reduceAdd, Nat.reduceLT, Nat.reduceEqDiff, Nat.reduceLeDiff, Int.reduceAdd, Int.reduceLT, Int.reduceLE, Nat.reduceMul, b1, b4, b5, b28, b29, b30, e1, e2, hL5, t1, t2, hls])
      ·rw [if_neg (by rw [hno (by omega)]; simp)]; simp [eqv_tup, eqvL, eqv1, eqv_str, eqv_int]
      ·refine out_round (5 - (q + 1)) (by omega) (by (first|trivial|((repeat' apply And.intro) <;> first|trivial|assumption|omega|(simp only [maxLen]; omega)|(simp only [List.length_map, maxLen, lenF, lenS] <;> omega)))) ⟨q + 1, by omega, rfl, hs (by omega), ?_, ?_, ?_, ?_, ?_, .inr ⟨by omega, ?_, ?_⟩⟩
       ·simp (disch := first|omega|(simp only [List.length_map, lenF, lenS]; omega)) only [push_cast, ↓reduceIte, reduceIte, reduceCtorEq, Nat.reduceAdd, Nat.reduceLT, Nat.reduceEqDiff, Nat.reduceLeDiff, Int.reduceAdd, Int.reduceLT, Int.reduceLE, Nat.reduceMul, b1, b4, b5, b28, b29, b30, e1, e2, hL5, t1, t2, hls]
       ·simp (disch := first|omega|(simp only [List.length_map, lenF, lenS]; omega)) only [push_cast, ↓reduceIte, reduceIte, reduceCtorEq, Nat.reduceAdd, Nat.reduceLT, Nat.reduceEqDiff, Nat.reduceLeDiff, Int.reduceAdd, Int.reduceLT, Int.reduceLE, Nat.reduceMul, b1, b4, b5, b28, b29, b30, e1, e2, hL5, t1, t2, hls]
       ·simp (disch := first|omega|(simp only [List.length_map, lenF, lenS]; omega)) only [push_cast, ↓reduceIte, reduceIte, reduceCtorEq, Nat.reduceAdd, Nat.reduceLT, Nat.reduceEqDiff, Nat.reduceLeDiff, Int.reduceAdd, Int.reduceLT, Int.reduceLE, Nat.reduceMul, b1, b4, b5, b28, b29, b30, e1, e2, hL5, t1, t2, hls]
       ·simp (disch := first|omega|(simp only [List.length_map, lenF, lenS]; omega)) only [push_cast, ↓reduceIte, reduceIte, reduceCtorEq, Nat.reduceAdd, Nat.reduceLT, Nat.reduceEqDiff, Nat.reduceLeDiff, Int.reduceAdd, Int.reduceLT, Int.reduceLE, Nat.reduceMul, b1, b4, b5, b28, b29, b30, e1, e2, hL5, t1, t2, hls]
       ·simp (disch := first|omega|(simp only [List.length_map, lenF, lenS]; omega)) only [push_cast, ↓reduceIte, reduceIte, reduceCtorEq, Nat.reduceAdd, Nat.reduceLT, Nat.reduceEqDiff, Nat.reduceLeDiff, Int.reduceAdd, Int.reduceLT, Int.reduceLE, Nat.reduceMul, b1, b4, b5, b28, b29, b30, e1, e2, hL5, t1, t2, hls]
       ·simp (disch := first|omega|(simp only [List.length_map, lenF, lenS]; omega)) only [push_cast, ↓reduceIte, reduceIte, reduceCtorEq, Nat.reduceAdd, Nat.reduceLT, Nat.reduceEqDiff, Nat.reduceLeDiff, Int.reduceAdd, Int.reduceLT, Int.reduceLE, Nat.reduceMul, b1, b4, b5, b28, b29, b30, e1, e2, hL5, t1, t2, hls]
        rw [hlw]
       ·rw [hst, ← hsn]
     | false =>
      rw [hfb] at e2 hst
      rw [if_neg (by simp), List.append_nil] at hst
      generalize wrd f.k L q = W at *
      repeat' (first|(first|(refine a0_ ?_; first|refine a1_ rfl rfl ?_|refine a2_ rfl ?_|refine a3_ rfl rfl ?_|refine a4_ rfl ?_|refine ak_ rfl rfl ?_|refine a5_ rfl rfl rfl ?_|refine a6_ rfl rfl ?_|refine a7_ rfl rfl ?_|refine a8_ rfl rfl ?_|refine a9_ rfl rfl rfl ?_)|(refine g0_ ?_; first|refine g1_ rfl ?_|refine g2_ rfl rfl ?_|refine go_draw (dr := allQ) rfl rfl mixed (by first|assumption|kernel_rfl) ?_|refine g4_ rfl ?_|refine g5_ rfl ?_|refine g6_ rfl ?_|refine g7_ rfl ?_|refine g8_ rfl ?_|refine ga_ rfl ?_|refine gb_ rfl ?_)|(refine o0_ ?_; first|refine o1_ ?_|refine o2_ ?_|refine o3_ ?_|refine o4_ ?_|refine o5_ ?_|refine o6_ rfl ?_|refine o7_ rfl ?_|refine o8_ ?_|refine o9_ ?_|refine oa_ ?_|refine ob_ ?_|refine oc_ ?_|refine od_ ?_|refine oe_ ?_|refine of_ ?_|refine og_ ?_|refine oh_ ?_|refine oi_ ?_|refine oj_ ?_|refine ok_ ?_))|refine at_go ?_|(with_reducible refine And.intro (at_go ?_) (at_go ?_))|((with_reducible refine And.intro (fun h => ?_) (fun h => ?_)) <;> try (exfalso; omega))|(with_reducible refine And.intro (by first|omega|(simp only [maxLen]; omega)) ?_)|(refine And.intro ⟨[_], rfl⟩ ?_)|(refine And.intro ⟨[], by simp only [List.append_nil]⟩ ?_)|(first|(refine ⟨_, _, pc_lift (hwq) (by (simp [idsL, idsE, AV.ids, Nat.add_zero])) _, ?_⟩)|(refine ⟨_, pc_lift (hwq) (by (simp [idsL, idsE, AV.ids, Nat.add_zero])) _, ?_⟩)|(refine ⟨_, fun _ => pc_lift (hwq) (by (simp [idsL, idsE, AV.ids, Nat.add_zero])) _, ?_⟩))|simp (disch := first|omega|(simp only [List.length_map, lenF, lenS]; omega)) only [push_cast, ↓reduceIte, reduceIte, reduceCtorEq, Nat.reduceAdd, Nat.reduceLT, Nat.reduceEqDiff, Nat.reduceLeDiff, Int.reduceAdd, Int.reduceLT, Int.reduceLE, Nat.reduceMul, b1, b4, b5, b28, b29, b30, e1, e2, hL5, t1, t2, hls])
      ·rw [if_neg (by rw [hno (by omega)]; simp)]; simp [eqv_tup, eqvL, eqv1, eqv_str, eqv_int]
      ·refine out_round (5 - (q + 1)) (by omega) (by (first|trivial|((repeat' apply And.intro) <;> first|trivial|assumption|omega|(simp only [maxLen]; omega)|(simp only [List.length_map, maxLen, lenF, lenS] <;> omega)))) ⟨q + 1, by omega, rfl, hs (by omega), ?_, ?_, ?_, ?_, ?_, .inr ⟨by omega, ?_, ?_⟩⟩
       ·simp (disch := first|omega|(simp only [List.length_map, lenF, lenS]; omega)) only [push_cast, ↓reduceIte, reduceIte, reduceCtorEq, Nat.reduceAdd, Nat.reduceLT, Nat.reduceEqDiff, Nat.reduceLeDiff, Int.reduceAdd, Int.reduceLT, Int.reduceLE, Nat.reduceMul, b1, b4, b5, b28, b29, b30, e1, e2, hL5, t1, t2, hls]
       ·simp (disch := first|omega|(simp only [List.length_map, lenF, lenS]; omega)) only [push_cast, ↓reduceIte, reduceIte, reduceCtorEq, Nat.reduceAdd, Nat.reduceLT, Nat.reduceEqDiff, Nat.reduceLeDiff, Int.reduceAdd, Int.reduceLT, Int.reduceLE, Nat.reduceMul, b1, b4, b5, b28, b29, b30, e1, e2, hL5, t1, t2, hls]
       ·simp (disch := first|omega|(simp only [List.length_map, lenF, lenS]; omega)) only [push_cast, ↓reduceIte, reduceIte, reduceCtorEq, Nat.reduceAdd, Nat.reduceLT, Nat.reduceEqDiff, Nat.reduceLeDiff, Int.reduceAdd, Int.reduceLT, Int.reduceLE, Nat.reduceMul, b1, b4, b5, b28, b29, b30, e1, e2, hL5, t1, t2, hls]
       ·simp (disch := first|omega|(simp only [List.length_map, lenF, lenS]; omega)) only [push_cast, ↓reduceIte, reduceIte, reduceCtorEq, Nat.reduceAdd, Nat.reduceLT, Nat.reduceEqDiff, Nat.reduceLeDiff, Int.reduceAdd, Int.reduceLT, Int.reduceLE, Nat.reduceMul, b1, b4, b5, b28, b29, b30, e1, e2, hL5, t1, t2, hls]
       ·simp (disch := first|omega|(simp only [List.length_map, lenF, lenS]; omega)) only [push_cast, ↓reduceIte, reduceIte, reduceCtorEq, Nat.reduceAdd, Nat.reduceLT, Nat.reduceEqDiff, Nat.reduceLeDiff, Int.reduceAdd, Int.reduceLT, Int.reduceLE, Nat.reduceMul, b1, b4, b5, b28, b29, b30, e1, e2, hL5, t1, t2, hls]
       ·simp (disch := first|omega|(simp only [List.length_map, lenF, lenS]; omega)) only [push_cast, ↓reduceIte, reduceIte, reduceCtorEq, Nat.reduceAdd, Nat.reduceLT, Nat.reduceEqDiff, Nat.reduceLeDiff, Int.reduceAdd, Int.reduceLT, Int.reduceLE, Nat.reduceMul, b1, b4, b5, b28, b29, b30, e1, e2, hL5, t1, t2, hls]
        rw [hst]
       ·rw [hst]
   ·obtain rfl : q = 5 := by omega
    rcases hcs with ⟨h0, _, _⟩|⟨_, b5, rfl⟩
    ·omega
    ·have hok := hyes hin
     have hj := join_nums (nameF f.k) (fldF f)
     have hwr : wrd f.k L 5 = nameF f.k :: (fldF f).map Lib.itoa := by rw [wrd, hall]
     have hwl := wrd_len f.k L 5
     have hil := incN_len f.k L 5
     have hlen : (Lib.join (wrd f.k L 5) [32]).length ≤ 140737488355328 := by
      rw [hwr]
      refine join_small _ _ ?_ ?_ fun n hn => ?_
      ·rw [← hall]; omega
      ·unfold nameF; split <;> (try split) <;> (try split) <;> (try split) <;> decide
      ·rw [← hall] at hn
       obtain ⟨j, hj, rfl⟩ := hmem n hn
       have := hin j hj
       omega
     have hjc := fun H => join47 H (.own 2 (wrd f.k L 5).length (wrd f.k L 5).length none) (wrd f.k L 5) [32]
     rw [hwr, hj, ← hwr] at hjc
     rw [if_pos hok]
     have hjd := hjc [.row 6 33 [[.int .i64 f.k, .int .i64 f.s, .int .i64 f.i, .int .i64 f.t, .int .i64 f.a, .int .i64 f.o]], .row 4 81 [[.str (nameF f.k), .bool (hasT f.k), .bool (hasA f.k), .bool (hasO f.k)]], .row 1 9 (strs (wrd f.k L 5))] (.inr ⟨2, _, none, 9, strs (wrd f.k L 5), by rw [strs_len], rfl, by rw [strs_len]; omega, List.take_of_length_le (by rw [strs_len]; omega)⟩) (by rw [← hj, ← hwr]; exact hlen) (by omega)
     repeat' (first|(first|(refine a0_ ?_; first|refine a1_ rfl rfl ?_|refine a2_ rfl ?_|refine a3_ rfl rfl ?_|refine a4_ rfl ?_|refine ak_ rfl rfl ?_|refine a5_ rfl rfl rfl ?_|refine a6_ rfl rfl ?_|refine a7_ rfl rfl ?_|refine a8_ rfl rfl ?_|refine a9_ rfl rfl rfl ?_)|(refine g0_ ?_; first|refine g1_ rfl ?_|refine g2_ rfl rfl ?_|refine go_draw (dr := allQ) rfl rfl mixed (by first|assumption|kernel_rfl) ?_|refine g4_ rfl ?_|refine g5_ rfl ?_|refine g6_ rfl ?_|refine g7_ rfl ?_|refine g8_ rfl ?_|refine ga_ rfl ?_|refine gb_ rfl ?_)|(refine o0_ ?_; first|refine o1_ ?_|refine o2_ ?_|refine o3_ ?_|refine o4_ ?_|refine o5_ ?_|refine o6_ rfl ?_|refine o7_ rfl ?_|refine o8_ ?_|refine o9_ ?_|refine oa_ ?_|refine ob_ ?_|refine oc_ ?_|refine od_ ?_|refine oe_ ?_|refine of_ ?_|refine og_ ?_|refine oh_ ?_|refine oi_ ?_|refine oj_ ?_|refine ok_ ?_))|refine at_go ?_|(with_reducible refine And.intro (at_go ?_) (at_go ?_))|((with_reducible refine And.intro (fun h => ?_) (fun h => ?_)) <;> try (exfalso; omega))|(with_reducible refine And.intro (by first|omega|(simp only [maxLen]; omega)) ?_)|(refine And.intro ⟨[_], rfl⟩ ?_)|(refine And.intro ⟨[], by simp only [List.append_nil]⟩ ?_)|(first|(refine ⟨_, _, hjd, ?_⟩)|(refine ⟨_, hjd, ?_⟩)|(refine ⟨_, fun _ => hjd, ?_⟩))|simp (disch := first|omega|(simp only [List.length_map, lenF, lenS]; omega)) only [push_cast, ↓reduceIte, reduceIte, reduceCtorEq, Nat.reduceAdd, Nat.reduceLT, Nat.reduceEqDiff, Nat.reduceLeDiff, Int.reduceAdd, Int.reduceLT, Int.reduceLE, Nat.reduceMul, b1, b4, b5, b28, b29, b30, hL5])
 ·have hpl : plainF f = false := by simpa using hpl
  rw [hpl] at hP
  have hno : okF f = false := by rw [okF, hpl]; rfl
  rw [textV, if_neg (by rw [hno]; simp)]
  unfold flA at *
  refine pc_go 0 56 [.tmp 2, .tmp 3] Tryd.func23 rfl rfl rfl (by simp) ?_
  intro s ⟨a0, hz⟩
  clear hz
  repeat' (first|(first|(refine a0_ ?_; first|refine a1_ rfl rfl ?_|refine a2_ rfl ?_|refine a3_ rfl rfl ?_|refine a4_ rfl ?_|refine ak_ rfl rfl ?_|refine a5_ rfl rfl rfl ?_|refine a6_ rfl rfl ?_|refine a7_ rfl rfl ?_|refine a8_ rfl rfl ?_|refine a9_ rfl rfl rfl ?_)|(refine g0_ ?_; first|refine g1_ rfl ?_|refine g2_ rfl rfl ?_|refine go_draw (dr := allQ) rfl rfl mixed (by first|assumption|kernel_rfl) ?_|refine g4_ rfl ?_|refine g5_ rfl ?_|refine g6_ rfl ?_|refine g7_ rfl ?_|refine g8_ rfl ?_|refine ga_ rfl ?_|refine gb_ rfl ?_)|(refine o0_ ?_; first|refine o1_ ?_|refine o2_ ?_|refine o3_ ?_|refine o4_ ?_|refine o5_ ?_|refine o6_ rfl ?_|refine o7_ rfl ?_|refine o8_ ?_|refine o9_ ?_|refine oa_ ?_|refine ob_ ?_|refine oc_ ?_|refine od_ ?_|refine oe_ ?_|refine of_ ?_|refine og_ ?_|refine oh_ ?_|refine oi_ ?_|refine oj_ ?_|refine ok_ ?_))|refine at_go ?_|(with_reducible refine And.intro (at_go ?_) (at_go ?_))|((with_reducible refine And.intro (fun h => ?_) (fun h => ?_)) <;> try (exfalso; omega))|(with_reducible refine And.intro (by first|omega|(simp only [maxLen]; omega)) ?_)|(refine And.intro ⟨[_], rfl⟩ ?_)|(refine And.intro ⟨[], by simp only [List.append_nil]⟩ ?_)|(first|(refine ⟨_, _, pc_lift (hP) (by (simp [idsL, idsE, AV.ids, Nat.add_zero])) _, ?_⟩)|(refine ⟨_, pc_lift (hP) (by (simp [idsL, idsE, AV.ids, Nat.add_zero])) _, ?_⟩)|(refine ⟨_, fun _ => pc_lift (hP) (by (simp [idsL, idsE, AV.ids, Nat.add_zero])) _, ?_⟩))|simp (disch := first|omega|(simp only [List.length_map, lenF, lenS]; omega)) only [push_cast, ↓reduceIte, reduceIte, reduceCtorEq, Nat.reduceAdd, Nat.reduceLT, Nat.reduceEqDiff, Nat.reduceLeDiff, Int.reduceAdd, Int.reduceLT, Int.reduceLE, Nat.reduceMul, a0])
end Go.Proofs
