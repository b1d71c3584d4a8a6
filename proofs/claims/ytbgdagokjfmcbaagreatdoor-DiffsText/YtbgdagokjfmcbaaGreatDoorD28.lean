import Derived.Test.YtbgdagokjfmcbaaGreatDoorD24
import Derived.Test.YtbgdagokjfmcbaaGreatDoorD9
import Derived.Test.YtbgdagokjfmcbaaGreatDoorV42
namespace Go.Proofs
open Go Go.V
set_option linter.unusedVariables false
set_option linter.unusedSimpArgs false
set_option maxHeartbeats 0
structure Ch where
 at_ : Nat
 to : Nat
 out : Nat
 w : Nat
def cD : Ch := ⟨0, 0, 0, 0⟩
def Ch.Ok (c : Ch) : Prop := c.at_ < 256 ∧ c.to < 256 ∧ c.out < 256 ∧ c.w < 256
def chA (L : List Ch) : List (List AV) := L.map fun c => [.int .u8 c.at_, .int .u8 c.to, .int .u8 c.out, .int .u8 c.w]
theorem length_chA (L : List Ch) : (chA L).length = L.length := by simp [chA]
theorem getD_chA (L : List Ch) (k : Nat) (h : k < L.length) : (chA L).getD k [] = [.int .u8 (L.getD k cD).at_, .int .u8 (L.getD k cD).to, .int .u8 (L.getD k cD).out, .int .u8 (L.getD k cD).w] := by simp [chA, h]
theorem idsE_chA (p : Nat → Bool) (L : List Ch) : idsE p (chA L) = true := idsE_map _ _ fun x => by simp [idsL, AV.ids]
theorem all_chA (p : Nat → Bool) (L : List Ch) : ((chA L).all fun e => e.all fun x => AV.ids p x) = true := all_of_idsE (idsE_chA p L)
attribute [simp] idsE_chA
attribute [push_cast] all_chA length_chA idsE_chA
abbrev Rs := List (List Edg)
def chE (N O : Nat) (c : Ch) : Edg := if c.w % 4 = 0 then (-1, -1) else (((c.to % N : Nat) : Int), ((c.out % O : Nat) : Int))
def chM (I O : Nat) (rs : Rs) (c : Ch) : Rs := rs.set (c.at_ % (rs.length * I) / I) ((rs.getD (c.at_ % (rs.length * I) / I) []).set (c.at_ % (rs.length * I) % I) (chE rs.length O c))
def chN (I O : Nat) (rs : Rs) (L : List Ch) : Nat → Rs
 | 0 => rs
 | k + 1 => chM I O (chN I O rs L k) (L.getD k cD)
def usedN (rs : Rs) (I s i : Nat) : Bool := decide (rs.length = 1) || (List.range s).any (fun q => (List.range I).any fun j => decide (q + 1 < rs.length) && decide (((rs.getD q []).getD j (0, 0)).1 = rs.length - 1)) || (List.range i).any fun j => decide (s + 1 < rs.length) && decide (((rs.getD s []).getD j (0, 0)).1 = rs.length - 1)
def usedM (I : Nat) (rs : Rs) : Bool := usedN rs I rs.length 0
def moreM (rs : Rs) (b : Bool) : Rs := if b = true then rs ++ [rs.getD 0 []] else rs
def lessM (I : Nat) (rs : Rs) (b : Bool) : Rs := if (b && !usedM I rs) = true then rs.take (rs.length - 1) else rs
def nextM (I O : Nat) (rs : Rs) (L : List Ch) (more less : Bool) : Rs := lessM I (chN I O (moreM rs more) L (min 6 L.length)) less
def vC (x : MD) (z : Nat) (c : Option Nat) (L : List Ch) (y : Nat) (d : Option Nat) (more less : Bool) : List AV := [.int .u8 x.st, .int .u8 x.inp, .int .u8 x.ou, .bool x.pa, .sl z (u16s x.es) c, .sl y (chA L) d, .bool more, .bool less]
theorem rowA_cons (e : Edg) (r : List Edg) : rowA (e :: r) = eA e :: rowA r := rfl
def nH (I O : Nat) (l : List Row) (c : Option Nat) (x : MD) (z : Nat) (c2 : Option Nat) (L : List Ch) (y : Nat) (d : Option Nat) (more less : Bool) (N : Nat) (rss : List (List (List AV))) : List Blk :=
 .row 3 30 [[.int .i64 I, .int .i64 O, .sl 1 (rowsA l) c]] :: .row 8 27 [vC x z c2 L y d more less] :: .row 3 30 [[.int .i64 0, .int .i64 0, .sl 0 [] (some 0)]] :: .row 3 30 [[.int .i64 I, .int .i64 O, .own 4 N N none]] :: .row 1 98 (ownR 5 I none N) :: rowBs 2 58 rss
theorem rowA_set (r : List Edg) (v : Nat) (a b : Int) : (rowA r).set v [.int .i64 a, .int .i64 b] = rowA (r.set v (a, b)) := by rw [rowA, rowA, List.map_set]; rfl
theorem mapA_set (R : Rs) (u : Nat) (r : List Edg) : (R.map rowA).set u (rowA r) = (R.set u r).map rowA := by rw [List.map_set]
theorem getD_mapA (R : Rs) (u : Nat) : (R.map rowA).getD u [] = rowA (R.getD u []) := by
 rw [List.getD_eq_getElem?_getD, List.getD_eq_getElem?_getD, List.getElem?_map]
 cases R[u]? <;> rfl
def WideR (I : Nat) (R : Rs) : Prop := ∀ s, s < R.length → (R.getD s []).length = I
theorem chM_len (I O : Nat) (R : Rs) (c : Ch) : (chM I O R c).length = R.length := by simp [chM]
theorem chM_wide {I O : Nat} {R : Rs} (h : WideR I R) (c : Ch) : WideR I (chM I O R c) := fun s hs => by
 rw [chM_len] at hs
 rw [chM, List.getD_eq_getElem?_getD, List.getElem?_set]
 split
 ·rename_i he
  rw [if_pos (by omega)]
  simp only [Option.getD_some, List.length_set]
  rw [he]; exact h s hs
 ·have := h s hs
  rwa [List.getD_eq_getElem?_getD] at this
theorem chN_len (I O : Nat) (R : Rs) (L : List Ch) : ∀ k, (chN I O R L k).length = R.length
 | 0 => rfl
 | k + 1 => by rw [chN, chM_len, chN_len I O R L k]
theorem chN_wide {I O : Nat} {R : Rs} (h : WideR I R) (L : List Ch) : ∀ k, WideR I (chN I O R L k)
 | 0 => h
 | k + 1 => chM_wide (chN_wide h L k) _
theorem usedN_zero (R : Rs) (I : Nat) : usedN R I 0 0 = decide (R.length = 1) := by simp [usedN]
theorem usedN_succ (R : Rs) (I s i : Nat) : usedN R I s (i + 1) = (usedN R I s i || (decide (s + 1 < R.length) && decide (((R.getD s []).getD i (0, 0)).1 = R.length - 1))) := by
 simp only [usedN, List.range_succ, List.any_append, List.any_cons, List.any_nil, Bool.or_false, Bool.or_assoc]
theorem usedN_row (R : Rs) (I s : Nat) : usedN R I (s + 1) 0 = usedN R I s I := by
 simp only [usedN, List.range_succ, List.any_append, List.any_cons, List.any_nil, Bool.or_false, Bool.or_assoc, List.range_zero]
theorem close_rows (R : Rs) (I n : Nat) (b0 b1 b2 b3 b4 : Blk) (hn : n ≤ R.length) (hw : WideR I R) :
  ((ownR 5 I none n).map fun e => e.map (closeC (b0 :: b1 :: b2 :: b3 :: b4 :: rowBs 2 58 (R.map rowA)) 1)) = rowsA ((R.take n).map fun r => (r, none)) := by
 rw [close_ownR (z := 2) (t := 58) (rss := R.map rowA) (fun s hs => ?_) (fun s hs => ?_)]
 ·refine List.ext_getElem (by simp [rowsA]; omega) fun k h1 h2 => ?_
  simp only [List.length_map, List.length_range] at h1
  have hk : k < R.length := by omega
  simp [rowsA, hk]
 ·show (rowBs 2 58 (R.map rowA))[s]? = _
  exact rb_get (N := R.length) (by simp) (by omega)
 ·rw [getD_mapA, length_rowA]; exact hw s (by omega)
theorem ok_rows (R : Rs) (I n : Nat) (b0 b1 b2 b3 b4 : Blk) (hn : n ≤ R.length) (hw : WideR I R) :
  ((ownR 5 I none n).all fun e => e.all (okC (b0 :: b1 :: b2 :: b3 :: b4 :: rowBs 2 58 (R.map rowA)) 1)) = true := by
 refine ok_ownR (z := 2) (t := 58) (rss := R.map rowA) (fun s hs => ?_) (fun s hs => ?_) (fun s hs => ?_)
 ·show (rowBs 2 58 (R.map rowA))[s]? = _
  exact rb_get (N := R.length) (by simp) (by omega)
 ·rw [getD_mapA, length_rowA]; exact hw s (by omega)
 ·rw [getD_mapA]; exact idsE_rowA _ _
theorem take5 {N : Nat} (b0 b1 b2 b3 b4 : Blk) (X K : List Blk) (h : X.length = N) : (b0 :: b1 :: b2 :: b3 :: b4 :: (X ++ K)).take (N + 5) = b0 :: b1 :: b2 :: b3 :: b4 :: X := by
 subst h
 simp only [List.take_succ_cons, List.take_append_of_le_length (Nat.le_refl _), List.take_length]
theorem nH_below (I O : Nat) (l : List Row) (c : Option Nat) (x : MD) (z : Nat) (c2 : Option Nat) (L : List Ch) (y : Nat) (d : Option Nat) (more less : Bool) (N : Nat) (R : Rs) : (nH I O l c x z c2 L y d more less N (R.map rowA)).all (Blk.below (N + 5)) = true := by
 have h := rb_below (z := 2) (t := 58) (m := N + 5) (rss := R.map rowA) fun es hes => by
  obtain ⟨r, _, rfl⟩ := List.mem_map.1 hes
  exact idsE_rowA _ _
 have h2 := ownR_ids (b0 := 5) (I := I) (N := N) (m := N + 5) none (Nat.le_refl _)
 unfold nH vC
 rw [List.all_cons, List.all_cons, List.all_cons, List.all_cons, List.all_cons, h]
 simp [Blk.below, idsE, idsL, AV.ids, h2]
set_option maxRecDepth 100000 in
theorem next_tail2 (I O : Nat) (l : List Row) (c : Option Nat) (x : MD) (z : Nat) (c2 : Option Nat) (L : List Ch) (y : Nat) (d : Option Nat) (more less : Bool) (R : Rs) (N : Nat) (s : Nat → AV) (hI : 1 ≤ I ∧ I ≤ 100) (hNR : R.length = N) (hR : 1 ≤ N ∧ N ≤ 101) (hw : WideR I R)
  (q2 : s 2 = .ptr 0 0 0 1) (q3 : s 3 = .ptr 1 0 0 1) (q4 : s 4 = .ptr 2 0 0 1) (q5 : s 5 = .ptr 3 0 0 1) (q11 : s 11 = .int .i64 ((N : Int) - 1)) (q12 : s 12 = .bool (decide ((N : Int) - 1 = 0))) (q13 : s 13 = .int .i64 0) :
  Go false Tryz.prog G0 0 159 (bodyOf Tryz.f16) [0, 1, 0, 1, 1, 1, 1, 1, 1, 1] (inBlockS 4 (thenC false Tryz.prog G0 0 159 (bodyOf Tryz.f16) [1, 1, 1, 1, 1, 1, 1, 1] (DoneS Tryz.prog 159 [ResultVar.cell 4 30] 2 (.agg [.int .i64 I, .int .i64 O, .sl 1 (rowsA ((lessM I R less).map fun r => (r, none))) none])))) True s (nH I O l c x z c2 L y d more less N (R.map rowA)) := by
 have hN : (R.map rowA).length = N := by rw [List.length_map]; exact hNR
 have hu0 : usedN R I 0 0 = decide ((N : Int) - 1 = 0) := by
  rw [usedN_zero, hNR]
  by_cases h : N = 1
  ·rw [decide_eq_true h, decide_eq_true (by omega)]
  ·rw [decide_eq_false h, decide_eq_false (by omega)]
 refine go_loop rfl (fun mz s' H' => ∃ s : Nat, s ≤ N ∧ mz = N - s ∧ H' = nH I O l c x z c2 L y d more less N (R.map rowA) ∧ s' 2 = .ptr 0 0 0 1 ∧ s' 3 = .ptr 1 0 0 1 ∧ s' 4 = .ptr 2 0 0 1 ∧ s' 5 = .ptr 3 0 0 1 ∧ s' 11 = .int .i64 ((N : Int) - 1) ∧ s' 12 = .bool (usedN R I s 0) ∧ s' 13 = .int .i64 s) (m := N) (by (first|trivial|((repeat' apply And.intro) <;> first|trivial|assumption|omega|(simp only [maxLen]; omega)|(simp only [length_edsA, length_rowsA, length_rowA, length_u16s, length_chA, length_ownR, rb_len, List.length_replicate, List.length_append, List.length_cons, List.length_nil, List.length_map, List.length_take, List.length_drop, List.length_set, List.length_reverse, maxLen] <;> omega)))) (Weak.refl _ _) ⟨0, by omega, by omega, rfl, ?_⟩ ?_
 ·simp (disch := first|omega|(simp only [length_edsA, length_rowsA, length_rowA, length_u16s, length_chA, length_ownR, rb_len, List.length_set, List.length_reverse, List.length_replicate, List.length_append, List.length_cons, List.length_nil, List.length_map]; omega)) only [push_cast, ↓reduceIte, reduceIte, reduceCtorEq, Nat.reduceAdd, Nat.reduceLT, Nat.reduceEqDiff, Nat.reduceLeDiff, Int.reduceAdd, Int.reduceLT, Int.reduceLE, Nat.reduceMul, q2, q3, q4, q5, q11, q12, q13, hu0]
 ·rintro mz s' H' ⟨s, hs, rfl, rfl, b2, b3, b4, b5, b11, b12, b13⟩
  rcases Nat.lt_or_ge s N with hlt|hge
  ·unfold nH vC
   repeat' (first|(first|(refine a0_ ?_; first|refine a1_ rfl rfl ?_|refine a2_ rfl ?_|refine a3_ rfl rfl ?_|refine a4_ rfl ?_|refine a5_ rfl rfl rfl ?_|refine a6_ rfl rfl ?_)|(refine g0_ ?_; first|refine g1_ rfl ?_|refine g2_ rfl rfl ?_|refine go_drawN (dr := allQ) (p := [0, 0, 1, 0, 0, 1, 0, 1, 1]) [(27, 5), (28, 27)] [(35, some 29)] [] rfl rfl mixed (by kernel_rfl) ?_|refine go_drawN (dr := allQ) (p := [0, 1, 0, 1, 1, 1]) [(41, 5), (42, 41)] [(48, some 43)] [] rfl rfl mixed (by kernel_rfl) ?_|refine go_drawN (dr := allQ) (p := [0, 1, 1, 0, 0, 1, 0, 0, 1, 0, 1, 1, 1, 1]) [] [] [(14, 15)] rfl rfl mixed (by kernel_rfl) ?_|refine go_draw (dr := allQ) rfl rfl mixed (by first|assumption|kernel_rfl) ?_|refine g4_ rfl ?_|refine g5_ rfl ?_|refine g6_ rfl ?_|refine g7_ rfl ?_|refine g8_ rfl ?_)|(refine o0_ ?_; first|refine o1_ ?_|refine o2_ ?_|refine o3_ ?_|refine o4_ ?_|refine o5_ ?_|refine o6_ rfl ?_|refine o7_ rfl ?_|refine o8_ ?_|refine o9_ ?_|refine oa_ ?_|refine ob_ ?_|refine oc_ ?_|refine od_ ?_|refine oe_ ?_|refine of_ ?_|refine og_ ?_))|refine at_go ?_|(with_reducible refine And.intro (at_go ?_) (at_go ?_))|((with_reducible refine And.intro (fun h => ?_) (fun h => ?_)) <;> try (exfalso; omega))|(with_reducible refine And.intro (by first|omega|(simp only [maxLen]; omega)) ?_)|fail|simp (disch := first|omega|(simp only [length_edsA, length_rowsA, length_rowA, length_u16s, length_chA, length_ownR, rb_len, List.length_set, List.length_reverse, List.length_replicate, List.length_append, List.length_cons, List.length_nil, List.length_map]; omega)) only [push_cast, ↓reduceIte, reduceIte, reduceCtorEq, Nat.reduceAdd, Nat.reduceLT, Nat.reduceEqDiff, Nat.reduceLeDiff, Int.reduceAdd, Int.reduceLT, Int.reduceLE, Nat.reduceMul, b2, b3, b4, b5, b11, b12, b13, rb_len, hN, length_ownR])
   refine go_loop rfl (fun mz s' H' => ∃ i : Nat, i ≤ I ∧ mz = I - i ∧ H' = nH I O l c x z c2 L y d more less N (R.map rowA) ∧ s' 2 = .ptr 0 0 0 1 ∧ s' 3 = .ptr 1 0 0 1 ∧ s' 4 = .ptr 2 0 0 1 ∧ s' 5 = .ptr 3 0 0 1 ∧ s' 11 = .int .i64 ((N : Int) - 1) ∧ s' 12 = .bool (usedN R I s i) ∧ s' 13 = .int .i64 s ∧ s' 14 = .int .i64 i) (m := I) (by (first|trivial|((repeat' apply And.intro) <;> first|trivial|assumption|omega|(simp only [maxLen]; omega)|(simp only [length_edsA, length_rowsA, length_rowA, length_u16s, length_chA, length_ownR, rb_len, List.length_replicate, List.length_append, List.length_cons, List.length_nil, List.length_map, List.length_take, List.length_drop, List.length_set, List.length_reverse, maxLen] <;> omega)))) (Weak.refl _ _) ⟨0, by omega, by omega, rfl, ?_⟩ ?_
   ·simp (disch := first|omega|(simp only [length_edsA, length_rowsA, length_rowA, length_u16s, length_chA, length_ownR, rb_len, List.length_set, List.length_reverse, List.length_replicate, List.length_append, List.length_cons, List.length_nil, List.length_map]; omega)) only [push_cast, ↓reduceIte, reduceIte, reduceCtorEq, Nat.reduceAdd, Nat.reduceLT, Nat.reduceEqDiff, Nat.reduceLeDiff, Int.reduceAdd, Int.reduceLT, Int.reduceLE, Nat.reduceMul, b2, b3, b4, b5, b11, b12, b13, rb_len, hN, length_ownR]
   ·rintro mz s' H' ⟨i, hi, rfl, rfl, b2, b3, b4, b5, b11, b12, b13, b14⟩
    unfold nH vC
    rcases Nat.lt_or_ge i I with hlt2|hge2
    ·have er := getD_mapA R s
     have el : (R.getD s []).length = I := hw s (by omega)
     have ee := getD_rowA (R.getD s []) i (by omega)
     have g1 := rb_get (z := 2) (t := 58) hN hlt
     have g2 := getD_ownR (b0 := 5) (I := I) none hlt
     have hus := usedN_succ R I s i
     rw [hNR] at hus
     generalize usedN R I s i = u at *
     generalize (R.getD s []).getD i (0, 0) = e at *
     obtain ⟨to, ot⟩ := e
     simp only [eA] at ee
     dsimp only at hus
     cases u with
     | true =>
      have hus : usedN R I s (i + 1) = true := by rw [hus]; simp
      repeat' (first|(first|(refine a0_ ?_; first|refine a1_ rfl rfl ?_|refine a2_ rfl ?_|refine a3_ rfl rfl ?_|refine a4_ rfl ?_|refine a5_ rfl rfl rfl ?_|refine a6_ rfl rfl ?_)|(refine g0_ ?_; first|refine g1_ rfl ?_|refine g2_ rfl rfl ?_|refine go_drawN (dr := allQ) (p := [0, 0, 1, 0, 0, 1, 0, 1, 1]) [(27, 5), (28, 27)] [(35, some 29)] [] rfl rfl mixed (by kernel_rfl) ?_|refine go_drawN (dr := allQ) (p := [0, 1, 0, 1, 1, 1]) [(41, 5), (42, 41)] [(48, some 43)] [] rfl rfl mixed (by kernel_rfl) ?_|refine go_drawN (dr := allQ) (p := [0, 1, 1, 0, 0, 1, 0, 0, 1, 0, 1, 1, 1, 1]) [] [] [(14, 15)] rfl rfl mixed (by kernel_rfl) ?_|refine go_draw (dr := allQ) rfl rfl mixed (by first|assumption|kernel_rfl) ?_|refine g4_ rfl ?_|refine g5_ rfl ?_|refine g6_ rfl ?_|refine g7_ rfl ?_|refine g8_ rfl ?_)|(refine o0_ ?_; first|refine o1_ ?_|refine o2_ ?_|refine o3_ ?_|refine o4_ ?_|refine o5_ ?_|refine o6_ rfl ?_|refine o7_ rfl ?_|refine o8_ ?_|refine o9_ ?_|refine oa_ ?_|refine ob_ ?_|refine oc_ ?_|refine od_ ?_|refine oe_ ?_|refine of_ ?_|refine og_ ?_))|refine at_go ?_|(with_reducible refine And.intro (at_go ?_) (at_go ?_))|((with_reducible refine And.intro (fun h => ?_) (fun h => ?_)) <;> try (exfalso; omega))|(with_reducible refine And.intro (by first|omega|(simp only [maxLen]; omega)) ?_)|fail|simp (disch := first|omega|(simp only [length_edsA, length_rowsA, length_rowA, length_u16s, length_chA, length_ownR, rb_len, List.length_set, List.length_reverse, List.length_replicate, List.length_append, List.length_cons, List.length_nil, List.length_map]; omega)) only [push_cast, ↓reduceIte, reduceIte, reduceCtorEq, Nat.reduceAdd, Nat.reduceLT, Nat.reduceEqDiff, Nat.reduceLeDiff, Int.reduceAdd, Int.reduceLT, Int.reduceLE, Nat.reduceMul, b2, b3, b4, b5, b11, b12, b13, b14, hlt2, g1, g2, er, el, ee, length_rowA, length_ownR, rb_len, hN])
      refine out_round (I - (i + 1)) (by omega) (by (first|trivial|((repeat' apply And.intro) <;> first|trivial|assumption|omega|(simp only [maxLen]; omega)|(simp only [length_edsA, length_rowsA, length_rowA, length_u16s, length_chA, length_ownR, rb_len, List.length_replicate, List.length_append, List.length_cons, List.length_nil, List.length_map, List.length_take, List.length_drop, List.length_set, List.length_reverse, maxLen] <;> omega)))) ⟨i + 1, by omega, rfl, rfl, ?_⟩
      rw [hus]
      simp (disch := first|omega|(simp only [length_edsA, length_rowsA, length_rowA, length_u16s, length_chA, length_ownR, rb_len, List.length_set, List.length_reverse, List.length_replicate, List.length_append, List.length_cons, List.length_nil, List.length_map]; omega)) only [push_cast, ↓reduceIte, reduceIte, reduceCtorEq, Nat.reduceAdd, Nat.reduceLT, Nat.reduceEqDiff, Nat.reduceLeDiff, Int.reduceAdd, Int.reduceLT, Int.reduceLE, Nat.reduceMul, b2, b3, b4, b5, b11, b12, b13, b14, hlt2, g1, g2, er, el, ee, length_rowA, length_ownR, rb_len, hN]
     | false =>
      by_cases h1 : s + 1 < N
      ·have q1 : ((s : Int) < (N : Int) - 1) = True := eq_true (by omega)
       have hus : usedN R I s (i + 1) = decide (to = (N : Int) - 1) := by rw [hus]; simp [h1]
       repeat' (first|(first|(refine a0_ ?_; first|refine a1_ rfl rfl ?_|refine a2_ rfl ?_|refine a3_ rfl rfl ?_|refine a4_ rfl ?_|refine a5_ rfl rfl rfl ?_|refine a6_ rfl rfl ?_)|(refine g0_ ?_; first|refine g1_ rfl ?_|refine g2_ rfl rfl ?_|refine go_drawN (dr := allQ) (p := [0, 0, 1, 0, 0, 1, 0, 1, 1]) [(27, 5), (28, 27)] [(35, some 29)] [] rfl rfl mixed (by kernel_rfl) ?_|refine go_drawN (dr := allQ) (p := [0, 1, 0, 1, 1, 1]) [(41, 5), (42, 41)] [(48, some 43)] [] rfl rfl mixed (by kernel_rfl) ?_|refine go_drawN (dr := allQ) (p := [0, 1, 1, 0, 0, 1, 0, 0, 1, 0, 1, 1, 1, 1]) [] [] [(14, 15)] rfl rfl mixed (by kernel_rfl) ?_|refine go_draw (dr := allQ) rfl rfl mixed (by first|assumption|kernel_rfl) ?_|refine g4_ rfl ?_|refine g5_ rfl ?_|refine g6_ rfl ?_|refine g7_ rfl ?_|refine g8_ rfl ?_)|(refine o0_ ?_; first|refine o1_ ?_|refine o2_ ?_|refine o3_ ?_|refine o4_ ?_|refine o5_ ?_|refine o6_ rfl ?_|refine o7_ rfl ?_|refine o8_ ?_|refine o9_ ?_|refine oa_ ?_|refine ob_ ?_|refine oc_ ?_|refine od_ ?_|refine oe_ ?_|refine of_ ?_|refine og_ ?_))|refine at_go ?_|(with_reducible refine And.intro (at_go ?_) (at_go ?_))|((with_reducible refine And.intro (fun h => ?_) (fun h => ?_)) <;> try (exfalso; omega))|(with_reducible refine And.intro (by first|omega|(simp only [maxLen]; omega)) ?_)|fail|simp (disch := first|omega|(simp only [length_edsA, length_rowsA, length_rowA, length_u16s, length_chA, length_ownR, rb_len, List.length_set, List.length_reverse, List.length_replicate, List.length_append, List.length_cons, List.length_nil, List.length_map]; omega)) only [push_cast, ↓reduceIte, reduceIte, reduceCtorEq, Nat.reduceAdd, Nat.reduceLT, Nat.reduceEqDiff, Nat.reduceLeDiff, Int.reduceAdd, Int.reduceLT, Int.reduceLE, Nat.reduceMul, b2, b3, b4, b5, b11, b12, b13, b14, hlt2, g1, g2, er, el, ee, length_rowA, length_ownR, rb_len, hN, q1])
       refine out_round (I - (i + 1)) (by omega) (by (first|trivial|((repeat' apply And.intro) <;> first|trivial|assumption|omega|(simp only [maxLen]; omega)|(simp only [length_edsA, length_rowsA, length_rowA, length_u16s, length_chA, length_ownR, rb_len, List.length_replicate, List.length_append, List.length_cons, List.length_nil, List.length_map, List.length_take, List.length_drop, List.length_set, List.length_reverse, maxLen] <;> omega)))) ⟨i + 1, by omega, rfl, rfl, ?_⟩
       rw [hus]
       simp (disch := first|omega|(simp only [length_edsA, length_rowsA, length_rowA, length_u16s, length_chA, length_ownR, rb_len, List.length_set, List.length_reverse, List.length_replicate, List.length_append, List.length_cons, List.length_nil, List.length_map]; omega)) only [push_cast, ↓reduceIte, reduceIte, reduceCtorEq, Nat.reduceAdd, Nat.reduceLT, Nat.reduceEqDiff, Nat.reduceLeDiff, Int.reduceAdd, Int.reduceLT, Int.reduceLE, Nat.reduceMul, b2, b3, b4, b5, b11, b12, b13, b14, hlt2, g1, g2, er, el, ee, length_rowA, length_ownR, rb_len, hN, q1]
      ·have q1 : ((s : Int) < (N : Int) - 1) = False := eq_false (by omega)
       have hus : usedN R I s (i + 1) = false := by rw [hus]; simp [h1]
       repeat' (first|(first|(refine a0_ ?_; first|refine a1_ rfl rfl ?_|refine a2_ rfl ?_|refine a3_ rfl rfl ?_|refine a4_ rfl ?_|refine a5_ rfl rfl rfl ?_|refine a6_ rfl rfl ?_)|(refine g0_ ?_; first|refine g1_ rfl ?_|refine g2_ rfl rfl ?_|refine go_drawN (dr := allQ) (p := [0, 0, 1, 0, 0, 1, 0, 1, 1]) [(27, 5), (28, 27)] [(35, some 29)] [] rfl rfl mixed (by kernel_rfl) ?_|refine go_drawN (dr := allQ) (p := [0, 1, 0, 1, 1, 1]) [(41, 5), (42, 41)] [(48, some 43)] [] rfl rfl mixed (by kernel_rfl) ?_|refine go_drawN (dr := allQ) (p := [0, 1, 1, 0, 0, 1, 0, 0, 1, 0, 1, 1, 1, 1]) [] [] [(14, 15)] rfl rfl mixed (by kernel_rfl) ?_|refine go_draw (dr := allQ) rfl rfl mixed (by first|assumption|kernel_rfl) ?_|refine g4_ rfl ?_|refine g5_ rfl ?_|refine g6_ rfl ?_|refine g7_ rfl ?_|refine g8_ rfl ?_)|(refine o0_ ?_; first|refine o1_ ?_|refine o2_ ?_|refine o3_ ?_|refine o4_ ?_|refine o5_ ?_|refine o6_ rfl ?_|refine o7_ rfl ?_|refine o8_ ?_|refine o9_ ?_|refine oa_ ?_|refine ob_ ?_|refine oc_ ?_|refine od_ ?_|refine oe_ ?_|refine of_ ?_|refine og_ ?_))|refine at_go ?_|(with_reducible refine And.intro (at_go ?_) (at_go ?_))|((with_reducible refine And.intro (fun h => ?_) (fun h => ?_)) <;> try (exfalso; omega))|(with_reducible refine And.intro (by first|omega|(simp only [maxLen]; omega)) ?_)|fail|simp (disch := first|omega|(simp only [length_edsA, length_rowsA, length_rowA, length_u16s, length_chA, length_ownR, rb_len, List.length_set, List.length_reverse, List.length_replicate, List.length_append, List.length_cons, List.length_nil, List.length_map]; omega)) only [push_cast, ↓reduceIte, reduceIte, reduceCtorEq, Nat.reduceAdd, Nat.reduceLT, Nat.reduceEqDiff, Nat.reduceLeDiff, Int.reduceAdd, Int.reduceLT, Int.reduceLE, Nat.reduceMul, b2, b3, b4, b5, b11, b12, b13, b14, hlt2, g1, g2, er, el, ee, length_rowA, length_ownR, rb_len, hN, q1])
       refine out_round (I - (i + 1)) (by omega) (by (first|trivial|((repeat' apply And.intro) <;> first|trivial|assumption|omega|(simp only [maxLen]; omega)|(simp only [length_edsA, length_rowsA, length_rowA, length_u16s, length_chA, length_ownR, rb_len, List.length_replicate, List.length_append, List.length_cons, List.length_nil, List.length_map, List.length_take, List.length_drop, List.length_set, List.length_reverse, maxLen] <;> omega)))) ⟨i + 1, by omega, rfl, rfl, ?_⟩
       rw [hus]
       simp (disch := first|omega|(simp only [length_edsA, length_rowsA, length_rowA, length_u16s, length_chA, length_ownR, rb_len, List.length_set, List.length_reverse, List.length_replicate, List.length_append, List.length_cons, List.length_nil, List.length_map]; omega)) only [push_cast, ↓reduceIte, reduceIte, reduceCtorEq, Nat.reduceAdd, Nat.reduceLT, Nat.reduceEqDiff, Nat.reduceLeDiff, Int.reduceAdd, Int.reduceLT, Int.reduceLE, Nat.reduceMul, b2, b3, b4, b5, b11, b12, b13, b14, hlt2, g1, g2, er, el, ee, length_rowA, length_ownR, rb_len, hN, q1]
    ·obtain rfl : i = I := by omega
     repeat' (first|(first|(refine a0_ ?_; first|refine a1_ rfl rfl ?_|refine a2_ rfl ?_|refine a3_ rfl rfl ?_|refine a4_ rfl ?_|refine a5_ rfl rfl rfl ?_|refine a6_ rfl rfl ?_)|(refine g0_ ?_; first|refine g1_ rfl ?_|refine g2_ rfl rfl ?_|refine go_drawN (dr := allQ) (p := [0, 0, 1, 0, 0, 1, 0, 1, 1]) [(27, 5), (28, 27)] [(35, some 29)] [] rfl rfl mixed (by kernel_rfl) ?_|refine go_drawN (dr := allQ) (p := [0, 1, 0, 1, 1, 1]) [(41, 5), (42, 41)] [(48, some 43)] [] rfl rfl mixed (by kernel_rfl) ?_|refine go_drawN (dr := allQ) (p := [0, 1, 1, 0, 0, 1, 0, 0, 1, 0, 1, 1, 1, 1]) [] [] [(14, 15)] rfl rfl mixed (by kernel_rfl) ?_|refine go_draw (dr := allQ) rfl rfl mixed (by first|assumption|kernel_rfl) ?_|refine g4_ rfl ?_|refine g5_ rfl ?_|refine g6_ rfl ?_|refine g7_ rfl ?_|refine g8_ rfl ?_)|(refine o0_ ?_; first|refine o1_ ?_|refine o2_ ?_|refine o3_ ?_|refine o4_ ?_|refine o5_ ?_|refine o6_ rfl ?_|refine o7_ rfl ?_|refine o8_ ?_|refine o9_ ?_|refine oa_ ?_|refine ob_ ?_|refine oc_ ?_|refine od_ ?_|refine oe_ ?_|refine of_ ?_|refine og_ ?_))|refine at_go ?_|(with_reducible refine And.intro (at_go ?_) (at_go ?_))|((with_reducible refine And.intro (fun h => ?_) (fun h => ?_)) <;> try (exfalso; omega))|(with_reducible refine And.intro (by first|omega|(simp only [maxLen]; omega)) ?_)|fail|simp (disch := first|omega|(simp only [length_edsA, length_rowsA, length_rowA, length_u16s, length_chA, length_ownR, rb_len, List.length_set, List.length_reverse, List.length_replicate, List.length_append, List.length_cons, List.length_nil, List.length_map]; omega)) only [push_cast, ↓reduceIte, reduceIte, reduceCtorEq, Nat.reduceAdd, Nat.reduceLT, Nat.reduceEqDiff, Nat.reduceLeDiff, Int.reduceAdd, Int.reduceLT, Int.reduceLE, Nat.reduceMul, b2, b3, b4, b5, b11, b12, b13, b14])
     refine out_round (N - (s + 1)) (by omega) (by (first|trivial|((repeat' apply And.intro) <;> first|trivial|assumption|omega|(simp only [maxLen]; omega)|(simp only [length_edsA, length_rowsA, length_rowA, length_u16s, length_chA, length_ownR, rb_len, List.length_replicate, List.length_append, List.length_cons, List.length_nil, List.length_map, List.length_take, List.length_drop, List.length_set, List.length_reverse, maxLen] <;> omega)))) ⟨s + 1, by omega, rfl, rfl, ?_⟩
     simp (disch := first|omega|(simp only [length_edsA, length_rowsA, length_rowA, length_u16s, length_chA, length_ownR, rb_len, List.length_set, List.length_reverse, List.length_replicate, List.length_append, List.length_cons, List.length_nil, List.length_map]; omega)) only [push_cast, ↓reduceIte, reduceIte, reduceCtorEq, Nat.reduceAdd, Nat.reduceLT, Nat.reduceEqDiff, Nat.reduceLeDiff, Int.reduceAdd, Int.reduceLT, Int.reduceLE, Nat.reduceMul, b2, b3, b4, b5, b11, b12, b13, b14]
     exact congrArg AV.bool (usedN_row R i s).symm
  ·obtain rfl : s = N := by omega
   have hum : usedN R I s 0 = usedM I R := by rw [usedM, hNR]
   rw [hum] at b12
   have o1 := fun b0 b1 b2 b3 b4 => ok_rows R I s b0 b1 b2 b3 b4 (by omega) hw
   have o2 := fun b0 b1 b2 b3 b4 => ok_rows R I (s - 1) b0 b1 b2 b3 b4 (by omega) hw
   have o3 := fun b0 b1 b2 b3 b4 => close_rows R I s b0 b1 b2 b3 b4 (by omega) hw
   have o4 := fun b0 b1 b2 b3 b4 => close_rows R I (s - 1) b0 b1 b2 b3 b4 (by omega) hw
   have o5 := take_ownR (b0 := 5) (I := I) (N := s) (n := s) none (Nat.le_refl _)
   have o6 := take_ownR (b0 := 5) (I := I) (N := s) (n := s - 1) none (by omega)
   have o7 : ((s : Int) - 1).toNat = s - 1 := by omega
   have o8 : R.take s = R := List.take_of_length_le (by omega)
   have o9 : lessM I R less = if (less && !usedM I R) = true then R.take (s - 1) else R := by rw [lessM, hNR]
   rw [o9]
   unfold nH vC
   generalize usedM I R = u at *
   cases less <;> cases u
   ·repeat' (first|(first|(refine a0_ ?_; first|refine a1_ rfl rfl ?_|refine a2_ rfl ?_|refine a3_ rfl rfl ?_|refine a4_ rfl ?_|refine a5_ rfl rfl rfl ?_|refine a6_ rfl rfl ?_)|(refine g0_ ?_; first|refine g1_ rfl ?_|refine g2_ rfl rfl ?_|refine go_drawN (dr := allQ) (p := [0, 0, 1, 0, 0, 1, 0, 1, 1]) [(27, 5), (28, 27)] [(35, some 29)] [] rfl rfl mixed (by kernel_rfl) ?_|refine go_drawN (dr := allQ) (p := [0, 1, 0, 1, 1, 1]) [(41, 5), (42, 41)] [(48, some 43)] [] rfl rfl mixed (by kernel_rfl) ?_|refine go_drawN (dr := allQ) (p := [0, 1, 1, 0, 0, 1, 0, 0, 1, 0, 1, 1, 1, 1]) [] [] [(14, 15)] rfl rfl mixed (by kernel_rfl) ?_|refine go_draw (dr := allQ) rfl rfl mixed (by first|assumption|kernel_rfl) ?_|refine g4_ rfl ?_|refine g5_ rfl ?_|refine g6_ rfl ?_|refine g7_ rfl ?_|refine g8_ rfl ?_)|(refine o0_ ?_; first|refine o1_ ?_|refine o2_ ?_|refine o3_ ?_|refine o4_ ?_|refine o5_ ?_|refine o6_ rfl ?_|refine o7_ rfl ?_|refine o8_ ?_|refine o9_ ?_|refine oa_ ?_|refine ob_ ?_|refine oc_ ?_|refine od_ ?_|refine oe_ ?_|refine of_ ?_|refine og_ ?_))|refine at_go ?_|(with_reducible refine And.intro (at_go ?_) (at_go ?_))|((with_reducible refine And.intro (fun h => ?_) (fun h => ?_)) <;> try (exfalso; omega))|(with_reducible refine And.intro (by first|omega|(simp only [maxLen]; omega)) ?_)|fail|simp (disch := first|omega|(simp only [length_edsA, length_rowsA, length_rowA, length_u16s, length_chA, length_ownR, rb_len, List.length_set, List.length_reverse, List.length_replicate, List.length_append, List.length_cons, List.length_nil, List.length_map]; omega)) only [push_cast, ↓reduceIte, reduceIte, reduceCtorEq, Nat.reduceAdd, Nat.reduceLT, Nat.reduceEqDiff, Nat.reduceLeDiff, Int.reduceAdd, Int.reduceLT, Int.reduceLE, Nat.reduceMul, b2, b3, b4, b5, b11, b12, b13, rb_len, hN, length_ownR, o1, o2, o3, o4, o5, o6, o7, o8])
   ·repeat' (first|(first|(refine a0_ ?_; first|refine a1_ rfl rfl ?_|refine a2_ rfl ?_|refine a3_ rfl rfl ?_|refine a4_ rfl ?_|refine a5_ rfl rfl rfl ?_|refine a6_ rfl rfl ?_)|(refine g0_ ?_; first|refine g1_ rfl ?_|refine g2_ rfl rfl ?_|refine go_drawN (dr := allQ) (p := [0, 0, 1, 0, 0, 1, 0, 1, 1]) [(27, 5), (28, 27)] [(35, some 29)] [] rfl rfl mixed (by kernel_rfl) ?_|refine go_drawN (dr := allQ) (p := [0, 1, 0, 1, 1, 1]) [(41, 5), (42, 41)] [(48, some 43)] [] rfl rfl mixed (by kernel_rfl) ?_|refine go_drawN (dr := allQ) (p := [0, 1, 1, 0, 0, 1, 0, 0, 1, 0, 1, 1, 1, 1]) [] [] [(14, 15)] rfl rfl mixed (by kernel_rfl) ?_|refine go_draw (dr := allQ) rfl rfl mixed (by first|assumption|kernel_rfl) ?_|refine g4_ rfl ?_|refine g5_ rfl ?_|refine g6_ rfl ?_|refine g7_ rfl ?_|refine g8_ rfl ?_)|(refine o0_ ?_; first|refine o1_ ?_|refine o2_ ?_|refine o3_ ?_|refine o4_ ?_|refine o5_ ?_|refine o6_ rfl ?_|refine o7_ rfl ?_|refine o8_ ?_|refine o9_ ?_|refine oa_ ?_|refine ob_ ?_|refine oc_ ?_|refine od_ ?_|refine oe_ ?_|refine of_ ?_|refine og_ ?_))|refine at_go ?_|(with_reducible refine And.intro (at_go ?_) (at_go ?_))|((with_reducible refine And.intro (fun h => ?_) (fun h => ?_)) <;> try (exfalso; omega))|(with_reducible refine And.intro (by first|omega|(simp only [maxLen]; omega)) ?_)|fail|simp (disch := first|omega|(simp only [length_edsA, length_rowsA, length_rowA, length_u16s, length_chA, length_ownR, rb_len, List.length_set, List.length_reverse, List.length_replicate, List.length_append, List.length_cons, List.length_nil, List.length_map]; omega)) only [push_cast, ↓reduceIte, reduceIte, reduceCtorEq, Nat.reduceAdd, Nat.reduceLT, Nat.reduceEqDiff, Nat.reduceLeDiff, Int.reduceAdd, Int.reduceLT, Int.reduceLE, Nat.reduceMul, b2, b3, b4, b5, b11, b12, b13, rb_len, hN, length_ownR, o1, o2, o3, o4, o5, o6, o7, o8])
   ·repeat' (first|(first|(refine a0_ ?_; first|refine a1_ rfl rfl ?_|refine a2_ rfl ?_|refine a3_ rfl rfl ?_|refine a4_ rfl ?_|refine a5_ rfl rfl rfl ?_|refine a6_ rfl rfl ?_)|(refine g0_ ?_; first|refine g1_ rfl ?_|refine g2_ rfl rfl ?_|refine go_drawN (dr := allQ) (p := [0, 0, 1, 0, 0, 1, 0, 1, 1]) [(27, 5), (28, 27)] [(35, some 29)] [] rfl rfl mixed (by kernel_rfl) ?_|refine go_drawN (dr := allQ) (p := [0, 1, 0, 1, 1, 1]) [(41, 5), (42, 41)] [(48, some 43)] [] rfl rfl mixed (by kernel_rfl) ?_|refine go_drawN (dr := allQ) (p := [0, 1, 1, 0, 0, 1, 0, 0, 1, 0, 1, 1, 1, 1]) [] [] [(14, 15)] rfl rfl mixed (by kernel_rfl) ?_|refine go_draw (dr := allQ) rfl rfl mixed (by first|assumption|kernel_rfl) ?_|refine g4_ rfl ?_|refine g5_ rfl ?_|refine g6_ rfl ?_|refine g7_ rfl ?_|refine g8_ rfl ?_)|(refine o0_ ?_; first|refine o1_ ?_|refine o2_ ?_|refine o3_ ?_|refine o4_ ?_|refine o5_ ?_|refine o6_ rfl ?_|refine o7_ rfl ?_|refine o8_ ?_|refine o9_ ?_|refine oa_ ?_|refine ob_ ?_|refine oc_ ?_|refine od_ ?_|refine oe_ ?_|refine of_ ?_|refine og_ ?_))|refine at_go ?_|(with_reducible refine And.intro (at_go ?_) (at_go ?_))|((with_reducible refine And.intro (fun h => ?_) (fun h => ?_)) <;> try (exfalso; omega))|(with_reducible refine And.intro (by first|omega|(simp only [maxLen]; omega)) ?_)|fail|simp (disch := first|omega|(simp only [length_edsA, length_rowsA, length_rowA, length_u16s, length_chA, length_ownR, rb_len, List.length_set, List.length_reverse, List.length_replicate, List.length_append, List.length_cons, List.length_nil, List.length_map]; omega)) only [push_cast, ↓reduceIte, reduceIte, reduceCtorEq, Nat.reduceAdd, Nat.reduceLT, Nat.reduceEqDiff, Nat.reduceLeDiff, Int.reduceAdd, Int.reduceLT, Int.reduceLE, Nat.reduceMul, b2, b3, b4, b5, b11, b12, b13, rb_len, hN, length_ownR, o1, o2, o3, o4, o5, o6, o7, o8])
    omega
   ·repeat' (first|(first|(refine a0_ ?_; first|refine a1_ rfl rfl ?_|refine a2_ rfl ?_|refine a3_ rfl rfl ?_|refine a4_ rfl ?_|refine a5_ rfl rfl rfl ?_|refine a6_ rfl rfl ?_)|(refine g0_ ?_; first|refine g1_ rfl ?_|refine g2_ rfl rfl ?_|refine go_drawN (dr := allQ) (p := [0, 0, 1, 0, 0, 1, 0, 1, 1]) [(27, 5), (28, 27)] [(35, some 29)] [] rfl rfl mixed (by kernel_rfl) ?_|refine go_drawN (dr := allQ) (p := [0, 1, 0, 1, 1, 1]) [(41, 5), (42, 41)] [(48, some 43)] [] rfl rfl mixed (by kernel_rfl) ?_|refine go_drawN (dr := allQ) (p := [0, 1, 1, 0, 0, 1, 0, 0, 1, 0, 1, 1, 1, 1]) [] [] [(14, 15)] rfl rfl mixed (by kernel_rfl) ?_|refine go_draw (dr := allQ) rfl rfl mixed (by first|assumption|kernel_rfl) ?_|refine g4_ rfl ?_|refine g5_ rfl ?_|refine g6_ rfl ?_|refine g7_ rfl ?_|refine g8_ rfl ?_)|(refine o0_ ?_; first|refine o1_ ?_|refine o2_ ?_|refine o3_ ?_|refine o4_ ?_|refine o5_ ?_|refine o6_ rfl ?_|refine o7_ rfl ?_|refine o8_ ?_|refine o9_ ?_|refine oa_ ?_|refine ob_ ?_|refine oc_ ?_|refine od_ ?_|refine oe_ ?_|refine of_ ?_|refine og_ ?_))|refine at_go ?_|(with_reducible refine And.intro (at_go ?_) (at_go ?_))|((with_reducible refine And.intro (fun h => ?_) (fun h => ?_)) <;> try (exfalso; omega))|(with_reducible refine And.intro (by first|omega|(simp only [maxLen]; omega)) ?_)|fail|simp (disch := first|omega|(simp only [length_edsA, length_rowsA, length_rowA, length_u16s, length_chA, length_ownR, rb_len, List.length_set, List.length_reverse, List.length_replicate, List.length_append, List.length_cons, List.length_nil, List.length_map]; omega)) only [push_cast, ↓reduceIte, reduceIte, reduceCtorEq, Nat.reduceAdd, Nat.reduceLT, Nat.reduceEqDiff, Nat.reduceLeDiff, Int.reduceAdd, Int.reduceLT, Int.reduceLE, Nat.reduceMul, b2, b3, b4, b5, b11, b12, b13, rb_len, hN, length_ownR, o1, o2, o3, o4, o5, o6, o7, o8])
set_option maxRecDepth 100000 in
theorem next_tail (I O : Nat) (l : List Row) (c : Option Nat) (x : MD) (z : Nat) (c2 : Option Nat) (L : List Ch) (y : Nat) (d : Option Nat) (more less : Bool) (R0 : Rs) (s : Nat → AV) (hI : 1 ≤ I ∧ I ≤ 100) (hO : 1 ≤ O ∧ O ≤ 100) (hR : 1 ≤ R0.length ∧ R0.length ≤ 101) (hw0 : WideR I R0) (hL : ∀ e ∈ L, e.Ok) (hy : L = [] ∨ y = 4)
  (q2 : s 2 = .ptr 0 0 0 1) (q3 : s 3 = .ptr 1 0 0 1) (q4 : s 4 = .ptr 2 0 0 1) (q5 : s 5 = .ptr 3 0 0 1) (q7 : s 7 = .int .i64 0) :
  Go false Tryz.prog G0 0 159 (bodyOf Tryz.f16) [0, 1, 0, 1, 1, 1, 1] (inBlockS 2 (thenC false Tryz.prog G0 0 159 (bodyOf Tryz.f16) [1, 1, 1, 1, 1] (DoneS Tryz.prog 159 [ResultVar.cell 4 30] 2 (.agg [.int .i64 I, .int .i64 O, .sl 1 (rowsA ((lessM I (chN I O R0 L (min 6 L.length)) less).map fun r => (r, none))) none])))) True s (nH I O l c x z c2 L y d more less R0.length (R0.map rowA)) := by
 obtain ⟨N, hNe⟩ : ∃ N, N = R0.length := ⟨_, rfl⟩
 rw [← hNe] at hR ⊢
 obtain ⟨NI, hNI⟩ : ∃ m : Nat, m = N * I := ⟨_, rfl⟩
 have bNI : 1 ≤ NI ∧ NI ≤ 10100 := by
  have h1 : N * I ≤ 101 * 100 := Nat.mul_le_mul hR.2 hI.2
  have h2 : 1 * 1 ≤ N * I := Nat.mul_le_mul hR.1 hI.1
  omega
 have fNI : (N : Int) * (I : Int) = (NI : Int) := by rw [hNI]; exact (Int.natCast_mul N I).symm
 have z1 : (NI : Int) ≠ 0 := by omega
 have z2 : (N : Int) ≠ 0 := by omega
 have z3 : (I : Int) ≠ 0 := by omega
 have z4 : (O : Int) ≠ 0 := by omega
 refine go_loop rfl (fun mz s' H' => ∃ k : Nat, k ≤ (min 6 L.length) ∧ mz = (min 6 L.length) - k ∧ H' = nH I O l c x z c2 L y d more less N ((chN I O R0 L k).map rowA) ∧ s' 2 = .ptr 0 0 0 1 ∧ s' 3 = .ptr 1 0 0 1 ∧ s' 4 = .ptr 2 0 0 1 ∧ s' 5 = .ptr 3 0 0 1 ∧ s' 7 = .int .i64 k) (m := (min 6 L.length)) (by (first|trivial|((repeat' apply And.intro) <;> first|trivial|assumption|omega|(simp only [maxLen]; omega)|(simp only [length_edsA, length_rowsA, length_rowA, length_u16s, length_chA, length_ownR, rb_len, List.length_replicate, List.length_append, List.length_cons, List.length_nil, List.length_map, List.length_take, List.length_drop, List.length_set, List.length_reverse, maxLen] <;> omega)))) (Weak.refl _ _) ⟨0, by omega, by omega, (by first|rfl|simp [chN]), ?_⟩ ?_
 ·simp (disch := first|omega|(simp only [length_edsA, length_rowsA, length_rowA, length_u16s, length_chA, length_ownR, rb_len, List.length_set, List.length_reverse, List.length_replicate, List.length_append, List.length_cons, List.length_nil, List.length_map]; omega)) only [push_cast, ↓reduceIte, reduceIte, reduceCtorEq, Nat.reduceAdd, Nat.reduceLT, Nat.reduceEqDiff, Nat.reduceLeDiff, Int.reduceAdd, Int.reduceLT, Int.reduceLE, Nat.reduceMul, q2, q3, q4, q5, q7]
 ·rintro mz s' H' ⟨k, hk, rfl, rfl, b2, b3, b4, b5, b7⟩
  have hlen : (chN I O R0 L k).length = N := by rw [chN_len]; exact hNe.symm
  have hw := chN_wide (O := O) hw0 L k
  have hN : ((chN I O R0 L k).map rowA).length = N := by rw [List.length_map]; exact hlen
  have k0 := fun A K => rb_at0 (z := 2) (t := 58) A K hN
  have k1 := fun A B K => rb_at1 (z := 2) (t := 58) A B K hN
  have s0 := fun A B K => rb_setAt0 (z := 2) (t := 58) A B K hN
  have s1 := fun A A1 B K => rb_setAt1 (z := 2) (t := 58) A A1 B K hN
  rcases Nat.lt_or_ge k (min 6 L.length) with hlt|hge
  ·obtain rfl := hy.resolve_left (by rintro rfl; simp at hlt)
   have e1 := getD_chA L k (by omega)
   have e2 : chN I O R0 L (k + 1) = chM I O (chN I O R0 L k) (L.getD k cD) := rfl
   rw [chM, hlen, ← hNI] at e2
   have hc := hL (L.getD k cD) (by rw [List.getD_eq_getElem?_getD, List.getElem?_eq_getElem (by omega)]; exact List.getElem_mem _)
   generalize L.getD k cD = ch at *
   generalize chN I O R0 L k = R at *
   obtain ⟨at_, to, out, w⟩ := ch
   obtain ⟨d1, d2, d3, d4⟩ := hc
   dsimp only at d1 d2 d3 d4 e1 e2
   obtain ⟨q, hq⟩ : ∃ q : Nat, q = at_ % NI := ⟨_, rfl⟩
   have bq : q < NI := by rw [hq]; exact Nat.mod_lt _ (by omega)
   have f1 : (at_ : Int).tmod (NI : Int) = (q : Int) := by rw [hq]; exact tmod_nat _ _
   obtain ⟨u, hu⟩ : ∃ u : Nat, u = q / I := ⟨_, rfl⟩
   have bu : u < N := by rw [hu]; exact Nat.div_lt_of_lt_mul (by rw [Nat.mul_comm, ← hNI]; exact bq)
   have f2 : (q : Int).tdiv (I : Int) = (u : Int) := by rw [hu]; exact tdiv_nat _ _
   obtain ⟨v, hv⟩ : ∃ v : Nat, v = q % I := ⟨_, rfl⟩
   have bv : v < I := by rw [hv]; exact Nat.mod_lt _ (by omega)
   have f3 : (q : Int).tmod (I : Int) = (v : Int) := by rw [hv]; exact tmod_nat _ _
   obtain ⟨p1, hp1⟩ : ∃ p : Nat, p = to % N := ⟨_, rfl⟩
   have f4 : (to : Int).tmod (N : Int) = (p1 : Int) := by rw [hp1]; exact tmod_nat _ _
   obtain ⟨p2, hp2⟩ : ∃ p : Nat, p = out % O := ⟨_, rfl⟩
   have f5 : (out : Int).tmod (O : Int) = (p2 : Int) := by rw [hp2]; exact tmod_nat _ _
   obtain ⟨m, hm⟩ : ∃ m : Nat, m = w % 4 := ⟨_, rfl⟩
   have f6 : (w : Int).tmod 4 = (m : Int) := by rw [hm]; exact tmod_nat _ 4
   have f7 : ∀ (e : Edg), chE N O ⟨at_, to, out, w⟩ = e → chN I O R0 L (k + 1) = R.set u ((R.getD u []).set v e) := fun e he => by rw [e2, he, hu, hv, hq]
   have f8 : chE N O ⟨at_, to, out, w⟩ = if m = 0 then (-1, -1) else ((p1 : Int), (p2 : Int)) := by rw [chE, hm, hp1, hp2]
   have er := getD_mapA R u
   have el : (R.getD u []).length = I := hw u (by omega)
   have ee := getD_rowA (R.getD u []) v (by omega)
   have g1 := fun K => rb_getK (z := 2) (t := 58) K hN bu
   have g2 := fun es K => rb_setK (z := 2) (t := 58) es K hN bu
   have g3 : ∀ a b : Int, (R.map rowA).set u ((rowA (R.getD u [])).set v [.int .i64 a, .int .i64 b]) = (R.set u ((R.getD u []).set v (a, b))).map rowA := fun a b => by rw [rowA_set, mapA_set]
   have g4 : ∀ e : Edg, (rowBs 2 58 ((R.set u ((R.getD u []).set v e)).map rowA)).length = N := fun e => by rw [rb_len, List.length_map, List.length_set]; exact hlen
   generalize (R.getD u []).getD v (0, 0) = old at *
   simp only [eA] at ee
   unfold nH vC
   repeat' (first|(((first|(refine a0_ ?_; first|refine a1_ rfl rfl ?_|refine a2_ rfl ?_|refine a3_ rfl rfl ?_|refine a4_ rfl ?_|refine a5_ rfl rfl rfl ?_|refine a6_ rfl rfl ?_)|(refine g0_ ?_; first|refine g1_ rfl ?_|refine g2_ rfl rfl ?_|refine go_drawN (dr := allQ) (p := [0, 0, 1, 0, 0, 1, 0, 1, 1]) [(27, 5), (28, 27)] [(35, some 29)] [] rfl rfl mixed (by kernel_rfl) ?_|refine go_drawN (dr := allQ) (p := [0, 1, 0, 1, 1, 1]) [(41, 5), (42, 41)] [(48, some 43)] [] rfl rfl mixed (by kernel_rfl) ?_|refine go_drawN (dr := allQ) (p := [0, 1, 1, 0, 0, 1, 0, 0, 1, 0, 1, 1, 1, 1]) [] [] [(14, 15)] rfl rfl mixed (by kernel_rfl) ?_|refine go_draw (dr := allQ) rfl rfl mixed (by first|assumption|kernel_rfl) ?_|refine g4_ rfl ?_|refine g5_ rfl ?_|refine g6_ rfl ?_|refine g7_ rfl ?_|refine g8_ rfl ?_)|(refine o0_ ?_; first|refine o1_ ?_|refine o2_ ?_|refine o3_ ?_|refine o4_ ?_|refine o5_ ?_|refine o6_ rfl ?_|refine o7_ rfl ?_|refine o8_ ?_|refine o9_ ?_|refine oa_ ?_|refine ob_ ?_|refine oc_ ?_|refine od_ ?_|refine oe_ ?_|refine of_ ?_|refine og_ ?_))) <;> (try simp (disch := first|omega|(simp only [length_edsA, length_rowsA, length_rowA, length_u16s, length_chA, length_ownR, rb_len, List.length_set, List.length_reverse, List.length_replicate, List.length_append, List.length_cons, List.length_nil, List.length_map]; omega)) only [push_cast, ↓reduceIte, reduceIte, reduceCtorEq, Nat.reduceAdd, Nat.reduceLT, Nat.reduceEqDiff, Nat.reduceLeDiff, Int.reduceAdd, Int.reduceLT, Int.reduceLE, Nat.reduceMul, b2, b3, b4, b5, b7, e1, rb_len, hN, List.append_assoc, k0, k1, s0, s1, fNI, f1, f2, f3, f4, f5, f6, z1, z2, z3, z4, er, el, ee, g1, g2, g3, length_rowA, length_ownR, getD_ownR]))|refine at_go ?_|(with_reducible refine And.intro (at_go ?_) (at_go ?_))|((with_reducible refine And.intro (fun h => ?_) (fun h => ?_)) <;> try (exfalso; omega))|(with_reducible refine And.intro (by first|omega|(simp only [maxLen]; omega)) ?_)|fail|simp (disch := first|omega|(simp only [length_edsA, length_rowsA, length_rowA, length_u16s, length_chA, length_ownR, rb_len, List.length_set, List.length_reverse, List.length_replicate, List.length_append, List.length_cons, List.length_nil, List.length_map]; omega)) only [push_cast, ↓reduceIte, reduceIte, reduceCtorEq, Nat.reduceAdd, Nat.reduceLT, Nat.reduceEqDiff, Nat.reduceLeDiff, Int.reduceAdd, Int.reduceLT, Int.reduceLE, Nat.reduceMul, b2, b3, b4, b5, b7, e1, rb_len, hN, List.append_assoc, k0, k1, s0, s1, fNI, f1, f2, f3, f4, f5, f6, z1, z2, z3, z4, er, el, ee, g1, g2, g3, length_rowA, length_ownR, getD_ownR])
   ·have hk := f7 (-1, -1) (by rw [f8, if_pos (by omega)])
    refine out_round_take (min 6 L.length - (k + 1)) (N + 5) (by omega) (by (first|trivial|((repeat' apply And.intro) <;> first|trivial|assumption|omega|(simp only [maxLen]; omega)|(simp only [length_edsA, length_rowsA, length_rowA, length_u16s, length_chA, length_ownR, rb_len, List.length_replicate, List.length_append, List.length_cons, List.length_nil, List.length_map, List.length_take, List.length_drop, List.length_set, List.length_reverse, maxLen] <;> omega)))) (by omega) (by first|(simp [rb_len]; done)|(simp [rb_len]; omega)) (by rw [take5 _ _ _ _ _ _ _ (g4 _)]; exact nH_below I O l c x z c2 L 4 d more less N _) ⟨k + 1, by omega, rfl, by rw [take5 _ _ _ _ _ _ _ (g4 _), hk], ?_⟩
    simp (disch := first|omega|(simp only [length_edsA, length_rowsA, length_rowA, length_u16s, length_chA, length_ownR, rb_len, List.length_set, List.length_reverse, List.length_replicate, List.length_append, List.length_cons, List.length_nil, List.length_map]; omega)) only [push_cast, ↓reduceIte, reduceIte, reduceCtorEq, Nat.reduceAdd, Nat.reduceLT, Nat.reduceEqDiff, Nat.reduceLeDiff, Int.reduceAdd, Int.reduceLT, Int.reduceLE, Nat.reduceMul, b2, b3, b4, b5, b7, scrub, AV.ids, idsL]
    simp
   ·have hk := f7 ((p1 : Int), (p2 : Int)) (by rw [f8, if_neg (by omega)])
    refine out_round_take (min 6 L.length - (k + 1)) (N + 5) (by omega) (by (first|trivial|((repeat' apply And.intro) <;> first|trivial|assumption|omega|(simp only [maxLen]; omega)|(simp only [length_edsA, length_rowsA, length_rowA, length_u16s, length_chA, length_ownR, rb_len, List.length_replicate, List.length_append, List.length_cons, List.length_nil, List.length_map, List.length_take, List.length_drop, List.length_set, List.length_reverse, maxLen] <;> omega)))) (by omega) (by first|(simp [rb_len]; done)|(simp [rb_len]; omega)) (by rw [take5 _ _ _ _ _ _ _ (g4 _)]; exact nH_below I O l c x z c2 L 4 d more less N _) ⟨k + 1, by omega, rfl, by rw [take5 _ _ _ _ _ _ _ (g4 _), hk], ?_⟩
    simp (disch := first|omega|(simp only [length_edsA, length_rowsA, length_rowA, length_u16s, length_chA, length_ownR, rb_len, List.length_set, List.length_reverse, List.length_replicate, List.length_append, List.length_cons, List.length_nil, List.length_map]; omega)) only [push_cast, ↓reduceIte, reduceIte, reduceCtorEq, Nat.reduceAdd, Nat.reduceLT, Nat.reduceEqDiff, Nat.reduceLeDiff, Int.reduceAdd, Int.reduceLT, Int.reduceLE, Nat.reduceMul, b2, b3, b4, b5, b7, scrub, AV.ids, idsL]
    simp
  ·obtain rfl : k = min 6 L.length := by omega
   generalize chN I O R0 L (min 6 L.length) = R at *
   have hcap : ¬ ((min 6 L.length : Nat) < L.length ∧ (min 6 L.length : Nat) < 6) := by omega
   unfold nH vC
   repeat' (first|(first|(refine a0_ ?_; first|refine a1_ rfl rfl ?_|refine a2_ rfl ?_|refine a3_ rfl rfl ?_|refine a4_ rfl ?_|refine a5_ rfl rfl rfl ?_|refine a6_ rfl rfl ?_)|(refine g0_ ?_; first|refine g1_ rfl ?_|refine g2_ rfl rfl ?_|refine go_drawN (dr := allQ) (p := [0, 0, 1, 0, 0, 1, 0, 1, 1]) [(27, 5), (28, 27)] [(35, some 29)] [] rfl rfl mixed (by kernel_rfl) ?_|refine go_drawN (dr := allQ) (p := [0, 1, 0, 1, 1, 1]) [(41, 5), (42, 41)] [(48, some 43)] [] rfl rfl mixed (by kernel_rfl) ?_|refine go_drawN (dr := allQ) (p := [0, 1, 1, 0, 0, 1, 0, 0, 1, 0, 1, 1, 1, 1]) [] [] [(14, 15)] rfl rfl mixed (by kernel_rfl) ?_|refine go_draw (dr := allQ) rfl rfl mixed (by first|assumption|kernel_rfl) ?_|refine g4_ rfl ?_|refine g5_ rfl ?_|refine g6_ rfl ?_|refine g7_ rfl ?_|refine g8_ rfl ?_)|(refine o0_ ?_; first|refine o1_ ?_|refine o2_ ?_|refine o3_ ?_|refine o4_ ?_|refine o5_ ?_|refine o6_ rfl ?_|refine o7_ rfl ?_|refine o8_ ?_|refine o9_ ?_|refine oa_ ?_|refine ob_ ?_|refine oc_ ?_|refine od_ ?_|refine oe_ ?_|refine of_ ?_|refine og_ ?_))|refine at_go ?_|(with_reducible refine And.intro (at_go ?_) (at_go ?_))|((with_reducible refine And.intro (fun h => ?_) (fun h => ?_)) <;> try (exfalso; omega))|(with_reducible refine And.intro (by first|omega|(simp only [maxLen]; omega)) ?_)|fail|simp (disch := first|omega|(simp only [length_edsA, length_rowsA, length_rowA, length_u16s, length_chA, length_ownR, rb_len, List.length_set, List.length_reverse, List.length_replicate, List.length_append, List.length_cons, List.length_nil, List.length_map]; omega)) only [push_cast, ↓reduceIte, reduceIte, reduceCtorEq, Nat.reduceAdd, Nat.reduceLT, Nat.reduceEqDiff, Nat.reduceLeDiff, Int.reduceAdd, Int.reduceLT, Int.reduceLE, Nat.reduceMul, b2, b3, b4, b5, b7, rb_len, hN, length_ownR])
   refine next_tail2 I O l c x z c2 L y d more less R N _ hI (by simpa using hN) hR hw ?_ ?_ ?_ ?_ ?_ ?_ ?_
   all_goals
    simp (disch := first|omega|(simp only [length_edsA, length_rowsA, length_rowA, length_u16s, length_chA, length_ownR, rb_len, List.length_set, List.length_reverse, List.length_replicate, List.length_append, List.length_cons, List.length_nil, List.length_map]; omega)) only [push_cast, ↓reduceIte, reduceIte, reduceCtorEq, Nat.reduceAdd, Nat.reduceLT, Nat.reduceEqDiff, Nat.reduceLeDiff, Int.reduceAdd, Int.reduceLT, Int.reduceLE, Nat.reduceMul, b2, b3, b4, b5, b7, rb_len, hN, length_ownR]
set_option maxRecDepth 100000 in
theorem next17 (I O : Nat) (l : List Row) (c : Option Nat) (x : MD) (z : Nat) (c2 : Option Nat) (L : List Ch) (y : Nat) (d : Option Nat) (more less : Bool) (hI : 1 ≤ I ∧ I ≤ 100) (hO : 1 ≤ O ∧ O ≤ 100) (hl : 1 ≤ l.length ∧ l.length ≤ 100) (hw : ∀ s, s < l.length → (l.getD s ([], none)).1.length = I) (hx : x.Ok) (hL : ∀ e ∈ L, e.Ok) (hy : L = [] ∨ y = 4) :
  PC Tryz.prog G0 16 [mA I O l c, .agg (vC x z c2 L y d more less)] (mA I O ((nextM I O (edgesOf l) L more less).map fun r => (r, none)) none) := by
 unfold mA vC
 refine pc_go 2 159 [.cell 4 30] Tryz.func16 rfl rfl rfl (by simp) ?_
 intro s ⟨a0, a1, hz⟩
 simp only [Nat.zero_add, Nat.reduceAdd] at a1
 clear hz
 repeat' (first|(first|(refine a0_ ?_; first|refine a1_ rfl rfl ?_|refine a2_ rfl ?_|refine a3_ rfl rfl ?_|refine a4_ rfl ?_|refine a5_ rfl rfl rfl ?_|refine a6_ rfl rfl ?_)|(refine g0_ ?_; first|refine g1_ rfl ?_|refine g2_ rfl rfl ?_|refine go_drawN (dr := allQ) (p := [0, 0, 1, 0, 0, 1, 0, 1, 1]) [(27, 5), (28, 27)] [(35, some 29)] [] rfl rfl mixed (by kernel_rfl) ?_|refine go_drawN (dr := allQ) (p := [0, 1, 0, 1, 1, 1]) [(41, 5), (42, 41)] [(48, some 43)] [] rfl rfl mixed (by kernel_rfl) ?_|refine go_drawN (dr := allQ) (p := [0, 1, 1, 0, 0, 1, 0, 0, 1, 0, 1, 1, 1, 1]) [] [] [(14, 15)] rfl rfl mixed (by kernel_rfl) ?_|refine go_draw (dr := allQ) rfl rfl mixed (by first|assumption|kernel_rfl) ?_|refine g4_ rfl ?_|refine g5_ rfl ?_|refine g6_ rfl ?_|refine g7_ rfl ?_|refine g8_ rfl ?_)|(refine o0_ ?_; first|refine o1_ ?_|refine o2_ ?_|refine o3_ ?_|refine o4_ ?_|refine o5_ ?_|refine o6_ rfl ?_|refine o7_ rfl ?_|refine o8_ ?_|refine o9_ ?_|refine oa_ ?_|refine ob_ ?_|refine oc_ ?_|refine od_ ?_|refine oe_ ?_|refine of_ ?_|refine og_ ?_))|refine at_go ?_|(with_reducible refine And.intro (at_go ?_) (at_go ?_))|((with_reducible refine And.intro (fun h => ?_) (fun h => ?_)) <;> try (exfalso; omega))|(with_reducible refine And.intro (by first|omega|(simp only [maxLen]; omega)) ?_)|fail|simp (disch := first|omega|(simp only [length_edsA, length_rowsA, length_rowA, length_u16s, length_chA, length_ownR, rb_len, List.length_set, List.length_reverse, List.length_replicate, List.length_append, List.length_cons, List.length_nil, List.length_map]; omega)) only [push_cast, ↓reduceIte, reduceIte, reduceCtorEq, Nat.reduceAdd, Nat.reduceLT, Nat.reduceEqDiff, Nat.reduceLeDiff, Int.reduceAdd, Int.reduceLT, Int.reduceLE, Nat.reduceMul, a0, a1])
 refine go_loop rfl (fun mz s' H' => ∃ s : Nat, s ≤ l.length ∧ mz = l.length - s ∧ H' = nH I O l c x z c2 L y d more less s (((edgesOf l).take s).map rowA) ∧ s' 2 = .ptr 0 0 0 1 ∧ s' 3 = .ptr 1 0 0 1 ∧ s' 4 = .ptr 2 0 0 1 ∧ s' 5 = .ptr 3 0 0 1 ∧ s' 6 = .int .i64 s) (m := l.length) (by (first|trivial|((repeat' apply And.intro) <;> first|trivial|assumption|omega|(simp only [maxLen]; omega)|(simp only [length_edsA, length_rowsA, length_rowA, length_u16s, length_chA, length_ownR, rb_len, List.length_replicate, List.length_append, List.length_cons, List.length_nil, List.length_map, List.length_take, List.length_drop, List.length_set, List.length_reverse, maxLen] <;> omega)))) (weak_nil_cell (b := 3) (i := 0) (j := 2) (sz := 1) (ty := 98) rfl rfl rfl) ⟨0, by omega, by omega, (by first|rfl|simp [ownR_nil, rb_nil, List.take_zero, List.map_nil]), ?_⟩ ?_
 ·simp (disch := first|omega|(simp only [length_edsA, length_rowsA, length_rowA, length_u16s, length_chA, length_ownR, rb_len, List.length_set, List.length_reverse, List.length_replicate, List.length_append, List.length_cons, List.length_nil, List.length_map]; omega)) only [push_cast, ↓reduceIte, reduceIte, reduceCtorEq, Nat.reduceAdd, Nat.reduceLT, Nat.reduceEqDiff, Nat.reduceLeDiff, Int.reduceAdd, Int.reduceLT, Int.reduceLE, Nat.reduceMul, a0, a1]
 ·rintro mz s' H' ⟨s, hs, rfl, rfl, b2, b3, b4, b5, b6⟩
  unfold nH vC
  have hN : (((edgesOf l).take s).map rowA).length = s := by simp [edgesOf]; omega
  rcases Nat.lt_or_ge s l.length with hlt|hge
  ·have e1 := getD_rowsA l s hlt
   have e2 := hw s hlt
   have e3 : ((edgesOf l).take (s + 1)).map rowA = ((edgesOf l).take s).map rowA ++ [rowA (l.getD s ([], none)).1] := by
    rw [take_succ_map rowA (edgesOf l) [] s (by simpa [edgesOf] using hlt), getD_edgesOf]
   generalize ((edgesOf l).take s).map rowA = rss at *
   generalize (l.getD s ([], none)).2 = cr at *
   generalize (l.getD s ([], none)).1 = r at *
   obtain ⟨e, r', rfl⟩ : ∃ e r', r = e :: r' := by
    cases r with
    | nil => simp at e2; omega
    | cons e r' => exact ⟨e, r', rfl⟩
   simp only [List.length_cons] at e2
   have k0 := fun A K => rb_at0 (z := 2) (t := 58) A K hN
   repeat' (first|(((first|(refine a0_ ?_; first|refine a1_ rfl rfl ?_|refine a2_ rfl ?_|refine a3_ rfl rfl ?_|refine a4_ rfl ?_|refine a5_ rfl rfl rfl ?_|refine a6_ rfl rfl ?_)|(refine g0_ ?_; first|refine g1_ rfl ?_|refine g2_ rfl rfl ?_|refine go_drawN (dr := allQ) (p := [0, 0, 1, 0, 0, 1, 0, 1, 1]) [(27, 5), (28, 27)] [(35, some 29)] [] rfl rfl mixed (by kernel_rfl) ?_|refine go_drawN (dr := allQ) (p := [0, 1, 0, 1, 1, 1]) [(41, 5), (42, 41)] [(48, some 43)] [] rfl rfl mixed (by kernel_rfl) ?_|refine go_drawN (dr := allQ) (p := [0, 1, 1, 0, 0, 1, 0, 0, 1, 0, 1, 1, 1, 1]) [] [] [(14, 15)] rfl rfl mixed (by kernel_rfl) ?_|refine go_draw (dr := allQ) rfl rfl mixed (by first|assumption|kernel_rfl) ?_|refine g4_ rfl ?_|refine g5_ rfl ?_|refine g6_ rfl ?_|refine g7_ rfl ?_|refine g8_ rfl ?_)|(refine o0_ ?_; first|refine o1_ ?_|refine o2_ ?_|refine o3_ ?_|refine o4_ ?_|refine o5_ ?_|refine o6_ rfl ?_|refine o7_ rfl ?_|refine o8_ ?_|refine o9_ ?_|refine oa_ ?_|refine ob_ ?_|refine oc_ ?_|refine od_ ?_|refine oe_ ?_|refine of_ ?_|refine og_ ?_))) <;> (try simp (disch := first|omega|(simp only [length_edsA, length_rowsA, length_rowA, length_u16s, length_chA, length_ownR, rb_len, List.length_set, List.length_reverse, List.length_replicate, List.length_append, List.length_cons, List.length_nil, List.length_map]; omega)) only [push_cast, ↓reduceIte, reduceIte, reduceCtorEq, Nat.reduceAdd, Nat.reduceLT, Nat.reduceEqDiff, Nat.reduceLeDiff, Int.reduceAdd, Int.reduceLT, Int.reduceLE, Nat.reduceMul, b2, b3, b4, b5, b6, e1, rowA_cons, eA, length_rowA, length_ownR, rb_len, hN, List.append_assoc, k0]))|refine at_go ?_|(with_reducible refine And.intro (at_go ?_) (at_go ?_))|((with_reducible refine And.intro (fun h => ?_) (fun h => ?_)) <;> try (exfalso; omega))|(with_reducible refine And.intro (by first|omega|(simp only [maxLen]; omega)) ?_)|fail|simp (disch := first|omega|(simp only [length_edsA, length_rowsA, length_rowA, length_u16s, length_chA, length_ownR, rb_len, List.length_set, List.length_reverse, List.length_replicate, List.length_append, List.length_cons, List.length_nil, List.length_map]; omega)) only [push_cast, ↓reduceIte, reduceIte, reduceCtorEq, Nat.reduceAdd, Nat.reduceLT, Nat.reduceEqDiff, Nat.reduceLeDiff, Int.reduceAdd, Int.reduceLT, Int.reduceLE, Nat.reduceMul, b2, b3, b4, b5, b6, e1, rowA_cons, eA, length_rowA, length_ownR, rb_len, hN, List.append_assoc, k0])
   have eo : ownR 5 I none s ++ [[.own (s + 1 + 1 + 1 + 1 + 1) (r'.length + 1) (r'.length + 1) none]] = ownR 5 I none (s + 1) := by rw [e2]; exact ownR_snoc 5 I none s
   refine out_round (l.length - (s + 1)) (by omega) (by (first|trivial|((repeat' apply And.intro) <;> first|trivial|assumption|omega|(simp only [maxLen]; omega)|(simp only [length_edsA, length_rowsA, length_rowA, length_u16s, length_chA, length_ownR, rb_len, List.length_replicate, List.length_append, List.length_cons, List.length_nil, List.length_map, List.length_take, List.length_drop, List.length_set, List.length_reverse, maxLen] <;> omega)))) ⟨s + 1, by omega, rfl, ?_, ?_⟩
   ·rw [eo, e3, rb_snoc]; rfl
   ·simp (disch := first|omega|(simp only [length_edsA, length_rowsA, length_rowA, length_u16s, length_chA, length_ownR, rb_len, List.length_set, List.length_reverse, List.length_replicate, List.length_append, List.length_cons, List.length_nil, List.length_map]; omega)) only [push_cast, ↓reduceIte, reduceIte, reduceCtorEq, Nat.reduceAdd, Nat.reduceLT, Nat.reduceEqDiff, Nat.reduceLeDiff, Int.reduceAdd, Int.reduceLT, Int.reduceLE, Nat.reduceMul, b2, b3, b4, b5, b6, e1, rowA_cons, eA, length_rowA, length_ownR, rb_len, hN, List.append_assoc, k0]
  ·obtain rfl : s = l.length := by omega
   rw [List.take_of_length_le (by simp [edgesOf])]
   have hwR : WideR I (edgesOf l) := fun s hs => by rw [getD_edgesOf]; exact hw s (by simpa [edgesOf] using hs)
   have hlR : (edgesOf l).length = l.length := by simp [edgesOf]
   have hN : ((edgesOf l).map rowA).length = l.length := by rw [List.length_map, hlR]
   have k0 := fun A K => rb_at0 (z := 2) (t := 58) A K hN
   cases more
   ·have hnx : nextM I O (edgesOf l) L false less = lessM I (chN I O (edgesOf l) L (min 6 L.length)) less := rfl
    rw [hnx]
    repeat' (first|(first|(refine a0_ ?_; first|refine a1_ rfl rfl ?_|refine a2_ rfl ?_|refine a3_ rfl rfl ?_|refine a4_ rfl ?_|refine a5_ rfl rfl rfl ?_|refine a6_ rfl rfl ?_)|(refine g0_ ?_; first|refine g1_ rfl ?_|refine g2_ rfl rfl ?_|refine go_drawN (dr := allQ) (p := [0, 0, 1, 0, 0, 1, 0, 1, 1]) [(27, 5), (28, 27)] [(35, some 29)] [] rfl rfl mixed (by kernel_rfl) ?_|refine go_drawN (dr := allQ) (p := [0, 1, 0, 1, 1, 1]) [(41, 5), (42, 41)] [(48, some 43)] [] rfl rfl mixed (by kernel_rfl) ?_|refine go_drawN (dr := allQ) (p := [0, 1, 1, 0, 0, 1, 0, 0, 1, 0, 1, 1, 1, 1]) [] [] [(14, 15)] rfl rfl mixed (by kernel_rfl) ?_|refine go_draw (dr := allQ) rfl rfl mixed (by first|assumption|kernel_rfl) ?_|refine g4_ rfl ?_|refine g5_ rfl ?_|refine g6_ rfl ?_|refine g7_ rfl ?_|refine g8_ rfl ?_)|(refine o0_ ?_; first|refine o1_ ?_|refine o2_ ?_|refine o3_ ?_|refine o4_ ?_|refine o5_ ?_|refine o6_ rfl ?_|refine o7_ rfl ?_|refine o8_ ?_|refine o9_ ?_|refine oa_ ?_|refine ob_ ?_|refine oc_ ?_|refine od_ ?_|refine oe_ ?_|refine of_ ?_|refine og_ ?_))|refine at_go ?_|(with_reducible refine And.intro (at_go ?_) (at_go ?_))|((with_reducible refine And.intro (fun h => ?_) (fun h => ?_)) <;> try (exfalso; omega))|(with_reducible refine And.intro (by first|omega|(simp only [maxLen]; omega)) ?_)|fail|simp (disch := first|omega|(simp only [length_edsA, length_rowsA, length_rowA, length_u16s, length_chA, length_ownR, rb_len, List.length_set, List.length_reverse, List.length_replicate, List.length_append, List.length_cons, List.length_nil, List.length_map]; omega)) only [push_cast, ↓reduceIte, reduceIte, reduceCtorEq, Nat.reduceAdd, Nat.reduceLT, Nat.reduceEqDiff, Nat.reduceLeDiff, Int.reduceAdd, Int.reduceLT, Int.reduceLE, Nat.reduceMul, b2, b3, b4, b5, b6])
    have hT := fun s h2 h3 h4 h5 h7 => next_tail I O l c x z c2 L y d false less (edgesOf l) s hI hO (by omega) hwR hL hy h2 h3 h4 h5 h7
    rw [hlR] at hT
    refine hT _ ?_ ?_ ?_ ?_ ?_
    all_goals
     simp (disch := first|omega|(simp only [length_edsA, length_rowsA, length_rowA, length_u16s, length_chA, length_ownR, rb_len, List.length_set, List.length_reverse, List.length_replicate, List.length_append, List.length_cons, List.length_nil, List.length_map]; omega)) only [push_cast, ↓reduceIte, reduceIte, reduceCtorEq, Nat.reduceAdd, Nat.reduceLT, Nat.reduceEqDiff, Nat.reduceLeDiff, Int.reduceAdd, Int.reduceLT, Int.reduceLE, Nat.reduceMul, b2, b3, b4, b5, b6]
   ·have hnx : nextM I O (edgesOf l) L true less = lessM I (chN I O (edgesOf l ++ [(l.getD 0 ([], none)).1]) L (min 6 L.length)) less := by
     rw [nextM, moreM, if_pos rfl, getD_edgesOf]
    rw [hnx]
    have e1 := getD_rowsA l 0 (by omega)
    have e2 := hw 0 (by omega)
    have hwR2 : WideR I (edgesOf l ++ [(l.getD 0 ([], none)).1]) := fun s hs => by
     rw [List.length_append, hlR] at hs
     rcases Nat.lt_or_ge s l.length with q|q
     ·rw [List.getD_eq_getElem?_getD, List.getElem?_append_left (by omega), ← List.getD_eq_getElem?_getD]; exact hwR s (by omega)
     ·obtain rfl : s = l.length := by simp at hs; omega
      rw [List.getD_eq_getElem?_getD, List.getElem?_append_right (by omega), hlR, Nat.sub_self]
      exact e2
    have hT := fun s h2 h3 h4 h5 h7 => next_tail I O l c x z c2 L y d true less (edgesOf l ++ [(l.getD 0 ([], none)).1]) s hI hO (by simp; omega) hwR2 hL hy h2 h3 h4 h5 h7
    have hlR2 : (edgesOf l ++ [(l.getD 0 ([], none)).1]).length = l.length + 1 := by simp [edgesOf]
    rw [hlR2, List.map_append] at hT
    generalize (l.getD 0 ([], none)).2 = cr at *
    generalize (l.getD 0 ([], none)).1 = r at *
    generalize (edgesOf l).map rowA = rss at *
    obtain ⟨e, r', rfl⟩ : ∃ e r', r = e :: r' := by
     cases r with
     | nil => simp at e2; omega
     | cons e r' => exact ⟨e, r', rfl⟩
    simp only [List.length_cons] at e2
    have hpos : (0 < l.length) = True := eq_true (by omega)
    repeat' (first|(((first|(refine a0_ ?_; first|refine a1_ rfl rfl ?_|refine a2_ rfl ?_|refine a3_ rfl rfl ?_|refine a4_ rfl ?_|refine a5_ rfl rfl rfl ?_|refine a6_ rfl rfl ?_)|(refine g0_ ?_; first|refine g1_ rfl ?_|refine g2_ rfl rfl ?_|refine go_drawN (dr := allQ) (p := [0, 0, 1, 0, 0, 1, 0, 1, 1]) [(27, 5), (28, 27)] [(35, some 29)] [] rfl rfl mixed (by kernel_rfl) ?_|refine go_drawN (dr := allQ) (p := [0, 1, 0, 1, 1, 1]) [(41, 5), (42, 41)] [(48, some 43)] [] rfl rfl mixed (by kernel_rfl) ?_|refine go_drawN (dr := allQ) (p := [0, 1, 1, 0, 0, 1, 0, 0, 1, 0, 1, 1, 1, 1]) [] [] [(14, 15)] rfl rfl mixed (by kernel_rfl) ?_|refine go_draw (dr := allQ) rfl rfl mixed (by first|assumption|kernel_rfl) ?_|refine g4_ rfl ?_|refine g5_ rfl ?_|refine g6_ rfl ?_|refine g7_ rfl ?_|refine g8_ rfl ?_)|(refine o0_ ?_; first|refine o1_ ?_|refine o2_ ?_|refine o3_ ?_|refine o4_ ?_|refine o5_ ?_|refine o6_ rfl ?_|refine o7_ rfl ?_|refine o8_ ?_|refine o9_ ?_|refine oa_ ?_|refine ob_ ?_|refine oc_ ?_|refine od_ ?_|refine oe_ ?_|refine of_ ?_|refine og_ ?_))) <;> (try simp (disch := first|omega|(simp only [length_edsA, length_rowsA, length_rowA, length_u16s, length_chA, length_ownR, rb_len, List.length_set, List.length_reverse, List.length_replicate, List.length_append, List.length_cons, List.length_nil, List.length_map]; omega)) only [push_cast, ↓reduceIte, reduceIte, reduceCtorEq, Nat.reduceAdd, Nat.reduceLT, Nat.reduceEqDiff, Nat.reduceLeDiff, Int.reduceAdd, Int.reduceLT, Int.reduceLE, Nat.reduceMul, b2, b3, b4, b5, b6, e1, rowA_cons, eA, length_rowA, length_ownR, rb_len, hN, List.append_assoc, k0, hpos]))|refine at_go ?_|(with_reducible refine And.intro (at_go ?_) (at_go ?_))|((with_reducible refine And.intro (fun h => ?_) (fun h => ?_)) <;> try (exfalso; omega))|(with_reducible refine And.intro (by first|omega|(simp only [maxLen]; omega)) ?_)|fail|simp (disch := first|omega|(simp only [length_edsA, length_rowsA, length_rowA, length_u16s, length_chA, length_ownR, rb_len, List.length_set, List.length_reverse, List.length_replicate, List.length_append, List.length_cons, List.length_nil, List.length_map]; omega)) only [push_cast, ↓reduceIte, reduceIte, reduceCtorEq, Nat.reduceAdd, Nat.reduceLT, Nat.reduceEqDiff, Nat.reduceLeDiff, Int.reduceAdd, Int.reduceLT, Int.reduceLE, Nat.reduceMul, b2, b3, b4, b5, b6, e1, rowA_cons, eA, length_rowA, length_ownR, rb_len, hN, List.append_assoc, k0, hpos])
    have eo : ownR 5 I none l.length ++ [[.own (l.length + 1 + 1 + 1 + 1 + 1) (r'.length + 1) (r'.length + 1) none]] = ownR 5 I none (l.length + 1) := by rw [e2]; exact ownR_snoc 5 I none l.length
    have hb : rowBs 2 58 rss ++ [.row 2 58 ([.int .i64 e.1, .int .i64 e.2] :: rowA r')] = rowBs 2 58 (rss ++ [rowA (e :: r')]) := rb_snoc _
    refine go_weak (by (first|trivial|((repeat' apply And.intro) <;> first|trivial|assumption|omega|(simp only [maxLen]; omega)|(simp only [length_edsA, length_rowsA, length_rowA, length_u16s, length_chA, length_ownR, rb_len, List.length_replicate, List.length_append, List.length_cons, List.length_nil, List.length_map, List.length_take, List.length_drop, List.length_set, List.length_reverse, maxLen] <;> omega)))) (Weak.refl _ _) ?_
    rw [eo, hb]
    refine hT _ ?_ ?_ ?_ ?_ ?_
    all_goals
     simp (disch := first|omega|(simp only [length_edsA, length_rowsA, length_rowA, length_u16s, length_chA, length_ownR, rb_len, List.length_set, List.length_reverse, List.length_replicate, List.length_append, List.length_cons, List.length_nil, List.length_map]; omega)) only [push_cast, ↓reduceIte, reduceIte, reduceCtorEq, Nat.reduceAdd, Nat.reduceLT, Nat.reduceEqDiff, Nat.reduceLeDiff, Int.reduceAdd, Int.reduceLT, Int.reduceLE, Nat.reduceMul, b2, b3, b4, b5, b6, e1, rowA_cons, eA, length_rowA, length_ownR, rb_len, hN, List.append_assoc, k0, hpos]
theorem MD.edges (x : MD) : edgesOf (x.rows x.n) = (List.range x.n).map fun s => x.row s x.I := by simp [edgesOf, MD.rows]
def MD.nxt (x : MD) (L : List Ch) (more less : Bool) : Rs := nextM x.I x.O (edgesOf (x.rows x.n)) L more less
def rowsN (R : Rs) : List Row := R.map fun r => (r, none)
set_option maxRecDepth 100000 in
theorem of10 (x : MD) (z : Nat) (c : Option Nat) (L : List Ch) (y : Nat) (d : Option Nat) (more less : Bool) (hx : x.Ok) (hz : x.es = [] ∨ z = 1) (hL : ∀ e ∈ L, e.Ok) (hy : L = [] ∨ y = 4) :
  PC Tryz.prog G0 5 [.agg (vC x z c L y d more less)] (.tup [mA x.I x.O (x.rows x.n) none, mA x.I x.O (rowsN (x.nxt L more less)) none]) := by
 have bn : 1 ≤ x.n ∧ x.n ≤ 6 := by unfold MD.n; omega
 have bI : 1 ≤ x.I ∧ x.I ≤ 3 := by unfold MD.I; omega
 have bO : 1 ≤ x.O ∧ x.O ≤ 3 := by unfold MD.O; omega
 have h1 := mOf15 x z c hx hz
 have h2 := next17 x.I x.O (x.rows x.n) none x z c L y d more less (by omega) (by omega) (by rw [MD.rows_len]; omega) (fun s hs => by
  rw [MD.rows_len] at hs
  simp [MD.rows, hs, MD.row_len]) hx hL hy
 unfold mdC at h1
 unfold mA vC at *
 refine pc_go 1 12 [.cell 2 30, .cell 3 30] Tryz.func5 rfl rfl rfl (by simp) ?_
 intro s ⟨a0, hz⟩
 clear hz
 repeat' (first|(first|(refine a0_ ?_; first|refine a1_ rfl rfl ?_|refine a2_ rfl ?_|refine a3_ rfl rfl ?_|refine a4_ rfl ?_|refine a5_ rfl rfl rfl ?_|refine a6_ rfl rfl ?_)|(refine g0_ ?_; first|refine g1_ rfl ?_|refine g2_ rfl rfl ?_|refine go_draw (dr := allQ) rfl rfl mixed (by first|assumption|kernel_rfl) ?_|refine g4_ rfl ?_|refine g5_ rfl ?_|refine g6_ rfl ?_|refine g7_ rfl ?_|refine g8_ rfl ?_)|(refine o0_ ?_; first|refine o1_ ?_|refine o2_ ?_|refine o3_ ?_|refine o4_ ?_|refine o5_ ?_|refine o6_ rfl ?_|refine o7_ rfl ?_|refine o8_ ?_|refine o9_ ?_|refine oa_ ?_|refine ob_ ?_|refine oc_ ?_|refine od_ ?_|refine oe_ ?_|refine of_ ?_|refine og_ ?_))|refine at_go ?_|(with_reducible refine And.intro (at_go ?_) (at_go ?_))|((with_reducible refine And.intro (fun h => ?_) (fun h => ?_)) <;> try (exfalso; omega))|(with_reducible refine And.intro (by first|omega|(simp only [maxLen]; omega)) ?_)|(first|(refine ⟨_, _, pc_lift (h1) (by (simp [idsL, idsE, AV.ids, Nat.add_zero])) _, ?_⟩)|(refine ⟨_, pc_lift (h1) (by (simp [idsL, idsE, AV.ids, Nat.add_zero])) _, ?_⟩)|(refine ⟨_, fun _ => pc_lift (h1) (by (simp [idsL, idsE, AV.ids, Nat.add_zero])) _, ?_⟩)|(refine ⟨_, _, pc_lift (h2) (by (simp [idsL, idsE, AV.ids, Nat.add_zero])) _, ?_⟩)|(refine ⟨_, pc_lift (h2) (by (simp [idsL, idsE, AV.ids, Nat.add_zero])) _, ?_⟩)|(refine ⟨_, fun _ => pc_lift (h2) (by (simp [idsL, idsE, AV.ids, Nat.add_zero])) _, ?_⟩))|simp (disch := first|omega|(simp only [length_edsA, length_rowsA, length_rowA, length_u16s, length_chA, length_ownR, rb_len, List.length_set, List.length_reverse, List.length_replicate, List.length_append, List.length_cons, List.length_nil, List.length_map]; omega)) only [push_cast, ↓reduceIte, reduceIte, reduceCtorEq, Nat.reduceAdd, Nat.reduceLT, Nat.reduceEqDiff, Nat.reduceLeDiff, Int.reduceAdd, Int.reduceLT, Int.reduceLE, Nat.reduceMul, a0])
 rfl
end Go.Proofs
