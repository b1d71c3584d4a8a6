import Derived.Test.YtfdnlhegmdhcjaaDoorF22
import Derived.Test.YtfdnlhegmdhcjaaDoorV44
namespace Go.Proofs
open Go Go.V
set_option linter.unusedVariables false
set_option linter.unusedSimpArgs false
set_option maxHeartbeats 0
def arH (i o : Int) (l : List Row) (c : Option Nat) (f : Flt) (n : Nat) (X : List (List AV)) (rss : List (List (List AV))) (K : List Blk) : List Blk :=
 .row 3 30 [[.int .i64 i, .int .i64 o, .sl 1 (rowsA l) c]] :: .row 6 33 [flA f] :: .row 3 30 [[.int .i64 i, .int .i64 o, .own 4 n n none]] :: .row 3 30 [[.int .i64 i, .int .i64 o, .own 4 n n none]] :: .row 1 44 X :: (rowBs 2 46 rss ++ K)
def arK (R : RR) (I : Nat) (f : Flt) : List Blk := if f.k = 3 ∨ f.k = 4 then [.row 2 46 [eA (newE R f)], .row 2 46 (rowA ((newR R f).getD 0 []))] else [.row 2 46 [eA (newE R f)]]
def arX (R : RR) (I : Nat) (f : Flt) : List (List AV) := if f.k = 3 ∨ f.k = 4 then ownR 5 I none R.length ++ [[.own (R.length + 6) I I none]] else ownR 5 I none R.length
set_option maxRecDepth 100000 in
theorem refApply15 (i o : Int) (l : List Row) (c : Option Nat) (f : Flt) (I : Nat) (hI : i = I) (hm : machOk i o l = 0) (hf : isA i o l f = true) :
  ACalls Tryd.prog G0 15 [mA i o l c, .agg (flA f)] [] (.agg [.int .i64 i, .int .i64 o, .own 4 (applyR (edgesOf l) f).length (applyR (edgesOf l) f).length none])
   (arH i o l c f (applyR (edgesOf l) f).length (arX (edgesOf l) I f) ((setE (edgesOf l) f.s f.i (newE (edgesOf l) f)).map rowA) (arK (edgesOf l) I f)) := by
 obtain ⟨m1, m2, m3, m4, m5⟩ := machOk_zero hm
 have hRl := edgesOf_len l
 have hRw : ∀ s, s < l.length → ((edgesOf l).getD s []).length = I := fun s hs => by have := m4 s hs; rw [getD_edgesOf]; omega
 have hRr : ∀ s, ((l.getD s ([], none)).1) = (edgesOf l).getD s [] := fun s => (getD_edgesOf l s).symm
 obtain ⟨k, s0, i0, t, a, o'⟩ := f
 obtain ⟨d1, d2, d3, d4, d5⟩ := isF_def (show isF (edgesOf l) i.toNat o.toNat ⟨k, s0, i0, t, a, o'⟩ = true from hf)
 obtain ⟨kq1, kq2⟩ := isF_kind (show isF (edgesOf l) i.toNat o.toNat ⟨k, s0, i0, t, a, o'⟩ = true from hf)
 dsimp only at d1 d2 d3 d4 d5 kq1 kq2
 rw [edgesOf_len] at d2
 obtain ⟨u, rfl⟩ : ∃ u : Nat, s0 = u := ⟨s0.toNat, by omega⟩
 obtain ⟨v, rfl⟩ : ∃ v : Nat, i0 = v := ⟨i0.toNat, by omega⟩
 have hu : u < l.length := by omega
 have hv : v < I := by omega
 obtain ⟨R, hR⟩ : ∃ R, R = edgesOf l := ⟨_, rfl⟩
 rw [← hR]
 unfold mA flA at *
 refine ac_go 115 [.cell 4 30] Tryd.func15 rfl rfl rfl (by simp) ?_
 intro s ⟨a0, a1, hz⟩
 simp only [Nat.zero_add, Nat.reduceAdd] at a1
 clear hz
 repeat' (first|(first|(refine a0_ ?_; first|refine a1_ rfl rfl ?_|refine a2_ rfl ?_|refine a3_ rfl rfl ?_|refine a4_ rfl ?_|refine ak_ rfl rfl ?_|refine a5_ rfl rfl rfl ?_|refine a6_ rfl rfl ?_|refine a7_ rfl rfl ?_|refine a8_ rfl rfl ?_|refine a9_ rfl rfl rfl ?_)|(refine g0_ ?_; first|refine g1_ rfl ?_|refine g2_ rfl rfl ?_|refine go_drawN (dr := allQ) (p := [0, 0, 1, 0, 0, 1, 0, 1, 1]) [(21, 5), (22, 21)] [(29, some 23)] [] rfl rfl mixed (by kernel_rfl) ?_|refine go_drawN (dr := allQ) (p := [0, 1, 1, 1]) [] [] [(10, 11)] rfl rfl mixed (by kernel_rfl) ?_|refine go_drawN (dr := allQ) (p := [0, 0, 1, 1, 1, 1, 1, 1, 1, 0, 1, 0, 1, 1, 1, 1]) [(60, 5), (61, 60)] [(69, some 62)] [] rfl rfl mixed (by kernel_rfl) ?_|refine go_draw (dr := allQ) rfl rfl mixed (by first|assumption|kernel_rfl) ?_|refine g4_ rfl ?_|refine g5_ rfl ?_|refine g6_ rfl ?_|refine g7_ rfl ?_|refine g8_ rfl ?_|refine ga_ rfl ?_|refine gb_ rfl ?_)|(refine o0_ ?_; first|refine o1_ ?_|refine o2_ ?_|refine o3_ ?_|refine o4_ ?_|refine o5_ ?_|refine o6_ rfl ?_|refine o7_ rfl ?_|refine o8_ ?_|refine o9_ ?_|refine oa_ ?_|refine ob_ ?_|refine oc_ ?_|refine od_ ?_|refine oe_ ?_|refine of_ ?_|refine og_ ?_|refine oh_ ?_|refine oi_ ?_|refine oj_ ?_|refine ok_ ?_))|refine at_go ?_|(with_reducible refine And.intro (at_go ?_) (at_go ?_))|((with_reducible refine And.intro (fun h => ?_) (fun h => ?_)) <;> try (exfalso; omega))|(with_reducible refine And.intro (by first|omega|(simp only [maxLen]; omega)) ?_)|(refine And.intro ⟨[_], rfl⟩ ?_)|(refine And.intro ⟨[], by simp only [List.append_nil]⟩ ?_)|fail|simp (disch := first|omega|(simp only [rb_len, length_ownR, List.length_map, lenF, lenS]; omega)) only [push_cast, ↓reduceIte, reduceIte, reduceCtorEq, Nat.reduceAdd, Nat.reduceLT, Nat.reduceEqDiff, Nat.reduceLeDiff, Int.reduceAdd, Int.reduceLT, Int.reduceLE, Nat.reduceMul, a0, a1, Int.reduceEq])
 refine go_loop rfl (fun mz s' H' => ∃ s : Nat, s ≤ l.length ∧ mz = l.length - s ∧ H' = apH i o l c ⟨k, u, v, t, a, o'⟩ [[.own 4 s s none]] (ownR 5 I none s) ((R.take s).map rowA) ∧ s' 2 = .ptr 0 0 0 1 ∧ s' 3 = .ptr 1 0 0 1 ∧ s' 4 = .ptr 2 0 0 1 ∧ s' 5 = .ptr 3 0 0 1 ∧ s' 6 = .int .i64 s) (m := l.length) (by (first|trivial|((repeat' apply And.intro) <;> first|trivial|assumption|omega|(simp only [maxLen]; omega)|(simp only [rb_len, length_ownR, List.length_map, maxLen, lenF, lenS] <;> omega)))) (weak_nil_cell (b := 3) (i := 0) (j := 2) (sz := 1) (ty := 44) rfl rfl rfl) ⟨0, by omega, by omega, by simp [apH, ownR_nil, rb_nil, flA], ?_⟩ ?_
 ·simp (disch := first|omega|(simp only [rb_len, length_ownR, List.length_map, lenF, lenS]; omega)) only [push_cast, ↓reduceIte, reduceIte, reduceCtorEq, Nat.reduceAdd, Nat.reduceLT, Nat.reduceEqDiff, Nat.reduceLeDiff, Int.reduceAdd, Int.reduceLT, Int.reduceLE, Nat.reduceMul, a0, a1, Int.reduceEq]
 ·rintro mz s' H' ⟨s, hs, rfl, rfl, b2, b3, b4, b5, b6⟩
  have hN : ((R.take s).map rowA).length = s := by rw [List.length_map, List.length_take, hR, hRl]; omega
  have hlR : (rowsA l).length = l.length := length_rowsA l
  rcases Nat.lt_or_ge s l.length with hltS|hge
  ·have e1 := getD_rowsA l s hltS
   rw [hRr s, ← hR] at e1
   have hlr : (R.getD s []).length = I := by rw [hR]; exact hRw s hltS
   have htk : (R.take (s + 1)).map rowA = (R.take s).map rowA ++ [rowA (R.getD s [])] := by
    have : s < R.length := by rw [hR, hRl]; exact hltS
    rw [List.take_succ_eq_append_getElem this, List.map_append]; simp [this]
   cases hxs : R.getD s [] with
   | nil => rw [hxs] at hlr; simp at hlr; omega
   | cons x xs =>
    rw [hxs] at e1 htk hlr
    have hrs := rb_snoc (z := 2) (t := 46) (rss := (R.take s).map rowA) (rowA (x :: xs))
    have hsn := ownR_snoc 5 I none s
    have t1 : (ownR 5 I none s).take s = ownR 5 I none s := List.take_of_length_le (by rw [length_ownR]; omega)
    have t2 : (ownR 5 I none s).drop (s + 1) = [] := List.drop_eq_nil_of_le (by rw [length_ownR]; omega)
    rw [rowA_cons] at e1 htk hrs
    have hlx : xs.length + 1 = I := by simpa using hlr
    have k0 := fun A K => rb_at0 (z := 2) (t := 46) A K hN
    generalize (l.getD s ([], none)).2 = cc at *
    unfold apH
    simp only [flA]
    repeat' (first|(((first|(refine a0_ ?_; first|refine a1_ rfl rfl ?_|refine a2_ rfl ?_|refine a3_ rfl rfl ?_|refine a4_ rfl ?_|refine ak_ rfl rfl ?_|refine a5_ rfl rfl rfl ?_|refine a6_ rfl rfl ?_|refine a7_ rfl rfl ?_|refine a8_ rfl rfl ?_|refine a9_ rfl rfl rfl ?_)|(refine g0_ ?_; first|refine g1_ rfl ?_|refine g2_ rfl rfl ?_|refine go_drawN (dr := allQ) (p := [0, 0, 1, 0, 0, 1, 0, 1, 1]) [(21, 5), (22, 21)] [(29, some 23)] [] rfl rfl mixed (by kernel_rfl) ?_|refine go_drawN (dr := allQ) (p := [0, 1, 1, 1]) [] [] [(10, 11)] rfl rfl mixed (by kernel_rfl) ?_|refine go_drawN (dr := allQ) (p := [0, 0, 1, 1, 1, 1, 1, 1, 1, 0, 1, 0, 1, 1, 1, 1]) [(60, 5), (61, 60)] [(69, some 62)] [] rfl rfl mixed (by kernel_rfl) ?_|refine go_draw (dr := allQ) rfl rfl mixed (by first|assumption|kernel_rfl) ?_|refine g4_ rfl ?_|refine g5_ rfl ?_|refine g6_ rfl ?_|refine g7_ rfl ?_|refine g8_ rfl ?_|refine ga_ rfl ?_|refine gb_ rfl ?_)|(refine o0_ ?_; first|refine o1_ ?_|refine o2_ ?_|refine o3_ ?_|refine o4_ ?_|refine o5_ ?_|refine o6_ rfl ?_|refine o7_ rfl ?_|refine o8_ ?_|refine o9_ ?_|refine oa_ ?_|refine ob_ ?_|refine oc_ ?_|refine od_ ?_|refine oe_ ?_|refine of_ ?_|refine og_ ?_|refine oh_ ?_|refine oi_ ?_|refine oj_ ?_|refine ok_ ?_))) <;> (try simp (disch := first|omega|(simp only [rb_len, length_ownR, List.length_map, lenF, lenS]; omega)) only [push_cast, ↓reduceIte, reduceIte, reduceCtorEq, Nat.reduceAdd, Nat.reduceLT, Nat.reduceEqDiff, Nat.reduceLeDiff, Int.reduceAdd, Int.reduceLT, Int.reduceLE, Nat.reduceMul, b2, b3, b4, b5, b6, hlR, e1, t1, t2, length_ownR, hN, rb_len, hlx, k0]))|refine at_go ?_|(with_reducible refine And.intro (at_go ?_) (at_go ?_))|((with_reducible refine And.intro (fun h => ?_) (fun h => ?_)) <;> try (exfalso; omega))|(with_reducible refine And.intro (by first|omega|(simp only [maxLen]; omega)) ?_)|(refine And.intro ⟨[_], rfl⟩ ?_)|(refine And.intro ⟨[], by simp only [List.append_nil]⟩ ?_)|fail|simp (disch := first|omega|(simp only [rb_len, length_ownR, List.length_map, lenF, lenS]; omega)) only [push_cast, ↓reduceIte, reduceIte, reduceCtorEq, Nat.reduceAdd, Nat.reduceLT, Nat.reduceEqDiff, Nat.reduceLeDiff, Int.reduceAdd, Int.reduceLT, Int.reduceLE, Nat.reduceMul, b2, b3, b4, b5, b6, hlR, e1, t1, t2, length_ownR, hN, rb_len, hlx, k0])
    refine out_round (l.length - (s + 1)) (by omega) (by (first|trivial|((repeat' apply And.intro) <;> first|trivial|assumption|omega|(simp only [maxLen]; omega)|(simp only [rb_len, length_ownR, List.length_map, maxLen, lenF, lenS] <;> omega)))) ⟨s + 1, by omega, rfl, by rw [htk, ← hrs, ← hsn], ?_⟩
    simp (disch := first|omega|(simp only [rb_len, length_ownR, List.length_map, lenF, lenS]; omega)) only [push_cast, ↓reduceIte, reduceIte, reduceCtorEq, Nat.reduceAdd, Nat.reduceLT, Nat.reduceEqDiff, Nat.reduceLeDiff, Int.reduceAdd, Int.reduceLT, Int.reduceLE, Nat.reduceMul, b2, b3, b4, b5, b6, hlR, e1, t1, t2, length_ownR, hN, rb_len, hlx, k0]
  ·obtain rfl : s = l.length := by omega
   have hRll : R.length = l.length := by rw [hR, hRl]
   have htR : R.take l.length = R := List.take_of_length_le (by omega)
   rw [htR] at hN ⊢
   have el : (R.getD u []).length = I := by rw [hR]; exact hRw u hu
   have er := getD_mapA R u
   obtain ⟨x1, x2, hx⟩ : ∃ x1 x2, (R.getD u []).getD v (0, 0) = (x1, x2) := ⟨_, _, rfl⟩
   have ee := getD_rowA (R.getD u []) v (by omega)
   have hEd : edR R u v = (x1, x2) := hx
   rw [hx] at ee
   simp only [eA] at ee
   have eu := getD_rowsA l u hu
   rw [hRr u, ← hR] at eu
   have g1 := fun K => rb_getK (z := 2) (t := 46) K hN hu
   have g2 := fun es K => rb_setK (z := 2) (t := 46) es K hN hu
   have oe := getD_ownR (b0 := 5) (I := I) (N := l.length) none hu
   have oe2 : ∀ X : List AV, (ownR 5 I none l.length ++ [X]).getD u [] = [.own (u + 5) I I none] := fun X => by
    rw [← oe, List.getD_eq_getElem?_getD, List.getElem?_append_left (by rw [length_ownR]; exact hu), List.getD_eq_getElem?_getD]
   have k0 := fun A K => rb_at0 (z := 2) (t := 46) A K hN
   have k1 := fun A B K => rb_at1 (z := 2) (t := 46) A B K hN
   have s0 := fun A B K => rb_setAt0 (z := 2) (t := 46) A B K hN
   have s1 := fun A A1 B K => rb_setAt1 (z := 2) (t := 46) A A1 B K hN
   have t1 : (ownR 5 I none l.length).take l.length = ownR 5 I none l.length := List.take_of_length_le (by rw [length_ownR]; omega)
   have t2 : (ownR 5 I none l.length).drop (l.length + 1) = [] := List.drop_eq_nil_of_le (by rw [length_ownR]; omega)
   have g3 := fun x y : Int => show (R.map rowA).set u ((rowA (R.getD u [])).set v [.int .i64 x, .int .i64 y]) = (R.set u ((R.getD u []).set v (x, y))).map rowA by rw [rowA_set, mapA_set]
   have hse : ∀ e, setE R (u : Int) (v : Int) e = R.set u ((R.getD u []).set v e) := fun e => by simp [setE]
   have hk5 : k = 0 ∨ k = 1 ∨ k = 2 ∨ k = 3 ∨ k = 4 := by omega
   unfold apH arH arX arK
   simp only [flA, applyR_len, hse, hRll]
   rcases hk5 with rfl|rfl|rfl|rfl|rfl
   ·have hne : newE R ⟨0, u, v, t, a, o'⟩ = (x1, o') := by rw [newE, if_pos rfl, hEd]
    rw [hne, if_neg (by simp), if_neg (by simp), if_neg (by simp)]
    simp only [eA, Nat.add_zero]
    repeat' (first|(((first|(refine a0_ ?_; first|refine a1_ rfl rfl ?_|refine a2_ rfl ?_|refine a3_ rfl rfl ?_|refine a4_ rfl ?_|refine ak_ rfl rfl ?_|refine a5_ rfl rfl rfl ?_|refine a6_ rfl rfl ?_|refine a7_ rfl rfl ?_|refine a8_ rfl rfl ?_|refine a9_ rfl rfl rfl ?_)|(refine g0_ ?_; first|refine g1_ rfl ?_|refine g2_ rfl rfl ?_|refine go_drawN (dr := allQ) (p := [0, 0, 1, 0, 0, 1, 0, 1, 1]) [(21, 5), (22, 21)] [(29, some 23)] [] rfl rfl mixed (by kernel_rfl) ?_|refine go_drawN (dr := allQ) (p := [0, 1, 1, 1]) [] [] [(10, 11)] rfl rfl mixed (by kernel_rfl) ?_|refine go_drawN (dr := allQ) (p := [0, 0, 1, 1, 1, 1, 1, 1, 1, 0, 1, 0, 1, 1, 1, 1]) [(60, 5), (61, 60)] [(69, some 62)] [] rfl rfl mixed (by kernel_rfl) ?_|refine go_draw (dr := allQ) rfl rfl mixed (by first|assumption|kernel_rfl) ?_|refine g4_ rfl ?_|refine g5_ rfl ?_|refine g6_ rfl ?_|refine g7_ rfl ?_|refine g8_ rfl ?_|refine ga_ rfl ?_|refine gb_ rfl ?_)|(refine o0_ ?_; first|refine o1_ ?_|refine o2_ ?_|refine o3_ ?_|refine o4_ ?_|refine o5_ ?_|refine o6_ rfl ?_|refine o7_ rfl ?_|refine o8_ ?_|refine o9_ ?_|refine oa_ ?_|refine ob_ ?_|refine oc_ ?_|refine od_ ?_|refine oe_ ?_|refine of_ ?_|refine og_ ?_|refine oh_ ?_|refine oi_ ?_|refine oj_ ?_|refine ok_ ?_))) <;> (try simp (disch := first|omega|(simp only [rb_len, length_ownR, List.length_map, lenF, lenS]; omega)) only [push_cast, ↓reduceIte, reduceIte, reduceCtorEq, Nat.reduceAdd, Nat.reduceLT, Nat.reduceEqDiff, Nat.reduceLeDiff, Int.reduceAdd, Int.reduceLT, Int.reduceLE, Nat.reduceMul, b2, b3, b4, b5, b6, hlR, er, el, ee, eu, g1, g2, g3, oe, hN, t1, t2, length_ownR, rb_len, Int.reduceEq, length_rowA, k0, s0]))|refine at_go ?_|(with_reducible refine And.intro (at_go ?_) (at_go ?_))|((with_reducible refine And.intro (fun h => ?_) (fun h => ?_)) <;> try (exfalso; omega))|(with_reducible refine And.intro (by first|omega|(simp only [maxLen]; omega)) ?_)|(refine And.intro ⟨[_], rfl⟩ ?_)|(refine And.intro ⟨[], by simp only [List.append_nil]⟩ ?_)|fail|simp (disch := first|omega|(simp only [rb_len, length_ownR, List.length_map, lenF, lenS]; omega)) only [push_cast, ↓reduceIte, reduceIte, reduceCtorEq, Nat.reduceAdd, Nat.reduceLT, Nat.reduceEqDiff, Nat.reduceLeDiff, Int.reduceAdd, Int.reduceLT, Int.reduceLE, Nat.reduceMul, b2, b3, b4, b5, b6, hlR, er, el, ee, eu, g1, g2, g3, oe, hN, t1, t2, length_ownR, rb_len, Int.reduceEq, length_rowA, k0, s0])
    all_goals first|omega|simp [eqv1, eqv_own]
   ·have hne : newE R ⟨1, u, v, t, a, o'⟩ = (t, x2) := by rw [newE, if_neg (by simp), if_pos rfl, hEd]
    rw [hne, if_neg (by simp), if_neg (by simp), if_neg (by simp)]
    simp only [eA, Nat.add_zero]
    repeat' (first|(((first|(refine a0_ ?_; first|refine a1_ rfl rfl ?_|refine a2_ rfl ?_|refine a3_ rfl rfl ?_|refine a4_ rfl ?_|refine ak_ rfl rfl ?_|refine a5_ rfl rfl rfl ?_|refine a6_ rfl rfl ?_|refine a7_ rfl rfl ?_|refine a8_ rfl rfl ?_|refine a9_ rfl rfl rfl ?_)|(refine g0_ ?_; first|refine g1_ rfl ?_|refine g2_ rfl rfl ?_|refine go_drawN (dr := allQ) (p := [0, 0, 1, 0, 0, 1, 0, 1, 1]) [(21, 5), (22, 21)] [(29, some 23)] [] rfl rfl mixed (by kernel_rfl) ?_|refine go_drawN (dr := allQ) (p := [0, 1, 1, 1]) [] [] [(10, 11)] rfl rfl mixed (by kernel_rfl) ?_|refine go_drawN (dr := allQ) (p := [0, 0, 1, 1, 1, 1, 1, 1, 1, 0, 1, 0, 1, 1, 1, 1]) [(60, 5), (61, 60)] [(69, some 62)] [] rfl rfl mixed (by kernel_rfl) ?_|refine go_draw (dr := allQ) rfl rfl mixed (by first|assumption|kernel_rfl) ?_|refine g4_ rfl ?_|refine g5_ rfl ?_|refine g6_ rfl ?_|refine g7_ rfl ?_|refine g8_ rfl ?_|refine ga_ rfl ?_|refine gb_ rfl ?_)|(refine o0_ ?_; first|refine o1_ ?_|refine o2_ ?_|refine o3_ ?_|refine o4_ ?_|refine o5_ ?_|refine o6_ rfl ?_|refine o7_ rfl ?_|refine o8_ ?_|refine o9_ ?_|refine oa_ ?_|refine ob_ ?_|refine oc_ ?_|refine od_ ?_|refine oe_ ?_|refine of_ ?_|refine og_ ?_|refine oh_ ?_|refine oi_ ?_|refine oj_ ?_|refine ok_ ?_))) <;> (try simp (disch := first|omega|(simp only [rb_len, length_ownR, List.length_map, lenF, lenS]; omega)) only [push_cast, ↓reduceIte, reduceIte, reduceCtorEq, Nat.reduceAdd, Nat.reduceLT, Nat.reduceEqDiff, Nat.reduceLeDiff, Int.reduceAdd, Int.reduceLT, Int.reduceLE, Nat.reduceMul, b2, b3, b4, b5, b6, hlR, er, el, ee, eu, g1, g2, g3, oe, hN, t1, t2, length_ownR, rb_len, Int.reduceEq, Int.reduceNeg, length_rowA, k0, s0]))|refine at_go ?_|(with_reducible refine And.intro (at_go ?_) (at_go ?_))|((with_reducible refine And.intro (fun h => ?_) (fun h => ?_)) <;> try (exfalso; omega))|(with_reducible refine And.intro (by first|omega|(simp only [maxLen]; omega)) ?_)|(refine And.intro ⟨[_], rfl⟩ ?_)|(refine And.intro ⟨[], by simp only [List.append_nil]⟩ ?_)|fail|simp (disch := first|omega|(simp only [rb_len, length_ownR, List.length_map, lenF, lenS]; omega)) only [push_cast, ↓reduceIte, reduceIte, reduceCtorEq, Nat.reduceAdd, Nat.reduceLT, Nat.reduceEqDiff, Nat.reduceLeDiff, Int.reduceAdd, Int.reduceLT, Int.reduceLE, Nat.reduceMul, b2, b3, b4, b5, b6, hlR, er, el, ee, eu, g1, g2, g3, oe, hN, t1, t2, length_ownR, rb_len, Int.reduceEq, Int.reduceNeg, length_rowA, k0, s0])
    all_goals first|omega|simp [eqv1, eqv_own]
   ·have hne : newE R ⟨2, u, v, t, a, o'⟩ = (-1, -1) := by rw [newE, if_neg (by simp), if_neg (by simp), if_pos rfl]
    rw [hne, if_neg (by simp), if_neg (by simp), if_neg (by simp)]
    simp only [eA, Nat.add_zero]
    repeat' (first|(((first|(refine a0_ ?_; first|refine a1_ rfl rfl ?_|refine a2_ rfl ?_|refine a3_ rfl rfl ?_|refine a4_ rfl ?_|refine ak_ rfl rfl ?_|refine a5_ rfl rfl rfl ?_|refine a6_ rfl rfl ?_|refine a7_ rfl rfl ?_|refine a8_ rfl rfl ?_|refine a9_ rfl rfl rfl ?_)|(refine g0_ ?_; first|refine g1_ rfl ?_|refine g2_ rfl rfl ?_|refine go_drawN (dr := allQ) (p := [0, 0, 1, 0, 0, 1, 0, 1, 1]) [(21, 5), (22, 21)] [(29, some 23)] [] rfl rfl mixed (by kernel_rfl) ?_|refine go_drawN (dr := allQ) (p := [0, 1, 1, 1]) [] [] [(10, 11)] rfl rfl mixed (by kernel_rfl) ?_|refine go_drawN (dr := allQ) (p := [0, 0, 1, 1, 1, 1, 1, 1, 1, 0, 1, 0, 1, 1, 1, 1]) [(60, 5), (61, 60)] [(69, some 62)] [] rfl rfl mixed (by kernel_rfl) ?_|refine go_draw (dr := allQ) rfl rfl mixed (by first|assumption|kernel_rfl) ?_|refine g4_ rfl ?_|refine g5_ rfl ?_|refine g6_ rfl ?_|refine g7_ rfl ?_|refine g8_ rfl ?_|refine ga_ rfl ?_|refine gb_ rfl ?_)|(refine o0_ ?_; first|refine o1_ ?_|refine o2_ ?_|refine o3_ ?_|refine o4_ ?_|refine o5_ ?_|refine o6_ rfl ?_|refine o7_ rfl ?_|refine o8_ ?_|refine o9_ ?_|refine oa_ ?_|refine ob_ ?_|refine oc_ ?_|refine od_ ?_|refine oe_ ?_|refine of_ ?_|refine og_ ?_|refine oh_ ?_|refine oi_ ?_|refine oj_ ?_|refine ok_ ?_))) <;> (try simp (disch := first|omega|(simp only [rb_len, length_ownR, List.length_map, lenF, lenS]; omega)) only [push_cast, ↓reduceIte, reduceIte, reduceCtorEq, Nat.reduceAdd, Nat.reduceLT, Nat.reduceEqDiff, Nat.reduceLeDiff, Int.reduceAdd, Int.reduceLT, Int.reduceLE, Nat.reduceMul, b2, b3, b4, b5, b6, hlR, er, el, ee, eu, g1, g2, g3, oe, hN, t1, t2, length_ownR, rb_len, Int.reduceEq, Int.reduceNeg, length_rowA, k0, s0]))|refine at_go ?_|(with_reducible refine And.intro (at_go ?_) (at_go ?_))|((with_reducible refine And.intro (fun h => ?_) (fun h => ?_)) <;> try (exfalso; omega))|(with_reducible refine And.intro (by first|omega|(simp only [maxLen]; omega)) ?_)|(refine And.intro ⟨[_], rfl⟩ ?_)|(refine And.intro ⟨[], by simp only [List.append_nil]⟩ ?_)|fail|simp (disch := first|omega|(simp only [rb_len, length_ownR, List.length_map, lenF, lenS]; omega)) only [push_cast, ↓reduceIte, reduceIte, reduceCtorEq, Nat.reduceAdd, Nat.reduceLT, Nat.reduceEqDiff, Nat.reduceLeDiff, Int.reduceAdd, Int.reduceLT, Int.reduceLE, Nat.reduceMul, b2, b3, b4, b5, b6, hlR, er, el, ee, eu, g1, g2, g3, oe, hN, t1, t2, length_ownR, rb_len, Int.reduceEq, Int.reduceNeg, length_rowA, k0, s0])
    all_goals first|omega|simp [eqv1, eqv_own]
   ·have hit : 0 ≤ t ∧ t < l.length := by
     have h2 := hf
     rw [isA, isF, Bool.and_eq_true] at h2
     have h3 := h2.2
     simp [inN, edgesOf_len] at h3
     omega
    obtain ⟨p, rfl⟩ : ∃ p : Nat, t = p := ⟨t.toNat, by omega⟩
    have hp : p < l.length := by omega
    have hq2 : (R.getD p []).length = I := by rw [hR]; exact hRw p hp
    have e3 := getD_rowsA l p hp
    rw [hRr p, ← hR] at e3
    have hne : newE R ⟨3, u, v, p, a, o'⟩ = ((l.length : Int), x2) := by rw [newE, if_neg (by simp), if_neg (by simp), if_neg (by simp), hEd, hRll]
    have hnr : (newR R ⟨3, u, v, p, a, o'⟩).getD 0 [] = R.getD p [] := by
     rw [newR, if_pos rfl]; simp
    rw [hne, hnr, if_pos (by simp), if_pos (by simp), if_pos (by simp)]
    cases hxs : R.getD p [] with
    | nil => rw [hxs] at hq2; simp at hq2; omega
    | cons y ys =>
     rw [hxs] at e3 hq2
     have hly : ys.length + 1 = I := by simpa using hq2
     rw [rowA_cons] at e3 ⊢
     have ex1 : ∀ e : Edg, eA e = [AV.int .i64 e.1, AV.int .i64 e.2] := fun e => rfl
     rw [ex1 ((l.length : Int), x2)]
     dsimp only
     generalize (l.getD p ([], none)).2 = cc at *
     repeat' (first|(((first|(refine a0_ ?_; first|refine a1_ rfl rfl ?_|refine a2_ rfl ?_|refine a3_ rfl rfl ?_|refine a4_ rfl ?_|refine ak_ rfl rfl ?_|refine a5_ rfl rfl rfl ?_|refine a6_ rfl rfl ?_|refine a7_ rfl rfl ?_|refine a8_ rfl rfl ?_|refine a9_ rfl rfl rfl ?_)|(refine g0_ ?_; first|refine g1_ rfl ?_|refine g2_ rfl rfl ?_|refine go_drawN (dr := allQ) (p := [0, 0, 1, 0, 0, 1, 0, 1, 1]) [(21, 5), (22, 21)] [(29, some 23)] [] rfl rfl mixed (by kernel_rfl) ?_|refine go_drawN (dr := allQ) (p := [0, 1, 1, 1]) [] [] [(10, 11)] rfl rfl mixed (by kernel_rfl) ?_|refine go_drawN (dr := allQ) (p := [0, 0, 1, 1, 1, 1, 1, 1, 1, 0, 1, 0, 1, 1, 1, 1]) [(60, 5), (61, 60)] [(69, some 62)] [] rfl rfl mixed (by kernel_rfl) ?_|refine go_draw (dr := allQ) rfl rfl mixed (by first|assumption|kernel_rfl) ?_|refine g4_ rfl ?_|refine g5_ rfl ?_|refine g6_ rfl ?_|refine g7_ rfl ?_|refine g8_ rfl ?_|refine ga_ rfl ?_|refine gb_ rfl ?_)|(refine o0_ ?_; first|refine o1_ ?_|refine o2_ ?_|refine o3_ ?_|refine o4_ ?_|refine o5_ ?_|refine o6_ rfl ?_|refine o7_ rfl ?_|refine o8_ ?_|refine o9_ ?_|refine oa_ ?_|refine ob_ ?_|refine oc_ ?_|refine od_ ?_|refine oe_ ?_|refine of_ ?_|refine og_ ?_|refine oh_ ?_|refine oi_ ?_|refine oj_ ?_|refine ok_ ?_))) <;> (try simp (disch := first|omega|(simp only [rb_len, length_ownR, List.length_map, lenF, lenS]; omega)) only [push_cast, ↓reduceIte, reduceIte, reduceCtorEq, Nat.reduceAdd, Nat.reduceLT, Nat.reduceEqDiff, Nat.reduceLeDiff, Int.reduceAdd, Int.reduceLT, Int.reduceLE, Nat.reduceMul, b2, b3, b4, b5, b6, hlR, er, el, ee, eu, e3, g1, g2, g3, oe2, hN, t1, t2, length_ownR, rb_len, Int.reduceEq, length_rowA, k0, k1, s0, s1, hly, List.append_assoc, List.length_set]))|refine at_go ?_|(with_reducible refine And.intro (at_go ?_) (at_go ?_))|((with_reducible refine And.intro (fun h => ?_) (fun h => ?_)) <;> try (exfalso; omega))|(with_reducible refine And.intro (by first|omega|(simp only [maxLen]; omega)) ?_)|(refine And.intro ⟨[_], rfl⟩ ?_)|(refine And.intro ⟨[], by simp only [List.append_nil]⟩ ?_)|fail|simp (disch := first|omega|(simp only [rb_len, length_ownR, List.length_map, lenF, lenS]; omega)) only [push_cast, ↓reduceIte, reduceIte, reduceCtorEq, Nat.reduceAdd, Nat.reduceLT, Nat.reduceEqDiff, Nat.reduceLeDiff, Int.reduceAdd, Int.reduceLT, Int.reduceLE, Nat.reduceMul, b2, b3, b4, b5, b6, hlR, er, el, ee, eu, e3, g1, g2, g3, oe2, hN, t1, t2, length_ownR, rb_len, Int.reduceEq, length_rowA, k0, k1, s0, s1, hly, List.append_assoc, List.length_set])
     all_goals first|omega|simp [eqv1, eqv_own]
   ·have hit : t = 0 ∧ defA i l x1 a = true := by
     have h2 := hf
     rw [isA, isF, Bool.and_eq_true] at h2
     have h3 := h2.2
     rw [← hR, hEd] at h3
     simp at h3
     exact ⟨h3.1, by rw [defA, ← hR]; exact h3.2.1⟩
    obtain ⟨rfl, hda⟩ := hit
    obtain ⟨c1, c2, c3, c4, c5⟩ := defR_iff.1 hda
    rw [edgesOf_len] at c2
    obtain ⟨p, rfl⟩ : ∃ p : Nat, x1 = p := ⟨x1.toNat, by omega⟩
    obtain ⟨w, rfl⟩ : ∃ w : Nat, a = w := ⟨a.toNat, by omega⟩
    have hp : p < l.length := by omega
    have hq2 : (R.getD p []).length = I := by rw [hR]; exact hRw p hp
    have e3 := getD_rowsA l p hp
    rw [hRr p, ← hR] at e3
    obtain ⟨y1, y2, hy⟩ : ∃ y1 y2, (R.getD p []).getD w (0, 0) = (y1, y2) := ⟨_, _, rfl⟩
    have hne : newE R ⟨4, u, v, 0, w, o'⟩ = ((l.length : Int), x2) := by rw [newE, if_neg (by simp), if_neg (by simp), if_neg (by simp), hEd, hRll]
    have hnr : (newR R ⟨4, u, v, 0, w, o'⟩).getD 0 [] = (R.getD p []).set w (y1, o') := by
     rw [newR, if_neg (by simp), if_pos rfl]
     dsimp only
     rw [hEd]
     dsimp only
     rw [edR_nat, hy]
     simp
    have e4 := getD_rowA (R.getD p []) w (by omega)
    rw [hy] at e4
    have g5 := rowA_set (R.getD p []) w y1 o'
    rw [hne, hnr, if_pos (by simp), if_pos (by simp), if_pos (by simp)]
    rw [← g5]
    cases hxs : R.getD p [] with
    | nil => rw [hxs] at hq2; simp at hq2; omega
    | cons y ys =>
     rw [hxs] at e3 hq2 e4
     have hly : ys.length + 1 = I := by simpa using hq2
     rw [rowA_cons] at e3 e4 ⊢
     have ex1 : ∀ e : Edg, eA e = [AV.int .i64 e.1, AV.int .i64 e.2] := fun e => rfl
     rw [ex1 ((l.length : Int), x2)]
     rw [ex1 (y1, y2)] at e4
     dsimp only at e4 ⊢
     have hw2 : w < I := by omega
     generalize (l.getD p ([], none)).2 = cc at *
     repeat' (first|(((first|(refine a0_ ?_; first|refine a1_ rfl rfl ?_|refine a2_ rfl ?_|refine a3_ rfl rfl ?_|refine a4_ rfl ?_|refine ak_ rfl rfl ?_|refine a5_ rfl rfl rfl ?_|refine a6_ rfl rfl ?_|refine a7_ rfl rfl ?_|refine a8_ rfl rfl ?_|refine a9_ rfl rfl rfl ?_)|(refine g0_ ?_; first|refine g1_ rfl ?_|refine g2_ rfl rfl ?_|refine go_drawN (dr := allQ) (p := [0, 0, 1, 0, 0, 1, 0, 1, 1]) [(21, 5), (22, 21)] [(29, some 23)] [] rfl rfl mixed (by kernel_rfl) ?_|refine go_drawN (dr := allQ) (p := [0, 1, 1, 1]) [] [] [(10, 11)] rfl rfl mixed (by kernel_rfl) ?_|refine go_drawN (dr := allQ) (p := [0, 0, 1, 1, 1, 1, 1, 1, 1, 0, 1, 0, 1, 1, 1, 1]) [(60, 5), (61, 60)] [(69, some 62)] [] rfl rfl mixed (by kernel_rfl) ?_|refine go_draw (dr := allQ) rfl rfl mixed (by first|assumption|kernel_rfl) ?_|refine g4_ rfl ?_|refine g5_ rfl ?_|refine g6_ rfl ?_|refine g7_ rfl ?_|refine g8_ rfl ?_|refine ga_ rfl ?_|refine gb_ rfl ?_)|(refine o0_ ?_; first|refine o1_ ?_|refine o2_ ?_|refine o3_ ?_|refine o4_ ?_|refine o5_ ?_|refine o6_ rfl ?_|refine o7_ rfl ?_|refine o8_ ?_|refine o9_ ?_|refine oa_ ?_|refine ob_ ?_|refine oc_ ?_|refine od_ ?_|refine oe_ ?_|refine of_ ?_|refine og_ ?_|refine oh_ ?_|refine oi_ ?_|refine oj_ ?_|refine ok_ ?_))) <;> (try simp (disch := first|omega|(simp only [rb_len, length_ownR, List.length_map, lenF, lenS]; omega)) only [push_cast, ↓reduceIte, reduceIte, reduceCtorEq, Nat.reduceAdd, Nat.reduceLT, Nat.reduceEqDiff, Nat.reduceLeDiff, Int.reduceAdd, Int.reduceLT, Int.reduceLE, Nat.reduceMul, b2, b3, b4, b5, b6, hlR, er, el, ee, eu, e3, e4, g1, g2, g3, oe2, hN, t1, t2, length_ownR, rb_len, Int.reduceEq, length_rowA, k0, k1, s0, s1, hly, List.append_assoc, List.length_set]))|refine at_go ?_|(with_reducible refine And.intro (at_go ?_) (at_go ?_))|((with_reducible refine And.intro (fun h => ?_) (fun h => ?_)) <;> try (exfalso; omega))|(with_reducible refine And.intro (by first|omega|(simp only [maxLen]; omega)) ?_)|(refine And.intro ⟨[_], rfl⟩ ?_)|(refine And.intro ⟨[], by simp only [List.append_nil]⟩ ?_)|fail|simp (disch := first|omega|(simp only [rb_len, length_ownR, List.length_map, lenF, lenS]; omega)) only [push_cast, ↓reduceIte, reduceIte, reduceCtorEq, Nat.reduceAdd, Nat.reduceLT, Nat.reduceEqDiff, Nat.reduceLeDiff, Int.reduceAdd, Int.reduceLT, Int.reduceLE, Nat.reduceMul, b2, b3, b4, b5, b6, hlR, er, el, ee, eu, e3, e4, g1, g2, g3, oe2, hN, t1, t2, length_ownR, rb_len, Int.reduceEq, length_rowA, k0, k1, s0, s1, hly, List.append_assoc, List.length_set])
     all_goals first|omega|simp [eqv1, eqv_own]
end Go.Proofs
