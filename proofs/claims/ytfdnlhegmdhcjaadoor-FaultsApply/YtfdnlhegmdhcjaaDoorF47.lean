import Derived.Test.YtfdnlhegmdhcjaaDoorF5
import Derived.Test.YtfdnlhegmdhcjaaDoorF15
namespace Go.Proofs
open Go Go.V
set_option linter.unusedVariables false
set_option linter.unusedSimpArgs false
set_option maxHeartbeats 0
def apHL (B0 B1 B2 B3 : Blk) (i o : Int) (l : List Row) (c : Option Nat) (f : Flt) (X Y : List (List AV)) (rss : List (List (List AV))) : List Blk :=
 B0 :: B1 :: B2 :: B3 :: .row 3 30 [[.int .i64 i, .int .i64 o, .sl 1 (rowsA l) c]] :: .row 6 33 [flA f] :: .row 3 30 [[.int .i64 0, .int .i64 0, .sl 0 [] (some 0)]] :: .row 3 30 [.int .i64 i :: .int .i64 o :: X.getD 0 []] :: .row 1 44 Y :: rowBs 2 46 rss
theorem apHL_len (B0 B1 B2 B3 : Blk) (i o : Int) (l : List Row) (c : Option Nat) (f : Flt) (X Y : List (List AV)) (rss : List (List (List AV))) : (apHL B0 B1 B2 B3 i o l c f X Y rss).length = rss.length + 9 := by simp [apHL, rb_len]
set_option maxRecDepth 100000 in
theorem apply12L (B0 B1 B2 B3 : Blk) (hBb : [B0, B1, B2, B3].all (Blk.below 4) = true) (i o : Int) (l : List Row) (c : Option Nat) (f : Flt) (I : Nat) (hI : i = I) (hm : machOk i o l = 0) (hf : isA i o l f = true) (hlt : 3 ≤ f.k → l.length < 64) :
  ACalls Tryd.prog G0 12 [mA i o l c, .agg (flA f)] [B0, B1, B2, B3] (.tup [.agg [.int .i64 i, .int .i64 o, .own 8 (applyR (edgesOf l) f).length (applyR (edgesOf l) f).length (some (applyR (edgesOf l) f).length)], .int .i64 0])
   (B0 :: B1 :: B2 :: B3 :: .row 3 30 [[.int .i64 i, .int .i64 o, .sl 1 (rowsA l) c]] :: .row 6 33 [flA f] :: .row 3 30 [[.int .i64 i, .int .i64 o, .own 8 (applyR (edgesOf l) f).length (applyR (edgesOf l) f).length (some (applyR (edgesOf l) f).length)]] :: .row 3 30 [[.int .i64 i, .int .i64 o, .own 8 (applyR (edgesOf l) f).length (applyR (edgesOf l) f).length (some (applyR (edgesOf l) f).length)]] :: .row 1 44 (ownR 9 I (some I) (applyR (edgesOf l) f).length) :: rowBs 2 46 ((applyR (edgesOf l) f).map rowA)) := by
 obtain ⟨m1, m2, m3, m4, m5⟩ := machOk_zero hm
 have hC := check13 i o l 1 c f (.inr rfl) (by omega) (fun j hj => by have := m4 j hj; omega)
 have hchk : chkA i o l f = 0 := by
  rw [chkA, if_neg (by rw [hm]; decide), chkF, if_pos (show isF (edgesOf l) i.toNat o.toNat f = true from hf), if_neg (by rw [edgesOf_len]; omega)]
 rw [hchk] at hC
 have hRl := edgesOf_len l
 have hRw : ∀ s, s < l.length → ((edgesOf l).getD s []).length = I := fun s hs => by have := m4 s hs; rw [getD_edgesOf]; omega
 have hRr : ∀ s, ((l.getD s ([], none)).1) = (edgesOf l).getD s [] := fun s => (getD_edgesOf l s).symm
 obtain ⟨k, s0, i0, t, a, o'⟩ := f
 obtain ⟨d1, d2, d3, d4, d5⟩ := isF_def (show isF (edgesOf l) i.toNat o.toNat ⟨k, s0, i0, t, a, o'⟩ = true from hf)
 obtain ⟨kq1, kq2⟩ := isF_kind (show isF (edgesOf l) i.toNat o.toNat ⟨k, s0, i0, t, a, o'⟩ = true from hf)
 dsimp only at d1 d2 d3 d4 d5 kq1 kq2 hlt
 rw [edgesOf_len] at d2
 obtain ⟨u, rfl⟩ : ∃ u : Nat, s0 = u := ⟨s0.toNat, by omega⟩
 obtain ⟨v, rfl⟩ : ∃ v : Nat, i0 = v := ⟨i0.toNat, by omega⟩
 have hu : u < l.length := by omega
 have hv : v < I := by omega
 obtain ⟨R, hR⟩ : ∃ R, R = edgesOf l := ⟨_, rfl⟩
 rw [← hR]
 unfold mA flA at *
 refine ac_go 111 [.cell 4 30, .tmp 5] Tryd.func12 rfl rfl rfl (by simp) ?_
 intro s ⟨a0, a1, hz⟩
 simp only [Nat.zero_add, Nat.reduceAdd] at a1
 clear hz
 repeat' (first|(first|(refine a0_ ?_; first|refine a1_ rfl rfl ?_|refine a2_ rfl ?_|refine a3_ rfl rfl ?_|refine a4_ rfl ?_|refine ak_ rfl rfl ?_|refine a5_ rfl rfl rfl ?_|refine a6_ rfl rfl ?_|refine a7_ rfl rfl ?_|refine a8_ rfl rfl ?_|refine a9_ rfl rfl rfl ?_)|(refine g0_ ?_; first|refine g1_ rfl ?_|refine g2_ rfl rfl ?_|refine go_drawN (dr := kpQ [] [34]) (p := [1, 0, 0, 1, 1, 0, 0, 1, 0, 1, 1, 1, 1]) [(29, 7), (30, 29)] [(32, none)] [] rfl rfl mixed (by kernel_rfl) ?_|refine go_draw (dr := allQ) rfl rfl mixed (by first|assumption|kernel_rfl) ?_|refine g4_ rfl ?_|refine g5_ rfl ?_|refine g6_ rfl ?_|refine g7_ rfl ?_|refine g8_ rfl ?_|refine ga_ rfl ?_|refine gb_ rfl ?_)|(refine o0_ ?_; first|refine o1_ ?_|refine o2_ ?_|refine o3_ ?_|refine o4_ ?_|refine o5_ ?_|refine o6_ rfl ?_|refine o7_ rfl ?_|refine o8_ ?_|refine o9_ ?_|refine oa_ ?_|refine ob_ ?_|refine oc_ ?_|refine od_ ?_|refine oe_ ?_|refine of_ ?_|refine og_ ?_|refine oh_ ?_|refine oi_ ?_|refine oj_ ?_|refine ok_ ?_))|refine at_go ?_|(with_reducible refine And.intro (at_go ?_) (at_go ?_))|((with_reducible refine And.intro (fun h => ?_) (fun h => ?_)) <;> try (exfalso; omega))|(with_reducible refine And.intro (by first|omega|(simp only [maxLen]; omega)) ?_)|(refine And.intro ⟨[_], rfl⟩ ?_)|(refine And.intro ⟨[], by simp only [List.append_nil]⟩ ?_)|(first|(refine ⟨_, _, pc_lift (hC) (by (simp [idsL, idsE, AV.ids, Nat.add_zero])) _, ?_⟩)|(refine ⟨_, pc_lift (hC) (by (simp [idsL, idsE, AV.ids, Nat.add_zero])) _, ?_⟩)|(refine ⟨_, fun _ => pc_lift (hC) (by (simp [idsL, idsE, AV.ids, Nat.add_zero])) _, ?_⟩))|simp (disch := first|omega|(simp only [rb_len, length_ownR, List.length_map, lenF, lenS]; omega)) only [push_cast, ↓reduceIte, reduceIte, reduceCtorEq, Nat.reduceAdd, Nat.reduceLT, Nat.reduceEqDiff, Nat.reduceLeDiff, Int.reduceAdd, Int.reduceLT, Int.reduceLE, Nat.reduceMul, a0, a1, Int.reduceEq])
 refine go_loop rfl (fun mz s' H' => ∃ s : Nat, s ≤ l.length ∧ mz = l.length - s ∧ H' = apHL B0 B1 B2 B3 i o l c ⟨k, u, v, t, a, o'⟩ [[.own 8 s s none]] (ownR 9 I (some I) s) ((R.take s).map rowA) ∧ s' 2 = .ptr 4 0 0 1 ∧ s' 3 = .ptr 5 0 0 1 ∧ s' 4 = .ptr 6 0 0 1 ∧ s' 7 = .ptr 7 0 0 1 ∧ s' 23 = .sl 1 (rowsA l) c ∧ s' 24 = .int .i64 l.length ∧ s' 25 = .int .i64 s) (m := l.length) (by (first|trivial|((repeat' apply And.intro) <;> first|trivial|assumption|omega|(simp only [maxLen]; omega)|(simp only [rb_len, length_ownR, List.length_map, maxLen, lenF, lenS] <;> omega)))) (weak_nil_cell (b := 7) (i := 0) (j := 2) (sz := 1) (ty := 44) rfl rfl rfl) ⟨0, by omega, by omega, by simp [apHL, ownR_nil, rb_nil, flA], ?_⟩ ?_
 ·simp (disch := first|omega|(simp only [rb_len, length_ownR, List.length_map, lenF, lenS]; omega)) only [push_cast, ↓reduceIte, reduceIte, reduceCtorEq, Nat.reduceAdd, Nat.reduceLT, Nat.reduceEqDiff, Nat.reduceLeDiff, Int.reduceAdd, Int.reduceLT, Int.reduceLE, Nat.reduceMul, a0, a1, Int.reduceEq]
 ·rintro mz s' H' ⟨s, hs, rfl, rfl, b2, b3, b4, b7, b23, b24, b25⟩
  have hN : ((R.take s).map rowA).length = s := by rw [List.length_map, List.length_take, hR, hRl]; omega
  rcases Nat.lt_or_ge s l.length with hltS|hge
  ·have e1 := getD_rowsA l s hltS
   rw [hRr s, ← hR] at e1
   have hlr : (R.getD s []).length = I := by rw [hR]; exact hRw s hltS
   have hclo := clone34 (R.getD s []) (l.getD s ([], none)).2 (apHL B0 B1 B2 B3 i o l c ⟨k, u, v, t, a, o'⟩ [[.own 8 s s none]] (ownR 9 I (some I) s) ((R.take s).map rowA)) (by omega)
   rw [apHL_len, hN, hlr] at hclo
   have htk : (R.take (s + 1)).map rowA = (R.take s).map rowA ++ [rowA (R.getD s [])] := by
    have : s < R.length := by rw [hR, hRl]; exact hltS
    rw [List.take_succ_eq_append_getElem this, List.map_append]; simp [this]
   have k0 := fun A K => rb_at0 (z := 2) (t := 46) A K hN
   have hcl2 := clip33_own (s + 9) I 46 (rowA (R.getD s [])) none (apHL B0 B1 B2 B3 i o l c ⟨k, u, v, t, a, o'⟩ [[.own 8 s s none]] (ownR 9 I (some I) s) ((R.take s).map rowA) ++ [.row 2 46 (rowA (R.getD s []))]) (by
    have := k0 (.row 2 46 (rowA (R.getD s []))) []
    simpa [apHL] using this) (by rw [length_rowA, hlr])
   have hsn := ownR_snoc 9 I (some I) s
   have t1 : (ownR 9 I (some I) s).take s = ownR 9 I (some I) s := List.take_of_length_le (by rw [length_ownR]; omega)
   have t2 : (ownR 9 I (some I) s).drop (s + 1) = [] := List.drop_eq_nil_of_le (by rw [length_ownR]; omega)
   have hrs := rb_snoc (z := 2) (t := 46) (rss := (R.take s).map rowA) (rowA (R.getD s []))
   generalize (l.getD s ([], none)).2 = cc at *
   unfold apHL at hclo hcl2 ⊢
   simp only [flA, List.cons_append, List.nil_append] at hclo hcl2 ⊢
   repeat' (first|(first|(refine a0_ ?_; first|refine a1_ rfl rfl ?_|refine a2_ rfl ?_|refine a3_ rfl rfl ?_|refine a4_ rfl ?_|refine ak_ rfl rfl ?_|refine a5_ rfl rfl rfl ?_|refine a6_ rfl rfl ?_|refine a7_ rfl rfl ?_|refine a8_ rfl rfl ?_|refine a9_ rfl rfl rfl ?_)|(refine g0_ ?_; first|refine g1_ rfl ?_|refine g2_ rfl rfl ?_|refine go_drawN (dr := kpQ [] [34]) (p := [1, 0, 0, 1, 1, 0, 0, 1, 0, 1, 1, 1, 1]) [(29, 7), (30, 29)] [(32, none)] [] rfl rfl mixed (by kernel_rfl) ?_|refine go_draw (dr := allQ) rfl rfl mixed (by first|assumption|kernel_rfl) ?_|refine g4_ rfl ?_|refine g5_ rfl ?_|refine g6_ rfl ?_|refine g7_ rfl ?_|refine g8_ rfl ?_|refine ga_ rfl ?_|refine gb_ rfl ?_)|(refine o0_ ?_; first|refine o1_ ?_|refine o2_ ?_|refine o3_ ?_|refine o4_ ?_|refine o5_ ?_|refine o6_ rfl ?_|refine o7_ rfl ?_|refine o8_ ?_|refine o9_ ?_|refine oa_ ?_|refine ob_ ?_|refine oc_ ?_|refine od_ ?_|refine oe_ ?_|refine of_ ?_|refine og_ ?_|refine oh_ ?_|refine oi_ ?_|refine oj_ ?_|refine ok_ ?_))|refine at_go ?_|(with_reducible refine And.intro (at_go ?_) (at_go ?_))|((with_reducible refine And.intro (fun h => ?_) (fun h => ?_)) <;> try (exfalso; omega))|(with_reducible refine And.intro (by first|omega|(simp only [maxLen]; omega)) ?_)|(refine And.intro ⟨[_], rfl⟩ ?_)|(refine And.intro ⟨[], by simp only [List.append_nil]⟩ ?_)|(first|(refine ⟨_, _, hclo, ?_⟩)|(refine ⟨_, hclo, ?_⟩)|(refine ⟨_, fun _ => hclo, ?_⟩)|(refine ⟨_, _, hcl2, ?_⟩)|(refine ⟨_, hcl2, ?_⟩)|(refine ⟨_, fun _ => hcl2, ?_⟩))|simp (disch := first|omega|(simp only [rb_len, length_ownR, List.length_map, lenF, lenS]; omega)) only [push_cast, ↓reduceIte, reduceIte, reduceCtorEq, Nat.reduceAdd, Nat.reduceLT, Nat.reduceEqDiff, Nat.reduceLeDiff, Int.reduceAdd, Int.reduceLT, Int.reduceLE, Nat.reduceMul, b2, b3, b4, b7, b23, b24, b25, e1, t1, t2, length_ownR, k0, hN, rb_len, hlr, length_rowA])
   refine out_round (l.length - (s + 1)) (by omega) (by (first|trivial|((repeat' apply And.intro) <;> first|trivial|assumption|omega|(simp only [maxLen]; omega)|(simp only [rb_len, length_ownR, List.length_map, maxLen, lenF, lenS] <;> omega)))) ⟨s + 1, by omega, rfl, by rw [htk, ← hrs, ← hsn], ?_⟩
   simp (disch := first|omega|(simp only [rb_len, length_ownR, List.length_map, lenF, lenS]; omega)) only [push_cast, ↓reduceIte, reduceIte, reduceCtorEq, Nat.reduceAdd, Nat.reduceLT, Nat.reduceEqDiff, Nat.reduceLeDiff, Int.reduceAdd, Int.reduceLT, Int.reduceLE, Nat.reduceMul, b2, b3, b4, b7, b23, b24, b25, e1, t1, t2, length_ownR, k0, hN, rb_len, hlr, length_rowA]
  ·obtain rfl : s = l.length := by omega
   have hRll : R.length = l.length := by rw [hR, hRl]
   have htR : R.take l.length = R := List.take_of_length_le (by omega)
   rw [htR] at hN ⊢
   have el : (R.getD u []).length = I := by rw [hR]; exact hRw u hu
   have er := getD_mapA R u
   obtain ⟨x1, x2, hx⟩ : ∃ x1 x2, (R.getD u []).getD v (0, 0) = (x1, x2) := ⟨_, _, rfl⟩
   have ee := getD_rowA (R.getD u []) v (by omega)
   have hEd : edR R u v = (x1, x2) := hx
   rw [hx] at ee
   simp only [eA] at ee
   have g1 := fun K => rb_getK (z := 2) (t := 46) K hN hu
   have g1' := rb_get (z := 2) (t := 46) hN hu
   have g2 := fun es K => rb_setK (z := 2) (t := 46) es K hN hu
   have g2' := fun es => rb_set (z := 2) (t := 46) (rss := R.map rowA) (q := u) es
   have oe := getD_ownR (b0 := 9) (I := I) (N := l.length) (some I) hu
   have k0 := fun A K => rb_at0 (z := 2) (t := 46) A K hN
   have s0 := fun A B K => rb_setAt0 (z := 2) (t := 46) A B K hN
   have t1 : (ownR 9 I (some I) l.length).take l.length = ownR 9 I (some I) l.length := List.take_of_length_le (by rw [length_ownR]; omega)
   have t2 : (ownR 9 I (some I) l.length).drop (l.length + 1) = [] := List.drop_eq_nil_of_le (by rw [length_ownR]; omega)
   have g3 := fun x y : Int => show (R.map rowA).set u ((rowA (R.getD u [])).set v [.int .i64 x, .int .i64 y]) = (R.set u ((R.getD u []).set v (x, y))).map rowA by rw [rowA_set, mapA_set]
   have hk5 : k = 0 ∨ k = 1 ∨ k = 2 ∨ k = 3 ∨ k = 4 := by omega
   unfold apHL
   simp only [flA]
   rcases hk5 with rfl|rfl|rfl|rfl|rfl
   ·have hap : applyR R ⟨0, u, v, t, a, o'⟩ = R.set u ((R.getD u []).set v (x1, o')) := by
     rw [applyR_small (by decide) (by decide), newE]
     simp [hEd]
    rw [hap, List.length_set, hRll]
    have hlc : ((R.set u ((R.getD u []).set v (x1, o'))).map rowA).length = l.length := by rw [List.length_map, List.length_set, hRll]
    have hcl3 := clip35_own 8 l.length 44 (ownR 9 I (some I) l.length) none (B0 :: B1 :: B2 :: B3 :: .row 3 30 [[.int .i64 i, .int .i64 o, .sl 1 (rowsA l) c]] :: .row 6 33 [[.int .i64 0, .int .i64 u, .int .i64 v, .int .i64 t, .int .i64 a, .int .i64 o']] :: .row 3 30 [[.int .i64 0, .int .i64 0, .sl 0 [] (some 0)]] :: .row 3 30 [[.int .i64 i, .int .i64 o, .own 8 l.length l.length none]] :: .row 1 44 (ownR 9 I (some I) l.length) :: rowBs 2 46 ((R.set u ((R.getD u []).set v (x1, o'))).map rowA)) rfl (by rw [length_ownR])
    repeat' (first|(((first|(refine a0_ ?_; first|refine a1_ rfl rfl ?_|refine a2_ rfl ?_|refine a3_ rfl rfl ?_|refine a4_ rfl ?_|refine ak_ rfl rfl ?_|refine a5_ rfl rfl rfl ?_|refine a6_ rfl rfl ?_|refine a7_ rfl rfl ?_|refine a8_ rfl rfl ?_|refine a9_ rfl rfl rfl ?_)|(refine g0_ ?_; first|refine g1_ rfl ?_|refine g2_ rfl rfl ?_|refine go_drawN (dr := kpQ [] [34]) (p := [1, 0, 0, 1, 1, 0, 0, 1, 0, 1, 1, 1, 1]) [(29, 7), (30, 29)] [(32, none)] [] rfl rfl mixed (by kernel_rfl) ?_|refine go_draw (dr := allQ) rfl rfl mixed (by first|assumption|kernel_rfl) ?_|refine g4_ rfl ?_|refine g5_ rfl ?_|refine g6_ rfl ?_|refine g7_ rfl ?_|refine g8_ rfl ?_|refine ga_ rfl ?_|refine gb_ rfl ?_)|(refine o0_ ?_; first|refine o1_ ?_|refine o2_ ?_|refine o3_ ?_|refine o4_ ?_|refine o5_ ?_|refine o6_ rfl ?_|refine o7_ rfl ?_|refine o8_ ?_|refine o9_ ?_|refine oa_ ?_|refine ob_ ?_|refine oc_ ?_|refine od_ ?_|refine oe_ ?_|refine of_ ?_|refine og_ ?_|refine oh_ ?_|refine oi_ ?_|refine oj_ ?_|refine ok_ ?_))) <;> (try simp (disch := first|omega|(simp only [rb_len, length_ownR, List.length_map, lenF, lenS]; omega)) only [push_cast, ↓reduceIte, reduceIte, reduceCtorEq, Nat.reduceAdd, Nat.reduceLT, Nat.reduceEqDiff, Nat.reduceLeDiff, Int.reduceAdd, Int.reduceLT, Int.reduceLE, Nat.reduceMul, b2, b3, b4, b7, b23, b24, b25, er, el, ee, g1', g2', g3, oe, hN, hlc, t1, t2, length_ownR, rb_len, Int.reduceEq, length_rowA]))|refine at_go ?_|(with_reducible refine And.intro (at_go ?_) (at_go ?_))|((with_reducible refine And.intro (fun h => ?_) (fun h => ?_)) <;> try (exfalso; omega))|(with_reducible refine And.intro (by first|omega|(simp only [maxLen]; omega)) ?_)|(refine And.intro ⟨[_], rfl⟩ ?_)|(refine And.intro ⟨[], by simp only [List.append_nil]⟩ ?_)|(first|(refine ⟨_, _, hcl3, ?_⟩)|(refine ⟨_, hcl3, ?_⟩)|(refine ⟨_, fun _ => hcl3, ?_⟩))|simp (disch := first|omega|(simp only [rb_len, length_ownR, List.length_map, lenF, lenS]; omega)) only [push_cast, ↓reduceIte, reduceIte, reduceCtorEq, Nat.reduceAdd, Nat.reduceLT, Nat.reduceEqDiff, Nat.reduceLeDiff, Int.reduceAdd, Int.reduceLT, Int.reduceLE, Nat.reduceMul, b2, b3, b4, b7, b23, b24, b25, er, el, ee, g1', g2', g3, oe, hN, hlc, t1, t2, length_ownR, rb_len, Int.reduceEq, length_rowA])
    all_goals simp [eqv1, eqv_own]
   ·have hap : applyR R ⟨1, u, v, t, a, o'⟩ = R.set u ((R.getD u []).set v (t, x2)) := by
     rw [applyR_small (by decide) (by decide), newE]
     simp [hEd]
    rw [hap, List.length_set, hRll]
    have hlc : ((R.set u ((R.getD u []).set v (t, x2))).map rowA).length = l.length := by rw [List.length_map, List.length_set, hRll]
    have hcl3 := clip35_own 8 l.length 44 (ownR 9 I (some I) l.length) none (B0 :: B1 :: B2 :: B3 :: .row 3 30 [[.int .i64 i, .int .i64 o, .sl 1 (rowsA l) c]] :: .row 6 33 [[.int .i64 1, .int .i64 u, .int .i64 v, .int .i64 t, .int .i64 a, .int .i64 o']] :: .row 3 30 [[.int .i64 0, .int .i64 0, .sl 0 [] (some 0)]] :: .row 3 30 [[.int .i64 i, .int .i64 o, .own 8 l.length l.length none]] :: .row 1 44 (ownR 9 I (some I) l.length) :: rowBs 2 46 ((R.set u ((R.getD u []).set v (t, x2))).map rowA)) rfl (by rw [length_ownR])
    repeat' (first|(((first|(refine a0_ ?_; first|refine a1_ rfl rfl ?_|refine a2_ rfl ?_|refine a3_ rfl rfl ?_|refine a4_ rfl ?_|refine ak_ rfl rfl ?_|refine a5_ rfl rfl rfl ?_|refine a6_ rfl rfl ?_|refine a7_ rfl rfl ?_|refine a8_ rfl rfl ?_|refine a9_ rfl rfl rfl ?_)|(refine g0_ ?_; first|refine g1_ rfl ?_|refine g2_ rfl rfl ?_|refine go_drawN (dr := kpQ [] [34]) (p := [1, 0, 0, 1, 1, 0, 0, 1, 0, 1, 1, 1, 1]) [(29, 7), (30, 29)] [(32, none)] [] rfl rfl mixed (by kernel_rfl) ?_|refine go_draw (dr := allQ) rfl rfl mixed (by first|assumption|kernel_rfl) ?_|refine g4_ rfl ?_|refine g5_ rfl ?_|refine g6_ rfl ?_|refine g7_ rfl ?_|refine g8_ rfl ?_|refine ga_ rfl ?_|refine gb_ rfl ?_)|(refine o0_ ?_; first|refine o1_ ?_|refine o2_ ?_|refine o3_ ?_|refine o4_ ?_|refine o5_ ?_|refine o6_ rfl ?_|refine o7_ rfl ?_|refine o8_ ?_|refine o9_ ?_|refine oa_ ?_|refine ob_ ?_|refine oc_ ?_|refine od_ ?_|refine oe_ ?_|refine of_ ?_|refine og_ ?_|refine oh_ ?_|refine oi_ ?_|refine oj_ ?_|refine ok_ ?_))) <;> (try simp (disch := first|omega|(simp only [rb_len, length_ownR, List.length_map, lenF, lenS]; omega)) only [push_cast, ↓reduceIte, reduceIte, reduceCtorEq, Nat.reduceAdd, Nat.reduceLT, Nat.reduceEqDiff, Nat.reduceLeDiff, Int.reduceAdd, Int.reduceLT, Int.reduceLE, Nat.reduceMul, b2, b3, b4, b7, b23, b24, b25, er, el, ee, g1', g2', g3, oe, hN, hlc, t1, t2, length_ownR, rb_len, Int.reduceEq, length_rowA]))|refine at_go ?_|(with_reducible refine And.intro (at_go ?_) (at_go ?_))|((with_reducible refine And.intro (fun h => ?_) (fun h => ?_)) <;> try (exfalso; omega))|(with_reducible refine And.intro (by first|omega|(simp only [maxLen]; omega)) ?_)|(refine And.intro ⟨[_], rfl⟩ ?_)|(refine And.intro ⟨[], by simp only [List.append_nil]⟩ ?_)|(first|(refine ⟨_, _, hcl3, ?_⟩)|(refine ⟨_, hcl3, ?_⟩)|(refine ⟨_, fun _ => hcl3, ?_⟩))|simp (disch := first|omega|(simp only [rb_len, length_ownR, List.length_map, lenF, lenS]; omega)) only [push_cast, ↓reduceIte, reduceIte, reduceCtorEq, Nat.reduceAdd, Nat.reduceLT, Nat.reduceEqDiff, Nat.reduceLeDiff, Int.reduceAdd, Int.reduceLT, Int.reduceLE, Nat.reduceMul, b2, b3, b4, b7, b23, b24, b25, er, el, ee, g1', g2', g3, oe, hN, hlc, t1, t2, length_ownR, rb_len, Int.reduceEq, length_rowA])
    all_goals simp [eqv1, eqv_own]
   ·have hap : applyR R ⟨2, u, v, t, a, o'⟩ = R.set u ((R.getD u []).set v (-1, -1)) := by
     rw [applyR_small (by decide) (by decide), newE]
     simp [hEd]
    rw [hap, List.length_set, hRll]
    have hlc : ((R.set u ((R.getD u []).set v (-1, -1))).map rowA).length = l.length := by rw [List.length_map, List.length_set, hRll]
    have hcl3 := clip35_own 8 l.length 44 (ownR 9 I (some I) l.length) none (B0 :: B1 :: B2 :: B3 :: .row 3 30 [[.int .i64 i, .int .i64 o, .sl 1 (rowsA l) c]] :: .row 6 33 [[.int .i64 2, .int .i64 u, .int .i64 v, .int .i64 t, .int .i64 a, .int .i64 o']] :: .row 3 30 [[.int .i64 0, .int .i64 0, .sl 0 [] (some 0)]] :: .row 3 30 [[.int .i64 i, .int .i64 o, .own 8 l.length l.length none]] :: .row 1 44 (ownR 9 I (some I) l.length) :: rowBs 2 46 ((R.set u ((R.getD u []).set v (-1, -1))).map rowA)) rfl (by rw [length_ownR])
    repeat' (first|(((first|(refine a0_ ?_; first|refine a1_ rfl rfl ?_|refine a2_ rfl ?_|refine a3_ rfl rfl ?_|refine a4_ rfl ?_|refine ak_ rfl rfl ?_|refine a5_ rfl rfl rfl ?_|refine a6_ rfl rfl ?_|refine a7_ rfl rfl ?_|refine a8_ rfl rfl ?_|refine a9_ rfl rfl rfl ?_)|(refine g0_ ?_; first|refine g1_ rfl ?_|refine g2_ rfl rfl ?_|refine go_drawN (dr := kpQ [] [34]) (p := [1, 0, 0, 1, 1, 0, 0, 1, 0, 1, 1, 1, 1]) [(29, 7), (30, 29)] [(32, none)] [] rfl rfl mixed (by kernel_rfl) ?_|refine go_draw (dr := allQ) rfl rfl mixed (by first|assumption|kernel_rfl) ?_|refine g4_ rfl ?_|refine g5_ rfl ?_|refine g6_ rfl ?_|refine g7_ rfl ?_|refine g8_ rfl ?_|refine ga_ rfl ?_|refine gb_ rfl ?_)|(refine o0_ ?_; first|refine o1_ ?_|refine o2_ ?_|refine o3_ ?_|refine o4_ ?_|refine o5_ ?_|refine o6_ rfl ?_|refine o7_ rfl ?_|refine o8_ ?_|refine o9_ ?_|refine oa_ ?_|refine ob_ ?_|refine oc_ ?_|refine od_ ?_|refine oe_ ?_|refine of_ ?_|refine og_ ?_|refine oh_ ?_|refine oi_ ?_|refine oj_ ?_|refine ok_ ?_))) <;> (try simp (disch := first|omega|(simp only [rb_len, length_ownR, List.length_map, lenF, lenS]; omega)) only [push_cast, ↓reduceIte, reduceIte, reduceCtorEq, Nat.reduceAdd, Nat.reduceLT, Nat.reduceEqDiff, Nat.reduceLeDiff, Int.reduceAdd, Int.reduceLT, Int.reduceLE, Nat.reduceMul, b2, b3, b4, b7, b23, b24, b25, er, el, ee, g1', g2', g3, oe, hN, hlc, t1, t2, length_ownR, rb_len, Int.reduceEq, length_rowA]))|refine at_go ?_|(with_reducible refine And.intro (at_go ?_) (at_go ?_))|((with_reducible refine And.intro (fun h => ?_) (fun h => ?_)) <;> try (exfalso; omega))|(with_reducible refine And.intro (by first|omega|(simp only [maxLen]; omega)) ?_)|(refine And.intro ⟨[_], rfl⟩ ?_)|(refine And.intro ⟨[], by simp only [List.append_nil]⟩ ?_)|(first|(refine ⟨_, _, hcl3, ?_⟩)|(refine ⟨_, hcl3, ?_⟩)|(refine ⟨_, fun _ => hcl3, ?_⟩))|simp (disch := first|omega|(simp only [rb_len, length_ownR, List.length_map, lenF, lenS]; omega)) only [push_cast, ↓reduceIte, reduceIte, reduceCtorEq, Nat.reduceAdd, Nat.reduceLT, Nat.reduceEqDiff, Nat.reduceLeDiff, Int.reduceAdd, Int.reduceLT, Int.reduceLE, Nat.reduceMul, b2, b3, b4, b7, b23, b24, b25, er, el, ee, g1', g2', g3, oe, hN, hlc, t1, t2, length_ownR, rb_len, Int.reduceEq, length_rowA])
    all_goals simp [eqv1, eqv_own]
   ·have hit : 0 ≤ t ∧ t < l.length := by
     have h2 := hf
     rw [isA, isF, Bool.and_eq_true] at h2
     have h3 := h2.2
     simp [inN, edgesOf_len] at h3
     omega
    obtain ⟨p, rfl⟩ : ∃ p : Nat, t = p := ⟨t.toNat, by omega⟩
    have hp : p < l.length := by omega
    have hq2 : (R.getD p []).length = I := by rw [hR]; exact hRw p hp
    have e3 := getD_rowsA l p hp
    rw [hRr p, ← hR] at e3
    have hnr : newR R ⟨3, u, v, p, a, o'⟩ = [R.getD p []] := by
     rw [newR, if_pos rfl]; simp
    have hap : applyR R ⟨3, u, v, p, a, o'⟩ = R.set u ((R.getD u []).set v ((l.length : Int), x2)) ++ [R.getD p []] := by
     rw [applyR_big rfl rfl hnr (by omega), newE, if_neg (by simp), if_neg (by simp), if_neg (by simp), hRll]
     simp [hEd]
    have hapl : (applyR R ⟨3, u, v, p, a, o'⟩).length = l.length + 1 := by rw [hap, List.length_append, List.length_set, hRll]; rfl
    rw [hapl, hap, List.map_append, List.map_singleton, ← rb_snoc]
    have hlc : ((R.set u ((R.getD u []).set v ((l.length : Int), x2))).map rowA).length = l.length := by rw [List.length_map, List.length_set, hRll]
    have k1 := fun A K => rb_at0 (z := 2) (t := 46) A K hlc
    have hH0 : (B0 :: B1 :: B2 :: B3 :: .row 3 30 [[.int .i64 i, .int .i64 o, .sl 1 (rowsA l) c]] :: .row 6 33 [[.int .i64 3, .int .i64 u, .int .i64 v, .int .i64 p, .int .i64 a, .int .i64 o']] :: .row 3 30 [[.int .i64 0, .int .i64 0, .sl 0 [] (some 0)]] :: .row 3 30 [[.int .i64 i, .int .i64 o, .own 8 l.length l.length none]] :: .row 1 44 (ownR 9 I (some I) l.length) :: rowBs 2 46 (R.map rowA)).length = l.length + 9 := by simp [rb_len, hRll]
    have hclo3 := clone34 (R.getD p []) (l.getD p ([], none)).2 (B0 :: B1 :: B2 :: B3 :: .row 3 30 [[.int .i64 i, .int .i64 o, .sl 1 (rowsA l) c]] :: .row 6 33 [[.int .i64 3, .int .i64 u, .int .i64 v, .int .i64 p, .int .i64 a, .int .i64 o']] :: .row 3 30 [[.int .i64 0, .int .i64 0, .sl 0 [] (some 0)]] :: .row 3 30 [[.int .i64 i, .int .i64 o, .own 8 l.length l.length none]] :: .row 1 44 (ownR 9 I (some I) l.length) :: rowBs 2 46 (R.map rowA)) (by omega)
    rw [hH0, hq2] at hclo3
    have hcl3 := clip33_own (l.length + 9) I 46 (rowA (R.getD p [])) none (B0 :: B1 :: B2 :: B3 :: .row 3 30 [[.int .i64 i, .int .i64 o, .sl 1 (rowsA l) c]] :: .row 6 33 [[.int .i64 3, .int .i64 u, .int .i64 v, .int .i64 p, .int .i64 a, .int .i64 o']] :: .row 3 30 [[.int .i64 0, .int .i64 0, .sl 0 [] (some 0)]] :: .row 3 30 [[.int .i64 i, .int .i64 o, .own 8 l.length l.length none]] :: .row 1 44 (ownR 9 I (some I) l.length) :: (rowBs 2 46 (R.map rowA) ++ [.row 2 46 (rowA (R.getD p []))])) (by simpa using k0 (.row 2 46 (rowA (R.getD p []))) []) (by rw [length_rowA, hq2])
    have hcl4 := clip35_own 8 (l.length + 1) 44 (ownR 9 I (some I) (l.length + 1)) none (B0 :: B1 :: B2 :: B3 :: .row 3 30 [[.int .i64 i, .int .i64 o, .sl 1 (rowsA l) c]] :: .row 6 33 [[.int .i64 3, .int .i64 u, .int .i64 v, .int .i64 p, .int .i64 a, .int .i64 o']] :: .row 3 30 [[.int .i64 0, .int .i64 0, .sl 0 [] (some 0)]] :: .row 3 30 [[.int .i64 i, .int .i64 o, .own 8 (l.length + 1) (l.length + 1) none]] :: .row 1 44 (ownR 9 I (some I) (l.length + 1)) :: (rowBs 2 46 ((R.set u ((R.getD u []).set v ((l.length : Int), x2))).map rowA) ++ [.row 2 46 (rowA (R.getD p []))])) rfl (by rw [length_ownR])
    have hsn := ownR_snoc 9 I (some I) l.length
    generalize (l.getD p ([], none)).2 = cc at *
    simp only [List.cons_append] at hclo3
    repeat' (first|(((first|(refine a0_ ?_; first|refine a1_ rfl rfl ?_|refine a2_ rfl ?_|refine a3_ rfl rfl ?_|refine a4_ rfl ?_|refine ak_ rfl rfl ?_|refine a5_ rfl rfl rfl ?_|refine a6_ rfl rfl ?_|refine a7_ rfl rfl ?_|refine a8_ rfl rfl ?_|refine a9_ rfl rfl rfl ?_)|(refine g0_ ?_; first|refine g1_ rfl ?_|refine g2_ rfl rfl ?_|refine go_drawN (dr := kpQ [] [34]) (p := [1, 0, 0, 1, 1, 0, 0, 1, 0, 1, 1, 1, 1]) [(29, 7), (30, 29)] [(32, none)] [] rfl rfl mixed (by kernel_rfl) ?_|refine go_draw (dr := allQ) rfl rfl mixed (by first|assumption|kernel_rfl) ?_|refine g4_ rfl ?_|refine g5_ rfl ?_|refine g6_ rfl ?_|refine g7_ rfl ?_|refine g8_ rfl ?_|refine ga_ rfl ?_|refine gb_ rfl ?_)|(refine o0_ ?_; first|refine o1_ ?_|refine o2_ ?_|refine o3_ ?_|refine o4_ ?_|refine o5_ ?_|refine o6_ rfl ?_|refine o7_ rfl ?_|refine o8_ ?_|refine o9_ ?_|refine oa_ ?_|refine ob_ ?_|refine oc_ ?_|refine od_ ?_|refine oe_ ?_|refine of_ ?_|refine og_ ?_|refine oh_ ?_|refine oi_ ?_|refine oj_ ?_|refine ok_ ?_))) <;> (try simp (disch := first|omega|(simp only [rb_len, length_ownR, List.length_map, lenF, lenS]; omega)) only [push_cast, ↓reduceIte, reduceIte, reduceCtorEq, Nat.reduceAdd, Nat.reduceLT, Nat.reduceEqDiff, Nat.reduceLeDiff, Int.reduceAdd, Int.reduceLT, Int.reduceLE, Nat.reduceMul, b2, b3, b4, b7, b23, b24, b25, er, el, ee, e3, g1, g1', g2, g2', g3, oe, hN, hlc, t1, t2, length_ownR, rb_len, Int.reduceEq, length_rowA, k0, k1, s0, hsn, hq2]))|refine at_go ?_|(with_reducible refine And.intro (at_go ?_) (at_go ?_))|((with_reducible refine And.intro (fun h => ?_) (fun h => ?_)) <;> try (exfalso; omega))|(with_reducible refine And.intro (by first|omega|(simp only [maxLen]; omega)) ?_)|(refine And.intro ⟨[_], rfl⟩ ?_)|(refine And.intro ⟨[], by simp only [List.append_nil]⟩ ?_)|(first|(refine ⟨_, _, hclo3, ?_⟩)|(refine ⟨_, hclo3, ?_⟩)|(refine ⟨_, fun _ => hclo3, ?_⟩)|(refine ⟨_, _, hcl3, ?_⟩)|(refine ⟨_, hcl3, ?_⟩)|(refine ⟨_, fun _ => hcl3, ?_⟩)|(refine ⟨_, _, hcl4, ?_⟩)|(refine ⟨_, hcl4, ?_⟩)|(refine ⟨_, fun _ => hcl4, ?_⟩))|simp (disch := first|omega|(simp only [rb_len, length_ownR, List.length_map, lenF, lenS]; omega)) only [push_cast, ↓reduceIte, reduceIte, reduceCtorEq, Nat.reduceAdd, Nat.reduceLT, Nat.reduceEqDiff, Nat.reduceLeDiff, Int.reduceAdd, Int.reduceLT, Int.reduceLE, Nat.reduceMul, b2, b3, b4, b7, b23, b24, b25, er, el, ee, e3, g1, g1', g2, g2', g3, oe, hN, hlc, t1, t2, length_ownR, rb_len, Int.reduceEq, length_rowA, k0, k1, s0, hsn, hq2])
    all_goals simp [eqv1, eqv_own]
   ·have hit : t = 0 ∧ defA i l x1 a = true := by
     have h2 := hf
     rw [isA, isF, Bool.and_eq_true] at h2
     have h3 := h2.2
     rw [← hR, hEd] at h3
     simp at h3
     exact ⟨h3.1, by rw [defA, ← hR]; exact h3.2.1⟩
    obtain ⟨rfl, hda⟩ := hit
    obtain ⟨c1, c2, c3, c4, c5⟩ := defR_iff.1 hda
    rw [edgesOf_len] at c2
    obtain ⟨p, rfl⟩ : ∃ p : Nat, x1 = p := ⟨x1.toNat, by omega⟩
    obtain ⟨w, rfl⟩ : ∃ w : Nat, a = w := ⟨a.toNat, by omega⟩
    have hp : p < l.length := by omega
    have hq2 : (R.getD p []).length = I := by rw [hR]; exact hRw p hp
    have e3 := getD_rowsA l p hp
    rw [hRr p, ← hR] at e3
    obtain ⟨y1, y2, hy⟩ : ∃ y1 y2, (R.getD p []).getD w (0, 0) = (y1, y2) := ⟨_, _, rfl⟩
    have e4 := getD_rowA (R.getD p []) w (by omega)
    rw [hy] at e4
    simp only [eA] at e4
    have g4 := fun x y : Int => rowA_set (R.getD p []) w x y
    have g5 : ((R.getD p []).set w (y1, o')).length = I := by rw [List.length_set]; exact hq2
    have hnr : newR R ⟨4, u, v, 0, w, o'⟩ = [(R.getD p []).set w (y1, o')] := by
     rw [newR, if_neg (by simp), if_pos rfl]
     dsimp only
     rw [hEd]
     dsimp only
     rw [edR_nat, hy]
     simp
    have hap : applyR R ⟨4, u, v, 0, w, o'⟩ = R.set u ((R.getD u []).set v ((l.length : Int), x2)) ++ [(R.getD p []).set w (y1, o')] := by
     rw [applyR_big rfl rfl hnr (by omega), newE, if_neg (by simp), if_neg (by simp), if_neg (by simp), hRll]
     simp [hEd]
    have hapl : (applyR R ⟨4, u, v, 0, w, o'⟩).length = l.length + 1 := by rw [hap, List.length_append, List.length_set, hRll]; rfl
    rw [hapl, hap, List.map_append, List.map_singleton, ← rb_snoc]
    have hlc : ((R.set u ((R.getD u []).set v ((l.length : Int), x2))).map rowA).length = l.length := by rw [List.length_map, List.length_set, hRll]
    have k1 := fun A K => rb_at0 (z := 2) (t := 46) A K hlc
    have hH0 : (B0 :: B1 :: B2 :: B3 :: .row 3 30 [[.int .i64 i, .int .i64 o, .sl 1 (rowsA l) c]] :: .row 6 33 [[.int .i64 4, .int .i64 u, .int .i64 v, .int .i64 0, .int .i64 w, .int .i64 o']] :: .row 3 30 [[.int .i64 0, .int .i64 0, .sl 0 [] (some 0)]] :: .row 3 30 [[.int .i64 i, .int .i64 o, .own 8 l.length l.length none]] :: .row 1 44 (ownR 9 I (some I) l.length) :: rowBs 2 46 (R.map rowA)).length = l.length + 9 := by simp [rb_len, hRll]
    have hclo3 := clone34 (R.getD p []) (l.getD p ([], none)).2 (B0 :: B1 :: B2 :: B3 :: .row 3 30 [[.int .i64 i, .int .i64 o, .sl 1 (rowsA l) c]] :: .row 6 33 [[.int .i64 4, .int .i64 u, .int .i64 v, .int .i64 0, .int .i64 w, .int .i64 o']] :: .row 3 30 [[.int .i64 0, .int .i64 0, .sl 0 [] (some 0)]] :: .row 3 30 [[.int .i64 i, .int .i64 o, .own 8 l.length l.length none]] :: .row 1 44 (ownR 9 I (some I) l.length) :: rowBs 2 46 (R.map rowA)) (by omega)
    rw [hH0, hq2] at hclo3
    have hcl3 := clip33_own (l.length + 9) I 46 (rowA (R.getD p [])) none (B0 :: B1 :: B2 :: B3 :: .row 3 30 [[.int .i64 i, .int .i64 o, .sl 1 (rowsA l) c]] :: .row 6 33 [[.int .i64 4, .int .i64 u, .int .i64 v, .int .i64 0, .int .i64 w, .int .i64 o']] :: .row 3 30 [[.int .i64 0, .int .i64 0, .sl 0 [] (some 0)]] :: .row 3 30 [[.int .i64 i, .int .i64 o, .own 8 l.length l.length none]] :: .row 1 44 (ownR 9 I (some I) l.length) :: (rowBs 2 46 (R.map rowA) ++ [.row 2 46 (rowA (R.getD p []))])) (by simpa using k0 (.row 2 46 (rowA (R.getD p []))) []) (by rw [length_rowA, hq2])
    have hcl4 := clip35_own 8 (l.length + 1) 44 (ownR 9 I (some I) (l.length + 1)) none (B0 :: B1 :: B2 :: B3 :: .row 3 30 [[.int .i64 i, .int .i64 o, .sl 1 (rowsA l) c]] :: .row 6 33 [[.int .i64 4, .int .i64 u, .int .i64 v, .int .i64 0, .int .i64 w, .int .i64 o']] :: .row 3 30 [[.int .i64 0, .int .i64 0, .sl 0 [] (some 0)]] :: .row 3 30 [[.int .i64 i, .int .i64 o, .own 8 (l.length + 1) (l.length + 1) none]] :: .row 1 44 (ownR 9 I (some I) (l.length + 1)) :: (rowBs 2 46 ((R.set u ((R.getD u []).set v ((l.length : Int), x2))).map rowA) ++ [.row 2 46 (rowA ((R.getD p []).set w (y1, o')))])) rfl (by rw [length_ownR])
    have hsn := ownR_snoc 9 I (some I) l.length
    generalize (l.getD p ([], none)).2 = cc at *
    simp only [List.cons_append] at hclo3
    repeat' (first|(((first|(refine a0_ ?_; first|refine a1_ rfl rfl ?_|refine a2_ rfl ?_|refine a3_ rfl rfl ?_|refine a4_ rfl ?_|refine ak_ rfl rfl ?_|refine a5_ rfl rfl rfl ?_|refine a6_ rfl rfl ?_|refine a7_ rfl rfl ?_|refine a8_ rfl rfl ?_|refine a9_ rfl rfl rfl ?_)|(refine g0_ ?_; first|refine g1_ rfl ?_|refine g2_ rfl rfl ?_|refine go_drawN (dr := kpQ [] [34]) (p := [1, 0, 0, 1, 1, 0, 0, 1, 0, 1, 1, 1, 1]) [(29, 7), (30, 29)] [(32, none)] [] rfl rfl mixed (by kernel_rfl) ?_|refine go_draw (dr := allQ) rfl rfl mixed (by first|assumption|kernel_rfl) ?_|refine g4_ rfl ?_|refine g5_ rfl ?_|refine g6_ rfl ?_|refine g7_ rfl ?_|refine g8_ rfl ?_|refine ga_ rfl ?_|refine gb_ rfl ?_)|(refine o0_ ?_; first|refine o1_ ?_|refine o2_ ?_|refine o3_ ?_|refine o4_ ?_|refine o5_ ?_|refine o6_ rfl ?_|refine o7_ rfl ?_|refine o8_ ?_|refine o9_ ?_|refine oa_ ?_|refine ob_ ?_|refine oc_ ?_|refine od_ ?_|refine oe_ ?_|refine of_ ?_|refine og_ ?_|refine oh_ ?_|refine oi_ ?_|refine oj_ ?_|refine ok_ ?_))) <;> (try simp (disch := first|omega|(simp only [rb_len, length_ownR, List.length_map, lenF, lenS]; omega)) only [push_cast, ↓reduceIte, reduceIte, reduceCtorEq, Nat.reduceAdd, Nat.reduceLT, Nat.reduceEqDiff, Nat.reduceLeDiff, Int.reduceAdd, Int.reduceLT, Int.reduceLE, Nat.reduceMul, b2, b3, b4, b7, b23, b24, b25, er, el, ee, e3, g1, g1', g2, g2', g3, oe, hN, hlc, t1, t2, length_ownR, rb_len, Int.reduceEq, length_rowA, k0, k1, s0, hsn, hq2, e4, g4, g5]))|refine at_go ?_|(with_reducible refine And.intro (at_go ?_) (at_go ?_))|((with_reducible refine And.intro (fun h => ?_) (fun h => ?_)) <;> try (exfalso; omega))|(with_reducible refine And.intro (by first|omega|(simp only [maxLen]; omega)) ?_)|(refine And.intro ⟨[_], rfl⟩ ?_)|(refine And.intro ⟨[], by simp only [List.append_nil]⟩ ?_)|(first|(refine ⟨_, _, hclo3, ?_⟩)|(refine ⟨_, hclo3, ?_⟩)|(refine ⟨_, fun _ => hclo3, ?_⟩)|(refine ⟨_, _, hcl3, ?_⟩)|(refine ⟨_, hcl3, ?_⟩)|(refine ⟨_, fun _ => hcl3, ?_⟩)|(refine ⟨_, _, hcl4, ?_⟩)|(refine ⟨_, hcl4, ?_⟩)|(refine ⟨_, fun _ => hcl4, ?_⟩))|simp (disch := first|omega|(simp only [rb_len, length_ownR, List.length_map, lenF, lenS]; omega)) only [push_cast, ↓reduceIte, reduceIte, reduceCtorEq, Nat.reduceAdd, Nat.reduceLT, Nat.reduceEqDiff, Nat.reduceLeDiff, Int.reduceAdd, Int.reduceLT, Int.reduceLE, Nat.reduceMul, b2, b3, b4, b7, b23, b24, b25, er, el, ee, e3, g1, g1', g2, g2', g3, oe, hN, hlc, t1, t2, length_ownR, rb_len, Int.reduceEq, length_rowA, k0, k1, s0, hsn, hq2, e4, g4, g5])
    all_goals simp [eqv1, eqv_own]
end Go.Proofs
