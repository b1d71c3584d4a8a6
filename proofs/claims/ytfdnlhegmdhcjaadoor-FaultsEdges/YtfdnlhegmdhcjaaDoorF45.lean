import Derived.Test.YtfdnlhegmdhcjaaDoorF44
import Derived.Test.YtfdnlhegmdhcjaaDoorF43
import Derived.Test.YtfdnlhegmdhcjaaDoorF23
import Derived.Test.YtfdnlhegmdhcjaaDoorF14
namespace Go.Proofs
open Go Go.V
set_option linter.unusedVariables false
set_option linter.unusedSimpArgs false
set_option maxHeartbeats 0
theorem MD.rows_le (x : MD) : ∀ j, j < (x.rows x.n).length → ((x.rows x.n).getD j ([], none)).1.length ≤ 1000000 := fun j hj => by
 obtain ⟨_, _, _, m4, _⟩ := machOk_zero x.ok
 have := m4 j hj
 have := x.bI
 omega
theorem ready_ok {x : MD} {ks : List Int} (hk : kindsOk ks = true) (most : Int) : readyM x.I x.O (x.rows x.n) ks most = if 0 ≤ most ∧ most < 65537 then 0 else 1 := by
 have hl := x.rows_len x.n
 have := x.bn
 rw [readyM, if_neg (by rw [x.ok]; simp), if_neg (by rw [hk]; simp)]
 by_cases h : 0 ≤ most ∧ most < 65537
 ·rw [if_neg (by simp; omega), if_neg (by omega), if_pos h]
 ·rw [if_pos h, if_neg h]
theorem allF_small (x : MD) (ks : List Int) (hk : ks.length ≤ 5) : (allF x.R x.I x.O ks).length ≤ 4860 := by
 have := x.bI; have := x.bO; have := x.bn
 rw [← refF_eq x.okM, ← p1_all]
 have := p1_len x.R x.I x.O ks (by omega) (by omega) (by rw [x.R_len]; omega) ks.length (Nat.le_refl _)
 omega
theorem refF_isF {R : RR} {I O : Nat} {ks : List Int} {f : Flt} (h : f ∈ refF R I O ks) : isF R I O f = true := by
 unfold refF at h
 simp only [List.mem_flatMap, List.mem_range] at h
 obtain ⟨k, _, s, _, i, _, t, _, a, _, o, _, hf⟩ := h
 unfold isL at hf
 split at hf
 ·rename_i q
  rw [List.mem_singleton.1 hf]; exact q
 ·cases hf
theorem refF_get {R : RR} {I O : Nat} {ks : List Int} {q : Nat} (h : q < (refF R I O ks).length) : isF R I O ((refF R I O ks).getD q fl0) = true := by
 refine refF_isF (ks := ks) ?_
 rw [List.getD_eq_getElem?_getD, List.getElem?_eq_getElem h]
 exact List.getElem_mem h
theorem chkA_of {i o : Int} {l : List Row} {f : Flt} (hm : machOk i o l = 0) (hf : isA i o l f = true) (hl : l.length < 64) : chkA i o l f = 0 := by
 rw [chkA, if_neg (by rw [hm]; simp), chkF, if_pos (show isF (edgesOf l) i.toNat o.toNat f = true from hf), if_neg (by rw [edgesOf_len]; omega)]
theorem rowsI_get {R : RR} {I k : Nat} (h : k < R.length) : (rowsA (rowsI R I)).getD k [] = [.sl 2 (rowA (R.getD k [])) (some I)] := by
 rw [getD_rowsA _ _ (by rw [rowsI_len]; exact h)]
 simp [rowsI, h]
theorem ok_to {R : RR} {I O : Nat} (h : OkM R I O) : ∀ j i, j < R.length → i < I → -1 ≤ ((R.getD j []).getD i (0, 0)).1 ∧ ((R.getD j []).getD i (0, 0)).1 < R.length := fun j i hj hi => by
 have := edR_mem h (s := j) (i := i) (by omega) (by omega) (by omega) (by omega)
 rw [edR_nat] at this
 rcases this with q|q
 ·rw [q]; dsimp only; omega
 ·omega
theorem ok_w {R : RR} {I O : Nat} (h : OkM R I O) : ∀ j, j < R.length → (R.getD j []).length = I := fun j hj => row_len h hj
theorem difI_le (A B : RR) (s : Nat) : ∀ k, difI A B s k ≤ k
 | 0 => by simp [difI]
 | k + 1 => by rw [difI_succ]; have := difI_le A B s k; split <;> omega
theorem difS_le (A B : RR) (I : Nat) : ∀ k, difS A B I k ≤ k * I
 | 0 => by simp [difS]
 | k + 1 => by rw [difS_succ, Nat.succ_mul]; have := difS_le A B I k; have := difI_le A B k I; omega
set_option maxRecDepth 100000 in
theorem law4 (x : MD) (c : Nat) (hx : x.Ok) (y : Nat) (hy : y < 65536) : PC Tryd.prog G0 4 [.agg (mdC x 1 (some c)), .agg [.int .u16 y]] (.bool true) := by
 have bI := x.bI; have bO := x.bO; have bn := x.bn
 have hl := x.rows_len x.n
 have hRl := x.R_len
 have hM := mOf9 x 1 (some c) hx (.inr rfl)
 have hsm := allF_small x [0, 1, 2, 3] (by decide)
 have hC := count17 x.I x.O (x.rows x.n) 1 none 1 [0, 1, 2, 3] (some 4) (.inr rfl) (by omega) x.rows_le (.inr rfl) (by decide) (by simp only [Int.toNat_natCast]; exact Nat.le_trans hsm (by decide))
 unfold cntM at hC
 simp only [Int.toNat_natCast] at hC
 rw [ready_ok (by decide), show edgesOf (x.rows x.n) = x.R from rfl] at hC
 rw [show (if (0 : Int) ≤ 0 ∧ (0 : Int) < 65537 then (0 : Int) else 1) = 0 by decide, if_pos rfl] at hC
 have hlen := allF_0123 x.okM
 rw [hRl] at hlen
 have hcl := cntE_le x.R x.I x.n
 have hF := fOf10 x.I x.O (x.rows x.n) none y hy x.ok (by omega) (by omega) (by omega)
 have hget := fun q h => refF_get (R := x.R) (I := x.I) (O := x.O) (ks := [0, 1, 2, 3, 4]) (q := q) h
 have hlv := lives11
 have hidR : ∀ p, idsE p (rowsA (x.rows x.n)) = true := fun p => idsE_rowsA _ _
 have hrl : (rowsA (x.rows x.n)).length = x.n := by rw [length_rowsA, hl]
 have hge : ∀ s, s < x.n → (rowsA (x.rows x.n)).getD s [] = [.sl 2 (rowA (x.R.getD s [])) none] := fun s hs => by
  rw [getD_rowsA _ _ (by omega), ← getD_edgesOf]
  simp [MD.rows, hs, MD.R]
 have hw := ok_w x.okM
 have hto := ok_to x.okM
 have hcE := fun s => cntE_succ x.R x.I s
 have hcR := fun s k => cntRow_succ x.R x.I s k
 have hdf : ∀ s i : Nat, s < x.n → i < x.I → defR x.R x.I s i = decide ((edR x.R s i).1 ≠ -1) := fun s i hs hi => by
  rw [Bool.eq_iff_iff, defR_iff, decide_eq_true_eq, hRl]
  exact ⟨fun h => h.2.2.2.2, fun h => ⟨by omega, by omega, by omega, by omega, h⟩⟩
 have hcb : ∀ s, s ≤ x.n → cntE x.R x.I s ≤ 18 := fun s hs => by
  have h1 := cntE_le x.R x.I s
  have : s * x.I ≤ 6 * 3 := Nat.mul_le_mul (by omega) (by omega)
  omega
 have hcrb : ∀ s k, k ≤ x.I → cntRow x.R x.I s k ≤ 3 := fun s k hk => by
  have : cntRow x.R x.I s k ≤ k := by
   clear hk
   induction k with
   | zero => simp [cntRow]
   | succ k ih => rw [hcR]; split <;> omega
  omega
 have hR0 : edgesOf (x.rows x.n) = x.R := rfl
 rw [hR0] at hF
 unfold mA mdC at *
 generalize hRA : rowsA (x.rows x.n) = RA at *
 generalize hL : refF x.R x.I x.O [0, 1, 2, 3, 4] = L at *
 generalize (allF x.R x.I x.O [0, 1, 2, 3]).length = N at *
 refine pc_go 0 206 [.tmp 4] Tryd.func4 rfl rfl rfl (by simp) ?_
 intro s ⟨a0, a1, hz⟩
 simp only [Nat.zero_add, Nat.reduceAdd] at a1
 clear hz
 repeat' (first|(first|(refine a0_ ?_; first|refine a1_ rfl rfl ?_|refine a2_ rfl ?_|refine a3_ rfl rfl ?_|refine a4_ rfl ?_|refine ak_ rfl rfl ?_|refine a5_ rfl rfl rfl ?_|refine a6_ rfl rfl ?_|refine a7_ rfl rfl ?_|refine a8_ rfl rfl ?_|refine a9_ rfl rfl rfl ?_)|(refine g0_ ?_; first|refine g1_ rfl ?_|refine g2_ rfl rfl ?_|refine go_draw (dr := allQ) rfl rfl mixed (by first|assumption|kernel_rfl) ?_|refine g4_ rfl ?_|refine g5_ rfl ?_|refine g6_ rfl ?_|refine g7_ rfl ?_|refine g8_ rfl ?_|refine ga_ rfl ?_|refine gb_ rfl ?_)|(refine o0_ ?_; first|refine o1_ ?_|refine o2_ ?_|refine o3_ ?_|refine o4_ ?_|refine o5_ ?_|refine o6_ rfl ?_|refine o7_ rfl ?_|refine o8_ ?_|refine o9_ ?_|refine oa_ ?_|refine ob_ ?_|refine oc_ ?_|refine od_ ?_|refine oe_ ?_|refine of_ ?_|refine og_ ?_|refine oh_ ?_|refine oi_ ?_|refine oj_ ?_|refine ok_ ?_))|refine at_go ?_|(with_reducible refine And.intro (at_go ?_) (at_go ?_))|((with_reducible refine And.intro (fun h => ?_) (fun h => ?_)) <;> try (exfalso; omega))|(with_reducible refine And.intro (by first|omega|(simp only [maxLen]; omega)) ?_)|(refine And.intro ⟨[_], rfl⟩ ?_)|(refine And.intro ⟨[], by simp only [List.append_nil]⟩ ?_)|(first|(refine ⟨_, _, pc_lift (hM) (by (simp [idsL, idsE, AV.ids, hidR])) _, ?_⟩)|(refine ⟨_, pc_lift (hM) (by (simp [idsL, idsE, AV.ids, hidR])) _, ?_⟩)|(refine ⟨_, fun _ => pc_lift (hM) (by (simp [idsL, idsE, AV.ids, hidR])) _, ?_⟩))|simp (disch := first|omega|(simp only [List.length_map, lenF, lenS]; omega)) only [push_cast, ↓reduceIte, reduceIte, reduceCtorEq, Nat.reduceAdd, Nat.reduceLT, Nat.reduceEqDiff, Nat.reduceLeDiff, Int.reduceAdd, Int.reduceLT, Int.reduceLE, Nat.reduceMul, a0, a1])
 refine go_loop rfl (fun mz s' H' => ∃ s : Nat, s ≤ x.n ∧ mz = x.n - s ∧ H' = [.row 5 24 [[.int .u8 x.st, .int .u8 x.inp, .int .u8 x.ou, .bool x.pa, .sl 1 (u16s x.es) (some c)]], .row 1 27 [[.int .u16 y]], .row 3 30 [[.int .i64 x.I, .int .i64 x.O, .sl 1 RA none]]] ∧ s' 3 = .ptr 1 0 0 1 ∧ s' 5 = .ptr 2 0 0 1 ∧ s' 6 = .int .i64 (cntE x.R x.I s) ∧ s' 7 = .int .i64 s) (m := x.n) (by (first|trivial|((repeat' apply And.intro) <;> first|trivial|assumption|omega|(simp only [maxLen]; omega)|(simp only [List.length_map, maxLen, lenF, lenS] <;> omega)))) (Weak.refl _ _) ⟨0, by omega, by omega, rfl, ?_⟩ ?_
 ·simp (disch := first|omega|(simp only [List.length_map, lenF, lenS]; omega)) only [push_cast, ↓reduceIte, reduceIte, reduceCtorEq, Nat.reduceAdd, Nat.reduceLT, Nat.reduceEqDiff, Nat.reduceLeDiff, Int.reduceAdd, Int.reduceLT, Int.reduceLE, Nat.reduceMul, a0, a1]
  simp [cntE]
 ·rintro mz s' H' ⟨s, hs, rfl, rfl, b3, b5, b6, b7⟩
  have hcs := hcb s hs
  rcases Nat.lt_or_ge s x.n with hlt|hge2
  ·have e1 := hge s hlt
   have hws := hw s (by omega)
   have hcE := hcE s
   have hcR := hcR s
   have hcrb := hcrb s
   have hdf := fun i => hdf s i hlt
   have hed : ∀ i : Nat, edR x.R s i = (x.R.getD s []).getD i (0, 0) := fun i => edR_nat x.R s i
   have h00 : cntRow x.R x.I s 0 = 0 := rfl
   simp only [hed] at hdf
   generalize cntRow x.R x.I s = CR at *
   generalize cntE x.R x.I s = CE at *
   have e2 := fun i h => getD_rowA (x.R.getD s []) i h
   generalize x.R.getD s [] = r at *
   repeat' (first|(first|(refine a0_ ?_; first|refine a1_ rfl rfl ?_|refine a2_ rfl ?_|refine a3_ rfl rfl ?_|refine a4_ rfl ?_|refine ak_ rfl rfl ?_|refine a5_ rfl rfl rfl ?_|refine a6_ rfl rfl ?_|refine a7_ rfl rfl ?_|refine a8_ rfl rfl ?_|refine a9_ rfl rfl rfl ?_)|(refine g0_ ?_; first|refine g1_ rfl ?_|refine g2_ rfl rfl ?_|refine go_draw (dr := allQ) rfl rfl mixed (by first|assumption|kernel_rfl) ?_|refine g4_ rfl ?_|refine g5_ rfl ?_|refine g6_ rfl ?_|refine g7_ rfl ?_|refine g8_ rfl ?_|refine ga_ rfl ?_|refine gb_ rfl ?_)|(refine o0_ ?_; first|refine o1_ ?_|refine o2_ ?_|refine o3_ ?_|refine o4_ ?_|refine o5_ ?_|refine o6_ rfl ?_|refine o7_ rfl ?_|refine o8_ ?_|refine o9_ ?_|refine oa_ ?_|refine ob_ ?_|refine oc_ ?_|refine od_ ?_|refine oe_ ?_|refine of_ ?_|refine og_ ?_|refine oh_ ?_|refine oi_ ?_|refine oj_ ?_|refine ok_ ?_))|refine at_go ?_|(with_reducible refine And.intro (at_go ?_) (at_go ?_))|((with_reducible refine And.intro (fun h => ?_) (fun h => ?_)) <;> try (exfalso; omega))|(with_reducible refine And.intro (by first|omega|(simp only [maxLen]; omega)) ?_)|(refine And.intro ⟨[_], rfl⟩ ?_)|(refine And.intro ⟨[], by simp only [List.append_nil]⟩ ?_)|fail|simp (disch := first|omega|(simp only [List.length_map, lenF, lenS]; omega)) only [push_cast, ↓reduceIte, reduceIte, reduceCtorEq, Nat.reduceAdd, Nat.reduceLT, Nat.reduceEqDiff, Nat.reduceLeDiff, Int.reduceAdd, Int.reduceLT, Int.reduceLE, Nat.reduceMul, b3, b5, b6, b7, hrl])
   refine go_loop rfl (fun mz s' H' => ∃ k : Nat, k ≤ x.I ∧ mz = x.I - k ∧ H' = [.row 5 24 [[.int .u8 x.st, .int .u8 x.inp, .int .u8 x.ou, .bool x.pa, .sl 1 (u16s x.es) (some c)]], .row 1 27 [[.int .u16 y]], .row 3 30 [[.int .i64 x.I, .int .i64 x.O, .sl 1 RA none]]] ∧ s' 3 = .ptr 1 0 0 1 ∧ s' 5 = .ptr 2 0 0 1 ∧ s' 6 = .int .i64 (CE + CR k : Nat) ∧ s' 7 = .int .i64 s ∧ s' 8 = .int .i64 k) (m := x.I) (by (first|trivial|((repeat' apply And.intro) <;> first|trivial|assumption|omega|(simp only [maxLen]; omega)|(simp only [List.length_map, maxLen, lenF, lenS] <;> omega)))) (Weak.refl _ _) ⟨0, by omega, by omega, rfl, ?_⟩ ?_
   ·rw [h00]
    simp (disch := first|omega|(simp only [List.length_map, lenF, lenS]; omega)) only [push_cast, ↓reduceIte, reduceIte, reduceCtorEq, Nat.reduceAdd, Nat.reduceLT, Nat.reduceEqDiff, Nat.reduceLeDiff, Int.reduceAdd, Int.reduceLT, Int.reduceLE, Nat.reduceMul, b3, b5, b6, b7, hrl]
   ·rintro mz s' H' ⟨k, hk, rfl, rfl, b3, b5, b6, b7, b8⟩
    rcases Nat.lt_or_ge k x.I with hltk|hgek
    ·have e3 := e2 k (by omega)
     have hd := hdf k hltk
     have hcR := hcR k
     have hcrb := hcrb k hk
     generalize r.getD k (0, 0) = ed at *
     obtain ⟨x1, x2⟩ := ed
     simp only [eA] at e3
     dsimp only at hd
     by_cases h1 : x1 = -1
     ·rw [hd, if_neg (by simp [h1])] at hcR
      repeat' (first|(first|(refine a0_ ?_; first|refine a1_ rfl rfl ?_|refine a2_ rfl ?_|refine a3_ rfl rfl ?_|refine a4_ rfl ?_|refine ak_ rfl rfl ?_|refine a5_ rfl rfl rfl ?_|refine a6_ rfl rfl ?_|refine a7_ rfl rfl ?_|refine a8_ rfl rfl ?_|refine a9_ rfl rfl rfl ?_)|(refine g0_ ?_; first|refine g1_ rfl ?_|refine g2_ rfl rfl ?_|refine go_draw (dr := allQ) rfl rfl mixed (by first|assumption|kernel_rfl) ?_|refine g4_ rfl ?_|refine g5_ rfl ?_|refine g6_ rfl ?_|refine g7_ rfl ?_|refine g8_ rfl ?_|refine ga_ rfl ?_|refine gb_ rfl ?_)|(refine o0_ ?_; first|refine o1_ ?_|refine o2_ ?_|refine o3_ ?_|refine o4_ ?_|refine o5_ ?_|refine o6_ rfl ?_|refine o7_ rfl ?_|refine o8_ ?_|refine o9_ ?_|refine oa_ ?_|refine ob_ ?_|refine oc_ ?_|refine od_ ?_|refine oe_ ?_|refine of_ ?_|refine og_ ?_|refine oh_ ?_|refine oi_ ?_|refine oj_ ?_|refine ok_ ?_))|refine at_go ?_|(with_reducible refine And.intro (at_go ?_) (at_go ?_))|((with_reducible refine And.intro (fun h => ?_) (fun h => ?_)) <;> try (exfalso; omega))|(with_reducible refine And.intro (by first|omega|(simp only [maxLen]; omega)) ?_)|(refine And.intro ⟨[_], rfl⟩ ?_)|(refine And.intro ⟨[], by simp only [List.append_nil]⟩ ?_)|fail|simp (disch := first|omega|(simp only [List.length_map, lenF, lenS]; omega)) only [push_cast, ↓reduceIte, reduceIte, reduceCtorEq, Nat.reduceAdd, Nat.reduceLT, Nat.reduceEqDiff, Nat.reduceLeDiff, Int.reduceAdd, Int.reduceLT, Int.reduceLE, Nat.reduceMul, b3, b5, b6, b7, b8, hrl, e1, e3, length_rowA, hws, h1, Int.reduceNeg])
      refine out_round (x.I - (k + 1)) (by omega) (by (first|trivial|((repeat' apply And.intro) <;> first|trivial|assumption|omega|(simp only [maxLen]; omega)|(simp only [List.length_map, maxLen, lenF, lenS] <;> omega)))) ⟨k + 1, by omega, rfl, rfl, ?_⟩
      rw [hcR]
      simp (disch := first|omega|(simp only [List.length_map, lenF, lenS]; omega)) only [push_cast, ↓reduceIte, reduceIte, reduceCtorEq, Nat.reduceAdd, Nat.reduceLT, Nat.reduceEqDiff, Nat.reduceLeDiff, Int.reduceAdd, Int.reduceLT, Int.reduceLE, Nat.reduceMul, b3, b5, b6, b7, b8, hrl, e1, e3, length_rowA, hws, h1, Int.reduceNeg]
      all_goals first|done|rw [Int.add_assoc]
     ·rw [hd, if_pos (by simp [h1])] at hcR
      repeat' (first|(first|(refine a0_ ?_; first|refine a1_ rfl rfl ?_|refine a2_ rfl ?_|refine a3_ rfl rfl ?_|refine a4_ rfl ?_|refine ak_ rfl rfl ?_|refine a5_ rfl rfl rfl ?_|refine a6_ rfl rfl ?_|refine a7_ rfl rfl ?_|refine a8_ rfl rfl ?_|refine a9_ rfl rfl rfl ?_)|(refine g0_ ?_; first|refine g1_ rfl ?_|refine g2_ rfl rfl ?_|refine go_draw (dr := allQ) rfl rfl mixed (by first|assumption|kernel_rfl) ?_|refine g4_ rfl ?_|refine g5_ rfl ?_|refine g6_ rfl ?_|refine g7_ rfl ?_|refine g8_ rfl ?_|refine ga_ rfl ?_|refine gb_ rfl ?_)|(refine o0_ ?_; first|refine o1_ ?_|refine o2_ ?_|refine o3_ ?_|refine o4_ ?_|refine o5_ ?_|refine o6_ rfl ?_|refine o7_ rfl ?_|refine o8_ ?_|refine o9_ ?_|refine oa_ ?_|refine ob_ ?_|refine oc_ ?_|refine od_ ?_|refine oe_ ?_|refine of_ ?_|refine og_ ?_|refine oh_ ?_|refine oi_ ?_|refine oj_ ?_|refine ok_ ?_))|refine at_go ?_|(with_reducible refine And.intro (at_go ?_) (at_go ?_))|((with_reducible refine And.intro (fun h => ?_) (fun h => ?_)) <;> try (exfalso; omega))|(with_reducible refine And.intro (by first|omega|(simp only [maxLen]; omega)) ?_)|(refine And.intro ⟨[_], rfl⟩ ?_)|(refine And.intro ⟨[], by simp only [List.append_nil]⟩ ?_)|fail|simp (disch := first|omega|(simp only [List.length_map, lenF, lenS]; omega)) only [push_cast, ↓reduceIte, reduceIte, reduceCtorEq, Nat.reduceAdd, Nat.reduceLT, Nat.reduceEqDiff, Nat.reduceLeDiff, Int.reduceAdd, Int.reduceLT, Int.reduceLE, Nat.reduceMul, b3, b5, b6, b7, b8, hrl, e1, e3, length_rowA, hws, h1, Int.reduceNeg])
      refine out_round (x.I - (k + 1)) (by omega) (by (first|trivial|((repeat' apply And.intro) <;> first|trivial|assumption|omega|(simp only [maxLen]; omega)|(simp only [List.length_map, maxLen, lenF, lenS] <;> omega)))) ⟨k + 1, by omega, rfl, rfl, ?_⟩
      rw [hcR]
      simp (disch := first|omega|(simp only [List.length_map, lenF, lenS]; omega)) only [push_cast, ↓reduceIte, reduceIte, reduceCtorEq, Nat.reduceAdd, Nat.reduceLT, Nat.reduceEqDiff, Nat.reduceLeDiff, Int.reduceAdd, Int.reduceLT, Int.reduceLE, Nat.reduceMul, b3, b5, b6, b7, b8, hrl, e1, e3, length_rowA, hws, h1, Int.reduceNeg]
      all_goals first|done|rw [Int.add_assoc]
    ·obtain rfl : k = x.I := by omega
     repeat' (first|(first|(refine a0_ ?_; first|refine a1_ rfl rfl ?_|refine a2_ rfl ?_|refine a3_ rfl rfl ?_|refine a4_ rfl ?_|refine ak_ rfl rfl ?_|refine a5_ rfl rfl rfl ?_|refine a6_ rfl rfl ?_|refine a7_ rfl rfl ?_|refine a8_ rfl rfl ?_|refine a9_ rfl rfl rfl ?_)|(refine g0_ ?_; first|refine g1_ rfl ?_|refine g2_ rfl rfl ?_|refine go_draw (dr := allQ) rfl rfl mixed (by first|assumption|kernel_rfl) ?_|refine g4_ rfl ?_|refine g5_ rfl ?_|refine g6_ rfl ?_|refine g7_ rfl ?_|refine g8_ rfl ?_|refine ga_ rfl ?_|refine gb_ rfl ?_)|(refine o0_ ?_; first|refine o1_ ?_|refine o2_ ?_|refine o3_ ?_|refine o4_ ?_|refine o5_ ?_|refine o6_ rfl ?_|refine o7_ rfl ?_|refine o8_ ?_|refine o9_ ?_|refine oa_ ?_|refine ob_ ?_|refine oc_ ?_|refine od_ ?_|refine oe_ ?_|refine of_ ?_|refine og_ ?_|refine oh_ ?_|refine oi_ ?_|refine oj_ ?_|refine ok_ ?_))|refine at_go ?_|(with_reducible refine And.intro (at_go ?_) (at_go ?_))|((with_reducible refine And.intro (fun h => ?_) (fun h => ?_)) <;> try (exfalso; omega))|(with_reducible refine And.intro (by first|omega|(simp only [maxLen]; omega)) ?_)|(refine And.intro ⟨[_], rfl⟩ ?_)|(refine And.intro ⟨[], by simp only [List.append_nil]⟩ ?_)|fail|simp (disch := first|omega|(simp only [List.length_map, lenF, lenS]; omega)) only [push_cast, ↓reduceIte, reduceIte, reduceCtorEq, Nat.reduceAdd, Nat.reduceLT, Nat.reduceEqDiff, Nat.reduceLeDiff, Int.reduceAdd, Int.reduceLT, Int.reduceLE, Nat.reduceMul, b3, b5, b6, b7, b8, hrl])
     refine out_round (x.n - (s + 1)) (by omega) (by (first|trivial|((repeat' apply And.intro) <;> first|trivial|assumption|omega|(simp only [maxLen]; omega)|(simp only [List.length_map, maxLen, lenF, lenS] <;> omega)))) ⟨s + 1, by omega, rfl, rfl, ?_⟩
     rw [hcE]
     simp (disch := first|omega|(simp only [List.length_map, lenF, lenS]; omega)) only [push_cast, ↓reduceIte, reduceIte, reduceCtorEq, Nat.reduceAdd, Nat.reduceLT, Nat.reduceEqDiff, Nat.reduceLeDiff, Int.reduceAdd, Int.reduceLT, Int.reduceLE, Nat.reduceMul, b3, b5, b6, b7, b8, hrl]
  ·obtain rfl : s = x.n := by omega
   clear hcE hcR hdf hcb hcrb
   generalize cntE x.R x.I x.n = C at *
   have p1 : (C : Int) * ((x.O : Int) - 1) = ((C * (x.O - 1) : Nat) : Int) := by
    rw [Int.natCast_mul, show ((x.O - 1 : Nat) : Int) = (x.O : Int) - 1 by omega]
   have p2 : (C : Int) * ((x.n : Int) - 1) = ((C * (x.n - 1) : Nat) : Int) := by
    rw [Int.natCast_mul, show ((x.n - 1 : Nat) : Int) = (x.n : Int) - 1 by omega]
   have p3 : (C : Int) * (x.n : Int) = ((C * x.n : Nat) : Int) := by rw [Int.natCast_mul]
   have q1 : C * (x.O - 1) ≤ 18 * 2 := Nat.mul_le_mul hcs (by omega)
   have q2 : C * (x.n - 1) ≤ 18 * 5 := Nat.mul_le_mul hcs (by omega)
   have q3 : C * x.n ≤ 18 * 6 := Nat.mul_le_mul hcs (by omega)
   generalize C * (x.O - 1) = P1 at *
   generalize C * (x.n - 1) = P2 at *
   generalize C * x.n = P3 at *
   subst hlen
   simp only [ints, List.map_cons, List.map_nil] at hC
   by_cases h0 : L.length = 0
   ·rw [if_pos h0] at hF
    simp only [flA] at hF
    repeat' (first|(first|(refine a0_ ?_; first|refine a1_ rfl rfl ?_|refine a2_ rfl ?_|refine a3_ rfl rfl ?_|refine a4_ rfl ?_|refine ak_ rfl rfl ?_|refine a5_ rfl rfl rfl ?_|refine a6_ rfl rfl ?_|refine a7_ rfl rfl ?_|refine a8_ rfl rfl ?_|refine a9_ rfl rfl rfl ?_)|(refine g0_ ?_; first|refine g1_ rfl ?_|refine g2_ rfl rfl ?_|refine go_draw (dr := allQ) rfl rfl mixed (by first|assumption|kernel_rfl) ?_|refine g4_ rfl ?_|refine g5_ rfl ?_|refine g6_ rfl ?_|refine g7_ rfl ?_|refine g8_ rfl ?_|refine ga_ rfl ?_|refine gb_ rfl ?_)|(refine o0_ ?_; first|refine o1_ ?_|refine o2_ ?_|refine o3_ ?_|refine o4_ ?_|refine o5_ ?_|refine o6_ rfl ?_|refine o7_ rfl ?_|refine o8_ ?_|refine o9_ ?_|refine oa_ ?_|refine ob_ ?_|refine oc_ ?_|refine od_ ?_|refine oe_ ?_|refine of_ ?_|refine og_ ?_|refine oh_ ?_|refine oi_ ?_|refine oj_ ?_|refine ok_ ?_))|refine at_go ?_|(with_reducible refine And.intro (at_go ?_) (at_go ?_))|((with_reducible refine And.intro (fun h => ?_) (fun h => ?_)) <;> try (exfalso; omega))|(with_reducible refine And.intro (by first|omega|(simp only [maxLen]; omega)) ?_)|(refine And.intro ⟨[_], rfl⟩ ?_)|(refine And.intro ⟨[], by simp only [List.append_nil]⟩ ?_)|(first|(refine ⟨_, _, pc_lift (hC) (by (simp [idsL, idsE, AV.ids, hidR])) _, ?_⟩)|(refine ⟨_, pc_lift (hC) (by (simp [idsL, idsE, AV.ids, hidR])) _, ?_⟩)|(refine ⟨_, fun _ => pc_lift (hC) (by (simp [idsL, idsE, AV.ids, hidR])) _, ?_⟩)|(refine ⟨_, _, pc_lift (hF) (by (simp [idsL, idsE, AV.ids, hidR])) _, ?_⟩)|(refine ⟨_, pc_lift (hF) (by (simp [idsL, idsE, AV.ids, hidR])) _, ?_⟩)|(refine ⟨_, fun _ => pc_lift (hF) (by (simp [idsL, idsE, AV.ids, hidR])) _, ?_⟩)|(refine ⟨_, _, pc_lift (hlv) (by (simp [idsL, idsE, AV.ids, hidR])) _, ?_⟩)|(refine ⟨_, pc_lift (hlv) (by (simp [idsL, idsE, AV.ids, hidR])) _, ?_⟩)|(refine ⟨_, fun _ => pc_lift (hlv) (by (simp [idsL, idsE, AV.ids, hidR])) _, ?_⟩))|simp (disch := first|omega|(simp only [List.length_map, lenF, lenS]; omega)) only [push_cast, ↓reduceIte, reduceIte, reduceCtorEq, Nat.reduceAdd, Nat.reduceLT, Nat.reduceEqDiff, Nat.reduceLeDiff, Int.reduceAdd, Int.reduceLT, Int.reduceLE, Nat.reduceMul, b3, b5, b6, b7, hrl, p1, p2, p3])
   ·rw [if_neg h0] at hF
    have hfl := hget (y % L.length) (Nat.mod_lt _ (by omega))
    generalize L.getD (y % L.length) fl0 = f at *
    clear hget
    obtain ⟨k, s0, i0, t, a, o'⟩ := f
    obtain ⟨d1, d2, d3, d4, d5⟩ := isF_def hfl
    obtain ⟨kq1, kq2⟩ := isF_kind hfl
    dsimp only at d1 d2 d3 d4 d5 kq1 kq2
    obtain ⟨u, rfl⟩ : ∃ u : Nat, s0 = u := ⟨s0.toNat, by omega⟩
    obtain ⟨v, rfl⟩ : ∃ v : Nat, i0 = v := ⟨i0.toNat, by omega⟩
    have hu : u < x.n := by omega
    have hv : v < x.I := by omega
    have hfA : isA x.I x.O (x.rows x.n) ⟨k, u, v, t, a, o'⟩ = true := hfl
    have hAp := apply12P x.I x.O (x.rows x.n) none 1 ⟨k, u, v, t, a, o'⟩ x.I (.inl rfl) (.inr rfl) (by omega) x.rows_le
    rw [appV, if_pos (chkA_of x.ok hfA (by omega)), hRA, hR0] at hAp
    have hTok := applyR_ok x.okM hfl
    have hTl := applyR_len x.R ⟨k, u, v, t, a, o'⟩
    rw [hRl] at hTl
    simp only [flA] at hF hAp
    by_cases hk : k < 3
    ·have hone := applyR_one x.okM hfl hk
     rw [if_neg (by dsimp only; omega), Nat.add_zero] at hTl
     have hgT := fun s h => rowsI_get (R := applyR x.R ⟨k, u, v, t, a, o'⟩) (I := x.I) (k := s) h
     have hwT := ok_w hTok
     have hRTl : (rowsA (rowsI (applyR x.R ⟨k, u, v, t, a, o'⟩) x.I)).length = x.n := by rw [length_rowsA, rowsI_len, hTl]
     have hdS := fun s => difS_succ (applyR x.R ⟨k, u, v, t, a, o'⟩) x.R x.I s
     have hdI := fun s i => difI_succ (applyR x.R ⟨k, u, v, t, a, o'⟩) x.R s i
     have hbS := fun s => difS_le (applyR x.R ⟨k, u, v, t, a, o'⟩) x.R x.I s
     have hbI := fun s i => difI_le (applyR x.R ⟨k, u, v, t, a, o'⟩) x.R s i
     have hidT : ∀ p, idsE p (rowsA (rowsI (applyR x.R ⟨k, u, v, t, a, o'⟩) x.I)) = true := fun p => idsE_rowsA _ _
     generalize rowsA (rowsI (applyR x.R ⟨k, u, v, t, a, o'⟩) x.I) = RT at *
     have hS0 : difS (applyR x.R ⟨k, u, v, t, a, o'⟩) x.R x.I 0 = 0 := by simp [difS]
     have hI0 : ∀ s, difI (applyR x.R ⟨k, u, v, t, a, o'⟩) x.R s 0 = 0 := fun s => by simp [difI]
     rw [hTl] at hAp
     rw [hRl] at hone
     clear hTok
     generalize hT : applyR x.R ⟨k, u, v, t, a, o'⟩ = T at *
     repeat' (first|(first|(refine a0_ ?_; first|refine a1_ rfl rfl ?_|refine a2_ rfl ?_|refine a3_ rfl rfl ?_|refine a4_ rfl ?_|refine ak_ rfl rfl ?_|refine a5_ rfl rfl rfl ?_|refine a6_ rfl rfl ?_|refine a7_ rfl rfl ?_|refine a8_ rfl rfl ?_|refine a9_ rfl rfl rfl ?_)|(refine g0_ ?_; first|refine g1_ rfl ?_|refine g2_ rfl rfl ?_|refine go_draw (dr := allQ) rfl rfl mixed (by first|assumption|kernel_rfl) ?_|refine g4_ rfl ?_|refine g5_ rfl ?_|refine g6_ rfl ?_|refine g7_ rfl ?_|refine g8_ rfl ?_|refine ga_ rfl ?_|refine gb_ rfl ?_)|(refine o0_ ?_; first|refine o1_ ?_|refine o2_ ?_|refine o3_ ?_|refine o4_ ?_|refine o5_ ?_|refine o6_ rfl ?_|refine o7_ rfl ?_|refine o8_ ?_|refine o9_ ?_|refine oa_ ?_|refine ob_ ?_|refine oc_ ?_|refine od_ ?_|refine oe_ ?_|refine of_ ?_|refine og_ ?_|refine oh_ ?_|refine oi_ ?_|refine oj_ ?_|refine ok_ ?_))|refine at_go ?_|(with_reducible refine And.intro (at_go ?_) (at_go ?_))|((with_reducible refine And.intro (fun h => ?_) (fun h => ?_)) <;> try (exfalso; omega))|(with_reducible refine And.intro (by first|omega|(simp only [maxLen]; omega)) ?_)|(refine And.intro ⟨[_], rfl⟩ ?_)|(refine And.intro ⟨[], by simp only [List.append_nil]⟩ ?_)|(first|(refine ⟨_, _, pc_lift (hC) (by (simp [idsL, idsE, AV.ids, hidR, hidT])) _, ?_⟩)|(refine ⟨_, pc_lift (hC) (by (simp [idsL, idsE, AV.ids, hidR, hidT])) _, ?_⟩)|(refine ⟨_, fun _ => pc_lift (hC) (by (simp [idsL, idsE, AV.ids, hidR, hidT])) _, ?_⟩)|(refine ⟨_, _, pc_lift (hF) (by (simp [idsL, idsE, AV.ids, hidR, hidT])) _, ?_⟩)|(refine ⟨_, pc_lift (hF) (by (simp [idsL, idsE, AV.ids, hidR, hidT])) _, ?_⟩)|(refine ⟨_, fun _ => pc_lift (hF) (by (simp [idsL, idsE, AV.ids, hidR, hidT])) _, ?_⟩)|(refine ⟨_, _, pc_lift (hAp) (by (simp [idsL, idsE, AV.ids, hidR, hidT])) _, ?_⟩)|(refine ⟨_, pc_lift (hAp) (by (simp [idsL, idsE, AV.ids, hidR, hidT])) _, ?_⟩)|(refine ⟨_, fun _ => pc_lift (hAp) (by (simp [idsL, idsE, AV.ids, hidR, hidT])) _, ?_⟩))|simp (disch := first|omega|(simp only [List.length_map, lenF, lenS]; omega)) only [push_cast, ↓reduceIte, reduceIte, reduceCtorEq, Nat.reduceAdd, Nat.reduceLT, Nat.reduceEqDiff, Nat.reduceLeDiff, Int.reduceAdd, Int.reduceLT, Int.reduceLE, Nat.reduceMul, b3, b5, b6, b7, hrl, p1, p2, p3, hk, hRTl])
     refine go_loop rfl (fun mz s' H' => ∃ s : Nat, s ≤ x.n ∧ mz = x.n - s ∧ H' = [.row 5 24 [[.int .u8 x.st, .int .u8 x.inp, .int .u8 x.ou, .bool x.pa, .sl 1 (u16s x.es) (some c)]], .row 1 27 [[.int .u16 y]], .row 3 30 [[.int .i64 x.I, .int .i64 x.O, .sl 1 RA none]], .row 6 33 [[.int .i64 k, .int .i64 u, .int .i64 v, .int .i64 t, .int .i64 a, .int .i64 o']], .row 3 30 [[.int .i64 x.I, .int .i64 x.O, .sl 1 RT (some x.n)]]] ∧ s' 5 = .ptr 2 0 0 1 ∧ s' 13 = .ptr 4 0 0 1 ∧ s' 14 = .int .i64 (difS T x.R x.I s) ∧ s' 15 = .int .i64 s) (m := x.n) (by (first|trivial|((repeat' apply And.intro) <;> first|trivial|assumption|omega|(simp only [maxLen]; omega)|(simp only [List.length_map, maxLen, lenF, lenS] <;> omega)))) (Weak.refl _ _) ⟨0, by omega, by omega, rfl, ?_⟩ ?_
     ·rw [hS0]
      simp (disch := first|omega|(simp only [List.length_map, lenF, lenS]; omega)) only [push_cast, ↓reduceIte, reduceIte, reduceCtorEq, Nat.reduceAdd, Nat.reduceLT, Nat.reduceEqDiff, Nat.reduceLeDiff, Int.reduceAdd, Int.reduceLT, Int.reduceLE, Nat.reduceMul, b3, b5, b6, b7, hrl, p1, p2, p3, hk, hRTl]
     ·rintro mz s' H' ⟨s, hs, rfl, rfl, b5, b13, b14, b15⟩
      have hbS1 : difS T x.R x.I s ≤ 18 := by
       have h1 := hbS s
       have : s * x.I ≤ 6 * 3 := Nat.mul_le_mul (by omega) (by omega)
       omega
      rcases Nat.lt_or_ge s x.n with hlt|hge2
      ·have e1 := hge s hlt
       have e4 := hgT s (by omega)
       have hws := hw s (by omega)
       have hwsT := hwT s (by omega)
       have hdS := hdS s
       have hdI := hdI s
       have hbI := hbI s
       have hI0 := hI0 s
       have hed1 : ∀ i : Nat, edR x.R s i = (x.R.getD s []).getD i (0, 0) := fun i => edR_nat x.R s i
       have hed2 : ∀ i : Nat, edR T s i = (T.getD s []).getD i (0, 0) := fun i => edR_nat T s i
       simp only [hed1, hed2] at hdI
       generalize difI T x.R s = DI at *
       generalize difS T x.R x.I s = DS at *
       have e2 := fun i h => getD_rowA (x.R.getD s []) i h
       have e5 := fun i h => getD_rowA (T.getD s []) i h
       clear hge hgT hw hwT hto hed1 hed2 hone
       generalize x.R.getD s [] = r at *
       generalize T.getD s [] = q at *
       repeat' (first|(first|(refine a0_ ?_; first|refine a1_ rfl rfl ?_|refine a2_ rfl ?_|refine a3_ rfl rfl ?_|refine a4_ rfl ?_|refine ak_ rfl rfl ?_|refine a5_ rfl rfl rfl ?_|refine a6_ rfl rfl ?_|refine a7_ rfl rfl ?_|refine a8_ rfl rfl ?_|refine a9_ rfl rfl rfl ?_)|(refine g0_ ?_; first|refine g1_ rfl ?_|refine g2_ rfl rfl ?_|refine go_draw (dr := allQ) rfl rfl mixed (by first|assumption|kernel_rfl) ?_|refine g4_ rfl ?_|refine g5_ rfl ?_|refine g6_ rfl ?_|refine g7_ rfl ?_|refine g8_ rfl ?_|refine ga_ rfl ?_|refine gb_ rfl ?_)|(refine o0_ ?_; first|refine o1_ ?_|refine o2_ ?_|refine o3_ ?_|refine o4_ ?_|refine o5_ ?_|refine o6_ rfl ?_|refine o7_ rfl ?_|refine o8_ ?_|refine o9_ ?_|refine oa_ ?_|refine ob_ ?_|refine oc_ ?_|refine od_ ?_|refine oe_ ?_|refine of_ ?_|refine og_ ?_|refine oh_ ?_|refine oi_ ?_|refine oj_ ?_|refine ok_ ?_))|refine at_go ?_|(with_reducible refine And.intro (at_go ?_) (at_go ?_))|((with_reducible refine And.intro (fun h => ?_) (fun h => ?_)) <;> try (exfalso; omega))|(with_reducible refine And.intro (by first|omega|(simp only [maxLen]; omega)) ?_)|(refine And.intro ⟨[_], rfl⟩ ?_)|(refine And.intro ⟨[], by simp only [List.append_nil]⟩ ?_)|fail|simp (disch := first|omega|(simp only [List.length_map, lenF, lenS]; omega)) only [push_cast, ↓reduceIte, reduceIte, reduceCtorEq, Nat.reduceAdd, Nat.reduceLT, Nat.reduceEqDiff, Nat.reduceLeDiff, Int.reduceAdd, Int.reduceLT, Int.reduceLE, Nat.reduceMul, b5, b13, b14, b15, hrl, hRTl])
       refine go_loop rfl (fun mz s' H' => ∃ j : Nat, j ≤ x.I ∧ mz = x.I - j ∧ H' = [.row 5 24 [[.int .u8 x.st, .int .u8 x.inp, .int .u8 x.ou, .bool x.pa, .sl 1 (u16s x.es) (some c)]], .row 1 27 [[.int .u16 y]], .row 3 30 [[.int .i64 x.I, .int .i64 x.O, .sl 1 RA none]], .row 6 33 [[.int .i64 k, .int .i64 u, .int .i64 v, .int .i64 t, .int .i64 a, .int .i64 o']], .row 3 30 [[.int .i64 x.I, .int .i64 x.O, .sl 1 RT (some x.n)]]] ∧ s' 5 = .ptr 2 0 0 1 ∧ s' 13 = .ptr 4 0 0 1 ∧ s' 14 = .int .i64 (DS + DI j : Nat) ∧ s' 15 = .int .i64 s ∧ s' 16 = .int .i64 j) (m := x.I) (by (first|trivial|((repeat' apply And.intro) <;> first|trivial|assumption|omega|(simp only [maxLen]; omega)|(simp only [List.length_map, maxLen, lenF, lenS] <;> omega)))) (Weak.refl _ _) ⟨0, by omega, by omega, rfl, ?_⟩ ?_
       ·rw [hI0]
        simp (disch := first|omega|(simp only [List.length_map, lenF, lenS]; omega)) only [push_cast, ↓reduceIte, reduceIte, reduceCtorEq, Nat.reduceAdd, Nat.reduceLT, Nat.reduceEqDiff, Nat.reduceLeDiff, Int.reduceAdd, Int.reduceLT, Int.reduceLE, Nat.reduceMul, b5, b13, b14, b15, hrl, hRTl]
       ·rintro mz s' H' ⟨j, hj, rfl, rfl, b5, b13, b14, b15, b16⟩
        rcases Nat.lt_or_ge j x.I with hltk|hgek
        ·have e3 := e2 j (by omega)
         have e6 := e5 j (by omega)
         have hdI := hdI j
         have hbI := hbI j
         generalize r.getD j (0, 0) = ed at *
         generalize q.getD j (0, 0) = ed2 at *
         obtain ⟨x1, x2⟩ := ed
         obtain ⟨y1, y2⟩ := ed2
         simp only [eA] at e3 e6
         by_cases h1 : y1 = x1 ∧ y2 = x2
         ·rw [if_pos (by rw [h1.1, h1.2])] at hdI
          have h11 := h1.1
          have h12 := h1.2
          repeat' (first|(first|(refine a0_ ?_; first|refine a1_ rfl rfl ?_|refine a2_ rfl ?_|refine a3_ rfl rfl ?_|refine a4_ rfl ?_|refine ak_ rfl rfl ?_|refine a5_ rfl rfl rfl ?_|refine a6_ rfl rfl ?_|refine a7_ rfl rfl ?_|refine a8_ rfl rfl ?_|refine a9_ rfl rfl rfl ?_)|(refine g0_ ?_; first|refine g1_ rfl ?_|refine g2_ rfl rfl ?_|refine go_draw (dr := allQ) rfl rfl mixed (by first|assumption|kernel_rfl) ?_|refine g4_ rfl ?_|refine g5_ rfl ?_|refine g6_ rfl ?_|refine g7_ rfl ?_|refine g8_ rfl ?_|refine ga_ rfl ?_|refine gb_ rfl ?_)|(refine o0_ ?_; first|refine o1_ ?_|refine o2_ ?_|refine o3_ ?_|refine o4_ ?_|refine o5_ ?_|refine o6_ rfl ?_|refine o7_ rfl ?_|refine o8_ ?_|refine o9_ ?_|refine oa_ ?_|refine ob_ ?_|refine oc_ ?_|refine od_ ?_|refine oe_ ?_|refine of_ ?_|refine og_ ?_|refine oh_ ?_|refine oi_ ?_|refine oj_ ?_|refine ok_ ?_))|refine at_go ?_|(with_reducible refine And.intro (at_go ?_) (at_go ?_))|((with_reducible refine And.intro (fun h => ?_) (fun h => ?_)) <;> try (exfalso; omega))|(with_reducible refine And.intro (by first|omega|(simp only [maxLen]; omega)) ?_)|(refine And.intro ⟨[_], rfl⟩ ?_)|(refine And.intro ⟨[], by simp only [List.append_nil]⟩ ?_)|fail|simp (disch := first|omega|(simp only [List.length_map, lenF, lenS]; omega)) only [push_cast, ↓reduceIte, reduceIte, reduceCtorEq, Nat.reduceAdd, Nat.reduceLT, Nat.reduceEqDiff, Nat.reduceLeDiff, Int.reduceAdd, Int.reduceLT, Int.reduceLE, Nat.reduceMul, b5, b13, b14, b15, b16, hrl, hRTl, e1, e3, e4, e6, length_rowA, hws, hwsT, h11, h12])
          refine out_round (x.I - (j + 1)) (by omega) (by (first|trivial|((repeat' apply And.intro) <;> first|trivial|assumption|omega|(simp only [maxLen]; omega)|(simp only [List.length_map, maxLen, lenF, lenS] <;> omega)))) ⟨j + 1, by omega, rfl, rfl, ?_⟩
          rw [hdI]
          simp (disch := first|omega|(simp only [List.length_map, lenF, lenS]; omega)) only [push_cast, ↓reduceIte, reduceIte, reduceCtorEq, Nat.reduceAdd, Nat.reduceLT, Nat.reduceEqDiff, Nat.reduceLeDiff, Int.reduceAdd, Int.reduceLT, Int.reduceLE, Nat.reduceMul, b5, b13, b14, b15, b16, hrl, hRTl, e1, e3, e4, e6, length_rowA, hws, hwsT, h11, h12]
         ·rw [if_neg (by simp only [Prod.mk.injEq]; exact h1)] at hdI
          repeat' (first|(first|(refine a0_ ?_; first|refine a1_ rfl rfl ?_|refine a2_ rfl ?_|refine a3_ rfl rfl ?_|refine a4_ rfl ?_|refine ak_ rfl rfl ?_|refine a5_ rfl rfl rfl ?_|refine a6_ rfl rfl ?_|refine a7_ rfl rfl ?_|refine a8_ rfl rfl ?_|refine a9_ rfl rfl rfl ?_)|(refine g0_ ?_; first|refine g1_ rfl ?_|refine g2_ rfl rfl ?_|refine go_draw (dr := allQ) rfl rfl mixed (by first|assumption|kernel_rfl) ?_|refine g4_ rfl ?_|refine g5_ rfl ?_|refine g6_ rfl ?_|refine g7_ rfl ?_|refine g8_ rfl ?_|refine ga_ rfl ?_|refine gb_ rfl ?_)|(refine o0_ ?_; first|refine o1_ ?_|refine o2_ ?_|refine o3_ ?_|refine o4_ ?_|refine o5_ ?_|refine o6_ rfl ?_|refine o7_ rfl ?_|refine o8_ ?_|refine o9_ ?_|refine oa_ ?_|refine ob_ ?_|refine oc_ ?_|refine od_ ?_|refine oe_ ?_|refine of_ ?_|refine og_ ?_|refine oh_ ?_|refine oi_ ?_|refine oj_ ?_|refine ok_ ?_))|refine at_go ?_|(with_reducible refine And.intro (at_go ?_) (at_go ?_))|((with_reducible refine And.intro (fun h => ?_) (fun h => ?_)) <;> try (exfalso; omega))|(with_reducible refine And.intro (by first|omega|(simp only [maxLen]; omega)) ?_)|(refine And.intro ⟨[_], rfl⟩ ?_)|(refine And.intro ⟨[], by simp only [List.append_nil]⟩ ?_)|fail|simp (disch := first|omega|(simp only [List.length_map, lenF, lenS]; omega)) only [push_cast, ↓reduceIte, reduceIte, reduceCtorEq, Nat.reduceAdd, Nat.reduceLT, Nat.reduceEqDiff, Nat.reduceLeDiff, Int.reduceAdd, Int.reduceLT, Int.reduceLE, Nat.reduceMul, b5, b13, b14, b15, b16, hrl, hRTl, e1, e3, e4, e6, length_rowA, hws, hwsT])
          refine out_round (x.I - (j + 1)) (by omega) (by (first|trivial|((repeat' apply And.intro) <;> first|trivial|assumption|omega|(simp only [maxLen]; omega)|(simp only [List.length_map, maxLen, lenF, lenS] <;> omega)))) ⟨j + 1, by omega, rfl, rfl, ?_⟩
          rw [hdI]
          simp (disch := first|omega|(simp only [List.length_map, lenF, lenS]; omega)) only [push_cast, ↓reduceIte, reduceIte, reduceCtorEq, Nat.reduceAdd, Nat.reduceLT, Nat.reduceEqDiff, Nat.reduceLeDiff, Int.reduceAdd, Int.reduceLT, Int.reduceLE, Nat.reduceMul, b5, b13, b14, b15, b16, hrl, hRTl, e1, e3, e4, e6, length_rowA, hws, hwsT]
          all_goals first|done|rw [Int.add_assoc]
        ·obtain rfl : j = x.I := by omega
         repeat' (first|(first|(refine a0_ ?_; first|refine a1_ rfl rfl ?_|refine a2_ rfl ?_|refine a3_ rfl rfl ?_|refine a4_ rfl ?_|refine ak_ rfl rfl ?_|refine a5_ rfl rfl rfl ?_|refine a6_ rfl rfl ?_|refine a7_ rfl rfl ?_|refine a8_ rfl rfl ?_|refine a9_ rfl rfl rfl ?_)|(refine g0_ ?_; first|refine g1_ rfl ?_|refine g2_ rfl rfl ?_|refine go_draw (dr := allQ) rfl rfl mixed (by first|assumption|kernel_rfl) ?_|refine g4_ rfl ?_|refine g5_ rfl ?_|refine g6_ rfl ?_|refine g7_ rfl ?_|refine g8_ rfl ?_|refine ga_ rfl ?_|refine gb_ rfl ?_)|(refine o0_ ?_; first|refine o1_ ?_|refine o2_ ?_|refine o3_ ?_|refine o4_ ?_|refine o5_ ?_|refine o6_ rfl ?_|refine o7_ rfl ?_|refine o8_ ?_|refine o9_ ?_|refine oa_ ?_|refine ob_ ?_|refine oc_ ?_|refine od_ ?_|refine oe_ ?_|refine of_ ?_|refine og_ ?_|refine oh_ ?_|refine oi_ ?_|refine oj_ ?_|refine ok_ ?_))|refine at_go ?_|(with_reducible refine And.intro (at_go ?_) (at_go ?_))|((with_reducible refine And.intro (fun h => ?_) (fun h => ?_)) <;> try (exfalso; omega))|(with_reducible refine And.intro (by first|omega|(simp only [maxLen]; omega)) ?_)|(refine And.intro ⟨[_], rfl⟩ ?_)|(refine And.intro ⟨[], by simp only [List.append_nil]⟩ ?_)|fail|simp (disch := first|omega|(simp only [List.length_map, lenF, lenS]; omega)) only [push_cast, ↓reduceIte, reduceIte, reduceCtorEq, Nat.reduceAdd, Nat.reduceLT, Nat.reduceEqDiff, Nat.reduceLeDiff, Int.reduceAdd, Int.reduceLT, Int.reduceLE, Nat.reduceMul, b5, b13, b14, b15, b16, hrl, hRTl])
         refine out_round (x.n - (s + 1)) (by omega) (by (first|trivial|((repeat' apply And.intro) <;> first|trivial|assumption|omega|(simp only [maxLen]; omega)|(simp only [List.length_map, maxLen, lenF, lenS] <;> omega)))) ⟨s + 1, by omega, rfl, rfl, ?_⟩
         rw [hdS]
         simp (disch := first|omega|(simp only [List.length_map, lenF, lenS]; omega)) only [push_cast, ↓reduceIte, reduceIte, reduceCtorEq, Nat.reduceAdd, Nat.reduceLT, Nat.reduceEqDiff, Nat.reduceLeDiff, Int.reduceAdd, Int.reduceLT, Int.reduceLE, Nat.reduceMul, b5, b13, b14, b15, b16, hrl, hRTl]
      ·obtain rfl : s = x.n := by omega
       rw [hone] at b14
       repeat' (first|(first|(refine a0_ ?_; first|refine a1_ rfl rfl ?_|refine a2_ rfl ?_|refine a3_ rfl rfl ?_|refine a4_ rfl ?_|refine ak_ rfl rfl ?_|refine a5_ rfl rfl rfl ?_|refine a6_ rfl rfl ?_|refine a7_ rfl rfl ?_|refine a8_ rfl rfl ?_|refine a9_ rfl rfl rfl ?_)|(refine g0_ ?_; first|refine g1_ rfl ?_|refine g2_ rfl rfl ?_|refine go_draw (dr := allQ) rfl rfl mixed (by first|assumption|kernel_rfl) ?_|refine g4_ rfl ?_|refine g5_ rfl ?_|refine g6_ rfl ?_|refine g7_ rfl ?_|refine g8_ rfl ?_|refine ga_ rfl ?_|refine gb_ rfl ?_)|(refine o0_ ?_; first|refine o1_ ?_|refine o2_ ?_|refine o3_ ?_|refine o4_ ?_|refine o5_ ?_|refine o6_ rfl ?_|refine o7_ rfl ?_|refine o8_ ?_|refine o9_ ?_|refine oa_ ?_|refine ob_ ?_|refine oc_ ?_|refine od_ ?_|refine oe_ ?_|refine of_ ?_|refine og_ ?_|refine oh_ ?_|refine oi_ ?_|refine oj_ ?_|refine ok_ ?_))|refine at_go ?_|(with_reducible refine And.intro (at_go ?_) (at_go ?_))|((with_reducible refine And.intro (fun h => ?_) (fun h => ?_)) <;> try (exfalso; omega))|(with_reducible refine And.intro (by first|omega|(simp only [maxLen]; omega)) ?_)|(refine And.intro ⟨[_], rfl⟩ ?_)|(refine And.intro ⟨[], by simp only [List.append_nil]⟩ ?_)|(first|(refine ⟨_, _, pc_lift (hlv) (by (simp [idsL, idsE, AV.ids, hidR, hidT])) _, ?_⟩)|(refine ⟨_, pc_lift (hlv) (by (simp [idsL, idsE, AV.ids, hidR, hidT])) _, ?_⟩)|(refine ⟨_, fun _ => pc_lift (hlv) (by (simp [idsL, idsE, AV.ids, hidR, hidT])) _, ?_⟩))|simp (disch := first|omega|(simp only [List.length_map, lenF, lenS]; omega)) only [push_cast, ↓reduceIte, reduceIte, reduceCtorEq, Nat.reduceAdd, Nat.reduceLT, Nat.reduceEqDiff, Nat.reduceLeDiff, Int.reduceAdd, Int.reduceLT, Int.reduceLE, Nat.reduceMul, b5, b13, b14, b15, hrl, hRTl, Int.reduceEq])
    ·rw [if_pos (by dsimp only; omega)] at hTl
     have hRTl : (rowsA (rowsI (applyR x.R ⟨k, u, v, t, a, o'⟩) x.I)).length = x.n + 1 := by rw [length_rowsA, rowsI_len, hTl]
     have hidT : ∀ p, idsE p (rowsA (rowsI (applyR x.R ⟨k, u, v, t, a, o'⟩) x.I)) = true := fun p => idsE_rowsA _ _
     rw [hTl] at hAp
     by_cases h3 : k = 3 ∧ t ≠ u
     ·obtain ⟨rfl, htu⟩ := h3
      have hz : a = 0 ∧ o' = 0 ∧ 0 ≤ t ∧ t < x.n := by
       have h2 := hfl
       rw [isF, Bool.and_eq_true] at h2
       have h3 := h2.2
       simp [inN, hRl] at h3
       omega
      obtain ⟨rfl, rfl, ht0, htn⟩ := hz
      obtain ⟨p, rfl⟩ : ∃ p : Nat, t = p := ⟨t.toNat, by omega⟩
      have hp : p < x.n := by omega
      have e1 := hge u hu
      have hws := hw u (by omega)
      have e2 := getD_rowA (x.R.getD u []) v (by omega)
      have hTe : edgesOf (rowsI (applyR x.R ⟨3, u, v, p, 0, 0⟩) x.I) = applyR x.R ⟨3, u, v, p, 0, 0⟩ := edgesOf_rowsI _ _
      have hTrl : (rowsI (applyR x.R ⟨3, u, v, p, 0, 0⟩) x.I).length = x.n + 1 := by rw [rowsI_len, hTl]
      have hwT := ok_w hTok
      have htT := ok_to hTok
      rw [hTl] at hwT htT
      obtain ⟨x1, x2, hx12⟩ : ∃ x1 x2, (x.R.getD u []).getD v (0, 0) = (x1, x2) := ⟨_, _, rfl⟩
      have hed : edR x.R u v = (x1, x2) := hx12
      rw [hx12] at e2
      simp only [eA] at e2
      by_cases hpx : (p : Int) = x1
      ·have hD := differ18 x.I x.O x.O (x.rows x.n) (rowsI (applyR x.R ⟨3, u, v, p, 0, 0⟩) x.I) none (some (x.n + 1)) (by omega) (by omega) (by omega) (by omega) (by omega) (by omega)
        (fun j hj => hw j (by omega)) (by rw [hTe, hTrl]; exact hwT) (fun j i hj hi => by have := (hto j i (by omega) hi).2; rw [hRl] at this; rw [hl]; exact this) (by rw [hTe, hTrl]; exact htT)
        (fun k => by
         rw [hTe, hR0]
         have := extra_here x.okM (s := u) (i := v) (t := p) (by omega) hv (by omega) (by omega) (by rw [hed]; exact hpx.symm) k
         rw [hRl] at this
         rw [hl]; exact this)
       rw [hRA] at hD
       generalize rowsA (rowsI (applyR x.R ⟨3, u, v, p, 0, 0⟩) x.I) = RT at *
       clear hwT htT hTok hto hw
       obtain rfl : x1 = p := hpx.symm
       have htu2 : ¬ p = u := fun q => htu (by rw [q])
       repeat' (first|(first|(refine a0_ ?_; first|refine a1_ rfl rfl ?_|refine a2_ rfl ?_|refine a3_ rfl rfl ?_|refine a4_ rfl ?_|refine ak_ rfl rfl ?_|refine a5_ rfl rfl rfl ?_|refine a6_ rfl rfl ?_|refine a7_ rfl rfl ?_|refine a8_ rfl rfl ?_|refine a9_ rfl rfl rfl ?_)|(refine g0_ ?_; first|refine g1_ rfl ?_|refine g2_ rfl rfl ?_|refine go_draw (dr := allQ) rfl rfl mixed (by first|assumption|kernel_rfl) ?_|refine g4_ rfl ?_|refine g5_ rfl ?_|refine g6_ rfl ?_|refine g7_ rfl ?_|refine g8_ rfl ?_|refine ga_ rfl ?_|refine gb_ rfl ?_)|(refine o0_ ?_; first|refine o1_ ?_|refine o2_ ?_|refine o3_ ?_|refine o4_ ?_|refine o5_ ?_|refine o6_ rfl ?_|refine o7_ rfl ?_|refine o8_ ?_|refine o9_ ?_|refine oa_ ?_|refine ob_ ?_|refine oc_ ?_|refine od_ ?_|refine oe_ ?_|refine of_ ?_|refine og_ ?_|refine oh_ ?_|refine oi_ ?_|refine oj_ ?_|refine ok_ ?_))|refine at_go ?_|(with_reducible refine And.intro (at_go ?_) (at_go ?_))|((with_reducible refine And.intro (fun h => ?_) (fun h => ?_)) <;> try (exfalso; omega))|(with_reducible refine And.intro (by first|omega|(simp only [maxLen]; omega)) ?_)|(refine And.intro ⟨[_], rfl⟩ ?_)|(refine And.intro ⟨[], by simp only [List.append_nil]⟩ ?_)|(first|(refine ⟨_, _, pc_lift (hC) (by (simp [idsL, idsE, AV.ids, hidR, hidT])) _, ?_⟩)|(refine ⟨_, pc_lift (hC) (by (simp [idsL, idsE, AV.ids, hidR, hidT])) _, ?_⟩)|(refine ⟨_, fun _ => pc_lift (hC) (by (simp [idsL, idsE, AV.ids, hidR, hidT])) _, ?_⟩)|(refine ⟨_, _, pc_lift (hF) (by (simp [idsL, idsE, AV.ids, hidR, hidT])) _, ?_⟩)|(refine ⟨_, pc_lift (hF) (by (simp [idsL, idsE, AV.ids, hidR, hidT])) _, ?_⟩)|(refine ⟨_, fun _ => pc_lift (hF) (by (simp [idsL, idsE, AV.ids, hidR, hidT])) _, ?_⟩)|(refine ⟨_, _, pc_lift (hAp) (by (simp [idsL, idsE, AV.ids, hidR, hidT])) _, ?_⟩)|(refine ⟨_, pc_lift (hAp) (by (simp [idsL, idsE, AV.ids, hidR, hidT])) _, ?_⟩)|(refine ⟨_, fun _ => pc_lift (hAp) (by (simp [idsL, idsE, AV.ids, hidR, hidT])) _, ?_⟩)|(refine ⟨_, _, pc_lift (hD) (by (simp [idsL, idsE, AV.ids, hidR, hidT])) _, ?_⟩)|(refine ⟨_, pc_lift (hD) (by (simp [idsL, idsE, AV.ids, hidR, hidT])) _, ?_⟩)|(refine ⟨_, fun _ => pc_lift (hD) (by (simp [idsL, idsE, AV.ids, hidR, hidT])) _, ?_⟩)|(refine ⟨_, _, pc_lift (hlv) (by (simp [idsL, idsE, AV.ids, hidR, hidT])) _, ?_⟩)|(refine ⟨_, pc_lift (hlv) (by (simp [idsL, idsE, AV.ids, hidR, hidT])) _, ?_⟩)|(refine ⟨_, fun _ => pc_lift (hlv) (by (simp [idsL, idsE, AV.ids, hidR, hidT])) _, ?_⟩))|simp (disch := first|omega|(simp only [List.length_map, lenF, lenS]; omega)) only [push_cast, ↓reduceIte, reduceIte, reduceCtorEq, Nat.reduceAdd, Nat.reduceLT, Nat.reduceEqDiff, Nat.reduceLeDiff, Int.reduceAdd, Int.reduceLT, Int.reduceLE, Nat.reduceMul, b3, b5, b6, b7, hrl, p1, p2, p3, hRTl, e1, e2, htu2, Int.reduceEq, length_rowA, hws])
      ·have hf1 : isF x.R x.I x.O ⟨1, u, v, p, 0, 0⟩ = true := by
        rw [isF]
        dsimp only
        rw [hed]
        simp only [isF, Bool.and_eq_true] at hfl
        simp [hfl.1, inN, hpx, hRl, hp]
       have hT1 := applyR_ok x.okM hf1
       have hT1l := applyR_len x.R ⟨1, u, v, p, 0, 0⟩
       rw [if_neg (by dsimp only; omega), Nat.add_zero, hRl] at hT1l
       have hR1 := refApply15P x.I x.O (x.rows x.n) none ⟨1, u, v, p, 0, 0⟩ x.I rfl x.ok hf1
       rw [hR0] at hR1
       unfold mA at hR1
       rw [hRA] at hR1
       simp only [flA] at hR1
       have hN1 : edgesOf (rowsN (applyR x.R ⟨1, u, v, p, 0, 0⟩)) = applyR x.R ⟨1, u, v, p, 0, 0⟩ := edgesOf_rowsN _
       have hN1l : (rowsN (applyR x.R ⟨1, u, v, p, 0, 0⟩)).length = x.n := by rw [rowsN_len, hT1l]
       have hw1 := ok_w hT1
       have ht1 := ok_to hT1
       rw [hT1l] at hw1 ht1
       have hA1 : applyR x.R ⟨1, u, v, p, 0, 0⟩ = setE x.R u v ((p : Int), (edR x.R u v).2) := by
        rw [applyR, newR, if_neg (by simp), if_neg (by simp), List.append_nil, newE, if_neg (by simp), if_pos rfl]
       have hsame := extra_same x.okM (s := u) (i := v) (t := p) (by omega) hv (by omega) (by omega) d5 (applyR x.R ⟨1, u, v, p, 0, 0⟩) hA1
       rw [hT1l] at hsame
       have hidN : ∀ q, idsE q (rowsA (rowsN (applyR x.R ⟨1, u, v, p, 0, 0⟩))) = true := fun q => idsE_rowsA _ _
       have hD := differ18 x.I x.O x.O (rowsN (applyR x.R ⟨1, u, v, p, 0, 0⟩)) (rowsI (applyR x.R ⟨3, u, v, p, 0, 0⟩) x.I) none (some (x.n + 1)) (by omega) (by omega) (by omega) (by omega) (by omega) (by omega)
        (by rw [hN1, hN1l]; exact hw1) (by rw [hTe, hTrl]; exact hwT) (by rw [hN1, hN1l]; exact fun j i hj hi => (ht1 j i hj hi).2) (by rw [hTe, hTrl]; exact htT)
        (fun k => by rw [hTe, hN1, hN1l]; exact hsame k)
       generalize rowsA (rowsI (applyR x.R ⟨3, u, v, p, 0, 0⟩) x.I) = RT at *
       generalize rowsA (rowsN (applyR x.R ⟨1, u, v, p, 0, 0⟩)) = RN at *
       clear hwT htT hTok hto hw hw1 ht1 hsame hT1
       have htu2 : ¬ p = u := fun q => htu (by rw [q])
       repeat' (first|(first|(refine a0_ ?_; first|refine a1_ rfl rfl ?_|refine a2_ rfl ?_|refine a3_ rfl rfl ?_|refine a4_ rfl ?_|refine ak_ rfl rfl ?_|refine a5_ rfl rfl rfl ?_|refine a6_ rfl rfl ?_|refine a7_ rfl rfl ?_|refine a8_ rfl rfl ?_|refine a9_ rfl rfl rfl ?_)|(refine g0_ ?_; first|refine g1_ rfl ?_|refine g2_ rfl rfl ?_|refine go_draw (dr := allQ) rfl rfl mixed (by first|assumption|kernel_rfl) ?_|refine g4_ rfl ?_|refine g5_ rfl ?_|refine g6_ rfl ?_|refine g7_ rfl ?_|refine g8_ rfl ?_|refine ga_ rfl ?_|refine gb_ rfl ?_)|(refine o0_ ?_; first|refine o1_ ?_|refine o2_ ?_|refine o3_ ?_|refine o4_ ?_|refine o5_ ?_|refine o6_ rfl ?_|refine o7_ rfl ?_|refine o8_ ?_|refine o9_ ?_|refine oa_ ?_|refine ob_ ?_|refine oc_ ?_|refine od_ ?_|refine oe_ ?_|refine of_ ?_|refine og_ ?_|refine oh_ ?_|refine oi_ ?_|refine oj_ ?_|refine ok_ ?_))|refine at_go ?_|(with_reducible refine And.intro (at_go ?_) (at_go ?_))|((with_reducible refine And.intro (fun h => ?_) (fun h => ?_)) <;> try (exfalso; omega))|(with_reducible refine And.intro (by first|omega|(simp only [maxLen]; omega)) ?_)|(refine And.intro ⟨[_], rfl⟩ ?_)|(refine And.intro ⟨[], by simp only [List.append_nil]⟩ ?_)|(first|(refine ⟨_, _, pc_lift (hC) (by (simp [idsL, idsE, AV.ids, hidR, hidT, hidN])) _, ?_⟩)|(refine ⟨_, pc_lift (hC) (by (simp [idsL, idsE, AV.ids, hidR, hidT, hidN])) _, ?_⟩)|(refine ⟨_, fun _ => pc_lift (hC) (by (simp [idsL, idsE, AV.ids, hidR, hidT, hidN])) _, ?_⟩)|(refine ⟨_, _, pc_lift (hF) (by (simp [idsL, idsE, AV.ids, hidR, hidT, hidN])) _, ?_⟩)|(refine ⟨_, pc_lift (hF) (by (simp [idsL, idsE, AV.ids, hidR, hidT, hidN])) _, ?_⟩)|(refine ⟨_, fun _ => pc_lift (hF) (by (simp [idsL, idsE, AV.ids, hidR, hidT, hidN])) _, ?_⟩)|(refine ⟨_, _, pc_lift (hAp) (by (simp [idsL, idsE, AV.ids, hidR, hidT, hidN])) _, ?_⟩)|(refine ⟨_, pc_lift (hAp) (by (simp [idsL, idsE, AV.ids, hidR, hidT, hidN])) _, ?_⟩)|(refine ⟨_, fun _ => pc_lift (hAp) (by (simp [idsL, idsE, AV.ids, hidR, hidT, hidN])) _, ?_⟩)|(refine ⟨_, _, pc_lift (hR1) (by (simp [idsL, idsE, AV.ids, hidR, hidT, hidN])) _, ?_⟩)|(refine ⟨_, pc_lift (hR1) (by (simp [idsL, idsE, AV.ids, hidR, hidT, hidN])) _, ?_⟩)|(refine ⟨_, fun _ => pc_lift (hR1) (by (simp [idsL, idsE, AV.ids, hidR, hidT, hidN])) _, ?_⟩)|(refine ⟨_, _, pc_lift (hD) (by (simp [idsL, idsE, AV.ids, hidR, hidT, hidN])) _, ?_⟩)|(refine ⟨_, pc_lift (hD) (by (simp [idsL, idsE, AV.ids, hidR, hidT, hidN])) _, ?_⟩)|(refine ⟨_, fun _ => pc_lift (hD) (by (simp [idsL, idsE, AV.ids, hidR, hidT, hidN])) _, ?_⟩)|(refine ⟨_, _, pc_lift (hlv) (by (simp [idsL, idsE, AV.ids, hidR, hidT, hidN])) _, ?_⟩)|(refine ⟨_, pc_lift (hlv) (by (simp [idsL, idsE, AV.ids, hidR, hidT, hidN])) _, ?_⟩)|(refine ⟨_, fun _ => pc_lift (hlv) (by (simp [idsL, idsE, AV.ids, hidR, hidT, hidN])) _, ?_⟩))|simp (disch := first|omega|(simp only [List.length_map, lenF, lenS]; omega)) only [push_cast, ↓reduceIte, reduceIte, reduceCtorEq, Nat.reduceAdd, Nat.reduceLT, Nat.reduceEqDiff, Nat.reduceLeDiff, Int.reduceAdd, Int.reduceLT, Int.reduceLE, Nat.reduceMul, b3, b5, b6, b7, hrl, p1, p2, p3, hRTl, e1, e2, htu2, Int.reduceEq, length_rowA, hws, hpx])
     ·have hn3 : ¬ k < 3 := hk
      generalize rowsA (rowsI (applyR x.R ⟨k, u, v, t, a, o'⟩) x.I) = RT at *
      by_cases hk3 : k = 3
      ·obtain rfl := hk3
       obtain rfl : t = u := Classical.byContradiction fun q => h3 ⟨rfl, q⟩
       repeat' (first|(first|(refine a0_ ?_; first|refine a1_ rfl rfl ?_|refine a2_ rfl ?_|refine a3_ rfl rfl ?_|refine a4_ rfl ?_|refine ak_ rfl rfl ?_|refine a5_ rfl rfl rfl ?_|refine a6_ rfl rfl ?_|refine a7_ rfl rfl ?_|refine a8_ rfl rfl ?_|refine a9_ rfl rfl rfl ?_)|(refine g0_ ?_; first|refine g1_ rfl ?_|refine g2_ rfl rfl ?_|refine go_draw (dr := allQ) rfl rfl mixed (by first|assumption|kernel_rfl) ?_|refine g4_ rfl ?_|refine g5_ rfl ?_|refine g6_ rfl ?_|refine g7_ rfl ?_|refine g8_ rfl ?_|refine ga_ rfl ?_|refine gb_ rfl ?_)|(refine o0_ ?_; first|refine o1_ ?_|refine o2_ ?_|refine o3_ ?_|refine o4_ ?_|refine o5_ ?_|refine o6_ rfl ?_|refine o7_ rfl ?_|refine o8_ ?_|refine o9_ ?_|refine oa_ ?_|refine ob_ ?_|refine oc_ ?_|refine od_ ?_|refine oe_ ?_|refine of_ ?_|refine og_ ?_|refine oh_ ?_|refine oi_ ?_|refine oj_ ?_|refine ok_ ?_))|refine at_go ?_|(with_reducible refine And.intro (at_go ?_) (at_go ?_))|((with_reducible refine And.intro (fun h => ?_) (fun h => ?_)) <;> try (exfalso; omega))|(with_reducible refine And.intro (by first|omega|(simp only [maxLen]; omega)) ?_)|(refine And.intro ⟨[_], rfl⟩ ?_)|(refine And.intro ⟨[], by simp only [List.append_nil]⟩ ?_)|(first|(refine ⟨_, _, pc_lift (hC) (by (simp [idsL, idsE, AV.ids, hidR, hidT])) _, ?_⟩)|(refine ⟨_, pc_lift (hC) (by (simp [idsL, idsE, AV.ids, hidR, hidT])) _, ?_⟩)|(refine ⟨_, fun _ => pc_lift (hC) (by (simp [idsL, idsE, AV.ids, hidR, hidT])) _, ?_⟩)|(refine ⟨_, _, pc_lift (hF) (by (simp [idsL, idsE, AV.ids, hidR, hidT])) _, ?_⟩)|(refine ⟨_, pc_lift (hF) (by (simp [idsL, idsE, AV.ids, hidR, hidT])) _, ?_⟩)|(refine ⟨_, fun _ => pc_lift (hF) (by (simp [idsL, idsE, AV.ids, hidR, hidT])) _, ?_⟩)|(refine ⟨_, _, pc_lift (hAp) (by (simp [idsL, idsE, AV.ids, hidR, hidT])) _, ?_⟩)|(refine ⟨_, pc_lift (hAp) (by (simp [idsL, idsE, AV.ids, hidR, hidT])) _, ?_⟩)|(refine ⟨_, fun _ => pc_lift (hAp) (by (simp [idsL, idsE, AV.ids, hidR, hidT])) _, ?_⟩)|(refine ⟨_, _, pc_lift (hlv) (by (simp [idsL, idsE, AV.ids, hidR, hidT])) _, ?_⟩)|(refine ⟨_, pc_lift (hlv) (by (simp [idsL, idsE, AV.ids, hidR, hidT])) _, ?_⟩)|(refine ⟨_, fun _ => pc_lift (hlv) (by (simp [idsL, idsE, AV.ids, hidR, hidT])) _, ?_⟩))|simp (disch := first|omega|(simp only [List.length_map, lenF, lenS]; omega)) only [push_cast, ↓reduceIte, reduceIte, reduceCtorEq, Nat.reduceAdd, Nat.reduceLT, Nat.reduceEqDiff, Nat.reduceLeDiff, Int.reduceAdd, Int.reduceLT, Int.reduceLE, Nat.reduceMul, b3, b5, b6, b7, hrl, p1, p2, p3, hRTl, Int.reduceEq])
      ·skip
       repeat' (first|(first|(refine a0_ ?_; first|refine a1_ rfl rfl ?_|refine a2_ rfl ?_|refine a3_ rfl rfl ?_|refine a4_ rfl ?_|refine ak_ rfl rfl ?_|refine a5_ rfl rfl rfl ?_|refine a6_ rfl rfl ?_|refine a7_ rfl rfl ?_|refine a8_ rfl rfl ?_|refine a9_ rfl rfl rfl ?_)|(refine g0_ ?_; first|refine g1_ rfl ?_|refine g2_ rfl rfl ?_|refine go_draw (dr := allQ) rfl rfl mixed (by first|assumption|kernel_rfl) ?_|refine g4_ rfl ?_|refine g5_ rfl ?_|refine g6_ rfl ?_|refine g7_ rfl ?_|refine g8_ rfl ?_|refine ga_ rfl ?_|refine gb_ rfl ?_)|(refine o0_ ?_; first|refine o1_ ?_|refine o2_ ?_|refine o3_ ?_|refine o4_ ?_|refine o5_ ?_|refine o6_ rfl ?_|refine o7_ rfl ?_|refine o8_ ?_|refine o9_ ?_|refine oa_ ?_|refine ob_ ?_|refine oc_ ?_|refine od_ ?_|refine oe_ ?_|refine of_ ?_|refine og_ ?_|refine oh_ ?_|refine oi_ ?_|refine oj_ ?_|refine ok_ ?_))|refine at_go ?_|(with_reducible refine And.intro (at_go ?_) (at_go ?_))|((with_reducible refine And.intro (fun h => ?_) (fun h => ?_)) <;> try (exfalso; omega))|(with_reducible refine And.intro (by first|omega|(simp only [maxLen]; omega)) ?_)|(refine And.intro ⟨[_], rfl⟩ ?_)|(refine And.intro ⟨[], by simp only [List.append_nil]⟩ ?_)|(first|(refine ⟨_, _, pc_lift (hC) (by (simp [idsL, idsE, AV.ids, hidR, hidT])) _, ?_⟩)|(refine ⟨_, pc_lift (hC) (by (simp [idsL, idsE, AV.ids, hidR, hidT])) _, ?_⟩)|(refine ⟨_, fun _ => pc_lift (hC) (by (simp [idsL, idsE, AV.ids, hidR, hidT])) _, ?_⟩)|(refine ⟨_, _, pc_lift (hF) (by (simp [idsL, idsE, AV.ids, hidR, hidT])) _, ?_⟩)|(refine ⟨_, pc_lift (hF) (by (simp [idsL, idsE, AV.ids, hidR, hidT])) _, ?_⟩)|(refine ⟨_, fun _ => pc_lift (hF) (by (simp [idsL, idsE, AV.ids, hidR, hidT])) _, ?_⟩)|(refine ⟨_, _, pc_lift (hAp) (by (simp [idsL, idsE, AV.ids, hidR, hidT])) _, ?_⟩)|(refine ⟨_, pc_lift (hAp) (by (simp [idsL, idsE, AV.ids, hidR, hidT])) _, ?_⟩)|(refine ⟨_, fun _ => pc_lift (hAp) (by (simp [idsL, idsE, AV.ids, hidR, hidT])) _, ?_⟩)|(refine ⟨_, _, pc_lift (hlv) (by (simp [idsL, idsE, AV.ids, hidR, hidT])) _, ?_⟩)|(refine ⟨_, pc_lift (hlv) (by (simp [idsL, idsE, AV.ids, hidR, hidT])) _, ?_⟩)|(refine ⟨_, fun _ => pc_lift (hlv) (by (simp [idsL, idsE, AV.ids, hidR, hidT])) _, ?_⟩))|simp (disch := first|omega|(simp only [List.length_map, lenF, lenS]; omega)) only [push_cast, ↓reduceIte, reduceIte, reduceCtorEq, Nat.reduceAdd, Nat.reduceLT, Nat.reduceEqDiff, Nat.reduceLeDiff, Int.reduceAdd, Int.reduceLT, Int.reduceLE, Nat.reduceMul, b3, b5, b6, b7, hrl, p1, p2, p3, hRTl, Int.reduceEq, hk3, hn3])
end Go.Proofs
