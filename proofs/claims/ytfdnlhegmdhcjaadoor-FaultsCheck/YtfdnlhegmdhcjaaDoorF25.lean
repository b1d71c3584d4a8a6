import Derived.Test.YtfdnlhegmdhcjaaDoorF23
import Derived.Test.YtfdnlhegmdhcjaaDoorF13
namespace Go.Proofs
open Go Go.V
set_option linter.unusedVariables false
set_option linter.unusedSimpArgs false
set_option maxHeartbeats 0
theorem ofF_le {R : RR} {I O : Nat} (hI : I ≤ 6) (hO : O ≤ 16) (hR : R.length ≤ 8) (k s i : Int) : (ofF R I O k s i).length ≤ 96 := by
 unfold ofF
 split
 ·exact Nat.le_trans (len_le _ 1 (fun x => by split <;> simp) O) (by omega)
 ·split
  ·exact Nat.le_trans (len_le _ 1 (fun x => by split <;> simp) R.length) (by omega)
  ·split
   ·simp
   ·split
    ·exact Nat.le_trans (len_le _ 1 (fun x => by simp) R.length) (by omega)
    ·split
     ·refine Nat.le_trans (len_le _ 16 (fun a => Nat.le_trans (len_le _ 1 (fun o => by split <;> simp) O) (by omega)) I) (by omega)
     ·simp
theorem edgF_le {R : RR} {I O : Nat} (hI : I ≤ 6) (hO : O ≤ 16) (hR : R.length ≤ 8) (k : Int) : (edgF R I O k).length ≤ 4608 := by
 unfold edgF
 refine Nat.le_trans (len_le _ 576 (fun s => Nat.le_trans (len_le _ 96 (fun i => by split; exact ofF_le hI hO hR k _ _; simp) I) (by omega)) R.length) (by omega)
theorem allF_le {R : RR} {I O : Nat} (hI : I ≤ 6) (hO : O ≤ 16) (hR : R.length ≤ 8) : ∀ ks : List Int, (allF R I O ks).length ≤ ks.length * 4608
 | [] => by simp [allF]
 | k :: ks => by
  have h1 := allF_le hI hO hR ks
  have h2 := edgF_le hI hO hR k
  unfold allF at *
  rw [List.flatMap_cons, List.length_append, List.length_cons, Nat.succ_mul]
  omega
theorem kindsOk_len {ks : List Int} (h : kindsOk ks = true) : ks.length ≤ 5 := by
 have key : ∀ j, j < ks.length → (j : Int) ≤ ks.getD j 0 := by
  intro j
  induction j with
  | zero => intro hj; have := kinds_low h 0 hj; simp at *; omega
  | succ j ih =>
   intro hj
   have h1 := kinds_low h (j + 1) hj
   have h2 := ih (by omega)
   rw [lastK_succ] at h1
   omega
 rcases Nat.eq_zero_or_pos ks.length with h0|h0
 ·omega
 ·have h1 := key (ks.length - 1) (by omega)
  have h2 := kinds_low h (ks.length - 1) (by omega)
  omega
set_option maxRecDepth 100000 in
theorem small19m (i o : Int) (l : List Row) (z : Nat) (c : Option Nat) (hz : l = [] ∨ z = 1) : PC Tryd.prog G0 19 [.agg [.int .i64 i, .int .i64 o, .sl z (rowsA l) c]] (.int .i64 (if l.length ≤ 8 ∧ ∀ j, j < l.length → (l.getD j ([], none)).1.length ≤ 6 then 0 else 1)) := by
 refine pc_go 1 22 [.tmp 2] Tryd.func19 rfl rfl rfl (by simp) ?_
 intro s ⟨a0, hz⟩
 clear hz
 repeat' (first|(first|(refine a0_ ?_; first|refine a1_ rfl rfl ?_|refine a2_ rfl ?_|refine a3_ rfl rfl ?_|refine a4_ rfl ?_|refine ak_ rfl rfl ?_|refine a5_ rfl rfl rfl ?_|refine a6_ rfl rfl ?_|refine a7_ rfl rfl ?_|refine a8_ rfl rfl ?_|refine a9_ rfl rfl rfl ?_)|(refine g0_ ?_; first|refine g1_ rfl ?_|refine g2_ rfl rfl ?_|refine go_draw (dr := allQ) rfl rfl mixed (by first|assumption|kernel_rfl) ?_|refine g4_ rfl ?_|refine g5_ rfl ?_|refine g6_ rfl ?_|refine g7_ rfl ?_|refine g8_ rfl ?_|refine ga_ rfl ?_|refine gb_ rfl ?_)|(refine o0_ ?_; first|refine o1_ ?_|refine o2_ ?_|refine o3_ ?_|refine o4_ ?_|refine o5_ ?_|refine o6_ rfl ?_|refine o7_ rfl ?_|refine o8_ ?_|refine o9_ ?_|refine oa_ ?_|refine ob_ ?_|refine oc_ ?_|refine od_ ?_|refine oe_ ?_|refine of_ ?_|refine og_ ?_|refine oh_ ?_|refine oi_ ?_|refine oj_ ?_|refine ok_ ?_))|refine at_go ?_|(with_reducible refine And.intro (at_go ?_) (at_go ?_))|((with_reducible refine And.intro (fun h => ?_) (fun h => ?_)) <;> try (exfalso; omega))|(with_reducible refine And.intro (by first|omega|(simp only [maxLen]; omega)) ?_)|(refine And.intro ⟨[_], rfl⟩ ?_)|(refine And.intro ⟨[], by simp only [List.append_nil]⟩ ?_)|fail|simp (disch := first|omega|(simp only [length_rowsA, length_rowA, length_fls, List.length_set, List.length_reverse, List.length_replicate, List.length_append, List.length_cons, List.length_nil, List.length_map]; omega)) only [push_cast, ↓reduceIte, reduceIte, reduceCtorEq, Nat.reduceAdd, Nat.reduceLT, Nat.reduceEqDiff, Nat.reduceLeDiff, Int.reduceAdd, Int.reduceLT, Int.reduceLE, Nat.reduceMul, a0])
 ·congr 1
  rw [if_neg (by omega)]
 ·refine go_loop rfl (fun mz s' H' => ∃ k : Nat, k ≤ l.length ∧ mz = l.length - k ∧ H' = [.row 3 30 [[.int .i64 i, .int .i64 o, .sl z (rowsA l) c]]] ∧ s' 1 = .ptr 0 0 0 1 ∧ s' 3 = .int .i64 k ∧ ∀ j, j < k → (l.getD j ([], none)).1.length ≤ 6) (m := l.length) (by (first|trivial|((repeat' apply And.intro) <;> first|trivial|assumption|omega|(simp only [maxLen]; omega)|(simp only [length_rowsA, length_rowA, length_fls, List.length_replicate, List.length_append, List.length_cons, List.length_nil, List.length_map, List.length_take, List.length_drop, List.length_set, List.length_reverse, maxLen] <;> omega)))) (Weak.refl _ _) ⟨0, by omega, by omega, rfl, ?_⟩ ?_
  ·simp (disch := first|omega|(simp only [length_rowsA, length_rowA, length_fls, List.length_set, List.length_reverse, List.length_replicate, List.length_append, List.length_cons, List.length_nil, List.length_map]; omega)) only [push_cast, ↓reduceIte, reduceIte, reduceCtorEq, Nat.reduceAdd, Nat.reduceLT, Nat.reduceEqDiff, Nat.reduceLeDiff, Int.reduceAdd, Int.reduceLT, Int.reduceLE, Nat.reduceMul, a0]
   exact fun j hj => by omega
  ·rintro mz s' H' ⟨k, hk, rfl, rfl, b1, b3, ik⟩
   rcases Nat.lt_or_ge k l.length with hlt|hge
   ·obtain rfl := hz.resolve_left (by intro q; rw [q] at hlt; simp at hlt)
    have e1 := getD_rowsA l k hlt
    have hs := snocB (P := fun j => (l.getD j ([], none)).1.length ≤ 6) (k := k) ik
    have hno : ¬ (l.getD k ([], none)).1.length ≤ 6 → ¬ (l.length ≤ 8 ∧ ∀ j, j < l.length → (l.getD j ([], none)).1.length ≤ 6) := fun h hh => h (hh.2 k hlt)
    generalize (l.getD k ([], none)).2 = cc at *
    generalize (l.getD k ([], none)).1 = r at *
    repeat' (first|(first|(refine a0_ ?_; first|refine a1_ rfl rfl ?_|refine a2_ rfl ?_|refine a3_ rfl rfl ?_|refine a4_ rfl ?_|refine ak_ rfl rfl ?_|refine a5_ rfl rfl rfl ?_|refine a6_ rfl rfl ?_|refine a7_ rfl rfl ?_|refine a8_ rfl rfl ?_|refine a9_ rfl rfl rfl ?_)|(refine g0_ ?_; first|refine g1_ rfl ?_|refine g2_ rfl rfl ?_|refine go_draw (dr := allQ) rfl rfl mixed (by first|assumption|kernel_rfl) ?_|refine g4_ rfl ?_|refine g5_ rfl ?_|refine g6_ rfl ?_|refine g7_ rfl ?_|refine g8_ rfl ?_|refine ga_ rfl ?_|refine gb_ rfl ?_)|(refine o0_ ?_; first|refine o1_ ?_|refine o2_ ?_|refine o3_ ?_|refine o4_ ?_|refine o5_ ?_|refine o6_ rfl ?_|refine o7_ rfl ?_|refine o8_ ?_|refine o9_ ?_|refine oa_ ?_|refine ob_ ?_|refine oc_ ?_|refine od_ ?_|refine oe_ ?_|refine of_ ?_|refine og_ ?_|refine oh_ ?_|refine oi_ ?_|refine oj_ ?_|refine ok_ ?_))|refine at_go ?_|(with_reducible refine And.intro (at_go ?_) (at_go ?_))|((with_reducible refine And.intro (fun h => ?_) (fun h => ?_)) <;> try (exfalso; omega))|(with_reducible refine And.intro (by first|omega|(simp only [maxLen]; omega)) ?_)|(refine And.intro ⟨[_], rfl⟩ ?_)|(refine And.intro ⟨[], by simp only [List.append_nil]⟩ ?_)|fail|simp (disch := first|omega|(simp only [length_rowsA, length_rowA, length_fls, List.length_set, List.length_reverse, List.length_replicate, List.length_append, List.length_cons, List.length_nil, List.length_map]; omega)) only [push_cast, ↓reduceIte, reduceIte, reduceCtorEq, Nat.reduceAdd, Nat.reduceLT, Nat.reduceEqDiff, Nat.reduceLeDiff, Int.reduceAdd, Int.reduceLT, Int.reduceLE, Nat.reduceMul, b1, b3, e1])
    ·rw [if_neg (hno (by omega))]
    ·refine out_round (l.length - (k + 1)) (by omega) (by (first|trivial|((repeat' apply And.intro) <;> first|trivial|assumption|omega|(simp only [maxLen]; omega)|(simp only [length_rowsA, length_rowA, length_fls, List.length_replicate, List.length_append, List.length_cons, List.length_nil, List.length_map, List.length_take, List.length_drop, List.length_set, List.length_reverse, maxLen] <;> omega)))) ⟨k + 1, by omega, rfl, rfl, ?_⟩
     simp (disch := first|omega|(simp only [length_rowsA, length_rowA, length_fls, List.length_set, List.length_reverse, List.length_replicate, List.length_append, List.length_cons, List.length_nil, List.length_map]; omega)) only [push_cast, ↓reduceIte, reduceIte, reduceCtorEq, Nat.reduceAdd, Nat.reduceLT, Nat.reduceEqDiff, Nat.reduceLeDiff, Int.reduceAdd, Int.reduceLT, Int.reduceLE, Nat.reduceMul, b1, b3, e1]
     exact hs (by omega)
   ·obtain rfl : k = l.length := by omega
    repeat' (first|(first|(refine a0_ ?_; first|refine a1_ rfl rfl ?_|refine a2_ rfl ?_|refine a3_ rfl rfl ?_|refine a4_ rfl ?_|refine ak_ rfl rfl ?_|refine a5_ rfl rfl rfl ?_|refine a6_ rfl rfl ?_|refine a7_ rfl rfl ?_|refine a8_ rfl rfl ?_|refine a9_ rfl rfl rfl ?_)|(refine g0_ ?_; first|refine g1_ rfl ?_|refine g2_ rfl rfl ?_|refine go_draw (dr := allQ) rfl rfl mixed (by first|assumption|kernel_rfl) ?_|refine g4_ rfl ?_|refine g5_ rfl ?_|refine g6_ rfl ?_|refine g7_ rfl ?_|refine g8_ rfl ?_|refine ga_ rfl ?_|refine gb_ rfl ?_)|(refine o0_ ?_; first|refine o1_ ?_|refine o2_ ?_|refine o3_ ?_|refine o4_ ?_|refine o5_ ?_|refine o6_ rfl ?_|refine o7_ rfl ?_|refine o8_ ?_|refine o9_ ?_|refine oa_ ?_|refine ob_ ?_|refine oc_ ?_|refine od_ ?_|refine oe_ ?_|refine of_ ?_|refine og_ ?_|refine oh_ ?_|refine oi_ ?_|refine oj_ ?_|refine ok_ ?_))|refine at_go ?_|(with_reducible refine And.intro (at_go ?_) (at_go ?_))|((with_reducible refine And.intro (fun h => ?_) (fun h => ?_)) <;> try (exfalso; omega))|(with_reducible refine And.intro (by first|omega|(simp only [maxLen]; omega)) ?_)|(refine And.intro ⟨[_], rfl⟩ ?_)|(refine And.intro ⟨[], by simp only [List.append_nil]⟩ ?_)|fail|simp (disch := first|omega|(simp only [length_rowsA, length_rowA, length_fls, List.length_set, List.length_reverse, List.length_replicate, List.length_append, List.length_cons, List.length_nil, List.length_map]; omega)) only [push_cast, ↓reduceIte, reduceIte, reduceCtorEq, Nat.reduceAdd, Nat.reduceLT, Nat.reduceEqDiff, Nat.reduceLeDiff, Int.reduceAdd, Int.reduceLT, Int.reduceLE, Nat.reduceMul, b1, b3])
    congr 1
    rw [if_pos ⟨by omega, ik⟩]
theorem chkA_small {i o : Int} {l : List Row} (f : Flt) (hm : machOk i o l = 0) (hl : l.length ≤ 8) : chkA i o l f = if isA i o l f = true then 0 else 1 := by
 rw [chkA, if_neg (by rw [hm]; simp), chkF, edgesOf_len]
 have hi : isF (edgesOf l) i.toNat o.toNat f = isA i o l f := rfl
 rw [hi]
 split
 ·rw [if_neg (by omega)]
 ·rfl
theorem readyM_small {i o : Int} {l : List Row} (ks : List Int) (most : Int) (hm : machOk i o l = 0) (hl : l.length ≤ 8) (h : 0 ≤ most ∧ most < 65537) : readyM i o l ks most = if kindsOk ks = true then 0 else 1 := by
 rw [readyM, if_neg (by rw [hm]; simp)]
 cases kindsOk ks with
 | true => rw [if_neg (by simp), if_neg (by simp; omega), if_neg (by omega)]; rfl
 | false => rfl
theorem readyM_bad {i o : Int} {l : List Row} (ks : List Int) (most : Int) (hm : machOk i o l ≠ 0) : readyM i o l ks most = machOk i o l := by rw [readyM, if_pos hm]
set_option maxRecDepth 100000 in
theorem law5 (i o : Int) (l : List Row) (c : Nat) (f : Flt) (ks : List Int) (d : Nat) (hl : l.length ≤ maxLen) (hkm : ks.length ≤ maxLen) : PC Tryd.prog G0 5 [.agg [.int .i64 i, .int .i64 o, .sl 1 (rowsA l) (some c)], .agg (flA f), .sl 1 (ints ks) (some d)] (.bool true) := by
 have h19 := small19m i o l 1 (some c) (.inr rfl)
 have iR : ∀ p, idsE p (rowsA l) = true := fun p => idsE_rowsA _ _
 have iK : ∀ p, idsE p (ints ks) = true := fun p => idsE_ints _ _
 by_cases hs : l.length ≤ 8 ∧ ∀ j, j < l.length → (l.getD j ([], none)).1.length ≤ 6
 ·rw [if_pos hs] at h19
  by_cases hk20 : ks.length ≤ 20
  ·have hr : ∀ j, j < l.length → (l.getD j ([], none)).1.length ≤ 1000000 := fun j hj => Nat.le_trans (hs.2 j hj) (by decide)
   have hl8 := hs.1
   have h16 := refCheck16 i o l 1 (some c) (.inr rfl) (by omega) hr
   have h12 := apply12P i o l (some c) 1 f i.toNat
   have h22 := all22 i o l 1 (some c) 1 ks (some d) 65536 (.inr rfl) (by omega) hr (.inr rfl) (by omega)
   have h13 := check13 i o l 1 (some c) f (.inr rfl) (by omega) hr
   have h21 := refKinds21 1 ks (some d) (.inr rfl) (by omega)
   have hlv := lives11
   unfold flA at *
   by_cases hm : machOk i o l = 0
   ·obtain ⟨m1, m2, m3, m4, m5⟩ := machOk_zero hm
    have hI6 : i.toNat ≤ 6 := by
     have h1 := m4 0 (by omega)
     have h2 := hs.2 0 (by omega)
     omega
    have hIs := refIs20 i o l (some c) f hm
    have h12 := h12 (.inl (by omega)) (.inr rfl) (by omega) hr
    unfold mA flA at hIs
    unfold flA at h12
    have hsz : kindsOk ks = true → (allF (edgesOf l) i.toNat o.toNat ks).length ≤ 23040 := fun h => by
     have := allF_le (R := edgesOf l) (I := i.toNat) (O := o.toNat) hI6 (by omega) (by rw [edgesOf_len]; omega) ks
     have := kindsOk_len h
     omega
    have hszk : (allF (edgesOf l) i.toNat o.toNat ks).length ≤ 92160 := by
     have := allF_le (R := edgesOf l) (I := i.toNat) (O := o.toNat) hI6 (by omega) (by rw [edgesOf_len]; omega) ks
     omega
    have h17 := count17 i o l 1 (some c) 1 ks (some d) (.inr rfl) (by omega) hr (.inr rfl) (by omega) (by omega)
    unfold allM at h22
    unfold cntM at h17
    unfold appV errMA at h12
    rw [readyM_small ks 65536 hm hl8 (by decide)] at h22
    rw [readyM_small ks 0 hm hl8 (by decide)] at h17
    rw [chkA_small f hm hl8] at h12 h13
    rw [hm] at h16
    have iA : ∀ p, idsE p (rowsA (rowsI (applyR (edgesOf l) f) i.toNat)) = true := fun p => idsE_rowsA _ _
    have iF : ∀ p, idsE p (fls (allF (edgesOf l) i.toNat o.toNat ks)) = true := fun p => idsE_fls _ _
    generalize rowsI (applyR (edgesOf l) f) i.toNat = l2 at *
    generalize (applyR (edgesOf l) f).length = n2 at *
    generalize allF (edgesOf l) i.toNat o.toNat ks = L at *
    cases hi : isA i o l f with
    | true =>
     rw [hi] at hIs h12 h13
     rw [if_pos rfl] at h12 h13
     rw [if_pos rfl] at h12
     cases hko : kindsOk ks with
     | true =>
      rw [hko] at h21 h22 h17
      have := hsz hko
      rw [if_pos rfl, if_neg (by simp), if_neg (by omega)] at h22
      rw [if_pos rfl, if_pos rfl] at h17
      refine pc_go 0 101 [.tmp 6] Tryd.func5 rfl rfl rfl (by simp) ?_
      intro s ⟨a0, a1, a2, hz⟩
      simp only [Nat.zero_add, Nat.reduceAdd] at a1 a2
      clear hz
      repeat' (first|(first|(refine a0_ ?_; first|refine a1_ rfl rfl ?_|refine a2_ rfl ?_|refine a3_ rfl rfl ?_|refine a4_ rfl ?_|refine ak_ rfl rfl ?_|refine a5_ rfl rfl rfl ?_|refine a6_ rfl rfl ?_|refine a7_ rfl rfl ?_|refine a8_ rfl rfl ?_|refine a9_ rfl rfl rfl ?_)|(refine g0_ ?_; first|refine g1_ rfl ?_|refine g2_ rfl rfl ?_|refine go_draw (dr := allQ) rfl rfl mixed (by first|assumption|kernel_rfl) ?_|refine g4_ rfl ?_|refine g5_ rfl ?_|refine g6_ rfl ?_|refine g7_ rfl ?_|refine g8_ rfl ?_|refine ga_ rfl ?_|refine gb_ rfl ?_)|(refine o0_ ?_; first|refine o1_ ?_|refine o2_ ?_|refine o3_ ?_|refine o4_ ?_|refine o5_ ?_|refine o6_ rfl ?_|refine o7_ rfl ?_|refine o8_ ?_|refine o9_ ?_|refine oa_ ?_|refine ob_ ?_|refine oc_ ?_|refine od_ ?_|refine oe_ ?_|refine of_ ?_|refine og_ ?_|refine oh_ ?_|refine oi_ ?_|refine oj_ ?_|refine ok_ ?_))|refine at_go ?_|(with_reducible refine And.intro (at_go ?_) (at_go ?_))|((with_reducible refine And.intro (fun h => ?_) (fun h => ?_)) <;> try (exfalso; omega))|(with_reducible refine And.intro (by first|omega|(simp only [maxLen]; omega)) ?_)|(refine And.intro ⟨[_], rfl⟩ ?_)|(refine And.intro ⟨[], by simp only [List.append_nil]⟩ ?_)|(first|(refine ⟨_, _, pc_lift (h19) (by (simp [idsL, idsE, AV.ids, iR, iK, iA, iF])) _, ?_⟩)|(refine ⟨_, pc_lift (h19) (by (simp [idsL, idsE, AV.ids, iR, iK, iA, iF])) _, ?_⟩)|(refine ⟨_, fun _ => pc_lift (h19) (by (simp [idsL, idsE, AV.ids, iR, iK, iA, iF])) _, ?_⟩)|(refine ⟨_, _, pc_lift (h16) (by (simp [idsL, idsE, AV.ids, iR, iK, iA, iF])) _, ?_⟩)|(refine ⟨_, pc_lift (h16) (by (simp [idsL, idsE, AV.ids, iR, iK, iA, iF])) _, ?_⟩)|(refine ⟨_, fun _ => pc_lift (h16) (by (simp [idsL, idsE, AV.ids, iR, iK, iA, iF])) _, ?_⟩)|(refine ⟨_, _, pc_lift (hIs) (by (simp [idsL, idsE, AV.ids, iR, iK, iA, iF])) _, ?_⟩)|(refine ⟨_, pc_lift (hIs) (by (simp [idsL, idsE, AV.ids, iR, iK, iA, iF])) _, ?_⟩)|(refine ⟨_, fun _ => pc_lift (hIs) (by (simp [idsL, idsE, AV.ids, iR, iK, iA, iF])) _, ?_⟩)|(refine ⟨_, _, pc_lift (h21) (by (simp [idsL, idsE, AV.ids, iR, iK, iA, iF])) _, ?_⟩)|(refine ⟨_, pc_lift (h21) (by (simp [idsL, idsE, AV.ids, iR, iK, iA, iF])) _, ?_⟩)|(refine ⟨_, fun _ => pc_lift (h21) (by (simp [idsL, idsE, AV.ids, iR, iK, iA, iF])) _, ?_⟩)|(refine ⟨_, _, pc_lift (h12) (by (simp [idsL, idsE, AV.ids, iR, iK, iA, iF])) _, ?_⟩)|(refine ⟨_, pc_lift (h12) (by (simp [idsL, idsE, AV.ids, iR, iK, iA, iF])) _, ?_⟩)|(refine ⟨_, fun _ => pc_lift (h12) (by (simp [idsL, idsE, AV.ids, iR, iK, iA, iF])) _, ?_⟩)|(refine ⟨_, _, pc_lift (h22) (by (simp [idsL, idsE, AV.ids, iR, iK, iA, iF])) _, ?_⟩)|(refine ⟨_, pc_lift (h22) (by (simp [idsL, idsE, AV.ids, iR, iK, iA, iF])) _, ?_⟩)|(refine ⟨_, fun _ => pc_lift (h22) (by (simp [idsL, idsE, AV.ids, iR, iK, iA, iF])) _, ?_⟩)|(refine ⟨_, _, pc_lift (h17) (by (simp [idsL, idsE, AV.ids, iR, iK, iA, iF])) _, ?_⟩)|(refine ⟨_, pc_lift (h17) (by (simp [idsL, idsE, AV.ids, iR, iK, iA, iF])) _, ?_⟩)|(refine ⟨_, fun _ => pc_lift (h17) (by (simp [idsL, idsE, AV.ids, iR, iK, iA, iF])) _, ?_⟩)|(refine ⟨_, _, pc_lift (h13) (by (simp [idsL, idsE, AV.ids, iR, iK, iA, iF])) _, ?_⟩)|(refine ⟨_, pc_lift (h13) (by (simp [idsL, idsE, AV.ids, iR, iK, iA, iF])) _, ?_⟩)|(refine ⟨_, fun _ => pc_lift (h13) (by (simp [idsL, idsE, AV.ids, iR, iK, iA, iF])) _, ?_⟩)|(refine ⟨_, _, pc_lift (hlv) (by (simp [idsL, idsE, AV.ids, iR, iK, iA, iF])) _, ?_⟩)|(refine ⟨_, pc_lift (hlv) (by (simp [idsL, idsE, AV.ids, iR, iK, iA, iF])) _, ?_⟩)|(refine ⟨_, fun _ => pc_lift (hlv) (by (simp [idsL, idsE, AV.ids, iR, iK, iA, iF])) _, ?_⟩)|(refine ⟨AV.bool true, ?_⟩; refine acc_id ?_))|simp (disch := first|omega|(simp only [length_rowsA, length_rowA, length_fls, List.length_set, List.length_reverse, List.length_replicate, List.length_append, List.length_cons, List.length_nil, List.length_map]; omega)) only [push_cast, ↓reduceIte, reduceIte, reduceCtorEq, Nat.reduceAdd, Nat.reduceLT, Nat.reduceEqDiff, Nat.reduceLeDiff, Int.reduceAdd, Int.reduceLT, Int.reduceLE, Nat.reduceMul, a0, a1, a2, hk20, Int.reduceEq, Int.reduceLT])
      all_goals (clear h16 hIs h12 h22 h17 h13 h21; done)
     | false =>
      rw [hko] at h21 h22 h17
      simp only [Bool.false_eq_true, if_false] at h22 h17
      rw [if_pos (by decide)] at h22
      rw [if_neg (by decide)] at h17
      refine pc_go 0 101 [.tmp 6] Tryd.func5 rfl rfl rfl (by simp) ?_
      intro s ⟨a0, a1, a2, hz⟩
      simp only [Nat.zero_add, Nat.reduceAdd] at a1 a2
      clear hz
      repeat' (first|(first|(refine a0_ ?_; first|refine a1_ rfl rfl ?_|refine a2_ rfl ?_|refine a3_ rfl rfl ?_|refine a4_ rfl ?_|refine ak_ rfl rfl ?_|refine a5_ rfl rfl rfl ?_|refine a6_ rfl rfl ?_|refine a7_ rfl rfl ?_|refine a8_ rfl rfl ?_|refine a9_ rfl rfl rfl ?_)|(refine g0_ ?_; first|refine g1_ rfl ?_|refine g2_ rfl rfl ?_|refine go_draw (dr := allQ) rfl rfl mixed (by first|assumption|kernel_rfl) ?_|refine g4_ rfl ?_|refine g5_ rfl ?_|refine g6_ rfl ?_|refine g7_ rfl ?_|refine g8_ rfl ?_|refine ga_ rfl ?_|refine gb_ rfl ?_)|(refine o0_ ?_; first|refine o1_ ?_|refine o2_ ?_|refine o3_ ?_|refine o4_ ?_|refine o5_ ?_|refine o6_ rfl ?_|refine o7_ rfl ?_|refine o8_ ?_|refine o9_ ?_|refine oa_ ?_|refine ob_ ?_|refine oc_ ?_|refine od_ ?_|refine oe_ ?_|refine of_ ?_|refine og_ ?_|refine oh_ ?_|refine oi_ ?_|refine oj_ ?_|refine ok_ ?_))|refine at_go ?_|(with_reducible refine And.intro (at_go ?_) (at_go ?_))|((with_reducible refine And.intro (fun h => ?_) (fun h => ?_)) <;> try (exfalso; omega))|(with_reducible refine And.intro (by first|omega|(simp only [maxLen]; omega)) ?_)|(refine And.intro ⟨[_], rfl⟩ ?_)|(refine And.intro ⟨[], by simp only [List.append_nil]⟩ ?_)|(first|(refine ⟨_, _, pc_lift (h19) (by (simp [idsL, idsE, AV.ids, iR, iK, iA, iF])) _, ?_⟩)|(refine ⟨_, pc_lift (h19) (by (simp [idsL, idsE, AV.ids, iR, iK, iA, iF])) _, ?_⟩)|(refine ⟨_, fun _ => pc_lift (h19) (by (simp [idsL, idsE, AV.ids, iR, iK, iA, iF])) _, ?_⟩)|(refine ⟨_, _, pc_lift (h16) (by (simp [idsL, idsE, AV.ids, iR, iK, iA, iF])) _, ?_⟩)|(refine ⟨_, pc_lift (h16) (by (simp [idsL, idsE, AV.ids, iR, iK, iA, iF])) _, ?_⟩)|(refine ⟨_, fun _ => pc_lift (h16) (by (simp [idsL, idsE, AV.ids, iR, iK, iA, iF])) _, ?_⟩)|(refine ⟨_, _, pc_lift (hIs) (by (simp [idsL, idsE, AV.ids, iR, iK, iA, iF])) _, ?_⟩)|(refine ⟨_, pc_lift (hIs) (by (simp [idsL, idsE, AV.ids, iR, iK, iA, iF])) _, ?_⟩)|(refine ⟨_, fun _ => pc_lift (hIs) (by (simp [idsL, idsE, AV.ids, iR, iK, iA, iF])) _, ?_⟩)|(refine ⟨_, _, pc_lift (h21) (by (simp [idsL, idsE, AV.ids, iR, iK, iA, iF])) _, ?_⟩)|(refine ⟨_, pc_lift (h21) (by (simp [idsL, idsE, AV.ids, iR, iK, iA, iF])) _, ?_⟩)|(refine ⟨_, fun _ => pc_lift (h21) (by (simp [idsL, idsE, AV.ids, iR, iK, iA, iF])) _, ?_⟩)|(refine ⟨_, _, pc_lift (h12) (by (simp [idsL, idsE, AV.ids, iR, iK, iA, iF])) _, ?_⟩)|(refine ⟨_, pc_lift (h12) (by (simp [idsL, idsE, AV.ids, iR, iK, iA, iF])) _, ?_⟩)|(refine ⟨_, fun _ => pc_lift (h12) (by (simp [idsL, idsE, AV.ids, iR, iK, iA, iF])) _, ?_⟩)|(refine ⟨_, _, pc_lift (h22) (by (simp [idsL, idsE, AV.ids, iR, iK, iA, iF])) _, ?_⟩)|(refine ⟨_, pc_lift (h22) (by (simp [idsL, idsE, AV.ids, iR, iK, iA, iF])) _, ?_⟩)|(refine ⟨_, fun _ => pc_lift (h22) (by (simp [idsL, idsE, AV.ids, iR, iK, iA, iF])) _, ?_⟩)|(refine ⟨_, _, pc_lift (h17) (by (simp [idsL, idsE, AV.ids, iR, iK, iA, iF])) _, ?_⟩)|(refine ⟨_, pc_lift (h17) (by (simp [idsL, idsE, AV.ids, iR, iK, iA, iF])) _, ?_⟩)|(refine ⟨_, fun _ => pc_lift (h17) (by (simp [idsL, idsE, AV.ids, iR, iK, iA, iF])) _, ?_⟩)|(refine ⟨_, _, pc_lift (h13) (by (simp [idsL, idsE, AV.ids, iR, iK, iA, iF])) _, ?_⟩)|(refine ⟨_, pc_lift (h13) (by (simp [idsL, idsE, AV.ids, iR, iK, iA, iF])) _, ?_⟩)|(refine ⟨_, fun _ => pc_lift (h13) (by (simp [idsL, idsE, AV.ids, iR, iK, iA, iF])) _, ?_⟩)|(refine ⟨_, _, pc_lift (hlv) (by (simp [idsL, idsE, AV.ids, iR, iK, iA, iF])) _, ?_⟩)|(refine ⟨_, pc_lift (hlv) (by (simp [idsL, idsE, AV.ids, iR, iK, iA, iF])) _, ?_⟩)|(refine ⟨_, fun _ => pc_lift (hlv) (by (simp [idsL, idsE, AV.ids, iR, iK, iA, iF])) _, ?_⟩)|(refine ⟨AV.bool true, ?_⟩; refine acc_id ?_))|simp (disch := first|omega|(simp only [length_rowsA, length_rowA, length_fls, List.length_set, List.length_reverse, List.length_replicate, List.length_append, List.length_cons, List.length_nil, List.length_map]; omega)) only [push_cast, ↓reduceIte, reduceIte, reduceCtorEq, Nat.reduceAdd, Nat.reduceLT, Nat.reduceEqDiff, Nat.reduceLeDiff, Int.reduceAdd, Int.reduceLT, Int.reduceLE, Nat.reduceMul, a0, a1, a2, hk20, Int.reduceEq, Int.reduceLT])
      all_goals (clear h16 hIs h12 h22 h17 h13 h21; done)
    | false =>
     rw [hi] at hIs h12 h13
     rw [if_neg (by simp)] at h12 h13
     rw [if_neg (by simp)] at h12
     cases hko : kindsOk ks with
     | true =>
      rw [hko] at h21 h22 h17
      have := hsz hko
      rw [if_pos rfl, if_neg (by simp), if_neg (by omega)] at h22
      rw [if_pos rfl, if_pos rfl] at h17
      refine pc_go 0 101 [.tmp 6] Tryd.func5 rfl rfl rfl (by simp) ?_
      intro s ⟨a0, a1, a2, hz⟩
      simp only [Nat.zero_add, Nat.reduceAdd] at a1 a2
      clear hz
      repeat' (first|(first|(refine a0_ ?_; first|refine a1_ rfl rfl ?_|refine a2_ rfl ?_|refine a3_ rfl rfl ?_|refine a4_ rfl ?_|refine ak_ rfl rfl ?_|refine a5_ rfl rfl rfl ?_|refine a6_ rfl rfl ?_|refine a7_ rfl rfl ?_|refine a8_ rfl rfl ?_|refine a9_ rfl rfl rfl ?_)|(refine g0_ ?_; first|refine g1_ rfl ?_|refine g2_ rfl rfl ?_|refine go_draw (dr := allQ) rfl rfl mixed (by first|assumption|kernel_rfl) ?_|refine g4_ rfl ?_|refine g5_ rfl ?_|refine g6_ rfl ?_|refine g7_ rfl ?_|refine g8_ rfl ?_|refine ga_ rfl ?_|refine gb_ rfl ?_)|(refine o0_ ?_; first|refine o1_ ?_|refine o2_ ?_|refine o3_ ?_|refine o4_ ?_|refine o5_ ?_|refine o6_ rfl ?_|refine o7_ rfl ?_|refine o8_ ?_|refine o9_ ?_|refine oa_ ?_|refine ob_ ?_|refine oc_ ?_|refine od_ ?_|refine oe_ ?_|refine of_ ?_|refine og_ ?_|refine oh_ ?_|refine oi_ ?_|refine oj_ ?_|refine ok_ ?_))|refine at_go ?_|(with_reducible refine And.intro (at_go ?_) (at_go ?_))|((with_reducible refine And.intro (fun h => ?_) (fun h => ?_)) <;> try (exfalso; omega))|(with_reducible refine And.intro (by first|omega|(simp only [maxLen]; omega)) ?_)|(refine And.intro ⟨[_], rfl⟩ ?_)|(refine And.intro ⟨[], by simp only [List.append_nil]⟩ ?_)|(first|(refine ⟨_, _, pc_lift (h19) (by (simp [idsL, idsE, AV.ids, iR, iK, iA, iF])) _, ?_⟩)|(refine ⟨_, pc_lift (h19) (by (simp [idsL, idsE, AV.ids, iR, iK, iA, iF])) _, ?_⟩)|(refine ⟨_, fun _ => pc_lift (h19) (by (simp [idsL, idsE, AV.ids, iR, iK, iA, iF])) _, ?_⟩)|(refine ⟨_, _, pc_lift (h16) (by (simp [idsL, idsE, AV.ids, iR, iK, iA, iF])) _, ?_⟩)|(refine ⟨_, pc_lift (h16) (by (simp [idsL, idsE, AV.ids, iR, iK, iA, iF])) _, ?_⟩)|(refine ⟨_, fun _ => pc_lift (h16) (by (simp [idsL, idsE, AV.ids, iR, iK, iA, iF])) _, ?_⟩)|(refine ⟨_, _, pc_lift (hIs) (by (simp [idsL, idsE, AV.ids, iR, iK, iA, iF])) _, ?_⟩)|(refine ⟨_, pc_lift (hIs) (by (simp [idsL, idsE, AV.ids, iR, iK, iA, iF])) _, ?_⟩)|(refine ⟨_, fun _ => pc_lift (hIs) (by (simp [idsL, idsE, AV.ids, iR, iK, iA, iF])) _, ?_⟩)|(refine ⟨_, _, pc_lift (h21) (by (simp [idsL, idsE, AV.ids, iR, iK, iA, iF])) _, ?_⟩)|(refine ⟨_, pc_lift (h21) (by (simp [idsL, idsE, AV.ids, iR, iK, iA, iF])) _, ?_⟩)|(refine ⟨_, fun _ => pc_lift (h21) (by (simp [idsL, idsE, AV.ids, iR, iK, iA, iF])) _, ?_⟩)|(refine ⟨_, _, pc_lift (h12) (by (simp [idsL, idsE, AV.ids, iR, iK, iA, iF])) _, ?_⟩)|(refine ⟨_, pc_lift (h12) (by (simp [idsL, idsE, AV.ids, iR, iK, iA, iF])) _, ?_⟩)|(refine ⟨_, fun _ => pc_lift (h12) (by (simp [idsL, idsE, AV.ids, iR, iK, iA, iF])) _, ?_⟩)|(refine ⟨_, _, pc_lift (h22) (by (simp [idsL, idsE, AV.ids, iR, iK, iA, iF])) _, ?_⟩)|(refine ⟨_, pc_lift (h22) (by (simp [idsL, idsE, AV.ids, iR, iK, iA, iF])) _, ?_⟩)|(refine ⟨_, fun _ => pc_lift (h22) (by (simp [idsL, idsE, AV.ids, iR, iK, iA, iF])) _, ?_⟩)|(refine ⟨_, _, pc_lift (h17) (by (simp [idsL, idsE, AV.ids, iR, iK, iA, iF])) _, ?_⟩)|(refine ⟨_, pc_lift (h17) (by (simp [idsL, idsE, AV.ids, iR, iK, iA, iF])) _, ?_⟩)|(refine ⟨_, fun _ => pc_lift (h17) (by (simp [idsL, idsE, AV.ids, iR, iK, iA, iF])) _, ?_⟩)|(refine ⟨_, _, pc_lift (h13) (by (simp [idsL, idsE, AV.ids, iR, iK, iA, iF])) _, ?_⟩)|(refine ⟨_, pc_lift (h13) (by (simp [idsL, idsE, AV.ids, iR, iK, iA, iF])) _, ?_⟩)|(refine ⟨_, fun _ => pc_lift (h13) (by (simp [idsL, idsE, AV.ids, iR, iK, iA, iF])) _, ?_⟩)|(refine ⟨_, _, pc_lift (hlv) (by (simp [idsL, idsE, AV.ids, iR, iK, iA, iF])) _, ?_⟩)|(refine ⟨_, pc_lift (hlv) (by (simp [idsL, idsE, AV.ids, iR, iK, iA, iF])) _, ?_⟩)|(refine ⟨_, fun _ => pc_lift (hlv) (by (simp [idsL, idsE, AV.ids, iR, iK, iA, iF])) _, ?_⟩)|(refine ⟨AV.bool true, ?_⟩; refine acc_id ?_))|simp (disch := first|omega|(simp only [length_rowsA, length_rowA, length_fls, List.length_set, List.length_reverse, List.length_replicate, List.length_append, List.length_cons, List.length_nil, List.length_map]; omega)) only [push_cast, ↓reduceIte, reduceIte, reduceCtorEq, Nat.reduceAdd, Nat.reduceLT, Nat.reduceEqDiff, Nat.reduceLeDiff, Int.reduceAdd, Int.reduceLT, Int.reduceLE, Nat.reduceMul, a0, a1, a2, hk20, Int.reduceEq, Int.reduceLT])
      all_goals (clear h16 hIs h12 h22 h17 h13 h21; done)
     | false =>
      rw [hko] at h21 h22 h17
      simp only [Bool.false_eq_true, if_false] at h22 h17
      rw [if_pos (by decide)] at h22
      rw [if_neg (by decide)] at h17
      refine pc_go 0 101 [.tmp 6] Tryd.func5 rfl rfl rfl (by simp) ?_
      intro s ⟨a0, a1, a2, hz⟩
      simp only [Nat.zero_add, Nat.reduceAdd] at a1 a2
      clear hz
      repeat' (first|(first|(refine a0_ ?_; first|refine a1_ rfl rfl ?_|refine a2_ rfl ?_|refine a3_ rfl rfl ?_|refine a4_ rfl ?_|refine ak_ rfl rfl ?_|refine a5_ rfl rfl rfl ?_|refine a6_ rfl rfl ?_|refine a7_ rfl rfl ?_|refine a8_ rfl rfl ?_|refine a9_ rfl rfl rfl ?_)|(refine g0_ ?_; first|refine g1_ rfl ?_|refine g2_ rfl rfl ?_|refine go_draw (dr := allQ) rfl rfl mixed (by first|assumption|kernel_rfl) ?_|refine g4_ rfl ?_|refine g5_ rfl ?_|refine g6_ rfl ?_|refine g7_ rfl ?_|refine g8_ rfl ?_|refine ga_ rfl ?_|refine gb_ rfl ?_)|(refine o0_ ?_; first|refine o1_ ?_|refine o2_ ?_|refine o3_ ?_|refine o4_ ?_|refine o5_ ?_|refine o6_ rfl ?_|refine o7_ rfl ?_|refine o8_ ?_|refine o9_ ?_|refine oa_ ?_|refine ob_ ?_|refine oc_ ?_|refine od_ ?_|refine oe_ ?_|refine of_ ?_|refine og_ ?_|refine oh_ ?_|refine oi_ ?_|refine oj_ ?_|refine ok_ ?_))|refine at_go ?_|(with_reducible refine And.intro (at_go ?_) (at_go ?_))|((with_reducible refine And.intro (fun h => ?_) (fun h => ?_)) <;> try (exfalso; omega))|(with_reducible refine And.intro (by first|omega|(simp only [maxLen]; omega)) ?_)|(refine And.intro ⟨[_], rfl⟩ ?_)|(refine And.intro ⟨[], by simp only [List.append_nil]⟩ ?_)|(first|(refine ⟨_, _, pc_lift (h19) (by (simp [idsL, idsE, AV.ids, iR, iK, iA, iF])) _, ?_⟩)|(refine ⟨_, pc_lift (h19) (by (simp [idsL, idsE, AV.ids, iR, iK, iA, iF])) _, ?_⟩)|(refine ⟨_, fun _ => pc_lift (h19) (by (simp [idsL, idsE, AV.ids, iR, iK, iA, iF])) _, ?_⟩)|(refine ⟨_, _, pc_lift (h16) (by (simp [idsL, idsE, AV.ids, iR, iK, iA, iF])) _, ?_⟩)|(refine ⟨_, pc_lift (h16) (by (simp [idsL, idsE, AV.ids, iR, iK, iA, iF])) _, ?_⟩)|(refine ⟨_, fun _ => pc_lift (h16) (by (simp [idsL, idsE, AV.ids, iR, iK, iA, iF])) _, ?_⟩)|(refine ⟨_, _, pc_lift (hIs) (by (simp [idsL, idsE, AV.ids, iR, iK, iA, iF])) _, ?_⟩)|(refine ⟨_, pc_lift (hIs) (by (simp [idsL, idsE, AV.ids, iR, iK, iA, iF])) _, ?_⟩)|(refine ⟨_, fun _ => pc_lift (hIs) (by (simp [idsL, idsE, AV.ids, iR, iK, iA, iF])) _, ?_⟩)|(refine ⟨_, _, pc_lift (h21) (by (simp [idsL, idsE, AV.ids, iR, iK, iA, iF])) _, ?_⟩)|(refine ⟨_, pc_lift (h21) (by (simp [idsL, idsE, AV.ids, iR, iK, iA, iF])) _, ?_⟩)|(refine ⟨_, fun _ => pc_lift (h21) (by (simp [idsL, idsE, AV.ids, iR, iK, iA, iF])) _, ?_⟩)|(refine ⟨_, _, pc_lift (h12) (by (simp [idsL, idsE, AV.ids, iR, iK, iA, iF])) _, ?_⟩)|(refine ⟨_, pc_lift (h12) (by (simp [idsL, idsE, AV.ids, iR, iK, iA, iF])) _, ?_⟩)|(refine ⟨_, fun _ => pc_lift (h12) (by (simp [idsL, idsE, AV.ids, iR, iK, iA, iF])) _, ?_⟩)|(refine ⟨_, _, pc_lift (h22) (by (simp [idsL, idsE, AV.ids, iR, iK, iA, iF])) _, ?_⟩)|(refine ⟨_, pc_lift (h22) (by (simp [idsL, idsE, AV.ids, iR, iK, iA, iF])) _, ?_⟩)|(refine ⟨_, fun _ => pc_lift (h22) (by (simp [idsL, idsE, AV.ids, iR, iK, iA, iF])) _, ?_⟩)|(refine ⟨_, _, pc_lift (h17) (by (simp [idsL, idsE, AV.ids, iR, iK, iA, iF])) _, ?_⟩)|(refine ⟨_, pc_lift (h17) (by (simp [idsL, idsE, AV.ids, iR, iK, iA, iF])) _, ?_⟩)|(refine ⟨_, fun _ => pc_lift (h17) (by (simp [idsL, idsE, AV.ids, iR, iK, iA, iF])) _, ?_⟩)|(refine ⟨_, _, pc_lift (h13) (by (simp [idsL, idsE, AV.ids, iR, iK, iA, iF])) _, ?_⟩)|(refine ⟨_, pc_lift (h13) (by (simp [idsL, idsE, AV.ids, iR, iK, iA, iF])) _, ?_⟩)|(refine ⟨_, fun _ => pc_lift (h13) (by (simp [idsL, idsE, AV.ids, iR, iK, iA, iF])) _, ?_⟩)|(refine ⟨_, _, pc_lift (hlv) (by (simp [idsL, idsE, AV.ids, iR, iK, iA, iF])) _, ?_⟩)|(refine ⟨_, pc_lift (hlv) (by (simp [idsL, idsE, AV.ids, iR, iK, iA, iF])) _, ?_⟩)|(refine ⟨_, fun _ => pc_lift (hlv) (by (simp [idsL, idsE, AV.ids, iR, iK, iA, iF])) _, ?_⟩)|(refine ⟨AV.bool true, ?_⟩; refine acc_id ?_))|simp (disch := first|omega|(simp only [length_rowsA, length_rowA, length_fls, List.length_set, List.length_reverse, List.length_replicate, List.length_append, List.length_cons, List.length_nil, List.length_map]; omega)) only [push_cast, ↓reduceIte, reduceIte, reduceCtorEq, Nat.reduceAdd, Nat.reduceLT, Nat.reduceEqDiff, Nat.reduceLeDiff, Int.reduceAdd, Int.reduceLT, Int.reduceLE, Nat.reduceMul, a0, a1, a2, hk20, Int.reduceEq, Int.reduceLT])
      all_goals (clear h16 hIs h12 h22 h17 h13 h21; done)
   ·have hck : chkA i o l f = machOk i o l := by rw [chkA, if_pos hm]
    have h12 := h12 (.inr (by rw [hck]; exact hm)) (.inr rfl) (by omega) hr
    unfold flA at h12
    have h17 : PC Tryd.prog G0 17 [.agg [.int .i64 i, .int .i64 o, .sl 1 (rowsA l) (some c)], .sl 1 (ints ks) (some d)] (.tup [.int .i64 0, .int .i64 (machOk i o l)]) := by
     have hR := ready40 i o l 1 (some c) 1 ks (some d) 0 (.inr rfl) (by omega) hr (.inr rfl) (by omega)
     rw [readyM_bad ks 0 hm] at hR
     generalize machOk i o l = e at *
     refine pc_go 1 21 [.tmp 4, .tmp 5] Tryd.func17 rfl rfl rfl (by simp) ?_
     intro s ⟨a0, a1, hz⟩
     simp only [Nat.zero_add, Nat.reduceAdd] at a1
     clear hz
     repeat' (first|(first|(refine a0_ ?_; first|refine a1_ rfl rfl ?_|refine a2_ rfl ?_|refine a3_ rfl rfl ?_|refine a4_ rfl ?_|refine ak_ rfl rfl ?_|refine a5_ rfl rfl rfl ?_|refine a6_ rfl rfl ?_|refine a7_ rfl rfl ?_|refine a8_ rfl rfl ?_|refine a9_ rfl rfl rfl ?_)|(refine g0_ ?_; first|refine g1_ rfl ?_|refine g2_ rfl rfl ?_|refine go_draw (dr := allQ) rfl rfl mixed (by first|assumption|kernel_rfl) ?_|refine g4_ rfl ?_|refine g5_ rfl ?_|refine g6_ rfl ?_|refine g7_ rfl ?_|refine g8_ rfl ?_|refine ga_ rfl ?_|refine gb_ rfl ?_)|(refine o0_ ?_; first|refine o1_ ?_|refine o2_ ?_|refine o3_ ?_|refine o4_ ?_|refine o5_ ?_|refine o6_ rfl ?_|refine o7_ rfl ?_|refine o8_ ?_|refine o9_ ?_|refine oa_ ?_|refine ob_ ?_|refine oc_ ?_|refine od_ ?_|refine oe_ ?_|refine of_ ?_|refine og_ ?_|refine oh_ ?_|refine oi_ ?_|refine oj_ ?_|refine ok_ ?_))|refine at_go ?_|(with_reducible refine And.intro (at_go ?_) (at_go ?_))|((with_reducible refine And.intro (fun h => ?_) (fun h => ?_)) <;> try (exfalso; omega))|(with_reducible refine And.intro (by first|omega|(simp only [maxLen]; omega)) ?_)|(refine And.intro ⟨[_], rfl⟩ ?_)|(refine And.intro ⟨[], by simp only [List.append_nil]⟩ ?_)|(first|(refine ⟨_, _, pc_lift (hR) (by (simp [idsL, idsE, AV.ids, iR, iK])) _, ?_⟩)|(refine ⟨_, pc_lift (hR) (by (simp [idsL, idsE, AV.ids, iR, iK])) _, ?_⟩)|(refine ⟨_, fun _ => pc_lift (hR) (by (simp [idsL, idsE, AV.ids, iR, iK])) _, ?_⟩))|simp (disch := first|omega|(simp only [length_rowsA, length_rowA, length_fls, List.length_set, List.length_reverse, List.length_replicate, List.length_append, List.length_cons, List.length_nil, List.length_map]; omega)) only [push_cast, ↓reduceIte, reduceIte, reduceCtorEq, Nat.reduceAdd, Nat.reduceLT, Nat.reduceEqDiff, Nat.reduceLeDiff, Int.reduceAdd, Int.reduceLT, Int.reduceLE, Nat.reduceMul, a0, a1, hm])
    unfold allM at h22
    unfold appV errMA at h12
    rw [readyM_bad ks 65536 hm, if_pos hm] at h22
    rw [hck] at h12 h13
    rw [if_neg hm] at h12
    have hIs : True := trivial
    have iA : True := trivial
    have iF : True := trivial
    generalize machOk i o l = e at *
    have hlen : ks.length ≤ 20 := hk20
    refine pc_go 0 101 [.tmp 6] Tryd.func5 rfl rfl rfl (by simp) ?_
    intro s ⟨a0, a1, a2, hz⟩
    simp only [Nat.zero_add, Nat.reduceAdd] at a1 a2
    clear hz
    repeat' (first|(first|(refine a0_ ?_; first|refine a1_ rfl rfl ?_|refine a2_ rfl ?_|refine a3_ rfl rfl ?_|refine a4_ rfl ?_|refine ak_ rfl rfl ?_|refine a5_ rfl rfl rfl ?_|refine a6_ rfl rfl ?_|refine a7_ rfl rfl ?_|refine a8_ rfl rfl ?_|refine a9_ rfl rfl rfl ?_)|(refine g0_ ?_; first|refine g1_ rfl ?_|refine g2_ rfl rfl ?_|refine go_draw (dr := allQ) rfl rfl mixed (by first|assumption|kernel_rfl) ?_|refine g4_ rfl ?_|refine g5_ rfl ?_|refine g6_ rfl ?_|refine g7_ rfl ?_|refine g8_ rfl ?_|refine ga_ rfl ?_|refine gb_ rfl ?_)|(refine o0_ ?_; first|refine o1_ ?_|refine o2_ ?_|refine o3_ ?_|refine o4_ ?_|refine o5_ ?_|refine o6_ rfl ?_|refine o7_ rfl ?_|refine o8_ ?_|refine o9_ ?_|refine oa_ ?_|refine ob_ ?_|refine oc_ ?_|refine od_ ?_|refine oe_ ?_|refine of_ ?_|refine og_ ?_|refine oh_ ?_|refine oi_ ?_|refine oj_ ?_|refine ok_ ?_))|refine at_go ?_|(with_reducible refine And.intro (at_go ?_) (at_go ?_))|((with_reducible refine And.intro (fun h => ?_) (fun h => ?_)) <;> try (exfalso; omega))|(with_reducible refine And.intro (by first|omega|(simp only [maxLen]; omega)) ?_)|(refine And.intro ⟨[_], rfl⟩ ?_)|(refine And.intro ⟨[], by simp only [List.append_nil]⟩ ?_)|(first|(refine ⟨_, _, pc_lift (h19) (by (simp [idsL, idsE, AV.ids, iR, iK])) _, ?_⟩)|(refine ⟨_, pc_lift (h19) (by (simp [idsL, idsE, AV.ids, iR, iK])) _, ?_⟩)|(refine ⟨_, fun _ => pc_lift (h19) (by (simp [idsL, idsE, AV.ids, iR, iK])) _, ?_⟩)|(refine ⟨_, _, pc_lift (h16) (by (simp [idsL, idsE, AV.ids, iR, iK])) _, ?_⟩)|(refine ⟨_, pc_lift (h16) (by (simp [idsL, idsE, AV.ids, iR, iK])) _, ?_⟩)|(refine ⟨_, fun _ => pc_lift (h16) (by (simp [idsL, idsE, AV.ids, iR, iK])) _, ?_⟩)|(refine ⟨_, _, pc_lift (h12) (by (simp [idsL, idsE, AV.ids, iR, iK])) _, ?_⟩)|(refine ⟨_, pc_lift (h12) (by (simp [idsL, idsE, AV.ids, iR, iK])) _, ?_⟩)|(refine ⟨_, fun _ => pc_lift (h12) (by (simp [idsL, idsE, AV.ids, iR, iK])) _, ?_⟩)|(refine ⟨_, _, pc_lift (h22) (by (simp [idsL, idsE, AV.ids, iR, iK])) _, ?_⟩)|(refine ⟨_, pc_lift (h22) (by (simp [idsL, idsE, AV.ids, iR, iK])) _, ?_⟩)|(refine ⟨_, fun _ => pc_lift (h22) (by (simp [idsL, idsE, AV.ids, iR, iK])) _, ?_⟩)|(refine ⟨_, _, pc_lift (h17) (by (simp [idsL, idsE, AV.ids, iR, iK])) _, ?_⟩)|(refine ⟨_, pc_lift (h17) (by (simp [idsL, idsE, AV.ids, iR, iK])) _, ?_⟩)|(refine ⟨_, fun _ => pc_lift (h17) (by (simp [idsL, idsE, AV.ids, iR, iK])) _, ?_⟩)|(refine ⟨_, _, pc_lift (h13) (by (simp [idsL, idsE, AV.ids, iR, iK])) _, ?_⟩)|(refine ⟨_, pc_lift (h13) (by (simp [idsL, idsE, AV.ids, iR, iK])) _, ?_⟩)|(refine ⟨_, fun _ => pc_lift (h13) (by (simp [idsL, idsE, AV.ids, iR, iK])) _, ?_⟩)|(refine ⟨_, _, pc_lift (hlv) (by (simp [idsL, idsE, AV.ids, iR, iK])) _, ?_⟩)|(refine ⟨_, pc_lift (hlv) (by (simp [idsL, idsE, AV.ids, iR, iK])) _, ?_⟩)|(refine ⟨_, fun _ => pc_lift (hlv) (by (simp [idsL, idsE, AV.ids, iR, iK])) _, ?_⟩)|(refine ⟨AV.bool true, ?_⟩; refine acc_id ?_))|simp (disch := first|omega|(simp only [length_rowsA, length_rowA, length_fls, List.length_set, List.length_reverse, List.length_replicate, List.length_append, List.length_cons, List.length_nil, List.length_map]; omega)) only [push_cast, ↓reduceIte, reduceIte, reduceCtorEq, Nat.reduceAdd, Nat.reduceLT, Nat.reduceEqDiff, Nat.reduceLeDiff, Int.reduceAdd, Int.reduceLT, Int.reduceLE, Nat.reduceMul, a0, a1, a2, hm, hlen, Int.reduceEq])
    all_goals (clear h16 h12 h22 h17 h13; done)
  ·refine pc_go 0 101 [.tmp 6] Tryd.func5 rfl rfl rfl (by simp) ?_
   intro s ⟨a0, a1, a2, hz⟩
   simp only [Nat.zero_add, Nat.reduceAdd] at a1 a2
   clear hz
   repeat' (first|(first|(refine a0_ ?_; first|refine a1_ rfl rfl ?_|refine a2_ rfl ?_|refine a3_ rfl rfl ?_|refine a4_ rfl ?_|refine ak_ rfl rfl ?_|refine a5_ rfl rfl rfl ?_|refine a6_ rfl rfl ?_|refine a7_ rfl rfl ?_|refine a8_ rfl rfl ?_|refine a9_ rfl rfl rfl ?_)|(refine g0_ ?_; first|refine g1_ rfl ?_|refine g2_ rfl rfl ?_|refine go_draw (dr := allQ) rfl rfl mixed (by first|assumption|kernel_rfl) ?_|refine g4_ rfl ?_|refine g5_ rfl ?_|refine g6_ rfl ?_|refine g7_ rfl ?_|refine g8_ rfl ?_|refine ga_ rfl ?_|refine gb_ rfl ?_)|(refine o0_ ?_; first|refine o1_ ?_|refine o2_ ?_|refine o3_ ?_|refine o4_ ?_|refine o5_ ?_|refine o6_ rfl ?_|refine o7_ rfl ?_|refine o8_ ?_|refine o9_ ?_|refine oa_ ?_|refine ob_ ?_|refine oc_ ?_|refine od_ ?_|refine oe_ ?_|refine of_ ?_|refine og_ ?_|refine oh_ ?_|refine oi_ ?_|refine oj_ ?_|refine ok_ ?_))|refine at_go ?_|(with_reducible refine And.intro (at_go ?_) (at_go ?_))|((with_reducible refine And.intro (fun h => ?_) (fun h => ?_)) <;> try (exfalso; omega))|(with_reducible refine And.intro (by first|omega|(simp only [maxLen]; omega)) ?_)|(refine And.intro ⟨[_], rfl⟩ ?_)|(refine And.intro ⟨[], by simp only [List.append_nil]⟩ ?_)|(first|(refine ⟨_, _, pc_lift (h19) (by (simp [idsL, idsE, AV.ids, iR, iK])) _, ?_⟩)|(refine ⟨_, pc_lift (h19) (by (simp [idsL, idsE, AV.ids, iR, iK])) _, ?_⟩)|(refine ⟨_, fun _ => pc_lift (h19) (by (simp [idsL, idsE, AV.ids, iR, iK])) _, ?_⟩))|simp (disch := first|omega|(simp only [length_rowsA, length_rowA, length_fls, List.length_set, List.length_reverse, List.length_replicate, List.length_append, List.length_cons, List.length_nil, List.length_map]; omega)) only [push_cast, ↓reduceIte, reduceIte, reduceCtorEq, Nat.reduceAdd, Nat.reduceLT, Nat.reduceEqDiff, Nat.reduceLeDiff, Int.reduceAdd, Int.reduceLT, Int.reduceLE, Nat.reduceMul, a0, a1, a2, hk20, Int.reduceEq])
   all_goals (clear h19; done)
 ·rw [if_neg hs] at h19
  refine pc_go 0 101 [.tmp 6] Tryd.func5 rfl rfl rfl (by simp) ?_
  intro s ⟨a0, a1, a2, hz⟩
  simp only [Nat.zero_add, Nat.reduceAdd] at a1 a2
  clear hz
  repeat' (first|(first|(refine a0_ ?_; first|refine a1_ rfl rfl ?_|refine a2_ rfl ?_|refine a3_ rfl rfl ?_|refine a4_ rfl ?_|refine ak_ rfl rfl ?_|refine a5_ rfl rfl rfl ?_|refine a6_ rfl rfl ?_|refine a7_ rfl rfl ?_|refine a8_ rfl rfl ?_|refine a9_ rfl rfl rfl ?_)|(refine g0_ ?_; first|refine g1_ rfl ?_|refine g2_ rfl rfl ?_|refine go_draw (dr := allQ) rfl rfl mixed (by first|assumption|kernel_rfl) ?_|refine g4_ rfl ?_|refine g5_ rfl ?_|refine g6_ rfl ?_|refine g7_ rfl ?_|refine g8_ rfl ?_|refine ga_ rfl ?_|refine gb_ rfl ?_)|(refine o0_ ?_; first|refine o1_ ?_|refine o2_ ?_|refine o3_ ?_|refine o4_ ?_|refine o5_ ?_|refine o6_ rfl ?_|refine o7_ rfl ?_|refine o8_ ?_|refine o9_ ?_|refine oa_ ?_|refine ob_ ?_|refine oc_ ?_|refine od_ ?_|refine oe_ ?_|refine of_ ?_|refine og_ ?_|refine oh_ ?_|refine oi_ ?_|refine oj_ ?_|refine ok_ ?_))|refine at_go ?_|(with_reducible refine And.intro (at_go ?_) (at_go ?_))|((with_reducible refine And.intro (fun h => ?_) (fun h => ?_)) <;> try (exfalso; omega))|(with_reducible refine And.intro (by first|omega|(simp only [maxLen]; omega)) ?_)|(refine And.intro ⟨[_], rfl⟩ ?_)|(refine And.intro ⟨[], by simp only [List.append_nil]⟩ ?_)|(first|(refine ⟨_, _, pc_lift (h19) (by (simp [idsL, idsE, AV.ids, iR, iK])) _, ?_⟩)|(refine ⟨_, pc_lift (h19) (by (simp [idsL, idsE, AV.ids, iR, iK])) _, ?_⟩)|(refine ⟨_, fun _ => pc_lift (h19) (by (simp [idsL, idsE, AV.ids, iR, iK])) _, ?_⟩)|(refine ⟨AV.bool true, ?_⟩; refine acc_id ?_))|simp (disch := first|omega|(simp only [length_rowsA, length_rowA, length_fls, List.length_set, List.length_reverse, List.length_replicate, List.length_append, List.length_cons, List.length_nil, List.length_map]; omega)) only [push_cast, ↓reduceIte, reduceIte, reduceCtorEq, Nat.reduceAdd, Nat.reduceLT, Nat.reduceEqDiff, Nat.reduceLeDiff, Int.reduceAdd, Int.reduceLT, Int.reduceLE, Nat.reduceMul, a0, a1, a2, Int.reduceEq])
  all_goals (clear h19; done)
end Go.Proofs
