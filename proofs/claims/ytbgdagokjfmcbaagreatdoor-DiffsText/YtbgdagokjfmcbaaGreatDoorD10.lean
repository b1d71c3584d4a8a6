import Derived.Test.YtbgdagokjfmcbaaGreatDoorD5
namespace Go.Proofs
open Go Go.V
set_option linter.unusedVariables false
set_option linter.unusedSimpArgs false
set_option maxHeartbeats 0
def diffAt (l r : List Row) (s i : Nat) : Ed := ⟨s, i, edgeM l s i, edgeM r s i⟩
def differs (x : Ed) : Bool := !(decide (x.old.1 = x.new.1) && decide (x.old.2 = x.new.2))
def diffRow (l r : List Row) (I s : Nat) : List Ed := ((List.range I).map (diffAt l r s)).filter differs
def diffEds (l r : List Row) (S I : Nat) : List Ed := (List.range S).flatMap (diffRow l r I)
theorem diffRow_succ (l r : List Row) (I s : Nat) : diffRow l r (I + 1) s = diffRow l r I s ++ bif differs (diffAt l r s I) then [diffAt l r s I] else [] := by
 rw [diffRow, List.range_succ, List.map_append, List.filter_append]
 simp only [List.map_cons, List.map_nil, List.filter_cons, List.filter_nil]
 cases differs (diffAt l r s I) <;> rfl
theorem diffEds_succ (l r : List Row) (S I : Nat) : diffEds l r (S + 1) I = diffEds l r S I ++ diffRow l r I S := by
 rw [diffEds, List.range_succ, List.flatMap_append]; simp [diffEds]
theorem length_diffRow (l r : List Row) (I s : Nat) : (diffRow l r I s).length ≤ I := by
 have := List.length_filter_le differs ((List.range I).map (diffAt l r s))
 simpa [diffRow] using this
theorem length_diffEds (l r : List Row) (S I : Nat) : (diffEds l r S I).length ≤ S * I := by
 induction S with
 | zero => simp [diffEds]
 | succ S ih =>
  rw [diffEds_succ, List.length_append, Nat.succ_mul]
  have := length_diffRow l r I S
  omega
def accE (l r : List Row) (I k j : Nat) : List Ed := diffEds l r k I ++ diffRow l r j k
theorem accE_zero (l r : List Row) (I k : Nat) : accE l r I k 0 = diffEds l r k I := by simp [accE, diffRow]
theorem accE_full (l r : List Row) (I k : Nat) : accE l r I k I = diffEds l r (k + 1) I := by rw [accE, diffEds_succ]
theorem accE_succ (l r : List Row) (I k j : Nat) : accE l r I k (j + 1) = accE l r I k j ++ bif differs (diffAt l r k j) then [diffAt l r k j] else [] := by rw [accE, diffRow_succ, ← List.append_assoc]; rfl
theorem length_accE (l r : List Row) (I k j : Nat) (hI : I ≤ 1000) (hk : k ≤ 1000) (hj : j ≤ I) : (accE l r I k j).length ≤ 2000000 := by
 rw [accE, List.length_append]
 have h1 := length_diffEds l r k I
 have h2 := length_diffRow l r j k
 have h3 : k * I ≤ 1000 * 1000 := Nat.mul_le_mul hk hI
 omega
def diffM (i o : Int) (l : List Row) (o' : Int) (r : List Row) : Pt := ⟨i, o, o', l.length, r.length, diffEds l r (max l.length r.length) i.toNat⟩
def Wide (i : Int) (l : List Row) : Prop := ∀ s, s < l.length → ((l.getD s ([], none)).1.length : Int) = i
theorem Wide.len {i : Int} {l : List Row} (h : Wide i l) (s k : Nat) (hk : (k : Int) < i) : (s : Int) < l.length → (k : Int) < rowLen l s := fun hs => by
 have := h s (by omega)
 unfold rowLen
 rw [Int.toNat_natCast]
 omega
set_option maxRecDepth 100000 in
theorem refDiff13 (i o : Int) (l : List Row) (c : Option Nat) (i' o' : Int) (r : List Row) (d : Option Nat) (hi : 0 ≤ i ∧ i ≤ 1000) (hl : l.length ≤ 1000) (hr : r.length ≤ 1000) (wl : Wide i l) (wr : Wide i r) : PC Tryz.prog G0 6 [mA i o l c, mA i' o' r d] (pA (diffM i o l o' r) 6 none) := by
 unfold mA pA
 refine pc_go 1 66 [.cell 4 36] Tryz.func6 rfl rfl rfl (by simp) ?_
 intro s ⟨a0, a1, hz⟩
 simp only [Nat.zero_add, Nat.reduceAdd] at a1
 clear hz
 repeat' (first|(first|(refine a0_ ?_; first|refine a1_ rfl rfl ?_|refine a2_ rfl ?_|refine a3_ rfl rfl ?_|refine a4_ rfl ?_|refine a5_ rfl rfl rfl ?_|refine a6_ rfl rfl ?_)|(refine g0_ ?_; first|refine g1_ rfl ?_|refine g2_ rfl rfl ?_|refine go_draw (dr := allQ) rfl rfl mixed (by first|assumption|kernel_rfl) ?_|refine g4_ rfl ?_|refine g5_ rfl ?_|refine g6_ rfl ?_|refine g7_ rfl ?_|refine g8_ rfl ?_)|(refine o0_ ?_; first|refine o1_ ?_|refine o2_ ?_|refine o3_ ?_|refine o4_ ?_|refine o5_ ?_|refine o6_ rfl ?_|refine o7_ rfl ?_|refine o8_ ?_|refine o9_ ?_|refine oa_ ?_|refine ob_ ?_|refine oc_ ?_|refine od_ ?_|refine oe_ ?_|refine of_ ?_|refine og_ ?_))|refine at_go ?_|(with_reducible refine And.intro (at_go ?_) (at_go ?_))|((with_reducible refine And.intro (fun h => ?_) (fun h => ?_)) <;> try (exfalso; omega))|(with_reducible refine And.intro (by first|omega|(simp only [maxLen]; omega)) ?_)|fail|simp (disch := first|omega|(simp only [length_edsA, length_rowsA, length_rowA, List.length_set, List.length_reverse, List.length_replicate, List.length_append, List.length_cons, List.length_nil, List.length_map]; omega)) only [push_cast, ↓reduceIte, reduceIte, reduceCtorEq, Nat.reduceAdd, Nat.reduceLT, Nat.reduceEqDiff, Nat.reduceLeDiff, Int.reduceAdd, Int.reduceLT, Int.reduceLE, Nat.reduceMul, a0, a1])
 refine go_loop rfl (fun mz s' H' => ∃ k : Nat, k ≤ (max l.length r.length) ∧ mz = (max l.length r.length) - k ∧ H' = [.row 3 30 [[.int .i64 i, .int .i64 o, .sl 1 (rowsA l) c]], .row 3 30 [[.int .i64 i', .int .i64 o', .sl 1 (rowsA r) d]], .row 6 36 [[.int .i64 0, .int .i64 0, .int .i64 0, .int .i64 0, .int .i64 0, .sl 0 [] (some 0)]], .row 6 36 [[.int .i64 i, .int .i64 o, .int .i64 o', .int .i64 l.length, .int .i64 r.length, .own 4 (diffEds l r k i.toNat).length (diffEds l r k i.toNat).length none]], .row 6 61 (edsA (diffEds l r k i.toNat))] ∧ s' 2 = .ptr 0 0 0 1 ∧ s' 3 = .ptr 1 0 0 1 ∧ s' 4 = .ptr 2 0 0 1 ∧ s' 5 = .ptr 3 0 0 1 ∧ s' 6 = .int .i64 k) (m := (max l.length r.length)) (by (first|trivial|((repeat' apply And.intro) <;> first|trivial|assumption|omega|(simp only [maxLen]; omega)|(simp only [length_edsA, length_rowsA, length_rowA, List.length_replicate, List.length_append, List.length_cons, List.length_nil, List.length_map, List.length_take, List.length_drop, List.length_set, List.length_reverse, maxLen] <;> omega)))) (weak_nil_cell (b := 3) (i := 0) (j := 5) (sz := 6) (ty := 61) rfl rfl rfl) ⟨0, by omega, by omega, rfl, ?_⟩ ?_
 ·simp (disch := first|omega|(simp only [length_edsA, length_rowsA, length_rowA, List.length_set, List.length_reverse, List.length_replicate, List.length_append, List.length_cons, List.length_nil, List.length_map]; omega)) only [push_cast, ↓reduceIte, reduceIte, reduceCtorEq, Nat.reduceAdd, Nat.reduceLT, Nat.reduceEqDiff, Nat.reduceLeDiff, Int.reduceAdd, Int.reduceLT, Int.reduceLE, Nat.reduceMul, a0, a1]
 ·rintro mz s' H' ⟨k, hk, rfl, rfl, b2, b3, b4, b5, b6⟩
  have hmax : (if (l.length : Int) < r.length then (r.length : Int) else l.length) = ((max l.length r.length : Nat) : Int) := by split <;> omega
  have hmax' : (if (r.length : Int) > l.length then (r.length : Int) else l.length) = ((max l.length r.length : Nat) : Int) := by split <;> omega
  rcases Nat.lt_or_ge k (max l.length r.length) with hlt|hge
  ·have hkx : (k : Int) < ((max l.length r.length : Nat) : Int) := by omega
   repeat' (first|(first|(refine a0_ ?_; first|refine a1_ rfl rfl ?_|refine a2_ rfl ?_|refine a3_ rfl rfl ?_|refine a4_ rfl ?_|refine a5_ rfl rfl rfl ?_|refine a6_ rfl rfl ?_)|(refine g0_ ?_; first|refine g1_ rfl ?_|refine g2_ rfl rfl ?_|refine go_draw (dr := allQ) rfl rfl mixed (by first|assumption|kernel_rfl) ?_|refine g4_ rfl ?_|refine g5_ rfl ?_|refine g6_ rfl ?_|refine g7_ rfl ?_|refine g8_ rfl ?_)|(refine o0_ ?_; first|refine o1_ ?_|refine o2_ ?_|refine o3_ ?_|refine o4_ ?_|refine o5_ ?_|refine o6_ rfl ?_|refine o7_ rfl ?_|refine o8_ ?_|refine o9_ ?_|refine oa_ ?_|refine ob_ ?_|refine oc_ ?_|refine od_ ?_|refine oe_ ?_|refine of_ ?_|refine og_ ?_))|refine at_go ?_|(with_reducible refine And.intro (at_go ?_) (at_go ?_))|((with_reducible refine And.intro (fun h => ?_) (fun h => ?_)) <;> try (exfalso; omega))|(with_reducible refine And.intro (by first|omega|(simp only [maxLen]; omega)) ?_)|fail|simp (disch := first|omega|(simp only [length_edsA, length_rowsA, length_rowA, List.length_set, List.length_reverse, List.length_replicate, List.length_append, List.length_cons, List.length_nil, List.length_map]; omega)) only [push_cast, ↓reduceIte, reduceIte, reduceCtorEq, Nat.reduceAdd, Nat.reduceLT, Nat.reduceEqDiff, Nat.reduceLeDiff, Int.reduceAdd, Int.reduceLT, Int.reduceLE, Nat.reduceMul, b2, b3, b4, b5, b6, hmax, hmax', hkx])
   refine go_loop rfl (fun mz s' H' => ∃ j : Nat, j ≤ i.toNat ∧ mz = i.toNat - j ∧ H' = [.row 3 30 [[.int .i64 i, .int .i64 o, .sl 1 (rowsA l) c]], .row 3 30 [[.int .i64 i', .int .i64 o', .sl 1 (rowsA r) d]], .row 6 36 [[.int .i64 0, .int .i64 0, .int .i64 0, .int .i64 0, .int .i64 0, .sl 0 [] (some 0)]], .row 6 36 [[.int .i64 i, .int .i64 o, .int .i64 o', .int .i64 l.length, .int .i64 r.length, .own 4 (accE l r i.toNat k j).length (accE l r i.toNat k j).length none]], .row 6 61 (edsA (accE l r i.toNat k j))] ∧ s' 2 = .ptr 0 0 0 1 ∧ s' 3 = .ptr 1 0 0 1 ∧ s' 4 = .ptr 2 0 0 1 ∧ s' 5 = .ptr 3 0 0 1 ∧ s' 6 = .int .i64 k ∧ s' 7 = .int .i64 j) (m := i.toNat) (by (first|trivial|((repeat' apply And.intro) <;> first|trivial|assumption|omega|(simp only [maxLen]; omega)|(simp only [length_edsA, length_rowsA, length_rowA, List.length_replicate, List.length_append, List.length_cons, List.length_nil, List.length_map, List.length_take, List.length_drop, List.length_set, List.length_reverse, maxLen] <;> omega)))) (Weak.refl _ _) ⟨0, by omega, by omega, (by first|rfl|simp [accE_zero]), ?_⟩ ?_
   ·simp (disch := first|omega|(simp only [length_edsA, length_rowsA, length_rowA, List.length_set, List.length_reverse, List.length_replicate, List.length_append, List.length_cons, List.length_nil, List.length_map]; omega)) only [push_cast, ↓reduceIte, reduceIte, reduceCtorEq, Nat.reduceAdd, Nat.reduceLT, Nat.reduceEqDiff, Nat.reduceLeDiff, Int.reduceAdd, Int.reduceLT, Int.reduceLE, Nat.reduceMul, b2, b3, b4, b5, b6, hmax, hmax', hkx]
   ·rintro mz s' H' ⟨j, hj, rfl, rfl, b2, b3, b4, b5, b6, b7⟩
    have hjx : (j : Int) ≤ i := by omega
    have hcnt := length_accE l r i.toNat k j (by omega) (by omega) hj
    have hds := accE_succ l r i.toNat k j
    rcases Nat.lt_or_ge j i.toNat with hlt2|hge2
    ·have hE1 := edge43 i o l c k j (by omega) (by omega) (wl.len k j (by omega))
     have hE2 := edge43 i' o' r d k j (by omega) (by omega) (wr.len k j (by omega))
     unfold mA at hE1 hE2
     dsimp only [differs, diffAt] at hds
     generalize accE l r i.toNat k j = es at *
     generalize edgeM l k j = x at hds hE1
     generalize edgeM r k j = w at hds hE2
     obtain ⟨x1, x2⟩ := x
     obtain ⟨w1, w2⟩ := w
     unfold eA at hE1 hE2
     repeat' (first|(first|(refine a0_ ?_; first|refine a1_ rfl rfl ?_|refine a2_ rfl ?_|refine a3_ rfl rfl ?_|refine a4_ rfl ?_|refine a5_ rfl rfl rfl ?_|refine a6_ rfl rfl ?_)|(refine g0_ ?_; first|refine g1_ rfl ?_|refine g2_ rfl rfl ?_|refine go_draw (dr := allQ) rfl rfl mixed (by first|assumption|kernel_rfl) ?_|refine g4_ rfl ?_|refine g5_ rfl ?_|refine g6_ rfl ?_|refine g7_ rfl ?_|refine g8_ rfl ?_)|(refine o0_ ?_; first|refine o1_ ?_|refine o2_ ?_|refine o3_ ?_|refine o4_ ?_|refine o5_ ?_|refine o6_ rfl ?_|refine o7_ rfl ?_|refine o8_ ?_|refine o9_ ?_|refine oa_ ?_|refine ob_ ?_|refine oc_ ?_|refine od_ ?_|refine oe_ ?_|refine of_ ?_|refine og_ ?_))|refine at_go ?_|(with_reducible refine And.intro (at_go ?_) (at_go ?_))|((with_reducible refine And.intro (fun h => ?_) (fun h => ?_)) <;> try (exfalso; omega))|(with_reducible refine And.intro (by first|omega|(simp only [maxLen]; omega)) ?_)|(first|(refine ⟨_, _, pc_lift (hE1) (by (simp [idsL, idsE, AV.ids, eA, xA, idsE_rowsA])) _, ?_⟩)|(refine ⟨_, pc_lift (hE1) (by (simp [idsL, idsE, AV.ids, eA, xA, idsE_rowsA])) _, ?_⟩)|(refine ⟨_, fun _ => pc_lift (hE1) (by (simp [idsL, idsE, AV.ids, eA, xA, idsE_rowsA])) _, ?_⟩)|(refine ⟨_, _, pc_lift (hE2) (by (simp [idsL, idsE, AV.ids, eA, xA, idsE_rowsA])) _, ?_⟩)|(refine ⟨_, pc_lift (hE2) (by (simp [idsL, idsE, AV.ids, eA, xA, idsE_rowsA])) _, ?_⟩)|(refine ⟨_, fun _ => pc_lift (hE2) (by (simp [idsL, idsE, AV.ids, eA, xA, idsE_rowsA])) _, ?_⟩))|simp (disch := first|omega|(simp only [length_edsA, length_rowsA, length_rowA, List.length_set, List.length_reverse, List.length_replicate, List.length_append, List.length_cons, List.length_nil, List.length_map]; omega)) only [push_cast, ↓reduceIte, reduceIte, reduceCtorEq, Nat.reduceAdd, Nat.reduceLT, Nat.reduceEqDiff, Nat.reduceLeDiff, Int.reduceAdd, Int.reduceLT, Int.reduceLE, Nat.reduceMul, b2, b3, b4, b5, b6, b7])
     ·have hds : accE l r i.toNat k (j + 1) = es ++ [⟨k, j, (x1, x2), (w1, w2)⟩] := by
       rw [hds]
       rcases h with h|h <;> simp [h]
      refine out_round_take (i.toNat - (j + 1)) 5 (by omega) (by (first|trivial|((repeat' apply And.intro) <;> first|trivial|assumption|omega|(simp only [maxLen]; omega)|(simp only [length_edsA, length_rowsA, length_rowA, List.length_replicate, List.length_append, List.length_cons, List.length_nil, List.length_map, List.length_take, List.length_drop, List.length_set, List.length_reverse, maxLen] <;> omega)))) (by omega) (by simp) (by simp [Blk.below, idsE, idsL, AV.ids]) ⟨j + 1, by omega, rfl, ?_, ?_⟩
      ·rw [hds]; simp [edsA, xA]
      ·simp (disch := first|omega|(simp only [length_edsA, length_rowsA, length_rowA, List.length_set, List.length_reverse, List.length_replicate, List.length_append, List.length_cons, List.length_nil, List.length_map]; omega)) only [push_cast, ↓reduceIte, reduceIte, reduceCtorEq, Nat.reduceAdd, Nat.reduceLT, Nat.reduceEqDiff, Nat.reduceLeDiff, Int.reduceAdd, Int.reduceLT, Int.reduceLE, Nat.reduceMul, b2, b3, b4, b5, b6, b7, scrub, AV.ids, idsL]
     ·have hds : accE l r i.toNat k (j + 1) = es := by
       rw [hds]; simp [h.1, h.2]
      refine out_round_take (i.toNat - (j + 1)) 5 (by omega) (by (first|trivial|((repeat' apply And.intro) <;> first|trivial|assumption|omega|(simp only [maxLen]; omega)|(simp only [length_edsA, length_rowsA, length_rowA, List.length_replicate, List.length_append, List.length_cons, List.length_nil, List.length_map, List.length_take, List.length_drop, List.length_set, List.length_reverse, maxLen] <;> omega)))) (by omega) (by simp) (by simp [Blk.below, idsE, idsL, AV.ids]) ⟨j + 1, by omega, rfl, ?_, ?_⟩
      ·rw [hds]; rfl
      ·simp (disch := first|omega|(simp only [length_edsA, length_rowsA, length_rowA, List.length_set, List.length_reverse, List.length_replicate, List.length_append, List.length_cons, List.length_nil, List.length_map]; omega)) only [push_cast, ↓reduceIte, reduceIte, reduceCtorEq, Nat.reduceAdd, Nat.reduceLT, Nat.reduceEqDiff, Nat.reduceLeDiff, Int.reduceAdd, Int.reduceLT, Int.reduceLE, Nat.reduceMul, b2, b3, b4, b5, b6, b7, scrub, AV.ids, idsL]
    ·obtain rfl : j = i.toNat := by omega
     repeat' (first|(first|(refine a0_ ?_; first|refine a1_ rfl rfl ?_|refine a2_ rfl ?_|refine a3_ rfl rfl ?_|refine a4_ rfl ?_|refine a5_ rfl rfl rfl ?_|refine a6_ rfl rfl ?_)|(refine g0_ ?_; first|refine g1_ rfl ?_|refine g2_ rfl rfl ?_|refine go_draw (dr := allQ) rfl rfl mixed (by first|assumption|kernel_rfl) ?_|refine g4_ rfl ?_|refine g5_ rfl ?_|refine g6_ rfl ?_|refine g7_ rfl ?_|refine g8_ rfl ?_)|(refine o0_ ?_; first|refine o1_ ?_|refine o2_ ?_|refine o3_ ?_|refine o4_ ?_|refine o5_ ?_|refine o6_ rfl ?_|refine o7_ rfl ?_|refine o8_ ?_|refine o9_ ?_|refine oa_ ?_|refine ob_ ?_|refine oc_ ?_|refine od_ ?_|refine oe_ ?_|refine of_ ?_|refine og_ ?_))|refine at_go ?_|(with_reducible refine And.intro (at_go ?_) (at_go ?_))|((with_reducible refine And.intro (fun h => ?_) (fun h => ?_)) <;> try (exfalso; omega))|(with_reducible refine And.intro (by first|omega|(simp only [maxLen]; omega)) ?_)|fail|simp (disch := first|omega|(simp only [length_edsA, length_rowsA, length_rowA, List.length_set, List.length_reverse, List.length_replicate, List.length_append, List.length_cons, List.length_nil, List.length_map]; omega)) only [push_cast, ↓reduceIte, reduceIte, reduceCtorEq, Nat.reduceAdd, Nat.reduceLT, Nat.reduceEqDiff, Nat.reduceLeDiff, Int.reduceAdd, Int.reduceLT, Int.reduceLE, Nat.reduceMul, b2, b3, b4, b5, b6, b7])
     refine out_round (max l.length r.length - (k + 1)) (by omega) (by (first|trivial|((repeat' apply And.intro) <;> first|trivial|assumption|omega|(simp only [maxLen]; omega)|(simp only [length_edsA, length_rowsA, length_rowA, List.length_replicate, List.length_append, List.length_cons, List.length_nil, List.length_map, List.length_take, List.length_drop, List.length_set, List.length_reverse, maxLen] <;> omega)))) ⟨k + 1, by omega, rfl, by rw [accE_full], ?_⟩
     simp (disch := first|omega|(simp only [length_edsA, length_rowsA, length_rowA, List.length_set, List.length_reverse, List.length_replicate, List.length_append, List.length_cons, List.length_nil, List.length_map]; omega)) only [push_cast, ↓reduceIte, reduceIte, reduceCtorEq, Nat.reduceAdd, Nat.reduceLT, Nat.reduceEqDiff, Nat.reduceLeDiff, Int.reduceAdd, Int.reduceLT, Int.reduceLE, Nat.reduceMul, b2, b3, b4, b5, b6, b7]
  ·obtain rfl : k = max l.length r.length := by omega
   repeat' (first|(first|(refine a0_ ?_; first|refine a1_ rfl rfl ?_|refine a2_ rfl ?_|refine a3_ rfl rfl ?_|refine a4_ rfl ?_|refine a5_ rfl rfl rfl ?_|refine a6_ rfl rfl ?_)|(refine g0_ ?_; first|refine g1_ rfl ?_|refine g2_ rfl rfl ?_|refine go_draw (dr := allQ) rfl rfl mixed (by first|assumption|kernel_rfl) ?_|refine g4_ rfl ?_|refine g5_ rfl ?_|refine g6_ rfl ?_|refine g7_ rfl ?_|refine g8_ rfl ?_)|(refine o0_ ?_; first|refine o1_ ?_|refine o2_ ?_|refine o3_ ?_|refine o4_ ?_|refine o5_ ?_|refine o6_ rfl ?_|refine o7_ rfl ?_|refine o8_ ?_|refine o9_ ?_|refine oa_ ?_|refine ob_ ?_|refine oc_ ?_|refine od_ ?_|refine oe_ ?_|refine of_ ?_|refine og_ ?_))|refine at_go ?_|(with_reducible refine And.intro (at_go ?_) (at_go ?_))|((with_reducible refine And.intro (fun h => ?_) (fun h => ?_)) <;> try (exfalso; omega))|(with_reducible refine And.intro (by first|omega|(simp only [maxLen]; omega)) ?_)|fail|simp (disch := first|omega|(simp only [length_edsA, length_rowsA, length_rowA, List.length_set, List.length_reverse, List.length_replicate, List.length_append, List.length_cons, List.length_nil, List.length_map]; omega)) only [push_cast, ↓reduceIte, reduceIte, reduceCtorEq, Nat.reduceAdd, Nat.reduceLT, Nat.reduceEqDiff, Nat.reduceLeDiff, Int.reduceAdd, Int.reduceLT, Int.reduceLE, Nat.reduceMul, b2, b3, b4, b5, b6, hmax, hmax'])
   simp [diffM]
end Go.Proofs
