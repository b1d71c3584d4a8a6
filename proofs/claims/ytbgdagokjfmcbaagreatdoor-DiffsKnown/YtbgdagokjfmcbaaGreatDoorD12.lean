import Derived.Test.YtbgdagokjfmcbaaGreatDoorD11
import Derived.Test.YtbgdagokjfmcbaaGreatDoorD6
namespace Go.Proofs
open Go Go.V
set_option linter.unusedVariables false
set_option linter.unusedSimpArgs false
set_option maxHeartbeats 0
def pairErr (i o : Int) (l : List Row) (i' o' : Int) (r : List Row) : Int := if machOk i o l ≠ 0 then machOk i o l else if machOk i' o' r ≠ 0 then machOk i' o' r else if i ≠ i' then 5 else 0
set_option maxRecDepth 100000 in
theorem check40 (i o : Int) (l : List Row) (c : Option Nat) (i' o' : Int) (r : List Row) (d : Option Nat) (hl : l.length ≤ 1000000) (hr : r.length ≤ 1000000) (hl2 : ∀ j, j < l.length → (l.getD j ([], none)).1.length ≤ 1000000) (hr2 : ∀ j, j < r.length → (r.getD j ([], none)).1.length ≤ 1000000) : PC Tryz.prog G0 39 [mA i o l c, mA i' o' r d] (.int .i64 (pairErr i o l i' o' r)) := by
 have h1 := check72 i o l 1 c (.inr rfl) hl hl2
 have h2 := check72 i' o' r 1 d (.inr rfl) hr hr2
 unfold mA pairErr
 generalize machOk i o l = e1 at *
 generalize machOk i' o' r = e2 at *
 refine pc_go 1 22 [.tmp 4] Tryz.func39 rfl rfl rfl (by simp) ?_
 intro s ⟨a0, a1, hz⟩
 simp only [Nat.zero_add, Nat.reduceAdd] at a1
 clear hz
 repeat' (first|(first|(refine a0_ ?_; first|refine a1_ rfl rfl ?_|refine a2_ rfl ?_|refine a3_ rfl rfl ?_|refine a4_ rfl ?_|refine a5_ rfl rfl rfl ?_|refine a6_ rfl rfl ?_)|(refine g0_ ?_; first|refine g1_ rfl ?_|refine g2_ rfl rfl ?_|refine go_draw (dr := allQ) rfl rfl mixed (by first|assumption|kernel_rfl) ?_|refine g4_ rfl ?_|refine g5_ rfl ?_|refine g6_ rfl ?_|refine g7_ rfl ?_|refine g8_ rfl ?_)|(refine o0_ ?_; first|refine o1_ ?_|refine o2_ ?_|refine o3_ ?_|refine o4_ ?_|refine o5_ ?_|refine o6_ rfl ?_|refine o7_ rfl ?_|refine o8_ ?_|refine o9_ ?_|refine oa_ ?_|refine ob_ ?_|refine oc_ ?_|refine od_ ?_|refine oe_ ?_|refine of_ ?_|refine og_ ?_))|refine at_go ?_|(with_reducible refine And.intro (at_go ?_) (at_go ?_))|((with_reducible refine And.intro (fun h => ?_) (fun h => ?_)) <;> try (exfalso; omega))|(with_reducible refine And.intro (by first|omega|(simp only [maxLen]; omega)) ?_)|(first|(refine ⟨_, _, pc_lift (h1) (by (simp [idsL, idsE, AV.ids, Nat.add_zero])) _, ?_⟩)|(refine ⟨_, pc_lift (h1) (by (simp [idsL, idsE, AV.ids, Nat.add_zero])) _, ?_⟩)|(refine ⟨_, fun _ => pc_lift (h1) (by (simp [idsL, idsE, AV.ids, Nat.add_zero])) _, ?_⟩)|(refine ⟨_, _, pc_lift (h2) (by (simp [idsL, idsE, AV.ids, Nat.add_zero])) _, ?_⟩)|(refine ⟨_, pc_lift (h2) (by (simp [idsL, idsE, AV.ids, Nat.add_zero])) _, ?_⟩)|(refine ⟨_, fun _ => pc_lift (h2) (by (simp [idsL, idsE, AV.ids, Nat.add_zero])) _, ?_⟩))|simp (disch := first|omega|(simp only [length_edsA, length_rowsA, length_rowA, List.length_set, List.length_reverse, List.length_replicate, List.length_append, List.length_cons, List.length_nil, List.length_map]; omega)) only [push_cast, ↓reduceIte, reduceIte, reduceCtorEq, Nat.reduceAdd, Nat.reduceLT, Nat.reduceEqDiff, Nat.reduceLeDiff, Int.reduceAdd, Int.reduceLT, Int.reduceLE, Nat.reduceMul, a0, a1])
 ·rw [if_pos h]
 ·rename_i h0
  rw [if_neg (by omega), if_pos h]
 ·rename_i h0 h1
  rw [if_neg (by omega), if_neg (by omega), if_pos h]
 ·rename_i h0 h1
  rw [if_neg (by omega), if_neg (by omega), if_neg (by omega)]
set_option maxRecDepth 100000 in
theorem clip42_own (b n h : Nat) (t : TypeId) (es : List (List AV)) (c : Option Nat) (H : List Blk) (hb : H[b]? = some (.row 6 t es)) (hh : h = es.length) : ACalls Tryz.prog G0 29 [.own b n h c] H (.own b n h (some n)) H := by
 subst hh
 refine ac_go 9 [.tmp 2] Tryz.func29 rfl rfl rfl (by simp) ?_
 intro s ⟨a0, hz⟩
 clear hz
 repeat' (first|(first|(refine a0_ ?_; first|refine a1_ rfl rfl ?_|refine a2_ rfl ?_|refine a3_ rfl rfl ?_|refine a4_ rfl ?_|refine a5_ rfl rfl rfl ?_|refine a6_ rfl rfl ?_)|(refine g0_ ?_; first|refine g1_ rfl ?_|refine g2_ rfl rfl ?_|refine go_draw (dr := allQ) rfl rfl mixed (by first|assumption|kernel_rfl) ?_|refine g4_ rfl ?_|refine g5_ rfl ?_|refine g6_ rfl ?_|refine g7_ rfl ?_|refine g8_ rfl ?_)|(refine o0_ ?_; first|refine o1_ ?_|refine o2_ ?_|refine o3_ ?_|refine o4_ ?_|refine o5_ ?_|refine o6_ rfl ?_|refine o7_ rfl ?_|refine o8_ ?_|refine o9_ ?_|refine oa_ ?_|refine ob_ ?_|refine oc_ ?_|refine od_ ?_|refine oe_ ?_|refine of_ ?_|refine og_ ?_))|refine at_go ?_|(with_reducible refine And.intro (at_go ?_) (at_go ?_))|((with_reducible refine And.intro (fun h => ?_) (fun h => ?_)) <;> try (exfalso; omega))|(with_reducible refine And.intro (by first|omega|(simp only [maxLen]; omega)) ?_)|fail|simp (disch := first|omega|(simp only [length_edsA, length_rowsA, length_rowA, List.length_set, List.length_reverse, List.length_replicate, List.length_append, List.length_cons, List.length_nil, List.length_map]; omega)) only [push_cast, ↓reduceIte, reduceIte, reduceCtorEq, Nat.reduceAdd, Nat.reduceLT, Nat.reduceEqDiff, Nat.reduceLeDiff, Int.reduceAdd, Int.reduceLT, Int.reduceLE, Nat.reduceMul, a0, hb])
theorem machOk_zero {i o : Int} {l : List Row} (h : machOk i o l = 0) : (1 ≤ i ∧ i ≤ 16) ∧ (1 ≤ o ∧ o ≤ 16) ∧ (1 ≤ l.length ∧ l.length ≤ 64) ∧ Wide i l ∧ ∀ j, j < l.length → (l.getD j ([], none)).1.all (fitE o l.length) = true := by
 rw [machOk] at h
 by_cases h1 : 16 < i ∨ 16 < o ∨ 64 < l.length
 ·rw [if_pos h1] at h; omega
 ·by_cases h2 : i < 1 ∨ o < 1 ∨ l.length < 1
  ·rw [if_neg h1, if_pos h2] at h; omega
  ·rw [if_neg h1, if_neg h2] at h
   split at h
   ·rename_i hh
    refine ⟨by omega, by omega, by omega, fun j hj => ?_, fun j hj => ?_⟩
    ·have := hh j hj; rw [rowOk, Bool.and_eq_true, decide_eq_true_eq] at this; exact this.1
    ·have := hh j hj; rw [rowOk, Bool.and_eq_true] at this; exact this.2
   ·omega
theorem machOk_of {i o : Int} {l : List Row} (h1 : 1 ≤ i ∧ i ≤ 16) (h2 : 1 ≤ o ∧ o ≤ 16) (h3 : 1 ≤ l.length ∧ l.length ≤ 64) (h4 : Wide i l) (h5 : ∀ j, j < l.length → (l.getD j ([], none)).1.all (fitE o l.length) = true) : machOk i o l = 0 := by
 rw [machOk, if_neg (by omega), if_neg (by omega), if_pos]
 intro j hj
 rw [rowOk, h5 j hj, decide_eq_true (h4 j hj)]; rfl
def seqE (l r : List Row) (I q : Nat) : List Ed := ((List.range q).map (seqAt l r I)).filter differs
theorem seqE_zero (l r : List Row) (I : Nat) : seqE l r I 0 = [] := rfl
theorem seqE_succ (l r : List Row) (I q : Nat) : seqE l r I (q + 1) = seqE l r I q ++ bif differs (seqAt l r I q) then [seqAt l r I q] else [] := by
 rw [seqE, List.range_succ, List.map_append, List.filter_append]
 simp only [List.map_cons, List.map_nil, List.filter_cons, List.filter_nil]
 cases differs (seqAt l r I q) <;> rfl
theorem length_seqE (l r : List Row) (I q : Nat) : (seqE l r I q).length ≤ q := by
 have := List.length_filter_le differs ((List.range q).map (seqAt l r I))
 simpa [seqE] using this
theorem seqE_row (l r : List Row) (I S : Nat) : ∀ j, j ≤ I → seqE l r I (S * I + j) = seqE l r I (S * I) ++ diffRow l r j S
 | 0, _ => by simp [diffRow]
 | j + 1, h => by
  rw [← Nat.add_assoc, seqE_succ, seqAt_eq l r I S j (by omega), seqE_row l r I S j (by omega), diffRow_succ, List.append_assoc]
theorem seqE_all (l r : List Row) (I : Nat) : ∀ S, seqE l r I (S * I) = diffEds l r S I
 | 0 => by rw [Nat.zero_mul]; simp [seqE, diffEds]
 | S + 1 => by rw [Nat.succ_mul, seqE_row l r I S I (Nat.le_refl _), seqE_all l r I S, diffEds_succ]
def pZ : Pt := ⟨0, 0, 0, 0, 0, []⟩
def diffH (i o : Int) (l : List Row) (c : Option Nat) (i' o' : Int) (r : List Row) (d : Option Nat) (q : Nat) : List Blk := [.row 3 30 [[.int .i64 i, .int .i64 o, .sl 1 (rowsA l) c]], .row 3 30 [[.int .i64 i', .int .i64 o', .sl 1 (rowsA r) d]], .row 6 36 [[.int .i64 0, .int .i64 0, .int .i64 0, .int .i64 0, .int .i64 0, .sl 0 [] (some 0)]], .row 6 36 [[.int .i64 i, .int .i64 o, .int .i64 o', .int .i64 l.length, .int .i64 r.length, .own 4 (seqE l r i.toNat q).length (seqE l r i.toNat q).length none]], .row 6 61 (edsA (seqE l r i.toNat q))]
set_option maxRecDepth 100000 in
theorem diff11 (i o : Int) (l : List Row) (c : Option Nat) (i' o' : Int) (r : List Row) (d : Option Nat) (hl : l.length ≤ 1000000) (hr : r.length ≤ 1000000) (hl2 : ∀ j, j < l.length → (l.getD j ([], none)).1.length ≤ 1000000) (hr2 : ∀ j, j < r.length → (r.getD j ([], none)).1.length ≤ 1000000) : PC Tryz.prog G0 11 [mA i o l c, mA i' o' r d] (if pairErr i o l i' o' r = 0 then .tup [pA (diffM i o l o' r) 6 (some (diffM i o l o' r).ed.length), .int .i64 0] else .tup [pA pZ 0 (some 0), .int .i64 (pairErr i o l i' o' r)]) := by
 have hC := check40 i o l c i' o' r d hl hr hl2 hr2
 have hB := both41 i o l c i' o' r d
 unfold mA at hC hB ⊢
 by_cases hp : pairErr i o l i' o' r = 0
 ·rw [if_pos hp]
  rw [hp] at hC
  have hm : machOk i o l = 0 := by
   unfold pairErr at hp; split at hp <;> omega
  have hm' : machOk i' o' r = 0 := by
   unfold pairErr at hp; split at hp <;> (try split at hp) <;> omega
  have hii : i = i' := by
   unfold pairErr at hp; split at hp <;> (try split at hp) <;> (try split at hp) <;> omega
  subst hii
  obtain ⟨q1, q2, q3, q4, q5⟩ := machOk_zero hm
  obtain ⟨_, q2', q3', q4', q5'⟩ := machOk_zero hm'
  unfold pA
  refine pc_go 1 51 [.cell 4 36, .tmp 5] Tryz.func11 rfl rfl rfl (by simp) ?_
  intro s ⟨a0, a1, hz⟩
  simp only [Nat.zero_add, Nat.reduceAdd] at a1
  clear hz
  repeat' (first|(first|(refine a0_ ?_; first|refine a1_ rfl rfl ?_|refine a2_ rfl ?_|refine a3_ rfl rfl ?_|refine a4_ rfl ?_|refine a5_ rfl rfl rfl ?_|refine a6_ rfl rfl ?_)|(refine g0_ ?_; first|refine g1_ rfl ?_|refine g2_ rfl rfl ?_|refine go_draw (dr := allQ) rfl rfl mixed (by first|assumption|kernel_rfl) ?_|refine g4_ rfl ?_|refine g5_ rfl ?_|refine g6_ rfl ?_|refine g7_ rfl ?_|refine g8_ rfl ?_)|(refine o0_ ?_; first|refine o1_ ?_|refine o2_ ?_|refine o3_ ?_|refine o4_ ?_|refine o5_ ?_|refine o6_ rfl ?_|refine o7_ rfl ?_|refine o8_ ?_|refine o9_ ?_|refine oa_ ?_|refine ob_ ?_|refine oc_ ?_|refine od_ ?_|refine oe_ ?_|refine of_ ?_|refine og_ ?_))|refine at_go ?_|(with_reducible refine And.intro (at_go ?_) (at_go ?_))|((with_reducible refine And.intro (fun h => ?_) (fun h => ?_)) <;> try (exfalso; omega))|(with_reducible refine And.intro (by first|omega|(simp only [maxLen]; omega)) ?_)|(first|(refine ⟨_, _, pc_lift (hC) (by (simp [idsL, idsE, AV.ids, Nat.add_zero])) _, ?_⟩)|(refine ⟨_, pc_lift (hC) (by (simp [idsL, idsE, AV.ids, Nat.add_zero])) _, ?_⟩)|(refine ⟨_, fun _ => pc_lift (hC) (by (simp [idsL, idsE, AV.ids, Nat.add_zero])) _, ?_⟩)|(refine ⟨_, _, pc_lift (hB) (by (simp [idsL, idsE, AV.ids, Nat.add_zero])) _, ?_⟩)|(refine ⟨_, pc_lift (hB) (by (simp [idsL, idsE, AV.ids, Nat.add_zero])) _, ?_⟩)|(refine ⟨_, fun _ => pc_lift (hB) (by (simp [idsL, idsE, AV.ids, Nat.add_zero])) _, ?_⟩))|simp (disch := first|omega|(simp only [length_edsA, length_rowsA, length_rowA, List.length_set, List.length_reverse, List.length_replicate, List.length_append, List.length_cons, List.length_nil, List.length_map]; omega)) only [push_cast, ↓reduceIte, reduceIte, reduceCtorEq, Nat.reduceAdd, Nat.reduceLT, Nat.reduceEqDiff, Nat.reduceLeDiff, Int.reduceAdd, Int.reduceLT, Int.reduceLE, Nat.reduceMul, a0, a1])
  have hit := both73 i o l c i o' r d (by omega) (by omega) (by omega) q4 q4'
  have hbel : ∀ q : Nat, (diffH i o l c i o' r d q).all (Blk.below 5) = true := fun q => by simp [diffH, Blk.below, idsE, idsL, AV.ids]
  refine go_weak (by (first|trivial|((repeat' apply And.intro) <;> first|trivial|assumption|omega|(simp only [maxLen]; omega)|(simp only [length_edsA, length_rowsA, length_rowA, List.length_replicate, List.length_append, List.length_cons, List.length_nil, List.length_map, List.length_take, List.length_drop, List.length_set, List.length_reverse, maxLen] <;> omega)))) (weak_nil_cell (b := 3) (i := 0) (j := 5) (sz := 6) (ty := 61) rfl rfl rfl) ?_
  have hbig : max l.length r.length * i.toNat ≤ 64 * 16 := Nat.mul_le_mul (by omega) (by omega)
  refine go_rangeFunc (m := max l.length r.length * i.toNat) (k := 5) .normal (diffH i o l c i o' r d) rfl (by (first|trivial|((repeat' apply And.intro) <;> first|trivial|assumption|omega|(simp only [maxLen]; omega)|(simp only [length_edsA, length_rowsA, length_rowA, List.length_replicate, List.length_append, List.length_cons, List.length_nil, List.length_map, List.length_take, List.length_drop, List.length_set, List.length_reverse, maxLen] <;> omega)))) ?_ ?_ (by kernel_rfl) hit rfl rfl (fun i => rfl) hbel (fun i => ⟨by simp [idsL, AV.ids, xA], rfl⟩) (fun h => by cases h) (fun _ => rfl) rfl (fun q hq s1 hs1 => ?_) (fun h => by cases h) ?_
  ·simp (disch := first|omega|(simp only [length_edsA, length_rowsA, length_rowA, List.length_set, List.length_reverse, List.length_replicate, List.length_append, List.length_cons, List.length_nil, List.length_map]; omega)) only [push_cast, ↓reduceIte, reduceIte, reduceCtorEq, Nat.reduceAdd, Nat.reduceLT, Nat.reduceEqDiff, Nat.reduceLeDiff, Int.reduceAdd, Int.reduceLT, Int.reduceLE, Nat.reduceMul, a0, a1]
  ·simp (disch := first|omega|(simp only [length_edsA, length_rowsA, length_rowA, List.length_set, List.length_reverse, List.length_replicate, List.length_append, List.length_cons, List.length_nil, List.length_map]; omega)) only [push_cast, ↓reduceIte, reduceIte, reduceCtorEq, Nat.reduceAdd, Nat.reduceLT, Nat.reduceEqDiff, Nat.reduceLeDiff, Int.reduceAdd, Int.reduceLT, Int.reduceLE, Nat.reduceMul, a0, a1]
  ·have r7 := (round_slot hs1 7 rfl).trans (show _ = AV.ptr 3 0 0 1 from rfl)
   have r34 : s1 34 = .agg (xA (seqAt l r i.toNat q)) := (hs1 34).trans rfl
   have hds := seqE_succ l r i.toNat q
   have hcnt := length_seqE l r i.toNat q
   unfold diffH
   dsimp only [differs] at hds
   generalize seqE l r i.toNat q = es at *
   generalize seqAt l r i.toNat q = x at *
   obtain ⟨xs, xi, ⟨x1, x2⟩, w1, w2⟩ := x
   simp only [xA] at r34
   repeat' (first|(first|(refine a0_ ?_; first|refine a1_ rfl rfl ?_|refine a2_ rfl ?_|refine a3_ rfl rfl ?_|refine a4_ rfl ?_|refine a5_ rfl rfl rfl ?_|refine a6_ rfl rfl ?_)|(refine g0_ ?_; first|refine g1_ rfl ?_|refine g2_ rfl rfl ?_|refine go_draw (dr := allQ) rfl rfl mixed (by first|assumption|kernel_rfl) ?_|refine g4_ rfl ?_|refine g5_ rfl ?_|refine g6_ rfl ?_|refine g7_ rfl ?_|refine g8_ rfl ?_)|(refine o0_ ?_; first|refine o1_ ?_|refine o2_ ?_|refine o3_ ?_|refine o4_ ?_|refine o5_ ?_|refine o6_ rfl ?_|refine o7_ rfl ?_|refine o8_ ?_|refine o9_ ?_|refine oa_ ?_|refine ob_ ?_|refine oc_ ?_|refine od_ ?_|refine oe_ ?_|refine of_ ?_|refine og_ ?_))|refine at_go ?_|(with_reducible refine And.intro (at_go ?_) (at_go ?_))|((with_reducible refine And.intro (fun h => ?_) (fun h => ?_)) <;> try (exfalso; omega))|(with_reducible refine And.intro (by first|omega|(simp only [maxLen]; omega)) ?_)|(first|(refine ⟨_, _, pc_lift (hC) (by (simp [idsL, idsE, AV.ids, Nat.add_zero])) _, ?_⟩)|(refine ⟨_, pc_lift (hC) (by (simp [idsL, idsE, AV.ids, Nat.add_zero])) _, ?_⟩)|(refine ⟨_, fun _ => pc_lift (hC) (by (simp [idsL, idsE, AV.ids, Nat.add_zero])) _, ?_⟩)|(refine ⟨_, _, pc_lift (hB) (by (simp [idsL, idsE, AV.ids, Nat.add_zero])) _, ?_⟩)|(refine ⟨_, pc_lift (hB) (by (simp [idsL, idsE, AV.ids, Nat.add_zero])) _, ?_⟩)|(refine ⟨_, fun _ => pc_lift (hB) (by (simp [idsL, idsE, AV.ids, Nat.add_zero])) _, ?_⟩))|simp (disch := first|omega|(simp only [length_edsA, length_rowsA, length_rowA, List.length_set, List.length_reverse, List.length_replicate, List.length_append, List.length_cons, List.length_nil, List.length_map]; omega)) only [push_cast, ↓reduceIte, reduceIte, reduceCtorEq, Nat.reduceAdd, Nat.reduceLT, Nat.reduceEqDiff, Nat.reduceLeDiff, Int.reduceAdd, Int.reduceLT, Int.reduceLE, Nat.reduceMul, r7, r34, scrub, AV.ids, idsL])
   refine out_thenS ⟨by (first|trivial|((repeat' apply And.intro) <;> first|trivial|assumption|omega|(simp only [maxLen]; omega)|(simp only [length_edsA, length_rowsA, length_rowA, List.length_replicate, List.length_append, List.length_cons, List.length_nil, List.length_map, List.length_take, List.length_drop, List.length_set, List.length_reverse, maxLen] <;> omega))), at_go ?_⟩
   repeat' (first|(first|(refine a0_ ?_; first|refine a1_ rfl rfl ?_|refine a2_ rfl ?_|refine a3_ rfl rfl ?_|refine a4_ rfl ?_|refine a5_ rfl rfl rfl ?_|refine a6_ rfl rfl ?_)|(refine g0_ ?_; first|refine g1_ rfl ?_|refine g2_ rfl rfl ?_|refine go_draw (dr := allQ) rfl rfl mixed (by first|assumption|kernel_rfl) ?_|refine g4_ rfl ?_|refine g5_ rfl ?_|refine g6_ rfl ?_|refine g7_ rfl ?_|refine g8_ rfl ?_)|(refine o0_ ?_; first|refine o1_ ?_|refine o2_ ?_|refine o3_ ?_|refine o4_ ?_|refine o5_ ?_|refine o6_ rfl ?_|refine o7_ rfl ?_|refine o8_ ?_|refine o9_ ?_|refine oa_ ?_|refine ob_ ?_|refine oc_ ?_|refine od_ ?_|refine oe_ ?_|refine of_ ?_|refine og_ ?_))|refine at_go ?_|(with_reducible refine And.intro (at_go ?_) (at_go ?_))|((with_reducible refine And.intro (fun h => ?_) (fun h => ?_)) <;> try (exfalso; omega))|(with_reducible refine And.intro (by first|omega|(simp only [maxLen]; omega)) ?_)|(first|(refine ⟨_, _, pc_lift (hC) (by (simp [idsL, idsE, AV.ids, Nat.add_zero])) _, ?_⟩)|(refine ⟨_, pc_lift (hC) (by (simp [idsL, idsE, AV.ids, Nat.add_zero])) _, ?_⟩)|(refine ⟨_, fun _ => pc_lift (hC) (by (simp [idsL, idsE, AV.ids, Nat.add_zero])) _, ?_⟩)|(refine ⟨_, _, pc_lift (hB) (by (simp [idsL, idsE, AV.ids, Nat.add_zero])) _, ?_⟩)|(refine ⟨_, pc_lift (hB) (by (simp [idsL, idsE, AV.ids, Nat.add_zero])) _, ?_⟩)|(refine ⟨_, fun _ => pc_lift (hB) (by (simp [idsL, idsE, AV.ids, Nat.add_zero])) _, ?_⟩))|simp (disch := first|omega|(simp only [length_edsA, length_rowsA, length_rowA, List.length_set, List.length_reverse, List.length_replicate, List.length_append, List.length_cons, List.length_nil, List.length_map]; omega)) only [push_cast, ↓reduceIte, reduceIte, reduceCtorEq, Nat.reduceAdd, Nat.reduceLT, Nat.reduceEqDiff, Nat.reduceLeDiff, Int.reduceAdd, Int.reduceLT, Int.reduceLE, Nat.reduceMul, r7, r34, scrub, AV.ids, idsL])
   ·have hq2 : q < 1024 := Nat.lt_of_lt_of_le hq hbig
    try refine ⟨by (first|trivial|((repeat' apply And.intro) <;> first|trivial|assumption|omega|(simp only [maxLen]; omega)|(simp only [length_edsA, length_rowsA, length_rowA, List.length_replicate, List.length_append, List.length_cons, List.length_nil, List.length_map, List.length_take, List.length_drop, List.length_set, List.length_reverse, maxLen] <;> omega))), ?_⟩
    rw [hds]
    rcases h with h|h <;> simp [h, edsA, xA]
   ·rw [hds]
    simp [h.1, h.2]
  ·have hj : (if (jumpOf Exit.normal).isSome = true then max l.length r.length * i.toNat + 1 else max l.length r.length * i.toNat) = max l.length r.length * i.toNat := rfl
   rw [hj]
   unfold diffH
   rw [seqE_all]
   repeat' (first|(first|(refine a0_ ?_; first|refine a1_ rfl rfl ?_|refine a2_ rfl ?_|refine a3_ rfl rfl ?_|refine a4_ rfl ?_|refine a5_ rfl rfl rfl ?_|refine a6_ rfl rfl ?_)|(refine g0_ ?_; first|refine g1_ rfl ?_|refine g2_ rfl rfl ?_|refine go_draw (dr := allQ) rfl rfl mixed (by first|assumption|kernel_rfl) ?_|refine g4_ rfl ?_|refine g5_ rfl ?_|refine g6_ rfl ?_|refine g7_ rfl ?_|refine g8_ rfl ?_)|(refine o0_ ?_; first|refine o1_ ?_|refine o2_ ?_|refine o3_ ?_|refine o4_ ?_|refine o5_ ?_|refine o6_ rfl ?_|refine o7_ rfl ?_|refine o8_ ?_|refine o9_ ?_|refine oa_ ?_|refine ob_ ?_|refine oc_ ?_|refine od_ ?_|refine oe_ ?_|refine of_ ?_|refine og_ ?_))|refine at_go ?_|(with_reducible refine And.intro (at_go ?_) (at_go ?_))|((with_reducible refine And.intro (fun h => ?_) (fun h => ?_)) <;> try (exfalso; omega))|(with_reducible refine And.intro (by first|omega|(simp only [maxLen]; omega)) ?_)|(first|(refine ⟨_, _, clip42_own 4 (diffEds l r (max l.length r.length) i.toNat).length _ 61 (edsA (diffEds l r (max l.length r.length) i.toNat)) _ _ rfl (length_edsA _).symm, ?_⟩)|(refine ⟨_, clip42_own 4 (diffEds l r (max l.length r.length) i.toNat).length _ 61 (edsA (diffEds l r (max l.length r.length) i.toNat)) _ _ rfl (length_edsA _).symm, ?_⟩)|(refine ⟨_, fun _ => clip42_own 4 (diffEds l r (max l.length r.length) i.toNat).length _ 61 (edsA (diffEds l r (max l.length r.length) i.toNat)) _ _ rfl (length_edsA _).symm, ?_⟩))|simp (disch := first|omega|(simp only [length_edsA, length_rowsA, length_rowA, List.length_set, List.length_reverse, List.length_replicate, List.length_append, List.length_cons, List.length_nil, List.length_map]; omega)) only [push_cast, ↓reduceIte, reduceIte, reduceCtorEq, Nat.reduceAdd, Nat.reduceLT, Nat.reduceEqDiff, Nat.reduceLeDiff, Int.reduceAdd, Int.reduceLT, Int.reduceLE, Nat.reduceMul, a0, a1, idsE_edsA])
   simp [diffM]
 ·rw [if_neg hp]
  generalize pairErr i o l i' o' r = e at *
  unfold pA pZ
  refine pc_go 1 51 [.cell 4 36, .tmp 5] Tryz.func11 rfl rfl rfl (by simp) ?_
  intro s ⟨a0, a1, hz⟩
  simp only [Nat.zero_add, Nat.reduceAdd] at a1
  clear hz
  repeat' (first|(first|(refine a0_ ?_; first|refine a1_ rfl rfl ?_|refine a2_ rfl ?_|refine a3_ rfl rfl ?_|refine a4_ rfl ?_|refine a5_ rfl rfl rfl ?_|refine a6_ rfl rfl ?_)|(refine g0_ ?_; first|refine g1_ rfl ?_|refine g2_ rfl rfl ?_|refine go_draw (dr := allQ) rfl rfl mixed (by first|assumption|kernel_rfl) ?_|refine g4_ rfl ?_|refine g5_ rfl ?_|refine g6_ rfl ?_|refine g7_ rfl ?_|refine g8_ rfl ?_)|(refine o0_ ?_; first|refine o1_ ?_|refine o2_ ?_|refine o3_ ?_|refine o4_ ?_|refine o5_ ?_|refine o6_ rfl ?_|refine o7_ rfl ?_|refine o8_ ?_|refine o9_ ?_|refine oa_ ?_|refine ob_ ?_|refine oc_ ?_|refine od_ ?_|refine oe_ ?_|refine of_ ?_|refine og_ ?_))|refine at_go ?_|(with_reducible refine And.intro (at_go ?_) (at_go ?_))|((with_reducible refine And.intro (fun h => ?_) (fun h => ?_)) <;> try (exfalso; omega))|(with_reducible refine And.intro (by first|omega|(simp only [maxLen]; omega)) ?_)|(first|(refine ⟨_, _, pc_lift (hC) (by (simp [idsL, idsE, AV.ids, Nat.add_zero])) _, ?_⟩)|(refine ⟨_, pc_lift (hC) (by (simp [idsL, idsE, AV.ids, Nat.add_zero])) _, ?_⟩)|(refine ⟨_, fun _ => pc_lift (hC) (by (simp [idsL, idsE, AV.ids, Nat.add_zero])) _, ?_⟩)|(refine ⟨_, _, pc_lift (hB) (by (simp [idsL, idsE, AV.ids, Nat.add_zero])) _, ?_⟩)|(refine ⟨_, pc_lift (hB) (by (simp [idsL, idsE, AV.ids, Nat.add_zero])) _, ?_⟩)|(refine ⟨_, fun _ => pc_lift (hB) (by (simp [idsL, idsE, AV.ids, Nat.add_zero])) _, ?_⟩))|simp (disch := first|omega|(simp only [length_edsA, length_rowsA, length_rowA, List.length_set, List.length_reverse, List.length_replicate, List.length_append, List.length_cons, List.length_nil, List.length_map]; omega)) only [push_cast, ↓reduceIte, reduceIte, reduceCtorEq, Nat.reduceAdd, Nat.reduceLT, Nat.reduceEqDiff, Nat.reduceLeDiff, Int.reduceAdd, Int.reduceLT, Int.reduceLE, Nat.reduceMul, a0, a1])
  rfl
end Go.Proofs
