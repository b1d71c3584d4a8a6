import Derived.Test.YtbgdagokjfmcbaaGreatDoorZ3
import Derived.Test.YtbgdagokjfmcbaaGreatDoorD14
namespace Go.Proofs
open Go Go.V
set_option linter.unusedVariables false
set_option linter.unusedSimpArgs false
set_option maxHeartbeats 0
theorem after_mem {s x : Bs} (h : x ∈ afterM s) : x.length ≤ s.length := by
 obtain ⟨l, y, a, b, _⟩ := after_back s.length s (Nat.le_refl _)
 rw [a] at h
 have hl := congrArg List.length b
 rw [List.length_append] at hl
 rcases List.mem_append.1 h with q|q
 ·have := List.Sublist.length_le (List.sublist_flatten_of_mem q)
  omega
 ·simp at q; subst q; omega
theorem cutSuf_ten (l : Bs) : cutSuf l [10] = (bodyB l, endedB l) := by
 unfold cutSuf bodyB endedB
 cases h : [10].isSuffixOf l with
 | true => simp [List.dropLast_eq_take]
 | false => simp
theorem body_len (l : Bs) : (bodyB l).length ≤ l.length := by
 unfold bodyB
 split
 ·simp
 ·exact Nat.le_refl _
theorem checkP_01 (p : Pt) : checkP p = 0 ∨ checkP p = 1 := by unfold checkP; split <;> simp
def ptA (p : Pt) (a : AV) : List AV := [.int .i64 p.inp, .int .i64 p.o0, .int .i64 p.o1, .int .i64 p.s0, .int .i64 p.s1, a]
def prsH (out : Pt) : List Blk := [.row 6 36 [[.int .i64 0, .int .i64 0, .int .i64 0, .int .i64 0, .int .i64 0, .sl 0 [] (some 0)]], .row 6 36 [ptA out (.own 2 out.ed.length out.ed.length none)], .row 6 61 (edsA out.ed)]
set_option maxRecDepth 100000 in
theorem parse_end (out : Pt) (hl : out.ed.length ≤ 100000) (R : Pt × Int × Int) (hR : R = if checkP out ≠ 0 then (pNil, 0, checkP out) else (out, 0, 0)) (s : Nat → AV) (q2 : s 2 = .ptr 0 0 0 1) (q5 : s 5 = .ptr 1 0 0 1) :
  Go false Tryz.prog G0 0 115 (bodyOf Tryz.f8) [0, 1, 1, 1, 1, 1] (thenC false Tryz.prog G0 0 115 (bodyOf Tryz.f8) [1, 1, 1, 1, 1, 1] (DoneS Tryz.prog 115 [ResultVar.cell 2 36, ResultVar.tmp 3, ResultVar.tmp 4] 1 (.tup [pA R.1 6 (some R.1.ed.length), .int .i64 R.2.1, .int .i64 R.2.2]))) True s (prsH out) := by
 have h1 := check36_own out 2 61 (prsH out) rfl (by omega) none out.ed.length out.ed.length rfl rfl
 have h2 := clip42_own 2 out.ed.length out.ed.length 61 (edsA out.ed) none (prsH out) rfl (length_edsA _).symm
 have et : (edsA out.ed).take out.ed.length = edsA out.ed := List.take_of_length_le (by rw [length_edsA]; exact Nat.le_refl _)
 rcases checkP_01 out with h0|h0
 ·rw [h0, if_neg (by simp)] at hR
  rw [h0] at h1
  subst hR
  unfold prsH ptA pA at *
  dsimp only
  repeat' (first|(first|(refine a0_ ?_; first|refine a1_ rfl rfl ?_|refine a2_ rfl ?_|refine a3_ rfl rfl ?_|refine a4_ rfl ?_|refine a5_ rfl rfl rfl ?_|refine a6_ rfl rfl ?_)|(refine g0_ ?_; first|refine g1_ rfl ?_|refine g2_ rfl rfl ?_|refine go_draw (dr := allQ) rfl rfl mixed (by first|assumption|kernel_rfl) ?_|refine g4_ rfl ?_|refine g5_ rfl ?_|refine g6_ rfl ?_|refine g7_ rfl ?_|refine g8_ rfl ?_)|(refine o0_ ?_; first|refine o1_ ?_|refine o2_ ?_|refine o3_ ?_|refine o4_ ?_|refine o5_ ?_|refine o6_ rfl ?_|refine o7_ rfl ?_|refine o8_ ?_|refine o9_ ?_|refine oa_ ?_|refine ob_ ?_|refine oc_ ?_|refine od_ ?_|refine oe_ ?_|refine of_ ?_|refine og_ ?_))|refine at_go ?_|(with_reducible refine And.intro (at_go ?_) (at_go ?_))|((with_reducible refine And.intro (fun h => ?_) (fun h => ?_)) <;> try (exfalso; omega))|(with_reducible refine And.intro (by first|omega|(simp only [maxLen]; omega)) ?_)|(first|(refine ⟨_, _, h1, ?_⟩)|(refine ⟨_, h1, ?_⟩)|(refine ⟨_, fun _ => h1, ?_⟩)|(refine ⟨_, _, h2, ?_⟩)|(refine ⟨_, h2, ?_⟩)|(refine ⟨_, fun _ => h2, ?_⟩))|simp (disch := first|omega|(simp only [length_ints, length_strs, length_edsA, List.length_set, List.length_reverse, List.length_replicate, List.length_append, List.length_cons, List.length_nil, List.length_map]; omega)) only [push_cast, ↓reduceIte, reduceIte, reduceCtorEq, Nat.reduceAdd, Nat.reduceLT, Nat.reduceEqDiff, Nat.reduceLeDiff, Int.reduceAdd, Int.reduceLT, Int.reduceLE, Nat.reduceMul, q2, q5, et])
 ·rw [h0, if_pos (by simp)] at hR
  rw [h0] at h1
  subst hR
  unfold prsH ptA pA pNil at *
  dsimp only
  repeat' (first|(first|(refine a0_ ?_; first|refine a1_ rfl rfl ?_|refine a2_ rfl ?_|refine a3_ rfl rfl ?_|refine a4_ rfl ?_|refine a5_ rfl rfl rfl ?_|refine a6_ rfl rfl ?_)|(refine g0_ ?_; first|refine g1_ rfl ?_|refine g2_ rfl rfl ?_|refine go_draw (dr := allQ) rfl rfl mixed (by first|assumption|kernel_rfl) ?_|refine g4_ rfl ?_|refine g5_ rfl ?_|refine g6_ rfl ?_|refine g7_ rfl ?_|refine g8_ rfl ?_)|(refine o0_ ?_; first|refine o1_ ?_|refine o2_ ?_|refine o3_ ?_|refine o4_ ?_|refine o5_ ?_|refine o6_ rfl ?_|refine o7_ rfl ?_|refine o8_ ?_|refine o9_ ?_|refine oa_ ?_|refine ob_ ?_|refine oc_ ?_|refine od_ ?_|refine oe_ ?_|refine of_ ?_|refine og_ ?_))|refine at_go ?_|(with_reducible refine And.intro (at_go ?_) (at_go ?_))|((with_reducible refine And.intro (fun h => ?_) (fun h => ?_)) <;> try (exfalso; omega))|(with_reducible refine And.intro (by first|omega|(simp only [maxLen]; omega)) ?_)|(first|(refine ⟨_, _, h1, ?_⟩)|(refine ⟨_, h1, ?_⟩)|(refine ⟨_, fun _ => h1, ?_⟩)|(refine ⟨_, _, h2, ?_⟩)|(refine ⟨_, h2, ?_⟩)|(refine ⟨_, fun _ => h2, ?_⟩))|simp (disch := first|omega|(simp only [length_ints, length_strs, length_edsA, List.length_set, List.length_reverse, List.length_replicate, List.length_append, List.length_cons, List.length_nil, List.length_map]; omega)) only [push_cast, ↓reduceIte, reduceIte, reduceCtorEq, Nat.reduceAdd, Nat.reduceLT, Nat.reduceEqDiff, Nat.reduceLeDiff, Int.reduceAdd, Int.reduceLT, Int.reduceLE, Nat.reduceMul, q2, q5, et, edsA_nil])
set_option maxRecDepth 100000 in
theorem parse8 (s : Bs) (hs : s.length ≤ 65536) : PC Tryz.prog G0 8 [.str s] (.tup [pA (parseD s).1 6 (some (parseD s).1.ed.length), .int .i64 (parseD s).2.1, .int .i64 (parseD s).2.2]) := by
 have hA := fun H => after24 s 10 (by omega) H
 have hmem := fun (x : Bs) (h : x ∈ afterM s) => after_mem h
 have hne : afterM s ≠ [] := by
  obtain ⟨l, y, a, _, _⟩ := after_back s.length s (Nat.le_refl _)
  rw [a]; simp
 have hp : parseD s = if (linesP 0 pNil (afterM s)).2.2 ≠ 0 then linesP 0 pNil (afterM s)
   else if checkP (linesP 0 pNil (afterM s)).1 ≠ 0 then (pNil, 0, checkP (linesP 0 pNil (afterM s)).1)
   else ((linesP 0 pNil (afterM s)).1, 0, 0) := by unfold parseD; rw [if_neg (by omega)]
 have hll : (afterM s).length ≤ 65537 := by
  obtain ⟨l, y, a, b, _⟩ := after_back s.length s (Nat.le_refl _)
  rw [a]
  have h1 := congrArg List.length b
  have h2 : ∀ l : List Bs, l.length ≤ (l.map (· ++ [10])).flatten.length := fun l => by
   induction l with
   | nil => simp
   | cons x l ih => simp only [List.map_cons, List.flatten_cons, List.length_append, List.length_cons, List.length_nil]; omega
  have := h2 l
  simp only [List.length_append, List.length_map, List.length_cons, List.length_nil] at h1 ⊢
  omega
 obtain ⟨R, hR⟩ : ∃ R, R = parseD s := ⟨_, rfl⟩
 rw [← hR]
 rw [hp] at hR
 change ∀ H, ACalls Tryz.prog G0 24 [.str s, .str [10]] H (.sl 1 (strs (afterM s)) (some (afterM s).length)) H at hA
 generalize afterM s = L at *
 have hbad : ∀ n e, linesP 0 pNil L = (pNil, n, e) → e ≠ 0 → R = (pNil, n, e) := fun n e h h0 => by rw [hR, h, if_pos h0]
 have hend : ∀ o, linesP 0 pNil L = (o, 0, 0) → R = if checkP o ≠ 0 then (pNil, 0, checkP o) else (o, 0, 0) := fun o h => by rw [hR, h, if_neg (by simp)]
 clear hR hp
 obtain ⟨R1, R2, R3⟩ := R
 have hns : ¬ (65536 : Int) < s.length := by omega
 refine pc_go 1 115 [.cell 2 36, .tmp 3, .tmp 4] Tryz.func8 rfl rfl rfl (by simp) ?_
 intro s ⟨a0, hz⟩
 clear hz
 repeat' (first|(first|(refine a0_ ?_; first|refine a1_ rfl rfl ?_|refine a2_ rfl ?_|refine a3_ rfl rfl ?_|refine a4_ rfl ?_|refine a5_ rfl rfl rfl ?_|refine a6_ rfl rfl ?_)|(refine g0_ ?_; first|refine g1_ rfl ?_|refine g2_ rfl rfl ?_|refine go_draw (dr := allQ) rfl rfl mixed (by first|assumption|kernel_rfl) ?_|refine g4_ rfl ?_|refine g5_ rfl ?_|refine g6_ rfl ?_|refine g7_ rfl ?_|refine g8_ rfl ?_)|(refine o0_ ?_; first|refine o1_ ?_|refine o2_ ?_|refine o3_ ?_|refine o4_ ?_|refine o5_ ?_|refine o6_ rfl ?_|refine o7_ rfl ?_|refine o8_ ?_|refine o9_ ?_|refine oa_ ?_|refine ob_ ?_|refine oc_ ?_|refine od_ ?_|refine oe_ ?_|refine of_ ?_|refine og_ ?_))|refine at_go ?_|(with_reducible refine And.intro (at_go ?_) (at_go ?_))|((with_reducible refine And.intro (fun h => ?_) (fun h => ?_)) <;> try (exfalso; omega))|(with_reducible refine And.intro (by first|omega|(simp only [maxLen]; omega)) ?_)|(first|(refine ⟨_, _, hA _, ?_⟩)|(refine ⟨_, hA _, ?_⟩)|(refine ⟨_, fun _ => hA _, ?_⟩))|simp (disch := first|omega|(simp only [length_ints, length_strs, length_edsA, List.length_set, List.length_reverse, List.length_replicate, List.length_append, List.length_cons, List.length_nil, List.length_map]; omega)) only [push_cast, ↓reduceIte, reduceIte, reduceCtorEq, Nat.reduceAdd, Nat.reduceLT, Nat.reduceEqDiff, Nat.reduceLeDiff, Int.reduceAdd, Int.reduceLT, Int.reduceLE, Nat.reduceMul, a0, hns])
 refine go_loop rfl (fun mz s' H' => ∃ (k : Nat), k ≤ L.length ∧ mz = L.length - k ∧ s' 2 = .ptr 0 0 0 1 ∧ s' 5 = .ptr 1 0 0 1 ∧ s' 24 = .sl 1 (strs L) (some L.length) ∧ s' 25 = .int .i64 L.length ∧ s' 26 = .int .i64 k ∧
  ((k = 0 ∧ H' = [.row 6 36 [[.int .i64 0, .int .i64 0, .int .i64 0, .int .i64 0, .int .i64 0, .sl 0 [] (some 0)]], .row 6 36 [[.int .i64 0, .int .i64 0, .int .i64 0, .int .i64 0, .int .i64 0, .sl 0 [] (some 0)]]]) ∨
   (1 ≤ k ∧ ∃ out : Pt, linesP 0 pNil L = linesP k out (L.drop k) ∧ H' = prsH out ∧ out.ed.length ≤ k))) (m := L.length) (by (first|trivial|((repeat' apply And.intro) <;> first|trivial|assumption|omega|(simp only [maxLen]; omega)|(simp only [length_ints, length_strs, length_edsA, List.length_replicate, List.length_append, List.length_cons, List.length_nil, List.length_map, List.length_take, List.length_drop, List.length_set, List.length_reverse, maxLen] <;> omega)))) (Weak.refl _ _) ⟨0, by omega, by omega, ?_⟩ ?_
 ·simp (disch := first|omega|(simp only [length_ints, length_strs, length_edsA, List.length_set, List.length_reverse, List.length_replicate, List.length_append, List.length_cons, List.length_nil, List.length_map]; omega)) only [push_cast, ↓reduceIte, reduceIte, reduceCtorEq, Nat.reduceAdd, Nat.reduceLT, Nat.reduceEqDiff, Nat.reduceLeDiff, Int.reduceAdd, Int.reduceLT, Int.reduceLE, Nat.reduceMul, a0, hns]
 ·rintro mz s' H' ⟨k, hk, rfl, b2, b5, b24, b25, b26, hcase⟩
  rcases hcase with ⟨rfl, rfl⟩|⟨hk1, out, hW, rfl, hol⟩
  ·have hlt : 0 < L.length := List.length_pos_iff.2 hne
   have e1 := strs_getD L 0 hlt
   have hx : L.getD 0 [] ∈ L := by rw [List.getD_eq_getElem?_getD, List.getElem?_eq_getElem hlt]; exact List.getElem_mem hlt
   have hlm := hmem _ hx
   have hL : L = L.getD 0 [] :: L.drop 1 := by
    cases L with
    | nil => exact absurd rfl hne
    | cons x xs => rfl
   have hW : linesP 0 pNil L = match endedB (L.getD 0 []), headM (bodyB (L.getD 0 [])) with|true, some p => linesP 1 p (L.drop 1)|_, _ => (pNil, 1, 4) := by
    conv => lhs; rw [hL]
    rw [linesP, if_neg (by omega), if_pos rfl]
    rfl
   generalize L.getD 0 [] = l at *
   have hbl := body_len l
   have h1 := cutSuffix25 l [10] (by omega) (by simp)
   rw [cutSuf_ten] at h1
   dsimp only at h1
   have h2 := cutPrefix26 (bodyB l) [112, 97, 116, 99, 104, 32] (by omega) (by simp)
   have hc0 : (decide (l = []) && decide ((0 : Int) < 0)) = false := by simp
   obtain ⟨c1, c2, hc⟩ : ∃ c1 c2, cutPre (bodyB l) [112, 97, 116, 99, 104, 32] = (c1, c2) := ⟨_, _, rfl⟩
   rw [hc] at h2
   dsimp only at h2
   have hcl : c1.length ≤ (bodyB l).length := by
    unfold cutPre at hc
    split at hc
    ·injection hc with q _; rw [← q]; simp
    ·injection hc with q _; rw [← q]; exact Nat.le_refl _
   have h3 := numbers27 c1 [32] 5 (by omega) (by simp)
   have h4 := numsM_A c1 [32] 5
   rw [show ((5 : Nat) : Int) = 5 from rfl] at h4
   have hgood : ∀ xs, c2 = true → numsM c1 [32] 5 = some xs → ∃ a b c d e, xs = [a, b, c, d, e] ∧ headM (bodyB l) = some ⟨a, b, c, d, e, []⟩ := fun xs q1 q2 => by
    unfold cutPre at hc
    split at hc
    ·rename_i hpre
     injection hc with q3 _
     have hl5 := (numsM_back q2).2.1
     match xs, hl5 with
     | [a, b, c, d, e], _ => exact ⟨a, b, c, d, e, rfl, by
       unfold headM
       rw [if_pos hpre, show (bodyB l).drop 6 = c1 from q3, q2]⟩
    ·injection hc with _ q3; rw [← q3] at q1; cases q1
   have hnone : (c2 = false ∨ numsM c1 [32] 5 = none) → headM (bodyB l) = none := fun q => by
    unfold headM
    unfold cutPre at hc
    split at hc
    ·rename_i hpre
     injection hc with q3 q4
     rcases q with q|q
     ·rw [← q4] at q; cases q
     ·rw [if_pos hpre, show (bodyB l).drop 6 = c1 from q3, q]
    ·rename_i hpre
     rw [if_neg hpre]
   clear hc
   obtain ⟨A1, A2, hA12⟩ : ∃ A1 A2, numsA c1 [32] 5 = (A1, A2) := ⟨_, _, rfl⟩
   rw [hA12] at h3 h4
   dsimp only at h3 h4
   by_cases hall : (endedB l && c2 && A2) = true
   ·simp only [Bool.and_eq_true] at hall
    obtain ⟨⟨w1, w2⟩, w3⟩ := hall
    subst w2; subst w3
    obtain ⟨xs, g1, g2, g3⟩ := h4.resolve_right fun q => by cases q.2
    obtain ⟨a, b, c, d, e, rfl, g4⟩ := hgood xs rfl g1
    simp only [Prod.mk.injEq, and_true] at g2
    subst g2
    rw [w1, g4] at hW
    dsimp only at hW
    rw [w1] at h1
    change PC Tryz.prog G0 27 [.str c1, .str [32], .int .i64 5] (.tup [.sl 1 [[.int .i64 a], [.int .i64 b], [.int .i64 c], [.int .i64 d], [.int .i64 e]] (some 5), .bool true]) at h3
    have t2 : (2 : Int).toNat = 2 := rfl
    have t3 : (3 : Int).toNat = 3 := rfl
    have t4 : (4 : Int).toNat = 4 := rfl
    repeat' (first|(first|(refine a0_ ?_; first|refine a1_ rfl rfl ?_|refine a2_ rfl ?_|refine a3_ rfl rfl ?_|refine a4_ rfl ?_|refine a5_ rfl rfl rfl ?_|refine a6_ rfl rfl ?_)|(refine g0_ ?_; first|refine g1_ rfl ?_|refine g2_ rfl rfl ?_|refine go_draw (dr := allQ) rfl rfl mixed (by first|assumption|kernel_rfl) ?_|refine g4_ rfl ?_|refine g5_ rfl ?_|refine g6_ rfl ?_|refine g7_ rfl ?_|refine g8_ rfl ?_)|(refine o0_ ?_; first|refine o1_ ?_|refine o2_ ?_|refine o3_ ?_|refine o4_ ?_|refine o5_ ?_|refine o6_ rfl ?_|refine o7_ rfl ?_|refine o8_ ?_|refine o9_ ?_|refine oa_ ?_|refine ob_ ?_|refine oc_ ?_|refine od_ ?_|refine oe_ ?_|refine of_ ?_|refine og_ ?_))|refine at_go ?_|(with_reducible refine And.intro (at_go ?_) (at_go ?_))|((with_reducible refine And.intro (fun h => ?_) (fun h => ?_)) <;> try (exfalso; omega))|(with_reducible refine And.intro (by first|omega|(simp only [maxLen]; omega)) ?_)|(first|(refine ⟨_, _, pc_lift (h1) (by (simp [idsL, idsE, AV.ids, Nat.add_zero])) _, ?_⟩)|(refine ⟨_, pc_lift (h1) (by (simp [idsL, idsE, AV.ids, Nat.add_zero])) _, ?_⟩)|(refine ⟨_, fun _ => pc_lift (h1) (by (simp [idsL, idsE, AV.ids, Nat.add_zero])) _, ?_⟩)|(refine ⟨_, _, pc_lift (h2) (by (simp [idsL, idsE, AV.ids, Nat.add_zero])) _, ?_⟩)|(refine ⟨_, pc_lift (h2) (by (simp [idsL, idsE, AV.ids, Nat.add_zero])) _, ?_⟩)|(refine ⟨_, fun _ => pc_lift (h2) (by (simp [idsL, idsE, AV.ids, Nat.add_zero])) _, ?_⟩)|(refine ⟨_, _, pc_lift (h3) (by (simp [idsL, idsE, AV.ids, Nat.add_zero])) _, ?_⟩)|(refine ⟨_, pc_lift (h3) (by (simp [idsL, idsE, AV.ids, Nat.add_zero])) _, ?_⟩)|(refine ⟨_, fun _ => pc_lift (h3) (by (simp [idsL, idsE, AV.ids, Nat.add_zero])) _, ?_⟩))|simp (disch := first|omega|(simp only [length_ints, length_strs, length_edsA, List.length_set, List.length_reverse, List.length_replicate, List.length_append, List.length_cons, List.length_nil, List.length_map]; omega)) only [push_cast, ↓reduceIte, reduceIte, reduceCtorEq, Nat.reduceAdd, Nat.reduceLT, Nat.reduceEqDiff, Nat.reduceLeDiff, Int.reduceAdd, Int.reduceLT, Int.reduceLE, Nat.reduceMul, b2, b5, b24, b25, b26, e1, hc0, t2, t3, t4])
    refine ⟨by (first|trivial|((repeat' apply And.intro) <;> first|trivial|assumption|omega|(simp only [maxLen]; omega)|(simp only [length_ints, length_strs, length_edsA, List.length_replicate, List.length_append, List.length_cons, List.length_nil, List.length_map, List.length_take, List.length_drop, List.length_set, List.length_reverse, maxLen] <;> omega))), L.length - 1, _, _, by omega, weak_nil_cell (b := 1) (i := 0) (j := 5) (sz := 6) (ty := 61) rfl rfl rfl, 1, by omega, rfl, ?_⟩
    simp (disch := first|omega|(simp only [length_ints, length_strs, length_edsA, List.length_set, List.length_reverse, List.length_replicate, List.length_append, List.length_cons, List.length_nil, List.length_map]; omega)) only [push_cast, ↓reduceIte, reduceIte, reduceCtorEq, Nat.reduceAdd, Nat.reduceLT, Nat.reduceEqDiff, Nat.reduceLeDiff, Int.reduceAdd, Int.reduceLT, Int.reduceLE, Nat.reduceMul, b2, b5, b24, b25, b26, e1, hc0, t2, t3, t4]
    exact .inr ⟨⟨a, b, c, d, e, []⟩, hW, rfl, by simp⟩
   ·have hb : (endedB l && c2 && A2) = false := by simpa using hall
    have hW2 : linesP 0 pNil L = (pNil, 1, 4) := by
     rw [hW]
     split
     ·rename_i p g1 g2
      rw [g1, Bool.true_and] at hb
      rcases h4 with ⟨xs, k1, k2, k3⟩|⟨k1, k2⟩
      ·simp only [Prod.mk.injEq] at k2
       rw [k2.2, Bool.and_true] at hb
       rw [hnone (.inl hb)] at g2; cases g2
      ·rw [hnone (.inr k1)] at g2; cases g2
     ·rfl
    have hE := hbad 1 4 hW2 (by omega)
    injection hE with g1 g2
    injection g2 with g2 g3
    subst g1; subst g2; subst g3
    clear hW hW2 hgood hnone h4 hbad hend hall
    generalize endedB l = en at *
    unfold pNil pA
    dsimp only
    cases en with
    | false =>
     repeat' (first|(first|(refine a0_ ?_; first|refine a1_ rfl rfl ?_|refine a2_ rfl ?_|refine a3_ rfl rfl ?_|refine a4_ rfl ?_|refine a5_ rfl rfl rfl ?_|refine a6_ rfl rfl ?_)|(refine g0_ ?_; first|refine g1_ rfl ?_|refine g2_ rfl rfl ?_|refine go_draw (dr := allQ) rfl rfl mixed (by first|assumption|kernel_rfl) ?_|refine g4_ rfl ?_|refine g5_ rfl ?_|refine g6_ rfl ?_|refine g7_ rfl ?_|refine g8_ rfl ?_)|(refine o0_ ?_; first|refine o1_ ?_|refine o2_ ?_|refine o3_ ?_|refine o4_ ?_|refine o5_ ?_|refine o6_ rfl ?_|refine o7_ rfl ?_|refine o8_ ?_|refine o9_ ?_|refine oa_ ?_|refine ob_ ?_|refine oc_ ?_|refine od_ ?_|refine oe_ ?_|refine of_ ?_|refine og_ ?_))|refine at_go ?_|(with_reducible refine And.intro (at_go ?_) (at_go ?_))|((with_reducible refine And.intro (fun h => ?_) (fun h => ?_)) <;> try (exfalso; omega))|(with_reducible refine And.intro (by first|omega|(simp only [maxLen]; omega)) ?_)|(first|(refine ⟨_, _, pc_lift (h1) (by (simp [idsL, idsE, AV.ids, Nat.add_zero])) _, ?_⟩)|(refine ⟨_, pc_lift (h1) (by (simp [idsL, idsE, AV.ids, Nat.add_zero])) _, ?_⟩)|(refine ⟨_, fun _ => pc_lift (h1) (by (simp [idsL, idsE, AV.ids, Nat.add_zero])) _, ?_⟩)|(refine ⟨_, _, pc_lift (h2) (by (simp [idsL, idsE, AV.ids, Nat.add_zero])) _, ?_⟩)|(refine ⟨_, pc_lift (h2) (by (simp [idsL, idsE, AV.ids, Nat.add_zero])) _, ?_⟩)|(refine ⟨_, fun _ => pc_lift (h2) (by (simp [idsL, idsE, AV.ids, Nat.add_zero])) _, ?_⟩)|(refine ⟨_, _, pc_lift (h3) (by (simp [idsL, idsE, AV.ids, Nat.add_zero])) _, ?_⟩)|(refine ⟨_, pc_lift (h3) (by (simp [idsL, idsE, AV.ids, Nat.add_zero])) _, ?_⟩)|(refine ⟨_, fun _ => pc_lift (h3) (by (simp [idsL, idsE, AV.ids, Nat.add_zero])) _, ?_⟩))|simp (disch := first|omega|(simp only [length_ints, length_strs, length_edsA, List.length_set, List.length_reverse, List.length_replicate, List.length_append, List.length_cons, List.length_nil, List.length_map]; omega)) only [push_cast, ↓reduceIte, reduceIte, reduceCtorEq, Nat.reduceAdd, Nat.reduceLT, Nat.reduceEqDiff, Nat.reduceLeDiff, Int.reduceAdd, Int.reduceLT, Int.reduceLE, Nat.reduceMul, b2, b5, b24, b25, b26, e1, hc0, edsA_nil])
    | true =>
     cases c2 with
     | false =>
      repeat' (first|(first|(refine a0_ ?_; first|refine a1_ rfl rfl ?_|refine a2_ rfl ?_|refine a3_ rfl rfl ?_|refine a4_ rfl ?_|refine a5_ rfl rfl rfl ?_|refine a6_ rfl rfl ?_)|(refine g0_ ?_; first|refine g1_ rfl ?_|refine g2_ rfl rfl ?_|refine go_draw (dr := allQ) rfl rfl mixed (by first|assumption|kernel_rfl) ?_|refine g4_ rfl ?_|refine g5_ rfl ?_|refine g6_ rfl ?_|refine g7_ rfl ?_|refine g8_ rfl ?_)|(refine o0_ ?_; first|refine o1_ ?_|refine o2_ ?_|refine o3_ ?_|refine o4_ ?_|refine o5_ ?_|refine o6_ rfl ?_|refine o7_ rfl ?_|refine o8_ ?_|refine o9_ ?_|refine oa_ ?_|refine ob_ ?_|refine oc_ ?_|refine od_ ?_|refine oe_ ?_|refine of_ ?_|refine og_ ?_))|refine at_go ?_|(with_reducible refine And.intro (at_go ?_) (at_go ?_))|((with_reducible refine And.intro (fun h => ?_) (fun h => ?_)) <;> try (exfalso; omega))|(with_reducible refine And.intro (by first|omega|(simp only [maxLen]; omega)) ?_)|(first|(refine ⟨_, _, pc_lift (h1) (by (simp [idsL, idsE, AV.ids, Nat.add_zero])) _, ?_⟩)|(refine ⟨_, pc_lift (h1) (by (simp [idsL, idsE, AV.ids, Nat.add_zero])) _, ?_⟩)|(refine ⟨_, fun _ => pc_lift (h1) (by (simp [idsL, idsE, AV.ids, Nat.add_zero])) _, ?_⟩)|(refine ⟨_, _, pc_lift (h2) (by (simp [idsL, idsE, AV.ids, Nat.add_zero])) _, ?_⟩)|(refine ⟨_, pc_lift (h2) (by (simp [idsL, idsE, AV.ids, Nat.add_zero])) _, ?_⟩)|(refine ⟨_, fun _ => pc_lift (h2) (by (simp [idsL, idsE, AV.ids, Nat.add_zero])) _, ?_⟩)|(refine ⟨_, _, pc_lift (h3) (by (simp [idsL, idsE, AV.ids, Nat.add_zero])) _, ?_⟩)|(refine ⟨_, pc_lift (h3) (by (simp [idsL, idsE, AV.ids, Nat.add_zero])) _, ?_⟩)|(refine ⟨_, fun _ => pc_lift (h3) (by (simp [idsL, idsE, AV.ids, Nat.add_zero])) _, ?_⟩))|simp (disch := first|omega|(simp only [length_ints, length_strs, length_edsA, List.length_set, List.length_reverse, List.length_replicate, List.length_append, List.length_cons, List.length_nil, List.length_map]; omega)) only [push_cast, ↓reduceIte, reduceIte, reduceCtorEq, Nat.reduceAdd, Nat.reduceLT, Nat.reduceEqDiff, Nat.reduceLeDiff, Int.reduceAdd, Int.reduceLT, Int.reduceLE, Nat.reduceMul, b2, b5, b24, b25, b26, e1, hc0, edsA_nil])
     | true =>
      cases A2 with
      | false =>
       repeat' (first|(first|(refine a0_ ?_; first|refine a1_ rfl rfl ?_|refine a2_ rfl ?_|refine a3_ rfl rfl ?_|refine a4_ rfl ?_|refine a5_ rfl rfl rfl ?_|refine a6_ rfl rfl ?_)|(refine g0_ ?_; first|refine g1_ rfl ?_|refine g2_ rfl rfl ?_|refine go_draw (dr := allQ) rfl rfl mixed (by first|assumption|kernel_rfl) ?_|refine g4_ rfl ?_|refine g5_ rfl ?_|refine g6_ rfl ?_|refine g7_ rfl ?_|refine g8_ rfl ?_)|(refine o0_ ?_; first|refine o1_ ?_|refine o2_ ?_|refine o3_ ?_|refine o4_ ?_|refine o5_ ?_|refine o6_ rfl ?_|refine o7_ rfl ?_|refine o8_ ?_|refine o9_ ?_|refine oa_ ?_|refine ob_ ?_|refine oc_ ?_|refine od_ ?_|refine oe_ ?_|refine of_ ?_|refine og_ ?_))|refine at_go ?_|(with_reducible refine And.intro (at_go ?_) (at_go ?_))|((with_reducible refine And.intro (fun h => ?_) (fun h => ?_)) <;> try (exfalso; omega))|(with_reducible refine And.intro (by first|omega|(simp only [maxLen]; omega)) ?_)|(first|(refine ⟨_, _, pc_lift (h1) (by (simp [idsL, idsE, AV.ids, Nat.add_zero])) _, ?_⟩)|(refine ⟨_, pc_lift (h1) (by (simp [idsL, idsE, AV.ids, Nat.add_zero])) _, ?_⟩)|(refine ⟨_, fun _ => pc_lift (h1) (by (simp [idsL, idsE, AV.ids, Nat.add_zero])) _, ?_⟩)|(refine ⟨_, _, pc_lift (h2) (by (simp [idsL, idsE, AV.ids, Nat.add_zero])) _, ?_⟩)|(refine ⟨_, pc_lift (h2) (by (simp [idsL, idsE, AV.ids, Nat.add_zero])) _, ?_⟩)|(refine ⟨_, fun _ => pc_lift (h2) (by (simp [idsL, idsE, AV.ids, Nat.add_zero])) _, ?_⟩)|(refine ⟨_, _, pc_lift (h3) (by (simp [idsL, idsE, AV.ids, Nat.add_zero])) _, ?_⟩)|(refine ⟨_, pc_lift (h3) (by (simp [idsL, idsE, AV.ids, Nat.add_zero])) _, ?_⟩)|(refine ⟨_, fun _ => pc_lift (h3) (by (simp [idsL, idsE, AV.ids, Nat.add_zero])) _, ?_⟩))|simp (disch := first|omega|(simp only [length_ints, length_strs, length_edsA, List.length_set, List.length_reverse, List.length_replicate, List.length_append, List.length_cons, List.length_nil, List.length_map]; omega)) only [push_cast, ↓reduceIte, reduceIte, reduceCtorEq, Nat.reduceAdd, Nat.reduceLT, Nat.reduceEqDiff, Nat.reduceLeDiff, Int.reduceAdd, Int.reduceLT, Int.reduceLE, Nat.reduceMul, b2, b5, b24, b25, b26, e1, hc0, edsA_nil])
      | true => simp at hb
  ·rcases Nat.lt_or_ge k L.length with hlt|hge
   ·have e1 := strs_getD L k hlt
    have hx : L.getD k [] ∈ L := by rw [List.getD_eq_getElem?_getD, List.getElem?_eq_getElem hlt]; exact List.getElem_mem hlt
    have hlm := hmem _ hx
    have hL : L.drop k = L.getD k [] :: L.drop (k + 1) := by rw [List.drop_eq_getElem_cons hlt]; simp [hlt]
    generalize L.getD k [] = l at *
    rw [hL, linesP] at hW
    have hbl := body_len l
    have h1 := cutSuffix25 l [10] (by omega) (by simp)
    rw [cutSuf_ten] at h1
    dsimp only at h1
    have h2 := edit28 (bodyB l) (by omega)
    have hkk : ¬ (k : Int) = 0 := by omega
    have hkp : (0 : Int) < k := by omega
    by_cases hl0 : l = []
    ·rw [if_pos ⟨hl0, by omega⟩] at hW
     have hE := hend out hW
     repeat' (first|(first|(refine a0_ ?_; first|refine a1_ rfl rfl ?_|refine a2_ rfl ?_|refine a3_ rfl rfl ?_|refine a4_ rfl ?_|refine a5_ rfl rfl rfl ?_|refine a6_ rfl rfl ?_)|(refine g0_ ?_; first|(with_reducible refine stop_at (p := [0, 1, 1, 1, 1, 1]) ?_)|refine g1_ rfl ?_|refine g2_ rfl rfl ?_|refine go_draw (dr := allQ) rfl rfl mixed (by first|assumption|kernel_rfl) ?_|refine g4_ rfl ?_|refine g5_ rfl ?_|refine g6_ rfl ?_|refine g7_ rfl ?_|refine g8_ rfl ?_)|(refine o0_ ?_; first|refine o1_ ?_|refine o2_ ?_|refine o3_ ?_|refine o4_ ?_|refine o5_ ?_|refine o6_ rfl ?_|refine o7_ rfl ?_|refine o8_ ?_|refine o9_ ?_|refine oa_ ?_|refine ob_ ?_|refine oc_ ?_|refine od_ ?_|refine oe_ ?_|refine of_ ?_|refine og_ ?_))|refine at_go ?_|(with_reducible refine And.intro (at_go ?_) (at_go ?_))|((with_reducible refine And.intro (fun h => ?_) (fun h => ?_)) <;> try (exfalso; omega))|(with_reducible refine And.intro (by first|omega|(simp only [maxLen]; omega)) ?_)|fail|simp (disch := first|omega|(simp only [length_ints, length_strs, length_edsA, List.length_set, List.length_reverse, List.length_replicate, List.length_append, List.length_cons, List.length_nil, List.length_map]; omega)) only [push_cast, ↓reduceIte, reduceIte, reduceCtorEq, Nat.reduceAdd, Nat.reduceLT, Nat.reduceEqDiff, Nat.reduceLeDiff, Int.reduceAdd, Int.reduceLT, Int.reduceLE, Nat.reduceMul, b2, b5, b24, b25, b26, e1, hl0, hkp])
     refine Halt.mk (go_weak (by (first|trivial|((repeat' apply And.intro) <;> first|trivial|assumption|omega|(simp only [maxLen]; omega)|(simp only [length_ints, length_strs, length_edsA, List.length_replicate, List.length_append, List.length_cons, List.length_nil, List.length_map, List.length_take, List.length_drop, List.length_set, List.length_reverse, maxLen] <;> omega)))) (Weak.refl _ _) (parse_end out (by omega) (R1, R2, R3) hE _ ?_ ?_))
     all_goals
      simp (disch := first|omega|(simp only [length_ints, length_strs, length_edsA, List.length_set, List.length_reverse, List.length_replicate, List.length_append, List.length_cons, List.length_nil, List.length_map]; omega)) only [push_cast, ↓reduceIte, reduceIte, reduceCtorEq, Nat.reduceAdd, Nat.reduceLT, Nat.reduceEqDiff, Nat.reduceLeDiff, Int.reduceAdd, Int.reduceLT, Int.reduceLE, Nat.reduceMul, b2, b5, b24, b25, b26, e1, hl0, hkp]
    ·rw [if_neg (fun q => hl0 q.1), if_neg (by omega)] at hW
     cases hen : endedB l with
     | false =>
      rw [hen] at hW h1
      have hE := hbad (k + 1) 4 hW (by omega)
      injection hE with g1 g2
      injection g2 with g2 g3
      subst g1; subst g2; subst g3
      generalize editM (bodyB l) = X at *
      obtain ⟨x, hx2⟩ : ∃ x, x = X.getD edZ := ⟨_, rfl⟩
      rw [← hx2] at h2
      generalize X.isSome = bx at *
      unfold prsH ptA xA at *
      unfold pNil pA
      dsimp only
      repeat' (first|(first|(refine a0_ ?_; first|refine a1_ rfl rfl ?_|refine a2_ rfl ?_|refine a3_ rfl rfl ?_|refine a4_ rfl ?_|refine a5_ rfl rfl rfl ?_|refine a6_ rfl rfl ?_)|(refine g0_ ?_; first|refine g1_ rfl ?_|refine g2_ rfl rfl ?_|refine go_draw (dr := allQ) rfl rfl mixed (by first|assumption|kernel_rfl) ?_|refine g4_ rfl ?_|refine g5_ rfl ?_|refine g6_ rfl ?_|refine g7_ rfl ?_|refine g8_ rfl ?_)|(refine o0_ ?_; first|refine o1_ ?_|refine o2_ ?_|refine o3_ ?_|refine o4_ ?_|refine o5_ ?_|refine o6_ rfl ?_|refine o7_ rfl ?_|refine o8_ ?_|refine o9_ ?_|refine oa_ ?_|refine ob_ ?_|refine oc_ ?_|refine od_ ?_|refine oe_ ?_|refine of_ ?_|refine og_ ?_))|refine at_go ?_|(with_reducible refine And.intro (at_go ?_) (at_go ?_))|((with_reducible refine And.intro (fun h => ?_) (fun h => ?_)) <;> try (exfalso; omega))|(with_reducible refine And.intro (by first|omega|(simp only [maxLen]; omega)) ?_)|(first|(refine ⟨_, _, pc_lift (h1) (by (simp [idsL, idsE, AV.ids, Nat.add_zero])) _, ?_⟩)|(refine ⟨_, pc_lift (h1) (by (simp [idsL, idsE, AV.ids, Nat.add_zero])) _, ?_⟩)|(refine ⟨_, fun _ => pc_lift (h1) (by (simp [idsL, idsE, AV.ids, Nat.add_zero])) _, ?_⟩)|(refine ⟨_, _, pc_lift (h2) (by (simp [idsL, idsE, AV.ids, Nat.add_zero])) _, ?_⟩)|(refine ⟨_, pc_lift (h2) (by (simp [idsL, idsE, AV.ids, Nat.add_zero])) _, ?_⟩)|(refine ⟨_, fun _ => pc_lift (h2) (by (simp [idsL, idsE, AV.ids, Nat.add_zero])) _, ?_⟩))|simp (disch := first|omega|(simp only [length_ints, length_strs, length_edsA, List.length_set, List.length_reverse, List.length_replicate, List.length_append, List.length_cons, List.length_nil, List.length_map]; omega)) only [push_cast, ↓reduceIte, reduceIte, reduceCtorEq, Nat.reduceAdd, Nat.reduceLT, Nat.reduceEqDiff, Nat.reduceLeDiff, Int.reduceAdd, Int.reduceLT, Int.reduceLE, Nat.reduceMul, b2, b5, b24, b25, b26, e1, hl0, hkp, hkk, edsA_nil])
     | true =>
      rw [hen] at hW h1
      cases hX : editM (bodyB l) with
      | none =>
       rw [hX] at hW h2
       have hE := hbad (k + 1) 4 hW (by omega)
       injection hE with g1 g2
       injection g2 with g2 g3
       subst g1; subst g2; subst g3
       unfold edZ xA at h2
       unfold prsH ptA at *
       unfold pNil pA
       dsimp only [Option.getD, Option.isSome] at h2 ⊢
       repeat' (first|(first|(refine a0_ ?_; first|refine a1_ rfl rfl ?_|refine a2_ rfl ?_|refine a3_ rfl rfl ?_|refine a4_ rfl ?_|refine a5_ rfl rfl rfl ?_|refine a6_ rfl rfl ?_)|(refine g0_ ?_; first|refine g1_ rfl ?_|refine g2_ rfl rfl ?_|refine go_draw (dr := allQ) rfl rfl mixed (by first|assumption|kernel_rfl) ?_|refine g4_ rfl ?_|refine g5_ rfl ?_|refine g6_ rfl ?_|refine g7_ rfl ?_|refine g8_ rfl ?_)|(refine o0_ ?_; first|refine o1_ ?_|refine o2_ ?_|refine o3_ ?_|refine o4_ ?_|refine o5_ ?_|refine o6_ rfl ?_|refine o7_ rfl ?_|refine o8_ ?_|refine o9_ ?_|refine oa_ ?_|refine ob_ ?_|refine oc_ ?_|refine od_ ?_|refine oe_ ?_|refine of_ ?_|refine og_ ?_))|refine at_go ?_|(with_reducible refine And.intro (at_go ?_) (at_go ?_))|((with_reducible refine And.intro (fun h => ?_) (fun h => ?_)) <;> try (exfalso; omega))|(with_reducible refine And.intro (by first|omega|(simp only [maxLen]; omega)) ?_)|(first|(refine ⟨_, _, pc_lift (h1) (by (simp [idsL, idsE, AV.ids, Nat.add_zero])) _, ?_⟩)|(refine ⟨_, pc_lift (h1) (by (simp [idsL, idsE, AV.ids, Nat.add_zero])) _, ?_⟩)|(refine ⟨_, fun _ => pc_lift (h1) (by (simp [idsL, idsE, AV.ids, Nat.add_zero])) _, ?_⟩)|(refine ⟨_, _, pc_lift (h2) (by (simp [idsL, idsE, AV.ids, Nat.add_zero])) _, ?_⟩)|(refine ⟨_, pc_lift (h2) (by (simp [idsL, idsE, AV.ids, Nat.add_zero])) _, ?_⟩)|(refine ⟨_, fun _ => pc_lift (h2) (by (simp [idsL, idsE, AV.ids, Nat.add_zero])) _, ?_⟩))|simp (disch := first|omega|(simp only [length_ints, length_strs, length_edsA, List.length_set, List.length_reverse, List.length_replicate, List.length_append, List.length_cons, List.length_nil, List.length_map]; omega)) only [push_cast, ↓reduceIte, reduceIte, reduceCtorEq, Nat.reduceAdd, Nat.reduceLT, Nat.reduceEqDiff, Nat.reduceLeDiff, Int.reduceAdd, Int.reduceLT, Int.reduceLE, Nat.reduceMul, b2, b5, b24, b25, b26, e1, hl0, hkp, hkk, edsA_nil])
      | some x =>
       rw [hX] at hW h2
       dsimp only [Option.getD, Option.isSome] at hW h2
       have eo := length_edsA out.ed
       unfold xA at h2
       unfold prsH ptA
       repeat' (first|(first|(refine a0_ ?_; first|refine a1_ rfl rfl ?_|refine a2_ rfl ?_|refine a3_ rfl rfl ?_|refine a4_ rfl ?_|refine a5_ rfl rfl rfl ?_|refine a6_ rfl rfl ?_)|(refine g0_ ?_; first|refine g1_ rfl ?_|refine g2_ rfl rfl ?_|refine go_draw (dr := allQ) rfl rfl mixed (by first|assumption|kernel_rfl) ?_|refine g4_ rfl ?_|refine g5_ rfl ?_|refine g6_ rfl ?_|refine g7_ rfl ?_|refine g8_ rfl ?_)|(refine o0_ ?_; first|refine o1_ ?_|refine o2_ ?_|refine o3_ ?_|refine o4_ ?_|refine o5_ ?_|refine o6_ rfl ?_|refine o7_ rfl ?_|refine o8_ ?_|refine o9_ ?_|refine oa_ ?_|refine ob_ ?_|refine oc_ ?_|refine od_ ?_|refine oe_ ?_|refine of_ ?_|refine og_ ?_))|refine at_go ?_|(with_reducible refine And.intro (at_go ?_) (at_go ?_))|((with_reducible refine And.intro (fun h => ?_) (fun h => ?_)) <;> try (exfalso; omega))|(with_reducible refine And.intro (by first|omega|(simp only [maxLen]; omega)) ?_)|(first|(refine ⟨_, _, pc_lift (h1) (by (simp [idsL, idsE, AV.ids, Nat.add_zero])) _, ?_⟩)|(refine ⟨_, pc_lift (h1) (by (simp [idsL, idsE, AV.ids, Nat.add_zero])) _, ?_⟩)|(refine ⟨_, fun _ => pc_lift (h1) (by (simp [idsL, idsE, AV.ids, Nat.add_zero])) _, ?_⟩)|(refine ⟨_, _, pc_lift (h2) (by (simp [idsL, idsE, AV.ids, Nat.add_zero])) _, ?_⟩)|(refine ⟨_, pc_lift (h2) (by (simp [idsL, idsE, AV.ids, Nat.add_zero])) _, ?_⟩)|(refine ⟨_, fun _ => pc_lift (h2) (by (simp [idsL, idsE, AV.ids, Nat.add_zero])) _, ?_⟩))|simp (disch := first|omega|(simp only [length_ints, length_strs, length_edsA, List.length_set, List.length_reverse, List.length_replicate, List.length_append, List.length_cons, List.length_nil, List.length_map]; omega)) only [push_cast, ↓reduceIte, reduceIte, reduceCtorEq, Nat.reduceAdd, Nat.reduceLT, Nat.reduceEqDiff, Nat.reduceLeDiff, Int.reduceAdd, Int.reduceLT, Int.reduceLE, Nat.reduceMul, b2, b5, b24, b25, b26, e1, hl0, hkp, hkk, eo])
       refine out_round_take (L.length - (k + 1)) 3 (by omega) (by (first|trivial|((repeat' apply And.intro) <;> first|trivial|assumption|omega|(simp only [maxLen]; omega)|(simp only [length_ints, length_strs, length_edsA, List.length_replicate, List.length_append, List.length_cons, List.length_nil, List.length_map, List.length_take, List.length_drop, List.length_set, List.length_reverse, maxLen] <;> omega)))) (by omega) (by simp) (by simp [Blk.below, idsE, idsL, AV.ids, idsE_append]) ⟨k + 1, by omega, rfl, ?_⟩
       simp (disch := first|omega|(simp only [length_ints, length_strs, length_edsA, List.length_set, List.length_reverse, List.length_replicate, List.length_append, List.length_cons, List.length_nil, List.length_map]; omega)) only [push_cast, ↓reduceIte, reduceIte, reduceCtorEq, Nat.reduceAdd, Nat.reduceLT, Nat.reduceEqDiff, Nat.reduceLeDiff, Int.reduceAdd, Int.reduceLT, Int.reduceLE, Nat.reduceMul, b2, b5, b24, b25, b26, scrub, AV.ids, idsL, idsE_strs]
       exact .inr ⟨{ out with ed := out.ed ++ [x] }, hW, by simp [edsA, xA], by simp; omega⟩
   ·obtain rfl : k = L.length := by omega
    rw [List.drop_length, linesP] at hW
    have hE := hend out hW
    repeat' (first|(first|(refine a0_ ?_; first|refine a1_ rfl rfl ?_|refine a2_ rfl ?_|refine a3_ rfl rfl ?_|refine a4_ rfl ?_|refine a5_ rfl rfl rfl ?_|refine a6_ rfl rfl ?_)|(refine g0_ ?_; first|(with_reducible refine stop_at (p := [0, 1, 1, 1, 1, 1]) ?_)|refine g1_ rfl ?_|refine g2_ rfl rfl ?_|refine go_draw (dr := allQ) rfl rfl mixed (by first|assumption|kernel_rfl) ?_|refine g4_ rfl ?_|refine g5_ rfl ?_|refine g6_ rfl ?_|refine g7_ rfl ?_|refine g8_ rfl ?_)|(refine o0_ ?_; first|refine o1_ ?_|refine o2_ ?_|refine o3_ ?_|refine o4_ ?_|refine o5_ ?_|refine o6_ rfl ?_|refine o7_ rfl ?_|refine o8_ ?_|refine o9_ ?_|refine oa_ ?_|refine ob_ ?_|refine oc_ ?_|refine od_ ?_|refine oe_ ?_|refine of_ ?_|refine og_ ?_))|refine at_go ?_|(with_reducible refine And.intro (at_go ?_) (at_go ?_))|((with_reducible refine And.intro (fun h => ?_) (fun h => ?_)) <;> try (exfalso; omega))|(with_reducible refine And.intro (by first|omega|(simp only [maxLen]; omega)) ?_)|fail|simp (disch := first|omega|(simp only [length_ints, length_strs, length_edsA, List.length_set, List.length_reverse, List.length_replicate, List.length_append, List.length_cons, List.length_nil, List.length_map]; omega)) only [push_cast, ↓reduceIte, reduceIte, reduceCtorEq, Nat.reduceAdd, Nat.reduceLT, Nat.reduceEqDiff, Nat.reduceLeDiff, Int.reduceAdd, Int.reduceLT, Int.reduceLE, Nat.reduceMul, b2, b5, b24, b25, b26])
    refine Halt.mk (go_weak (by (first|trivial|((repeat' apply And.intro) <;> first|trivial|assumption|omega|(simp only [maxLen]; omega)|(simp only [length_ints, length_strs, length_edsA, List.length_replicate, List.length_append, List.length_cons, List.length_nil, List.length_map, List.length_take, List.length_drop, List.length_set, List.length_reverse, maxLen] <;> omega)))) (Weak.refl _ _) (parse_end out (by omega) (R1, R2, R3) hE _ ?_ ?_))
    all_goals
     simp (disch := first|omega|(simp only [length_ints, length_strs, length_edsA, List.length_set, List.length_reverse, List.length_replicate, List.length_append, List.length_cons, List.length_nil, List.length_map]; omega)) only [push_cast, ↓reduceIte, reduceIte, reduceCtorEq, Nat.reduceAdd, Nat.reduceLT, Nat.reduceEqDiff, Nat.reduceLeDiff, Int.reduceAdd, Int.reduceLT, Int.reduceLE, Nat.reduceMul, b2, b5, b24, b25, b26]
end Go.Proofs
