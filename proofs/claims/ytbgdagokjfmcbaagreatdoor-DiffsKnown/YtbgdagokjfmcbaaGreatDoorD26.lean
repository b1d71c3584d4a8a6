import Derived.Test.YtbgdagokjfmcbaaGreatDoorD23
import Derived.Test.YtbgdagokjfmcbaaGreatDoorD24
namespace Go.Proofs
open Go Go.V
set_option linter.unusedVariables false
set_option linter.unusedSimpArgs false
set_option maxHeartbeats 0
def numT (n : Int) : List UInt8 := [32] ++ Lib.itoa n
def lineE (x : Ed) : List UInt8 := Lib.itoa x.s ++ [32] ++ Lib.itoa x.i ++ [58, 32] ++ textE x.old ++ [32, 45, 62, 32] ++ textE x.new ++ [10]
def headP (p : Pt) : List UInt8 := [112, 97, 116, 99, 104] ++ numT p.inp ++ numT p.o0 ++ numT p.o1 ++ numT p.s0 ++ numT p.s1 ++ [10]
def textP (p : Pt) : List UInt8 := headP p ++ p.ed.flatMap lineE
theorem checkP_spec {p : Pt} (h : checkP p = 0) : headK p 2 = true ∧ ∀ k, k < p.ed.length → okAt p k = true := by
 rw [checkP] at h
 split at h
 ·assumption
 ·omega
def okE (e : Edg) : Prop := (-1000000 ≤ e.1 ∧ e.1 ≤ 1000000) ∧ -1000000 ≤ e.2 ∧ e.2 ≤ 1000000
theorem sideM_bd {s st ou : Int} {e : Edg} (h : sideM s e st ou = true) (h1 : st ≤ 64) (h2 : ou ≤ 64) : okE e := by
 unfold okE
 simp only [sideM, Bool.or_eq_true, Bool.and_eq_true, decide_eq_true_eq] at h
 rcases h with rfl|h
 ·simp
 ·omega
theorem okAt_bd {p : Pt} (hh : headK p 2 = true) {k : Nat} (h : okAt p k = true) : (0 ≤ (p.ed.getD k xD).s ∧ (p.ed.getD k xD).s ≤ 64) ∧ (0 ≤ (p.ed.getD k xD).i ∧ (p.ed.getD k xD).i ≤ 16) ∧ okE (p.ed.getD k xD).old ∧ okE (p.ed.getD k xD).new := by
 simp only [headK, Bool.and_eq_true, Bool.or_eq_true, decide_eq_true_eq] at hh
 simp only [okAt, okX, Bool.and_eq_true, Bool.not_eq_true', Bool.or_eq_false_iff, decide_eq_false_iff_not] at h
 obtain ⟨⟨⟨⟨⟨⟨⟨h1, h2⟩, h3⟩, h4⟩, h5⟩, h6⟩, h7⟩, h8⟩ := h
 have h9 : (if p.s0 < p.s1 then p.s1 else p.s0) ≤ 64 := by split <;> omega
 exact ⟨by omega, by omega, sideM_bd h6 (by omega) (by omega), sideM_bd h7 (by omega) (by omega)⟩
theorem textE_len {e : Edg} (h : okE e) : (textE e).length ≤ 43 := by
 obtain ⟨h1, h2⟩ := h
 unfold textE
 split
 ·simp
 ·have l1 := Lib.itoa_length_le e.1 (by omega) (by omega)
  have l2 := Lib.itoa_length_le e.2 (by omega) (by omega)
  simp; omega
def nums (p : Pt) : List Int := [p.inp, p.o0, p.o1, p.s0, p.s1]
def accH (p : Pt) (k : Nat) : List UInt8 := [112, 97, 116, 99, 104] ++ ((nums p).take k).flatMap numT
def accT (p : Pt) (k : Nat) : List UInt8 := headP p ++ (p.ed.take k).flatMap lineE
theorem accH_succ (p : Pt) (k : Nat) (h : k < 5) : accH p (k + 1) = accH p k ++ numT ((nums p).getD k 0) := by
 have hk : k < (nums p).length := h
 rw [accH, List.take_succ_eq_append_getElem hk, List.flatMap_append, accH, List.append_assoc]
 simp [hk]
theorem accH_all (p : Pt) : accH p 5 ++ [10] = headP p := by simp [accH, nums, headP]
theorem accT_succ (p : Pt) (k : Nat) (h : k < p.ed.length) : accT p (k + 1) = accT p k ++ lineE (p.ed.getD k xD) := by
 rw [accT, List.take_succ_eq_append_getElem h, List.flatMap_append, accT, List.append_assoc]
 simp [h]
theorem nums_bd {p : Pt} (hh : headK p 2 = true) (k : Nat) : 0 ≤ (nums p).getD k 0 ∧ (nums p).getD k 0 ≤ 64 := by
 simp only [headK, Bool.and_eq_true, Bool.or_eq_true, decide_eq_true_eq] at hh
 refine getD_pred (p := fun n : Int => 0 ≤ n ∧ n ≤ 64) ?_ (by omega) k
 intro x hx
 simp only [nums, List.mem_cons, List.not_mem_nil, or_false] at hx
 rcases hx with rfl|rfl|rfl|rfl|rfl <;> omega
theorem numT_len {n : Int} (h : 0 ≤ n ∧ n ≤ 64) : (numT n).length ≤ 22 := by
 have l1 := Lib.itoa_length_le n (by omega) (by omega)
 simp [numT]; omega
theorem accH_len {p : Pt} (hh : headK p 2 = true) : ∀ k, k ≤ 5 → (accH p k).length ≤ 5 + k * 22
 | 0, _ => by simp [accH]
 | k + 1, h => by
  have h1 := accH_len hh k (by omega)
  have h2 := numT_len (nums_bd hh k)
  rw [accH_succ p k (by omega), List.length_append, Nat.succ_mul]
  omega
theorem lineE_len {x : Ed} (h1 : 0 ≤ x.s ∧ x.s ≤ 64) (h2 : 0 ≤ x.i ∧ x.i ≤ 16) (h3 : okE x.old) (h4 : okE x.new) : (lineE x).length ≤ 200 := by
 have l1 := Lib.itoa_length_le x.s (by omega) (by omega)
 have l2 := Lib.itoa_length_le x.i (by omega) (by omega)
 have l3 := textE_len h3
 have l4 := textE_len h4
 simp only [lineE, List.length_append, List.length_cons, List.length_nil]
 omega
theorem accT_len {p : Pt} (hc : checkP p = 0) : ∀ k, k ≤ p.ed.length → (accT p k).length ≤ 200 + k * 200
 | 0, _ => by
  have := accH_len (checkP_spec hc).1 5 (by omega)
  have h2 := congrArg List.length (accH_all p)
  simp only [List.length_append, List.length_cons, List.length_nil] at h2
  simp [accT]; omega
 | k + 1, h => by
  have h1 := accT_len hc k (by omega)
  obtain ⟨b1, b2, b3, b4⟩ := okAt_bd (checkP_spec hc).1 ((checkP_spec hc).2 k (by omega))
  have h2 := lineE_len b1 b2 b3 b4
  rw [accT_succ p k (by omega), List.length_append, Nat.succ_mul]
  omega
set_option maxRecDepth 100000 in
theorem text47 (p : Pt) (z : Nat) (c : Option Nat) (hz : p.ed = [] ∨ z = 6) (hl : p.ed.length ≤ 100000) : PC Tryz.prog G0 7 [pA p z c] (if checkP p = 0 then .tup [.str (textP p), .int .i64 0] else .tup [.str [], .int .i64 (checkP p)]) := by
 have hC := check36 p z c hz (by omega)
 by_cases h0 : checkP p = 0
 ·rw [if_pos h0]
  obtain ⟨hh, hk0⟩ := checkP_spec h0
  obtain ⟨B0, hB0⟩ : ∃ B0, B0 = Blk.row 6 36 [[.int .i64 p.inp, .int .i64 p.o0, .int .i64 p.o1, .int .i64 p.s0, .int .i64 p.s1, .sl z (edsA p.ed) c]] := ⟨_, rfl⟩
  have hW0 := writeString75_first [112, 97, 116, 99, 104] B0 [] (by simp)
  have ha0 : accH p 0 = [112, 97, 116, 99, 104] := by simp [accH]
  unfold pA at *
  rw [h0] at hC
  unfold bldB at hW0
  rw [hB0] at hW0
  refine pc_go 0 71 [.tmp 2, .tmp 3] Tryz.func7 rfl rfl rfl (by simp) ?_
  intro s ⟨a0, hz⟩
  clear hz
  repeat' (first|(first|(refine a0_ ?_; first|refine a1_ rfl rfl ?_|refine a2_ rfl ?_|refine a3_ rfl rfl ?_|refine a4_ rfl ?_|refine a5_ rfl rfl rfl ?_|refine a6_ rfl rfl ?_)|(refine g0_ ?_; first|(with_reducible refine stop_at (p := [0, 1, 1, 1]) ?_)|refine g1_ rfl ?_|refine g2_ rfl rfl ?_|refine go_draw (dr := allQ) rfl rfl mixed (by first|assumption|kernel_rfl) ?_|refine g4_ rfl ?_|refine g5_ rfl ?_|refine g6_ rfl ?_|refine g7_ rfl ?_|refine g8_ rfl ?_)|(refine o0_ ?_; first|refine o1_ ?_|refine o2_ ?_|refine o3_ ?_|refine o4_ ?_|refine o5_ ?_|refine o6_ rfl ?_|refine o7_ rfl ?_|refine o8_ ?_|refine o9_ ?_|refine oa_ ?_|refine ob_ ?_|refine oc_ ?_|refine od_ ?_|refine oe_ ?_|refine of_ ?_|refine og_ ?_))|refine at_go ?_|(with_reducible refine And.intro (at_go ?_) (at_go ?_))|((with_reducible refine And.intro (fun h => ?_) (fun h => ?_)) <;> try (exfalso; omega))|(with_reducible refine And.intro (by first|omega|(simp only [maxLen]; omega)) ?_)|(first|(refine ⟨_, _, pc_lift (hC) (by (simp [idsL, idsE, AV.ids, Nat.add_zero])) _, ?_⟩)|(refine ⟨_, pc_lift (hC) (by (simp [idsL, idsE, AV.ids, Nat.add_zero])) _, ?_⟩)|(refine ⟨_, fun _ => pc_lift (hC) (by (simp [idsL, idsE, AV.ids, Nat.add_zero])) _, ?_⟩)|(refine ⟨_, _, hW0, ?_⟩)|(refine ⟨_, hW0, ?_⟩)|(refine ⟨_, fun _ => hW0, ?_⟩))|simp (disch := first|omega|(simp only [length_u8s, length_edsA, List.length_set, List.length_reverse, List.length_replicate, List.length_append, List.length_cons, List.length_nil, List.length_map]; omega)) only [push_cast, ↓reduceIte, reduceIte, reduceCtorEq, Nat.reduceAdd, Nat.reduceLT, Nat.reduceEqDiff, Nat.reduceLeDiff, Int.reduceAdd, Int.reduceLT, Int.reduceLE, Nat.reduceMul, a0])
  refine Halt.mk (go_weak (by (first|trivial|((repeat' apply And.intro) <;> first|trivial|assumption|omega|(simp only [maxLen]; omega)|(simp only [length_u8s, length_edsA, List.length_replicate, List.length_append, List.length_cons, List.length_nil, List.length_map, List.length_take, List.length_drop, List.length_set, List.length_reverse, maxLen] <;> omega)))) (weak_nil_cell (b := 1) (i := 0) (j := 1) (sz := 1) (ty := 5) rfl rfl rfl) ?_)
  repeat' (first|(first|(refine a0_ ?_; first|refine a1_ rfl rfl ?_|refine a2_ rfl ?_|refine a3_ rfl rfl ?_|refine a4_ rfl ?_|refine a5_ rfl rfl rfl ?_|refine a6_ rfl rfl ?_)|(refine g0_ ?_; first|refine g1_ rfl ?_|refine g2_ rfl rfl ?_|refine go_draw (dr := allQ) rfl rfl mixed (by first|assumption|kernel_rfl) ?_|refine g4_ rfl ?_|refine g5_ rfl ?_|refine g6_ rfl ?_|refine g7_ rfl ?_|refine g8_ rfl ?_)|(refine o0_ ?_; first|refine o1_ ?_|refine o2_ ?_|refine o3_ ?_|refine o4_ ?_|refine o5_ ?_|refine o6_ rfl ?_|refine o7_ rfl ?_|refine o8_ ?_|refine o9_ ?_|refine oa_ ?_|refine ob_ ?_|refine oc_ ?_|refine od_ ?_|refine oe_ ?_|refine of_ ?_|refine og_ ?_))|refine at_go ?_|(with_reducible refine And.intro (at_go ?_) (at_go ?_))|((with_reducible refine And.intro (fun h => ?_) (fun h => ?_)) <;> try (exfalso; omega))|(with_reducible refine And.intro (by first|omega|(simp only [maxLen]; omega)) ?_)|(first|(refine ⟨_, _, pc_lift (hC) (by (simp [idsL, idsE, AV.ids, Nat.add_zero])) _, ?_⟩)|(refine ⟨_, pc_lift (hC) (by (simp [idsL, idsE, AV.ids, Nat.add_zero])) _, ?_⟩)|(refine ⟨_, fun _ => pc_lift (hC) (by (simp [idsL, idsE, AV.ids, Nat.add_zero])) _, ?_⟩)|(refine ⟨_, _, hW0, ?_⟩)|(refine ⟨_, hW0, ?_⟩)|(refine ⟨_, fun _ => hW0, ?_⟩))|simp (disch := first|omega|(simp only [length_u8s, length_edsA, List.length_set, List.length_reverse, List.length_replicate, List.length_append, List.length_cons, List.length_nil, List.length_map]; omega)) only [push_cast, ↓reduceIte, reduceIte, reduceCtorEq, Nat.reduceAdd, Nat.reduceLT, Nat.reduceEqDiff, Nat.reduceLeDiff, Int.reduceAdd, Int.reduceLT, Int.reduceLE, Nat.reduceMul, a0])
  refine go_loop rfl (fun mz s' H' => ∃ k : Nat, k ≤ 5 ∧ mz = 5 - k ∧ H' = [.row 6 36 [[.int .i64 p.inp, .int .i64 p.o0, .int .i64 p.o1, .int .i64 p.s0, .int .i64 p.s1, .sl z (edsA p.ed) c]], .row 2 66 [[.ptr 1 0 0 1, .own 2 (accH p k).length (accH p k).length none]], .row 1 5 (u8s (accH p k))] ∧ s' 1 = .ptr 0 0 0 1 ∧ s' 5 = .ptr 1 0 0 1 ∧ s' 30 = .sl 1 (ints (nums p)) (some 5) ∧ s' 31 = .int .i64 5 ∧ s' 32 = .int .i64 k) (m := 5) (by (first|trivial|((repeat' apply And.intro) <;> first|trivial|assumption|omega|(simp only [maxLen]; omega)|(simp only [length_u8s, length_edsA, List.length_replicate, List.length_append, List.length_cons, List.length_nil, List.length_map, List.length_take, List.length_drop, List.length_set, List.length_reverse, maxLen] <;> omega)))) (Weak.refl _ _) ⟨0, by omega, by omega, (by first|rfl|simp [ha0]), ?_⟩ ?_
  ·simp (disch := first|omega|(simp only [length_u8s, length_edsA, List.length_set, List.length_reverse, List.length_replicate, List.length_append, List.length_cons, List.length_nil, List.length_map]; omega)) only [push_cast, ↓reduceIte, reduceIte, reduceCtorEq, Nat.reduceAdd, Nat.reduceLT, Nat.reduceEqDiff, Nat.reduceLeDiff, Int.reduceAdd, Int.reduceLT, Int.reduceLE, Nat.reduceMul, a0]
   simp [nums, ints]
  ·rintro mz s' H' ⟨k, hk, rfl, rfl, b1, b5, b30, b31, b32⟩
   have hlen := accH_len hh k hk
   have e0 := length_u8s (accH p k)
   rcases Nat.lt_or_ge k 5 with hlt|hge
   ·have e1 := getD_ints (nums p) k hlt
    have e2 : (ints (nums p)).length = 5 := rfl
    have hb := nums_bd hh k
    have hsu := accH_succ p k hlt
    have hl2 := Lib.itoa_length_le ((nums p).getD k 0) (by omega) (by omega)
    have hI := fun H => itoa76 ((nums p).getD k 0) (by omega) (by omega) H
    have hW := writeString75 (accH p k) (numT ((nums p).getD k 0)) B0 [] (by simp only [numT, List.length_append, List.length_cons, List.length_nil]; omega)
    rw [← hsu] at hW
    unfold bldB numT at hW
    rw [hB0] at hW
    generalize (nums p).getD k 0 = n at *
    repeat' (first|(first|(refine a0_ ?_; first|refine a1_ rfl rfl ?_|refine a2_ rfl ?_|refine a3_ rfl rfl ?_|refine a4_ rfl ?_|refine a5_ rfl rfl rfl ?_|refine a6_ rfl rfl ?_)|(refine g0_ ?_; first|refine g1_ rfl ?_|refine g2_ rfl rfl ?_|refine go_draw (dr := allQ) rfl rfl mixed (by first|assumption|kernel_rfl) ?_|refine g4_ rfl ?_|refine g5_ rfl ?_|refine g6_ rfl ?_|refine g7_ rfl ?_|refine g8_ rfl ?_)|(refine o0_ ?_; first|refine o1_ ?_|refine o2_ ?_|refine o3_ ?_|refine o4_ ?_|refine o5_ ?_|refine o6_ rfl ?_|refine o7_ rfl ?_|refine o8_ ?_|refine o9_ ?_|refine oa_ ?_|refine ob_ ?_|refine oc_ ?_|refine od_ ?_|refine oe_ ?_|refine of_ ?_|refine og_ ?_))|refine at_go ?_|(with_reducible refine And.intro (at_go ?_) (at_go ?_))|((with_reducible refine And.intro (fun h => ?_) (fun h => ?_)) <;> try (exfalso; omega))|(with_reducible refine And.intro (by first|omega|(simp only [maxLen]; omega)) ?_)|(first|(refine ⟨_, _, hI _, ?_⟩)|(refine ⟨_, hI _, ?_⟩)|(refine ⟨_, fun _ => hI _, ?_⟩)|(refine ⟨_, _, hW, ?_⟩)|(refine ⟨_, hW, ?_⟩)|(refine ⟨_, fun _ => hW, ?_⟩))|simp (disch := first|omega|(simp only [length_u8s, length_edsA, List.length_set, List.length_reverse, List.length_replicate, List.length_append, List.length_cons, List.length_nil, List.length_map]; omega)) only [push_cast, ↓reduceIte, reduceIte, reduceCtorEq, Nat.reduceAdd, Nat.reduceLT, Nat.reduceEqDiff, Nat.reduceLeDiff, Int.reduceAdd, Int.reduceLT, Int.reduceLE, Nat.reduceMul, b1, b5, b30, b31, b32, e1, e2])
    refine out_round (5 - (k + 1)) (by omega) (by (first|trivial|((repeat' apply And.intro) <;> first|trivial|assumption|omega|(simp only [maxLen]; omega)|(simp only [length_u8s, length_edsA, List.length_replicate, List.length_append, List.length_cons, List.length_nil, List.length_map, List.length_take, List.length_drop, List.length_set, List.length_reverse, maxLen] <;> omega)))) ⟨k + 1, by omega, rfl, rfl, ?_⟩
    simp (disch := first|omega|(simp only [length_u8s, length_edsA, List.length_set, List.length_reverse, List.length_replicate, List.length_append, List.length_cons, List.length_nil, List.length_map]; omega)) only [push_cast, ↓reduceIte, reduceIte, reduceCtorEq, Nat.reduceAdd, Nat.reduceLT, Nat.reduceEqDiff, Nat.reduceLeDiff, Int.reduceAdd, Int.reduceLT, Int.reduceLE, Nat.reduceMul, b1, b5, b30, b31, b32, e1, e2]
   ·obtain rfl : k = 5 := by omega
    have hWB := writeByte77 (accH p 5) 10 B0 [] (by omega)
    rw [accH_all] at hWB
    unfold bldB at hWB
    rw [hB0] at hWB
    have hWB : ACalls Tryz.prog G0 21 [.ptr 1 0 0 1, .int .u8 10] _ _ _ := hWB
    have ha1 : accT p 0 = headP p := by simp [accT]
    repeat' (first|(first|(refine a0_ ?_; first|refine a1_ rfl rfl ?_|refine a2_ rfl ?_|refine a3_ rfl rfl ?_|refine a4_ rfl ?_|refine a5_ rfl rfl rfl ?_|refine a6_ rfl rfl ?_)|(refine g0_ ?_; first|refine g1_ rfl ?_|refine g2_ rfl rfl ?_|refine go_draw (dr := allQ) rfl rfl mixed (by first|assumption|kernel_rfl) ?_|refine g4_ rfl ?_|refine g5_ rfl ?_|refine g6_ rfl ?_|refine g7_ rfl ?_|refine g8_ rfl ?_)|(refine o0_ ?_; first|refine o1_ ?_|refine o2_ ?_|refine o3_ ?_|refine o4_ ?_|refine o5_ ?_|refine o6_ rfl ?_|refine o7_ rfl ?_|refine o8_ ?_|refine o9_ ?_|refine oa_ ?_|refine ob_ ?_|refine oc_ ?_|refine od_ ?_|refine oe_ ?_|refine of_ ?_|refine og_ ?_))|refine at_go ?_|(with_reducible refine And.intro (at_go ?_) (at_go ?_))|((with_reducible refine And.intro (fun h => ?_) (fun h => ?_)) <;> try (exfalso; omega))|(with_reducible refine And.intro (by first|omega|(simp only [maxLen]; omega)) ?_)|(first|(refine ⟨_, _, hWB, ?_⟩)|(refine ⟨_, hWB, ?_⟩)|(refine ⟨_, fun _ => hWB, ?_⟩))|simp (disch := first|omega|(simp only [length_u8s, length_edsA, List.length_set, List.length_reverse, List.length_replicate, List.length_append, List.length_cons, List.length_nil, List.length_map]; omega)) only [push_cast, ↓reduceIte, reduceIte, reduceCtorEq, Nat.reduceAdd, Nat.reduceLT, Nat.reduceEqDiff, Nat.reduceLeDiff, Int.reduceAdd, Int.reduceLT, Int.reduceLE, Nat.reduceMul, b1, b5, b30, b31, b32, e0])
    refine go_loop rfl (fun mz s' H' => ∃ u : Nat, u ≤ p.ed.length ∧ mz = p.ed.length - u ∧ H' = [.row 6 36 [[.int .i64 p.inp, .int .i64 p.o0, .int .i64 p.o1, .int .i64 p.s0, .int .i64 p.s1, .sl z (edsA p.ed) c]], .row 2 66 [[.ptr 1 0 0 1, .own 2 (accT p u).length (accT p u).length none]], .row 1 5 (u8s (accT p u))] ∧ s' 5 = .ptr 1 0 0 1 ∧ s' 43 = .sl z (edsA p.ed) c ∧ s' 44 = .int .i64 p.ed.length ∧ s' 45 = .int .i64 u) (m := p.ed.length) (by (first|trivial|((repeat' apply And.intro) <;> first|trivial|assumption|omega|(simp only [maxLen]; omega)|(simp only [length_u8s, length_edsA, List.length_replicate, List.length_append, List.length_cons, List.length_nil, List.length_map, List.length_take, List.length_drop, List.length_set, List.length_reverse, maxLen] <;> omega)))) (Weak.refl _ _) ⟨0, by omega, by omega, (by first|rfl|simp [ha1]), ?_⟩ ?_
    ·simp (disch := first|omega|(simp only [length_u8s, length_edsA, List.length_set, List.length_reverse, List.length_replicate, List.length_append, List.length_cons, List.length_nil, List.length_map]; omega)) only [push_cast, ↓reduceIte, reduceIte, reduceCtorEq, Nat.reduceAdd, Nat.reduceLT, Nat.reduceEqDiff, Nat.reduceLeDiff, Int.reduceAdd, Int.reduceLT, Int.reduceLE, Nat.reduceMul, b1, b5, b30, b31, b32, e0]
    ·rintro mz s' H' ⟨u, hu, rfl, rfl, b5, b43, b44, b45⟩
     have hlen := accT_len h0 u hu
     have hu2 : u * 200 ≤ 100000 * 200 := Nat.mul_le_mul_right _ (by omega)
     rcases Nat.lt_or_ge u p.ed.length with hlt|hge
     ·obtain rfl := hz.resolve_left (by intro h; rw [h] at hlt; simp at hlt)
      have e1 := getD_edsA p.ed u hlt
      change _ = xA (p.ed.getD u xD) at e1
      obtain ⟨b1, b2, b3, b4⟩ := okAt_bd hh (hk0 u hlt)
      have hsu := accT_succ p u hlt
      have hln := lineE_len b1 b2 b3 b4
      have hW := fun e => writeString75 (accT p u) (lineE (p.ed.getD u xD)) B0 [.row 6 61 [e]] (by omega)
      rw [← hsu] at hW
      generalize p.ed.getD u xD = x at *
      have l1 := Lib.itoa_length_le x.s (by omega) (by omega)
      have l2 := Lib.itoa_length_le x.i (by omega) (by omega)
      have l3 := textE_len b3
      have l4 := textE_len b4
      have hI1 := fun H => itoa76 x.s (by omega) (by omega) H
      have hI2 := fun H => itoa76 x.i (by omega) (by omega) H
      have hT1 := text78 x.old b3
      have hT2 := text78 x.new b4
      unfold bldB lineE at hW
      rw [hB0] at hW
      unfold eA at hT1 hT2
      simp only [xA] at e1
      repeat' (first|(first|(refine a0_ ?_; first|refine a1_ rfl rfl ?_|refine a2_ rfl ?_|refine a3_ rfl rfl ?_|refine a4_ rfl ?_|refine a5_ rfl rfl rfl ?_|refine a6_ rfl rfl ?_)|(refine g0_ ?_; first|refine g1_ rfl ?_|refine g2_ rfl rfl ?_|refine go_draw (dr := exQ [] [19]) rfl rfl mixed (by first|assumption|kernel_rfl) ?_|refine go_draw (dr := allQ) rfl rfl mixed (by first|assumption|kernel_rfl) ?_|refine g4_ rfl ?_|refine g5_ rfl ?_|refine g6_ rfl ?_|refine g7_ rfl ?_|refine g8_ rfl ?_)|(refine o0_ ?_; first|refine o1_ ?_|refine o2_ ?_|refine o3_ ?_|refine o4_ ?_|refine o5_ ?_|refine o6_ rfl ?_|refine o7_ rfl ?_|refine o8_ ?_|refine o9_ ?_|refine oa_ ?_|refine ob_ ?_|refine oc_ ?_|refine od_ ?_|refine oe_ ?_|refine of_ ?_|refine og_ ?_))|refine at_go ?_|(with_reducible refine And.intro (at_go ?_) (at_go ?_))|((with_reducible refine And.intro (fun h => ?_) (fun h => ?_)) <;> try (exfalso; omega))|(with_reducible refine And.intro (by first|omega|(simp only [maxLen]; omega)) ?_)|(first|(refine ⟨_, _, hI1 _, ?_⟩)|(refine ⟨_, hI1 _, ?_⟩)|(refine ⟨_, fun _ => hI1 _, ?_⟩)|(refine ⟨_, _, hI2 _, ?_⟩)|(refine ⟨_, hI2 _, ?_⟩)|(refine ⟨_, fun _ => hI2 _, ?_⟩)|(refine ⟨_, _, pc_lift (hT1) (by (simp [idsL, idsE, AV.ids, Nat.add_zero])) _, ?_⟩)|(refine ⟨_, pc_lift (hT1) (by (simp [idsL, idsE, AV.ids, Nat.add_zero])) _, ?_⟩)|(refine ⟨_, fun _ => pc_lift (hT1) (by (simp [idsL, idsE, AV.ids, Nat.add_zero])) _, ?_⟩)|(refine ⟨_, _, pc_lift (hT2) (by (simp [idsL, idsE, AV.ids, Nat.add_zero])) _, ?_⟩)|(refine ⟨_, pc_lift (hT2) (by (simp [idsL, idsE, AV.ids, Nat.add_zero])) _, ?_⟩)|(refine ⟨_, fun _ => pc_lift (hT2) (by (simp [idsL, idsE, AV.ids, Nat.add_zero])) _, ?_⟩)|(refine ⟨_, _, hW _, ?_⟩)|(refine ⟨_, hW _, ?_⟩)|(refine ⟨_, fun _ => hW _, ?_⟩))|simp (disch := first|omega|(simp only [length_u8s, length_edsA, List.length_set, List.length_reverse, List.length_replicate, List.length_append, List.length_cons, List.length_nil, List.length_map]; omega)) only [push_cast, ↓reduceIte, reduceIte, reduceCtorEq, Nat.reduceAdd, Nat.reduceLT, Nat.reduceEqDiff, Nat.reduceLeDiff, Int.reduceAdd, Int.reduceLT, Int.reduceLE, Nat.reduceMul, b5, b43, b44, b45, e1])
      refine out_round_take (p.ed.length - (u + 1)) 3 (by omega) (by (first|trivial|((repeat' apply And.intro) <;> first|trivial|assumption|omega|(simp only [maxLen]; omega)|(simp only [length_u8s, length_edsA, List.length_replicate, List.length_append, List.length_cons, List.length_nil, List.length_map, List.length_take, List.length_drop, List.length_set, List.length_reverse, maxLen] <;> omega)))) (by omega) (by simp) (by simp [Blk.below, idsE, idsL, AV.ids, idsE_u8s]) ⟨u + 1, by omega, rfl, rfl, ?_⟩
      simp (disch := first|omega|(simp only [length_u8s, length_edsA, List.length_set, List.length_reverse, List.length_replicate, List.length_append, List.length_cons, List.length_nil, List.length_map]; omega)) only [push_cast, ↓reduceIte, reduceIte, reduceCtorEq, Nat.reduceAdd, Nat.reduceLT, Nat.reduceEqDiff, Nat.reduceLeDiff, Int.reduceAdd, Int.reduceLT, Int.reduceLE, Nat.reduceMul, b5, b43, b44, b45, scrub, AV.ids, idsL]
     ·obtain rfl : u = p.ed.length := by omega
      have hS := string79 (accT p p.ed.length) B0 (by simp [accT, headP]) (by omega)
      have htx : accT p p.ed.length = textP p := by simp [accT, textP]
      unfold bldB deadRow at hS
      rw [hB0, htx] at hS
      rw [htx]
      repeat' (first|(first|(refine a0_ ?_; first|refine a1_ rfl rfl ?_|refine a2_ rfl ?_|refine a3_ rfl rfl ?_|refine a4_ rfl ?_|refine a5_ rfl rfl rfl ?_|refine a6_ rfl rfl ?_)|(refine g0_ ?_; first|refine g1_ rfl ?_|refine g2_ rfl rfl ?_|refine go_draw (dr := allQ) rfl rfl mixed (by first|assumption|kernel_rfl) ?_|refine g4_ rfl ?_|refine g5_ rfl ?_|refine g6_ rfl ?_|refine g7_ rfl ?_|refine g8_ rfl ?_)|(refine o0_ ?_; first|refine o1_ ?_|refine o2_ ?_|refine o3_ ?_|refine o4_ ?_|refine o5_ ?_|refine o6_ rfl ?_|refine o7_ rfl ?_|refine o8_ ?_|refine o9_ ?_|refine oa_ ?_|refine ob_ ?_|refine oc_ ?_|refine od_ ?_|refine oe_ ?_|refine of_ ?_|refine og_ ?_))|refine at_go ?_|(with_reducible refine And.intro (at_go ?_) (at_go ?_))|((with_reducible refine And.intro (fun h => ?_) (fun h => ?_)) <;> try (exfalso; omega))|(with_reducible refine And.intro (by first|omega|(simp only [maxLen]; omega)) ?_)|(first|(refine ⟨_, _, hS, ?_⟩)|(refine ⟨_, hS, ?_⟩)|(refine ⟨_, fun _ => hS, ?_⟩))|simp (disch := first|omega|(simp only [length_u8s, length_edsA, List.length_set, List.length_reverse, List.length_replicate, List.length_append, List.length_cons, List.length_nil, List.length_map]; omega)) only [push_cast, ↓reduceIte, reduceIte, reduceCtorEq, Nat.reduceAdd, Nat.reduceLT, Nat.reduceEqDiff, Nat.reduceLeDiff, Int.reduceAdd, Int.reduceLT, Int.reduceLE, Nat.reduceMul, b5, b43, b44, b45])
 ·rw [if_neg h0]
  unfold pA at *
  generalize checkP p = e at *
  refine pc_go 0 71 [.tmp 2, .tmp 3] Tryz.func7 rfl rfl rfl (by simp) ?_
  intro s ⟨a0, hz⟩
  clear hz
  repeat' (first|(first|(refine a0_ ?_; first|refine a1_ rfl rfl ?_|refine a2_ rfl ?_|refine a3_ rfl rfl ?_|refine a4_ rfl ?_|refine a5_ rfl rfl rfl ?_|refine a6_ rfl rfl ?_)|(refine g0_ ?_; first|refine g1_ rfl ?_|refine g2_ rfl rfl ?_|refine go_draw (dr := allQ) rfl rfl mixed (by first|assumption|kernel_rfl) ?_|refine g4_ rfl ?_|refine g5_ rfl ?_|refine g6_ rfl ?_|refine g7_ rfl ?_|refine g8_ rfl ?_)|(refine o0_ ?_; first|refine o1_ ?_|refine o2_ ?_|refine o3_ ?_|refine o4_ ?_|refine o5_ ?_|refine o6_ rfl ?_|refine o7_ rfl ?_|refine o8_ ?_|refine o9_ ?_|refine oa_ ?_|refine ob_ ?_|refine oc_ ?_|refine od_ ?_|refine oe_ ?_|refine of_ ?_|refine og_ ?_))|refine at_go ?_|(with_reducible refine And.intro (at_go ?_) (at_go ?_))|((with_reducible refine And.intro (fun h => ?_) (fun h => ?_)) <;> try (exfalso; omega))|(with_reducible refine And.intro (by first|omega|(simp only [maxLen]; omega)) ?_)|(first|(refine ⟨_, _, pc_lift (hC) (by (simp [idsL, idsE, AV.ids, Nat.add_zero])) _, ?_⟩)|(refine ⟨_, pc_lift (hC) (by (simp [idsL, idsE, AV.ids, Nat.add_zero])) _, ?_⟩)|(refine ⟨_, fun _ => pc_lift (hC) (by (simp [idsL, idsE, AV.ids, Nat.add_zero])) _, ?_⟩))|simp (disch := first|omega|(simp only [length_u8s, length_edsA, List.length_set, List.length_reverse, List.length_replicate, List.length_append, List.length_cons, List.length_nil, List.length_map]; omega)) only [push_cast, ↓reduceIte, reduceIte, reduceCtorEq, Nat.reduceAdd, Nat.reduceLT, Nat.reduceEqDiff, Nat.reduceLeDiff, Int.reduceAdd, Int.reduceLT, Int.reduceLE, Nat.reduceMul, a0])
end Go.Proofs
