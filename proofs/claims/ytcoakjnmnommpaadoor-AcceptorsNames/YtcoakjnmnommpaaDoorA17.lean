import Derived.Test.YtcoakjnmnommpaaDoorA16
namespace Go.Proofs
open Go Go.V
set_option linter.unusedVariables false
set_option linter.unusedSimpArgs false
set_option maxHeartbeats 0
theorem rows_eq {l r : List RC} (h : l.length = r.length) : rowsV l = rowsV r ↔ ∀ s, s < l.length → rowV (l.getD s ([], none)) = rowV (r.getD s ([], none)) := by
 constructor
 ·intro e j hj
  have e2 := congrArg (fun x => x.getD j []) e
  simpa [rowsV, hj, show j < r.length by omega] using e2
 ·intro hh
  refine List.ext_getElem (by simp [rowsV, h]) fun j h1 h2 => ?_
  have hj : j < l.length := by simpa [rowsV] using h1
  have := hh j hj
  simpa [rowsV, hj, show j < r.length by omega] using this
def sameN (sa : Int) (l : List RC) (x y : List Int) (sb : Int) (r : List RC) (x' y' : List Int) : Prop := sa = sb ∧ rowsV l = rowsV r ∧ x = x' ∧ y = y'
set_option maxRecDepth 100000 in
open Classical in
theorem sameNfa19 (sa : Int) (za : Nat) (l : List RC) (ca : Option Nat) (zx : Nat) (x : List Int) (cx : Option Nat) (zy : Nat) (y : List Int) (cy : Option Nat) (sb : Int) (zb : Nat) (r : List RC) (cb : Option Nat) (zx' : Nat) (x' : List Int) (cx' : Option Nat) (zy' : Nat) (y' : List Int) (cy' : Option Nat)
  (h1 : l = [] ∨ za = 1) (h3 : r = [] ∨ zb = 1) (hx : x = [] ∨ zx = 1) (hy : y = [] ∨ zy = 1) (hx' : x' = [] ∨ zx' = 1) (hy' : y' = [] ∨ zy' = 1) (hl : l.length ≤ 1000000) (hr : r.length ≤ 1000000) (hxl : x.length ≤ 1000000) (hyl : y.length ≤ 1000000) (hxl' : x'.length ≤ 1000000) (hyl' : y'.length ≤ 1000000)
  (il : ∀ s, s < l.length → (l.getD s ([], none)).1.length ≤ 1000000) (ir : ∀ s, s < r.length → (r.getD s ([], none)).1.length ≤ 1000000) (jl : ∀ s a, (((l.getD s ([], none)).1.getD a ([], none)).1).length ≤ 140737488355328) (jr : ∀ s a, (((r.getD s ([], none)).1.getD a ([], none)).1).length ≤ 140737488355328) :
  PC Tryd.prog G0 19 [nA sa za l ca zx x cx zy y cy, nA sb zb r cb zx' x' cx' zy' y' cy'] (.int .i64 (if sameN sa l x y sb r x' y' then 1 else 0)) := by
 have ell := length_rowsN l
 have elr := length_rowsN r
 have hgl := getD_rowsN l
 have hgr := getD_rowsN r
 have idl : ∀ p, idsE p (rowsN l) = true := fun p => idsE_rowsN _ _
 have idr : ∀ p, idsE p (rowsN r) = true := fun p => idsE_rowsN _ _
 have hsx := same37 zx x cx zx' x' cx' hx hx' (by omega) (by omega)
 have hsy := same37 zy y cy zy' y' cy' hy hy' (by omega) (by omega)
 have hsame := fun s k => same37 1 ((l.getD s ([], none)).1.getD k ([], none)).1 ((l.getD s ([], none)).1.getD k ([], none)).2 1 ((r.getD s ([], none)).1.getD k ([], none)).1 ((r.getD s ([], none)).1.getD k ([], none)).2 (.inr rfl) (.inr rfl) (jl s k) (jr s k)
 have idx : ∀ p, idsE p (ints x) = true := fun p => idsE_ints _ _
 have idy : ∀ p, idsE p (ints y) = true := fun p => idsE_ints _ _
 have idx' : ∀ p, idsE p (ints x') = true := fun p => idsE_ints _ _
 have idy' : ∀ p, idsE p (ints y') = true := fun p => idsE_ints _ _
 unfold nA
 by_cases hs : sa = sb
 ·by_cases hn : l.length = r.length
  ·by_cases hxe : x = x'
   ·by_cases hye : y = y'
    ·rw [if_pos hxe] at hsx
     rw [if_pos hye] at hsy
     have hrows := rows_eq hn
     have hno1 : (∃ s, s < l.length ∧ rowV (l.getD s ([], none)) ≠ rowV (r.getD s ([], none))) → ¬ sameN sa l x y sb r x' y' := fun ⟨j, hj, q⟩ e => q (hrows.1 e.2.1 j hj)
     have hyes : (∀ s, s < l.length → rowV (l.getD s ([], none)) = rowV (r.getD s ([], none))) → sameN sa l x y sb r x' y' := fun q => ⟨hs, hrows.2 q, hxe, hye⟩
     have hn2 : r.length = l.length := hn.symm
     generalize sameN sa l x y sb r x' y' = P at *
     subst hs
     refine pc_go 0 85 [.tmp 4] Tryd.func19 rfl rfl rfl (by simp) ?_
     intro s ⟨a0, a1, hz⟩
     simp only [Nat.zero_add, Nat.reduceAdd] at a1
     clear hz
     repeat' (first|(first|refine nav ?_|(refine g0_ ?_; first|refine go_draw (dr := allQ) rfl rfl mixed (by first|assumption|kernel_rfl) ?_))|(with_reducible refine And.intro (at_go ?_) (at_go ?_))|((with_reducible refine And.intro (fun h => ?_) (fun h => ?_)) <;> try (exfalso; omega))|(with_reducible refine andG ?_)|(refine And.intro ⟨[_], rfl⟩ ?_)|(refine And.intro ⟨[], by simp only [List.append_nil]⟩ ?_)|(first|(refine ⟨_, _, pc_lift (hsx) (by (simp [idsL, idsE, AV.ids, Nat.add_zero])) _, ?_⟩)|(refine ⟨_, pc_lift (hsx) (by (simp [idsL, idsE, AV.ids, Nat.add_zero])) _, ?_⟩)|(refine ⟨_, fun _ => pc_lift (hsx) (by (simp [idsL, idsE, AV.ids, Nat.add_zero])) _, ?_⟩)|(refine ⟨_, _, pc_lift (hsy) (by (simp [idsL, idsE, AV.ids, Nat.add_zero])) _, ?_⟩)|(refine ⟨_, pc_lift (hsy) (by (simp [idsL, idsE, AV.ids, Nat.add_zero])) _, ?_⟩)|(refine ⟨_, fun _ => pc_lift (hsy) (by (simp [idsL, idsE, AV.ids, Nat.add_zero])) _, ?_⟩))|simp (disch := (first|exact discB|fail)) only [push_cast, ↓reduceIte, reduceIte, reduceCtorEq, Nat.reduceAdd, Nat.reduceLT, Nat.reduceEqDiff, Nat.reduceLeDiff, Int.reduceAdd, Int.reduceLT, Int.reduceLE, Nat.reduceMul, a0, a1, ell, elr, hn2])
     refine go_loop rfl (fun mz s' H' => ∃ s : Nat, s ≤ l.length ∧ mz = l.length - s ∧ H' = [.row 4 28 [[.int .i64 sa, .sl za (rowsN l) ca, .sl zx (ints x) cx, .sl zy (ints y) cy]], .row 4 28 [[.int .i64 sa, .sl zb (rowsN r) cb, .sl zx' (ints x') cx', .sl zy' (ints y') cy']]] ∧ s' 2 = .ptr 0 0 0 1 ∧ s' 3 = .ptr 1 0 0 1 ∧ s' 5 = .int .i64 s ∧ (∀ i, i < s → rowV (l.getD i ([], none)) = rowV (r.getD i ([], none)))) (m := l.length) (by first|exact sideB|fail) (Weak.refl _ _) ⟨0, by omega, by omega, rfl, ?_⟩ ?_
     ·refine ⟨?_, ?_, ?_, fun i hi => by omega⟩
      all_goals simp (disch := (first|exact discB|fail)) only [push_cast, ↓reduceIte, reduceIte, reduceCtorEq, Nat.reduceAdd, Nat.reduceLT, Nat.reduceEqDiff, Nat.reduceLeDiff, Int.reduceAdd, Int.reduceLT, Int.reduceLE, Nat.reduceMul, a0, a1, ell, elr, hn2]
     ·rintro mz s' H' ⟨s, hs, rfl, rfl, b2, b3, b5, is⟩
      rcases Nat.lt_or_ge s l.length with hlt|hge
      ·obtain rfl := h1.resolve_left (by intro h; rw [h] at hlt; simp at hlt)
       obtain rfl := h3.resolve_left (by intro h; rw [h] at hn; simp at hn; rw [hn] at hlt; simp at hlt)
       have e1 := hgl s hlt
       have e2 := hgr s (by omega)
       have b1 := il s hlt
       have b2' := ir s (by omega)
       have hsj := hsame s
       have hsn := snocB (P := fun i => rowV (l.getD i ([], none)) = rowV (r.getD i ([], none))) (k := s) is
       have hno := fun q => hno1 ⟨s, hlt, q⟩
       generalize l.getD s ([], none) = u at *
       generalize r.getD s ([], none) = v at *
       have eu := length_rowL u.1
       have ev := length_rowL v.1
       have hgu := getD_rowL u.1
       have hgv := getD_rowL v.1
       have idu : ∀ p, idsE p (rowL u.1) = true := fun p => idsE_rowL _ _
       have idv : ∀ p, idsE p (rowL v.1) = true := fun p => idsE_rowL _ _
       unfold rC at e1 e2
       by_cases hq : u.1.length = v.1.length
       ·have hq2 := hq.symm
        have hcell : (∃ k, k < u.1.length ∧ (u.1.getD k ([], none)).1 ≠ (v.1.getD k ([], none)).1) → ¬ rowV u = rowV v := fun ⟨k, hk, q⟩ e => q ((lists_eq hq).1 e k hk)
        have hcelly : (∀ k, k < u.1.length → (u.1.getD k ([], none)).1 = (v.1.getD k ([], none)).1) → rowV u = rowV v := fun e => (lists_eq hq).2 e
        repeat' (first|(first|refine nav ?_|(refine g0_ ?_; first|refine go_draw (dr := allQ) rfl rfl mixed (by first|assumption|kernel_rfl) ?_))|(with_reducible refine And.intro (at_go ?_) (at_go ?_))|((with_reducible refine And.intro (fun h => ?_) (fun h => ?_)) <;> try (exfalso; omega))|(with_reducible refine andG ?_)|(refine And.intro ⟨[_], rfl⟩ ?_)|(refine And.intro ⟨[], by simp only [List.append_nil]⟩ ?_)|fail|simp (disch := (first|exact discB|fail)) only [push_cast, ↓reduceIte, reduceIte, reduceCtorEq, Nat.reduceAdd, Nat.reduceLT, Nat.reduceEqDiff, Nat.reduceLeDiff, Int.reduceAdd, Int.reduceLT, Int.reduceLE, Nat.reduceMul, b2, b3, b5, e1, e2, ell, elr, eu, ev, hn2, hq2])
        refine go_loop rfl (fun mz s' H' => ∃ k : Nat, k ≤ u.1.length ∧ mz = u.1.length - k ∧ H' = [.row 4 28 [[.int .i64 sa, .sl 1 (rowsN l) ca, .sl zx (ints x) cx, .sl zy (ints y) cy]], .row 4 28 [[.int .i64 sa, .sl 1 (rowsN r) cb, .sl zx' (ints x') cx', .sl zy' (ints y') cy']]] ∧ s' 2 = .ptr 0 0 0 1 ∧ s' 3 = .ptr 1 0 0 1 ∧ s' 5 = .int .i64 s ∧ s' 6 = .int .i64 k ∧ (∀ i, i < k → (u.1.getD i ([], none)).1 = (v.1.getD i ([], none)).1)) (m := u.1.length) (by first|exact sideB|fail) (Weak.refl _ _) ⟨0, by omega, by omega, rfl, ?_⟩ ?_
        ·refine ⟨?_, ?_, ?_, ?_, fun i hi => by omega⟩
         all_goals simp (disch := (first|exact discB|fail)) only [push_cast, ↓reduceIte, reduceIte, reduceCtorEq, Nat.reduceAdd, Nat.reduceLT, Nat.reduceEqDiff, Nat.reduceLeDiff, Int.reduceAdd, Int.reduceLT, Int.reduceLE, Nat.reduceMul, b2, b3, b5, e1, e2, ell, elr, eu, ev, hn2, hq2]
        ·rintro mz s' H' ⟨k, hk, rfl, rfl, b2, b3, b5, b6, ik⟩
         rcases Nat.lt_or_ge k u.1.length with hltk|hgek
         ·have e3 := hgu k hltk
          have e4 := hgv k (by omega)
          have hsk := hsj k
          have hsnk := snocB (P := fun i => (u.1.getD i ([], none)).1 = (v.1.getD i ([], none)).1) (k := k) ik
          have hnok := fun q => hno (hcell ⟨k, hltk, q⟩)
          generalize u.1.getD k ([], none) = p at *
          generalize v.1.getD k ([], none) = q at *
          unfold lC at e3 e4
          by_cases hpq : p.1 = q.1
          ·have hsn2 := hsnk hpq
           rw [if_pos hpq] at hsk
           repeat' (first|(first|refine nav ?_|(refine g0_ ?_; first|refine go_draw (dr := allQ) rfl rfl mixed (by first|assumption|kernel_rfl) ?_))|(with_reducible refine And.intro (at_go ?_) (at_go ?_))|((with_reducible refine And.intro (fun h => ?_) (fun h => ?_)) <;> try (exfalso; omega))|(with_reducible refine andG ?_)|(refine And.intro ⟨[_], rfl⟩ ?_)|(refine And.intro ⟨[], by simp only [List.append_nil]⟩ ?_)|(first|(refine ⟨_, _, pc_lift (hsk) (by (simp [idsL, idsE, AV.ids, Nat.add_zero])) _, ?_⟩)|(refine ⟨_, pc_lift (hsk) (by (simp [idsL, idsE, AV.ids, Nat.add_zero])) _, ?_⟩)|(refine ⟨_, fun _ => pc_lift (hsk) (by (simp [idsL, idsE, AV.ids, Nat.add_zero])) _, ?_⟩))|simp (disch := (first|exact discB|fail)) only [push_cast, ↓reduceIte, reduceIte, reduceCtorEq, Nat.reduceAdd, Nat.reduceLT, Nat.reduceEqDiff, Nat.reduceLeDiff, Int.reduceAdd, Int.reduceLT, Int.reduceLE, Nat.reduceMul, b2, b3, b5, b6, e1, e2, e3, e4, ell, elr, eu, ev, hn2, hq2])
           refine out_round (u.1.length - (k + 1)) (by omega) (by first|exact sideB|fail) ⟨k + 1, by omega, rfl, rfl, ?_, ?_, ?_, ?_, hsn2⟩
           all_goals simp (disch := (first|exact discB|fail)) only [push_cast, ↓reduceIte, reduceIte, reduceCtorEq, Nat.reduceAdd, Nat.reduceLT, Nat.reduceEqDiff, Nat.reduceLeDiff, Int.reduceAdd, Int.reduceLT, Int.reduceLE, Nat.reduceMul, b2, b3, b5, b6, e1, e2, e3, e4, ell, elr, eu, ev, hn2, hq2]
          ·rw [if_neg (hnok hpq)]
           rw [if_neg hpq] at hsk
           repeat' (first|(first|refine nav ?_|(refine g0_ ?_; first|refine go_draw (dr := allQ) rfl rfl mixed (by first|assumption|kernel_rfl) ?_))|(with_reducible refine And.intro (at_go ?_) (at_go ?_))|((with_reducible refine And.intro (fun h => ?_) (fun h => ?_)) <;> try (exfalso; omega))|(with_reducible refine andG ?_)|(refine And.intro ⟨[_], rfl⟩ ?_)|(refine And.intro ⟨[], by simp only [List.append_nil]⟩ ?_)|(first|(refine ⟨_, _, pc_lift (hsk) (by (simp [idsL, idsE, AV.ids, Nat.add_zero])) _, ?_⟩)|(refine ⟨_, pc_lift (hsk) (by (simp [idsL, idsE, AV.ids, Nat.add_zero])) _, ?_⟩)|(refine ⟨_, fun _ => pc_lift (hsk) (by (simp [idsL, idsE, AV.ids, Nat.add_zero])) _, ?_⟩))|simp (disch := (first|exact discB|fail)) only [push_cast, ↓reduceIte, reduceIte, reduceCtorEq, Nat.reduceAdd, Nat.reduceLT, Nat.reduceEqDiff, Nat.reduceLeDiff, Int.reduceAdd, Int.reduceLT, Int.reduceLE, Nat.reduceMul, b2, b3, b5, b6, e1, e2, e3, e4, ell, elr, eu, ev, hn2, hq2])
         ·obtain rfl : k = u.1.length := by omega
          have hsn2 := hsn (hcelly ik)
          repeat' (first|(first|refine nav ?_|(refine g0_ ?_; first|refine go_draw (dr := allQ) rfl rfl mixed (by first|assumption|kernel_rfl) ?_))|(with_reducible refine And.intro (at_go ?_) (at_go ?_))|((with_reducible refine And.intro (fun h => ?_) (fun h => ?_)) <;> try (exfalso; omega))|(with_reducible refine andG ?_)|(refine And.intro ⟨[_], rfl⟩ ?_)|(refine And.intro ⟨[], by simp only [List.append_nil]⟩ ?_)|fail|simp (disch := (first|exact discB|fail)) only [push_cast, ↓reduceIte, reduceIte, reduceCtorEq, Nat.reduceAdd, Nat.reduceLT, Nat.reduceEqDiff, Nat.reduceLeDiff, Int.reduceAdd, Int.reduceLT, Int.reduceLE, Nat.reduceMul, b2, b3, b5, b6, e1, e2, ell, elr, eu, ev, hn2, hq2])
          refine out_round (l.length - (s + 1)) (by omega) (by first|exact sideB|fail) ⟨s + 1, by omega, rfl, rfl, ?_, ?_, ?_, hsn2⟩
          all_goals simp (disch := (first|exact discB|fail)) only [push_cast, ↓reduceIte, reduceIte, reduceCtorEq, Nat.reduceAdd, Nat.reduceLT, Nat.reduceEqDiff, Nat.reduceLeDiff, Int.reduceAdd, Int.reduceLT, Int.reduceLE, Nat.reduceMul, b2, b3, b5, b6, e1, e2, ell, elr, eu, ev, hn2, hq2]
       ·have hq3 : ¬ (u.1.length : Int) = v.1.length := by omega
        rw [if_neg (hno (fun e => hq (by have := congrArg List.length e; simpa [rowV] using this)))]
        repeat' (first|(first|refine nav ?_|(refine g0_ ?_; first|refine go_draw (dr := allQ) rfl rfl mixed (by first|assumption|kernel_rfl) ?_))|(with_reducible refine And.intro (at_go ?_) (at_go ?_))|((with_reducible refine And.intro (fun h => ?_) (fun h => ?_)) <;> try (exfalso; omega))|(with_reducible refine andG ?_)|(refine And.intro ⟨[_], rfl⟩ ?_)|(refine And.intro ⟨[], by simp only [List.append_nil]⟩ ?_)|fail|simp (disch := (first|exact discB|fail)) only [push_cast, ↓reduceIte, reduceIte, reduceCtorEq, Nat.reduceAdd, Nat.reduceLT, Nat.reduceEqDiff, Nat.reduceLeDiff, Int.reduceAdd, Int.reduceLT, Int.reduceLE, Nat.reduceMul, b2, b3, b5, e1, e2, ell, elr, eu, ev, hn2, hq3])
      ·obtain rfl : s = l.length := by omega
       rw [if_pos (hyes is)]
       repeat' (first|(first|refine nav ?_|(refine g0_ ?_; first|refine go_draw (dr := allQ) rfl rfl mixed (by first|assumption|kernel_rfl) ?_))|(with_reducible refine And.intro (at_go ?_) (at_go ?_))|((with_reducible refine And.intro (fun h => ?_) (fun h => ?_)) <;> try (exfalso; omega))|(with_reducible refine andG ?_)|(refine And.intro ⟨[_], rfl⟩ ?_)|(refine And.intro ⟨[], by simp only [List.append_nil]⟩ ?_)|fail|simp (disch := (first|exact discB|fail)) only [push_cast, ↓reduceIte, reduceIte, reduceCtorEq, Nat.reduceAdd, Nat.reduceLT, Nat.reduceEqDiff, Nat.reduceLeDiff, Int.reduceAdd, Int.reduceLT, Int.reduceLE, Nat.reduceMul, b2, b3, b5, ell, elr, hn2])
    ·rw [if_neg (fun e => hye e.2.2.2)]
     rw [if_neg hye] at hsy
     rw [if_pos hxe] at hsx
     refine pc_go 0 85 [.tmp 4] Tryd.func19 rfl rfl rfl (by simp) ?_
     intro s ⟨a0, a1, hz⟩
     simp only [Nat.zero_add, Nat.reduceAdd] at a1
     clear hz
     repeat' (first|(first|refine nav ?_|(refine g0_ ?_; first|refine go_draw (dr := allQ) rfl rfl mixed (by first|assumption|kernel_rfl) ?_))|(with_reducible refine And.intro (at_go ?_) (at_go ?_))|((with_reducible refine And.intro (fun h => ?_) (fun h => ?_)) <;> try (exfalso; omega))|(with_reducible refine andG ?_)|(refine And.intro ⟨[_], rfl⟩ ?_)|(refine And.intro ⟨[], by simp only [List.append_nil]⟩ ?_)|(first|(refine ⟨_, _, pc_lift (hsx) (by (simp [idsL, idsE, AV.ids, Nat.add_zero])) _, ?_⟩)|(refine ⟨_, pc_lift (hsx) (by (simp [idsL, idsE, AV.ids, Nat.add_zero])) _, ?_⟩)|(refine ⟨_, fun _ => pc_lift (hsx) (by (simp [idsL, idsE, AV.ids, Nat.add_zero])) _, ?_⟩)|(refine ⟨_, _, pc_lift (hsy) (by (simp [idsL, idsE, AV.ids, Nat.add_zero])) _, ?_⟩)|(refine ⟨_, pc_lift (hsy) (by (simp [idsL, idsE, AV.ids, Nat.add_zero])) _, ?_⟩)|(refine ⟨_, fun _ => pc_lift (hsy) (by (simp [idsL, idsE, AV.ids, Nat.add_zero])) _, ?_⟩))|simp (disch := (first|exact discB|fail)) only [push_cast, ↓reduceIte, reduceIte, reduceCtorEq, Nat.reduceAdd, Nat.reduceLT, Nat.reduceEqDiff, Nat.reduceLeDiff, Int.reduceAdd, Int.reduceLT, Int.reduceLE, Nat.reduceMul, a0, a1, ell, elr, hn, hs])
   ·rw [if_neg (fun e => hxe e.2.2.1)]
    rw [if_neg hxe] at hsx
    refine pc_go 0 85 [.tmp 4] Tryd.func19 rfl rfl rfl (by simp) ?_
    intro s ⟨a0, a1, hz⟩
    simp only [Nat.zero_add, Nat.reduceAdd] at a1
    clear hz
    repeat' (first|(first|refine nav ?_|(refine g0_ ?_; first|refine go_draw (dr := allQ) rfl rfl mixed (by first|assumption|kernel_rfl) ?_))|(with_reducible refine And.intro (at_go ?_) (at_go ?_))|((with_reducible refine And.intro (fun h => ?_) (fun h => ?_)) <;> try (exfalso; omega))|(with_reducible refine andG ?_)|(refine And.intro ⟨[_], rfl⟩ ?_)|(refine And.intro ⟨[], by simp only [List.append_nil]⟩ ?_)|(first|(refine ⟨_, _, pc_lift (hsx) (by (simp [idsL, idsE, AV.ids, Nat.add_zero])) _, ?_⟩)|(refine ⟨_, pc_lift (hsx) (by (simp [idsL, idsE, AV.ids, Nat.add_zero])) _, ?_⟩)|(refine ⟨_, fun _ => pc_lift (hsx) (by (simp [idsL, idsE, AV.ids, Nat.add_zero])) _, ?_⟩))|simp (disch := (first|exact discB|fail)) only [push_cast, ↓reduceIte, reduceIte, reduceCtorEq, Nat.reduceAdd, Nat.reduceLT, Nat.reduceEqDiff, Nat.reduceLeDiff, Int.reduceAdd, Int.reduceLT, Int.reduceLE, Nat.reduceMul, a0, a1, ell, elr, hn, hs])
    refine ⟨.top, ?_⟩
    repeat' (first|(first|refine nav ?_|(refine g0_ ?_; first|refine go_draw (dr := allQ) rfl rfl mixed (by first|assumption|kernel_rfl) ?_))|(with_reducible refine And.intro (at_go ?_) (at_go ?_))|((with_reducible refine And.intro (fun h => ?_) (fun h => ?_)) <;> try (exfalso; omega))|(with_reducible refine andG ?_)|(refine And.intro ⟨[_], rfl⟩ ?_)|(refine And.intro ⟨[], by simp only [List.append_nil]⟩ ?_)|(first|(refine ⟨_, _, pc_lift (hsx) (by (simp [idsL, idsE, AV.ids, Nat.add_zero])) _, ?_⟩)|(refine ⟨_, pc_lift (hsx) (by (simp [idsL, idsE, AV.ids, Nat.add_zero])) _, ?_⟩)|(refine ⟨_, fun _ => pc_lift (hsx) (by (simp [idsL, idsE, AV.ids, Nat.add_zero])) _, ?_⟩))|simp (disch := (first|exact discB|fail)) only [push_cast, ↓reduceIte, reduceIte, reduceCtorEq, Nat.reduceAdd, Nat.reduceLT, Nat.reduceEqDiff, Nat.reduceLeDiff, Int.reduceAdd, Int.reduceLT, Int.reduceLE, Nat.reduceMul, a0, a1, ell, elr, hn, hs])
  ·rw [if_neg (fun e => hn (by have := congrArg List.length e.2.1; simpa [rowsV] using this))]
   have hn3 : ¬ (l.length : Int) = r.length := by omega
   refine pc_go 0 85 [.tmp 4] Tryd.func19 rfl rfl rfl (by simp) ?_
   intro s ⟨a0, a1, hz⟩
   simp only [Nat.zero_add, Nat.reduceAdd] at a1
   clear hz
   repeat' (first|(first|refine nav ?_|(refine g0_ ?_; first|refine go_draw (dr := allQ) rfl rfl mixed (by first|assumption|kernel_rfl) ?_))|(with_reducible refine And.intro (at_go ?_) (at_go ?_))|((with_reducible refine And.intro (fun h => ?_) (fun h => ?_)) <;> try (exfalso; omega))|(with_reducible refine andG ?_)|(refine And.intro ⟨[_], rfl⟩ ?_)|(refine And.intro ⟨[], by simp only [List.append_nil]⟩ ?_)|fail|simp (disch := (first|exact discB|fail)) only [push_cast, ↓reduceIte, reduceIte, reduceCtorEq, Nat.reduceAdd, Nat.reduceLT, Nat.reduceEqDiff, Nat.reduceLeDiff, Int.reduceAdd, Int.reduceLT, Int.reduceLE, Nat.reduceMul, a0, a1, ell, elr, hs, hn3])
   refine ⟨.top, ?_⟩
   repeat' (first|(first|refine nav ?_|(refine g0_ ?_; first|refine go_draw (dr := allQ) rfl rfl mixed (by first|assumption|kernel_rfl) ?_))|(with_reducible refine And.intro (at_go ?_) (at_go ?_))|((with_reducible refine And.intro (fun h => ?_) (fun h => ?_)) <;> try (exfalso; omega))|(with_reducible refine andG ?_)|(refine And.intro ⟨[_], rfl⟩ ?_)|(refine And.intro ⟨[], by simp only [List.append_nil]⟩ ?_)|fail|simp (disch := (first|exact discB|fail)) only [push_cast, ↓reduceIte, reduceIte, reduceCtorEq, Nat.reduceAdd, Nat.reduceLT, Nat.reduceEqDiff, Nat.reduceLeDiff, Int.reduceAdd, Int.reduceLT, Int.reduceLE, Nat.reduceMul, a0, a1, ell, elr, hs, hn3])
   refine ⟨.top, ?_⟩
   repeat' (first|(first|refine nav ?_|(refine g0_ ?_; first|refine go_draw (dr := allQ) rfl rfl mixed (by first|assumption|kernel_rfl) ?_))|(with_reducible refine And.intro (at_go ?_) (at_go ?_))|((with_reducible refine And.intro (fun h => ?_) (fun h => ?_)) <;> try (exfalso; omega))|(with_reducible refine andG ?_)|(refine And.intro ⟨[_], rfl⟩ ?_)|(refine And.intro ⟨[], by simp only [List.append_nil]⟩ ?_)|fail|simp (disch := (first|exact discB|fail)) only [push_cast, ↓reduceIte, reduceIte, reduceCtorEq, Nat.reduceAdd, Nat.reduceLT, Nat.reduceEqDiff, Nat.reduceLeDiff, Int.reduceAdd, Int.reduceLT, Int.reduceLE, Nat.reduceMul, a0, a1, ell, elr, hs, hn3])
 ·rw [if_neg (fun e => hs e.1)]
  refine pc_go 0 85 [.tmp 4] Tryd.func19 rfl rfl rfl (by simp) ?_
  intro s ⟨a0, a1, hz⟩
  simp only [Nat.zero_add, Nat.reduceAdd] at a1
  clear hz
  repeat' (first|(first|refine nav ?_|(refine g0_ ?_; first|refine go_draw (dr := allQ) rfl rfl mixed (by first|assumption|kernel_rfl) ?_))|(with_reducible refine And.intro (at_go ?_) (at_go ?_))|((with_reducible refine And.intro (fun h => ?_) (fun h => ?_)) <;> try (exfalso; omega))|(with_reducible refine andG ?_)|(refine And.intro ⟨[_], rfl⟩ ?_)|(refine And.intro ⟨[], by simp only [List.append_nil]⟩ ?_)|fail|simp (disch := (first|exact discB|fail)) only [push_cast, ↓reduceIte, reduceIte, reduceCtorEq, Nat.reduceAdd, Nat.reduceLT, Nat.reduceEqDiff, Nat.reduceLeDiff, Int.reduceAdd, Int.reduceLT, Int.reduceLE, Nat.reduceMul, a0, a1, ell, elr, hs])
  refine ⟨.top, ?_⟩
  repeat' (first|(first|refine nav ?_|(refine g0_ ?_; first|refine go_draw (dr := allQ) rfl rfl mixed (by first|assumption|kernel_rfl) ?_))|(with_reducible refine And.intro (at_go ?_) (at_go ?_))|((with_reducible refine And.intro (fun h => ?_) (fun h => ?_)) <;> try (exfalso; omega))|(with_reducible refine andG ?_)|(refine And.intro ⟨[_], rfl⟩ ?_)|(refine And.intro ⟨[], by simp only [List.append_nil]⟩ ?_)|fail|simp (disch := (first|exact discB|fail)) only [push_cast, ↓reduceIte, reduceIte, reduceCtorEq, Nat.reduceAdd, Nat.reduceLT, Nat.reduceEqDiff, Nat.reduceLeDiff, Int.reduceAdd, Int.reduceLT, Int.reduceLE, Nat.reduceMul, a0, a1, ell, elr, hs])
  refine ⟨.top, ?_⟩
  repeat' (first|(first|refine nav ?_|(refine g0_ ?_; first|refine go_draw (dr := allQ) rfl rfl mixed (by first|assumption|kernel_rfl) ?_))|(with_reducible refine And.intro (at_go ?_) (at_go ?_))|((with_reducible refine And.intro (fun h => ?_) (fun h => ?_)) <;> try (exfalso; omega))|(with_reducible refine andG ?_)|(refine And.intro ⟨[_], rfl⟩ ?_)|(refine And.intro ⟨[], by simp only [List.append_nil]⟩ ?_)|fail|simp (disch := (first|exact discB|fail)) only [push_cast, ↓reduceIte, reduceIte, reduceCtorEq, Nat.reduceAdd, Nat.reduceLT, Nat.reduceEqDiff, Nat.reduceLeDiff, Int.reduceAdd, Int.reduceLT, Int.reduceLE, Nat.reduceMul, a0, a1, ell, elr, hs])
end Go.Proofs
