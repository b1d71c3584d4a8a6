import Derived.Test.YtcoakjnmnommpaaGreatDoorA16
import Derived.Test.YtcoakjnmnommpaaGreatDoorA13
namespace Go.Proofs
open Go Go.V
set_option linter.unusedVariables false
set_option linter.unusedSimpArgs false
set_option maxHeartbeats 0
theorem zdy9 {l r : List RC} (h : l.length = r.length) : rowsV l = rowsV r ↔ ∀ s, s < l.length → rowV (l.getD s ([], none)) = rowV (r.getD s ([], none)) := by
 constructor
 ·intro e j hj
  have e2 := congrArg (fun x => x.getD j []) e
  simpa [rowsV, hj, show j < r.length by omega] using e2
 ·intro hh
  refine List.ext_getElem (by simp [rowsV, h]) fun j h1 h2 => ?_
  have hj : j < l.length := by simpa [rowsV] using h1
  have := hh j hj
  simpa [rowsV, hj, show j < r.length by omega] using this
def wbm9 (sa : Int) (l : List RC) (x y : List Int) (sb : Int) (r : List RC) (x' y' : List Int) : Prop := sa = sb ∧ rowsV l = rowsV r ∧ x = x' ∧ y = y'
set_option maxRecDepth 100000 in
open Classical in
theorem vbm9 (sa : Int) (za : Nat) (l : List RC) (ca : Option Nat) (zx : Nat) (x : List Int) (cx : Option Nat) (zy : Nat) (y : List Int) (cy : Option Nat) (sb : Int) (zb : Nat) (r : List RC) (cb : Option Nat) (zx' : Nat) (x' : List Int) (cx' : Option Nat) (zy' : Nat) (y' : List Int) (cy' : Option Nat)
  (h1 : l = [] ∨ za = 1) (h3 : r = [] ∨ zb = 1) (hx : x = [] ∨ zx = 1) (hy : y = [] ∨ zy = 1) (hx' : x' = [] ∨ zx' = 1) (hy' : y' = [] ∨ zy' = 1) (hl : l.length ≤ 1000000) (hr : r.length ≤ 1000000) (hxl : x.length ≤ 1000000) (hyl : y.length ≤ 1000000) (hxl' : x'.length ≤ 1000000) (hyl' : y'.length ≤ 1000000)
  (il : ∀ s, s < l.length → (l.getD s ([], none)).1.length ≤ 1000000) (ir : ∀ s, s < r.length → (r.getD s ([], none)).1.length ≤ 1000000) (jl : ∀ s a, (((l.getD s ([], none)).1.getD a ([], none)).1).length ≤ 9223372036854775807) (jr : ∀ s a, (((r.getD s ([], none)).1.getD a ([], none)).1).length ≤ 9223372036854775807) :
  PC Tryz.prog G0 10 [nA sa za l ca zx x cx zy y cy, nA sb zb r cb zx' x' cx' zy' y' cy'] (.int .i64 (if wbm9 sa l x y sb r x' y' then 1 else 0)) := by
 have ell := we0 l
 have elr := we0 r
 have hgl := zm0 l
 have hgr := zm0 r
 have idl : ∀ p, idsE p (xc0 l) = true := fun p => wc0 _ _
 have idr : ∀ p, idsE p (xc0 r) = true := fun p => wc0 _ _
 have hsx := qbL9 zx x cx zx' x' cx' hx hx' (by omega) (by omega)
 have hsy := qbL9 zy y cy zy' y' cy' hy hy' (by omega) (by omega)
 have hsame := fun s k => qbL9 1 ((l.getD s ([], none)).1.getD k ([], none)).1 ((l.getD s ([], none)).1.getD k ([], none)).2 1 ((r.getD s ([], none)).1.getD k ([], none)).1 ((r.getD s ([], none)).1.getD k ([], none)).2 (.inr rfl) (.inr rfl) (jl s k) (jr s k)
 have idx : ∀ p, idsE p (ints x) = true := fun p => va0 _ _
 have idy : ∀ p, idsE p (ints y) = true := fun p => va0 _ _
 have idx' : ∀ p, idsE p (ints x') = true := fun p => va0 _ _
 have idy' : ∀ p, idsE p (ints y') = true := fun p => va0 _ _
 unfold nA
 by_cases hs : sa = sb
 ·by_cases hn : l.length = r.length
  ·by_cases hxe : x = x'
   ·by_cases hye : y = y'
    ·rw [if_pos hxe] at hsx
     rw [if_pos hye] at hsy
     have hrows := zdy9 hn
     have hno1 : (∃ s, s < l.length ∧ rowV (l.getD s ([], none)) ≠ rowV (r.getD s ([], none))) → ¬ wbm9 sa l x y sb r x' y' := fun ⟨j, hj, q⟩ e => q (hrows.1 e.2.1 j hj)
     have hyes : (∀ s, s < l.length → rowV (l.getD s ([], none)) = rowV (r.getD s ([], none))) → wbm9 sa l x y sb r x' y' := fun q => ⟨hs, hrows.2 q, hxe, hye⟩
     have hn2 : r.length = l.length := hn.symm
     generalize wbm9 sa l x y sb r x' y' = P at *
     subst hs
     refine vd0 0 85 [.tmp 4] Tryz.func10 rfl rfl rfl (by simp) ?_
     intro s ⟨a0, a1, hz⟩
     simp only [Nat.zero_add, Nat.reduceAdd] at a1
     clear hz
     repeat' (first|refine nav ?_|(refine g0_ ?_; refine goD ?_)|(with_reducible refine gG ?_ ?_)|((with_reducible refine And.intro (fun h => ?_) (fun h => ?_)) <;> try (exfalso; omega))|(with_reducible refine andG ?_)|(first|(refine ⟨_, _, qa0 (hsx) (by (simp [idsL, idsE, AV.ids, Nat.add_zero])) _, ?_⟩)|(refine ⟨_, qa0 (hsx) (by (simp [idsL, idsE, AV.ids, Nat.add_zero])) _, ?_⟩)|(refine ⟨_, fun _ => qa0 (hsx) (by (simp [idsL, idsE, AV.ids, Nat.add_zero])) _, ?_⟩)|(refine ⟨_, _, qa0 (hsy) (by (simp [idsL, idsE, AV.ids, Nat.add_zero])) _, ?_⟩)|(refine ⟨_, qa0 (hsy) (by (simp [idsL, idsE, AV.ids, Nat.add_zero])) _, ?_⟩)|(refine ⟨_, fun _ => qa0 (hsy) (by (simp [idsL, idsE, AV.ids, Nat.add_zero])) _, ?_⟩))|simp (disch := (first|exact za0|fail)) only [push_cast, simprocAttr, a0, a1, ell, elr, hn2])
     refine go_loop rfl (fun mz s' H' => ∃ s : Nat, s ≤ l.length ∧ mz = l.length - s ∧ H' = [.row 4 29 [[.int .i64 sa, .sl za (xc0 l) ca, .sl zx (ints x) cx, .sl zy (ints y) cy]], .row 4 29 [[.int .i64 sa, .sl zb (xc0 r) cb, .sl zx' (ints x') cx', .sl zy' (ints y') cy']]] ∧ s' 2 = .ptr 0 0 0 1 ∧ s' 3 = .ptr 1 0 0 1 ∧ s' 5 = .int .i64 s ∧ (∀ i, i < s → rowV (l.getD i ([], none)) = rowV (r.getD i ([], none)))) (m := l.length) (by first|exact xb0|fail) (Weak.refl _ _) ⟨0, by omega, by omega, rfl, ?_⟩ ?_
     ·refine ⟨?_, ?_, ?_, fun i hi => by omega⟩
      all_goals simp (disch := (first|exact za0|fail)) only [push_cast, simprocAttr, a0, a1, ell, elr, hn2]
     ·rintro mz s' H' ⟨s, hs, rfl, rfl, b2, b3, b5, is⟩
      rcases Nat.lt_or_ge s l.length with hlt|hge
      ·obtain rfl := h1.resolve_left (by intro h; rw [h] at hlt; simp at hlt)
       obtain rfl := h3.resolve_left (by intro h; rw [h] at hn; simp at hn; rw [hn] at hlt; simp at hlt)
       have e1 := hgl s hlt
       have e2 := hgr s (by omega)
       have b1 := il s hlt
       have b2' := ir s (by omega)
       have hsj := hsame s
       have hsn := kai9 (P := fun i => rowV (l.getD i ([], none)) = rowV (r.getD i ([], none))) (k := s) is
       have hno := fun q => hno1 ⟨s, hlt, q⟩
       generalize l.getD s ([], none) = u at *
       generalize r.getD s ([], none) = v at *
       have eu := zc0 u.1
       have ev := zc0 v.1
       have hgu := zh0 u.1
       have hgv := zh0 v.1
       have idu : ∀ p, idsE p (rowL u.1) = true := fun p => vf0 _ _
       have idv : ∀ p, idsE p (rowL v.1) = true := fun p => vf0 _ _
       unfold rC at e1 e2
       by_cases hq : u.1.length = v.1.length
       ·have hq2 := hq.symm
        have hcell : (∃ k, k < u.1.length ∧ (u.1.getD k ([], none)).1 ≠ (v.1.getD k ([], none)).1) → ¬ rowV u = rowV v := fun ⟨k, hk, q⟩ e => q ((zaZ9 hq).1 e k hk)
        have hcelly : (∀ k, k < u.1.length → (u.1.getD k ([], none)).1 = (v.1.getD k ([], none)).1) → rowV u = rowV v := fun e => (zaZ9 hq).2 e
        repeat' (first|refine nav ?_|(refine g0_ ?_; refine goD ?_)|(with_reducible refine gG ?_ ?_)|((with_reducible refine And.intro (fun h => ?_) (fun h => ?_)) <;> try (exfalso; omega))|(with_reducible refine andG ?_)|fail|simp (disch := (first|exact za0|fail)) only [push_cast, simprocAttr, b2, b3, b5, e1, e2, ell, elr, eu, ev, hn2, hq2])
        refine go_loop rfl (fun mz s' H' => ∃ k : Nat, k ≤ u.1.length ∧ mz = u.1.length - k ∧ H' = [.row 4 29 [[.int .i64 sa, .sl 1 (xc0 l) ca, .sl zx (ints x) cx, .sl zy (ints y) cy]], .row 4 29 [[.int .i64 sa, .sl 1 (xc0 r) cb, .sl zx' (ints x') cx', .sl zy' (ints y') cy']]] ∧ s' 2 = .ptr 0 0 0 1 ∧ s' 3 = .ptr 1 0 0 1 ∧ s' 5 = .int .i64 s ∧ s' 6 = .int .i64 k ∧ (∀ i, i < k → (u.1.getD i ([], none)).1 = (v.1.getD i ([], none)).1)) (m := u.1.length) (by first|exact xb0|fail) (Weak.refl _ _) ⟨0, by omega, by omega, rfl, ?_⟩ ?_
        ·refine ⟨?_, ?_, ?_, ?_, fun i hi => by omega⟩
         all_goals simp (disch := (first|exact za0|fail)) only [push_cast, simprocAttr, b2, b3, b5, e1, e2, ell, elr, eu, ev, hn2, hq2]
        ·rintro mz s' H' ⟨k, hk, rfl, rfl, b2, b3, b5, b6, ik⟩
         rcases Nat.lt_or_ge k u.1.length with hltk|hgek
         ·have e3 := hgu k hltk
          have e4 := hgv k (by omega)
          have hsk := hsj k
          have hsnk := kai9 (P := fun i => (u.1.getD i ([], none)).1 = (v.1.getD i ([], none)).1) (k := k) ik
          have hnok := fun q => hno (hcell ⟨k, hltk, q⟩)
          generalize u.1.getD k ([], none) = p at *
          generalize v.1.getD k ([], none) = q at *
          unfold lC at e3 e4
          by_cases hpq : p.1 = q.1
          ·have hsn2 := hsnk hpq
           rw [if_pos hpq] at hsk
           repeat' (first|refine nav ?_|(refine g0_ ?_; refine goD ?_)|(with_reducible refine gG ?_ ?_)|((with_reducible refine And.intro (fun h => ?_) (fun h => ?_)) <;> try (exfalso; omega))|(with_reducible refine andG ?_)|(first|(refine ⟨_, _, qa0 (hsk) (by (simp [idsL, idsE, AV.ids, Nat.add_zero])) _, ?_⟩)|(refine ⟨_, qa0 (hsk) (by (simp [idsL, idsE, AV.ids, Nat.add_zero])) _, ?_⟩)|(refine ⟨_, fun _ => qa0 (hsk) (by (simp [idsL, idsE, AV.ids, Nat.add_zero])) _, ?_⟩))|simp (disch := (first|exact za0|fail)) only [push_cast, simprocAttr, b2, b3, b5, b6, e1, e2, e3, e4, ell, elr, eu, ev, hn2, hq2])
           refine xa0 (u.1.length - (k + 1)) (by omega) (by first|exact xb0|fail) ⟨k + 1, by omega, rfl, rfl, ?_, ?_, ?_, ?_, hsn2⟩
           all_goals simp (disch := (first|exact za0|fail)) only [push_cast, simprocAttr, b2, b3, b5, b6, e1, e2, e3, e4, ell, elr, eu, ev, hn2, hq2]
          ·rw [if_neg (hnok hpq)]
           rw [if_neg hpq] at hsk
           repeat' (first|refine nav ?_|(refine g0_ ?_; refine goD ?_)|(with_reducible refine gG ?_ ?_)|((with_reducible refine And.intro (fun h => ?_) (fun h => ?_)) <;> try (exfalso; omega))|(with_reducible refine andG ?_)|(first|(refine ⟨_, _, qa0 (hsk) (by (simp [idsL, idsE, AV.ids, Nat.add_zero])) _, ?_⟩)|(refine ⟨_, qa0 (hsk) (by (simp [idsL, idsE, AV.ids, Nat.add_zero])) _, ?_⟩)|(refine ⟨_, fun _ => qa0 (hsk) (by (simp [idsL, idsE, AV.ids, Nat.add_zero])) _, ?_⟩))|simp (disch := (first|exact za0|fail)) only [push_cast, simprocAttr, b2, b3, b5, b6, e1, e2, e3, e4, ell, elr, eu, ev, hn2, hq2])
         ·obtain rfl : k = u.1.length := by omega
          have hsn2 := hsn (hcelly ik)
          repeat' (first|refine nav ?_|(refine g0_ ?_; refine goD ?_)|(with_reducible refine gG ?_ ?_)|((with_reducible refine And.intro (fun h => ?_) (fun h => ?_)) <;> try (exfalso; omega))|(with_reducible refine andG ?_)|fail|simp (disch := (first|exact za0|fail)) only [push_cast, simprocAttr, b2, b3, b5, b6, e1, e2, ell, elr, eu, ev, hn2, hq2])
          refine xa0 (l.length - (s + 1)) (by omega) (by first|exact xb0|fail) ⟨s + 1, by omega, rfl, rfl, ?_, ?_, ?_, hsn2⟩
          all_goals simp (disch := (first|exact za0|fail)) only [push_cast, simprocAttr, b2, b3, b5, b6, e1, e2, ell, elr, eu, ev, hn2, hq2]
       ·have hq3 : ¬ (u.1.length : Int) = v.1.length := by omega
        rw [if_neg (hno (fun e => hq (by have := congrArg List.length e; simpa [rowV] using this)))]
        repeat' (first|refine nav ?_|(refine g0_ ?_; refine goD ?_)|(with_reducible refine gG ?_ ?_)|((with_reducible refine And.intro (fun h => ?_) (fun h => ?_)) <;> try (exfalso; omega))|(with_reducible refine andG ?_)|fail|simp (disch := (first|exact za0|fail)) only [push_cast, simprocAttr, b2, b3, b5, e1, e2, ell, elr, eu, ev, hn2, hq3])
      ·obtain rfl : s = l.length := by omega
       rw [if_pos (hyes is)]
       repeat' (first|refine nav ?_|(refine g0_ ?_; refine goD ?_)|(with_reducible refine gG ?_ ?_)|((with_reducible refine And.intro (fun h => ?_) (fun h => ?_)) <;> try (exfalso; omega))|(with_reducible refine andG ?_)|fail|simp (disch := (first|exact za0|fail)) only [push_cast, simprocAttr, b2, b3, b5, ell, elr, hn2])
    ·rw [if_neg (fun e => hye e.2.2.2)]
     rw [if_neg hye] at hsy
     rw [if_pos hxe] at hsx
     refine vd0 0 85 [.tmp 4] Tryz.func10 rfl rfl rfl (by simp) ?_
     intro s ⟨a0, a1, hz⟩
     simp only [Nat.zero_add, Nat.reduceAdd] at a1
     clear hz
     repeat' (first|refine nav ?_|(refine g0_ ?_; refine goD ?_)|(with_reducible refine gG ?_ ?_)|((with_reducible refine And.intro (fun h => ?_) (fun h => ?_)) <;> try (exfalso; omega))|(with_reducible refine andG ?_)|(first|(refine ⟨_, _, qa0 (hsx) (by (simp [idsL, idsE, AV.ids, Nat.add_zero])) _, ?_⟩)|(refine ⟨_, qa0 (hsx) (by (simp [idsL, idsE, AV.ids, Nat.add_zero])) _, ?_⟩)|(refine ⟨_, fun _ => qa0 (hsx) (by (simp [idsL, idsE, AV.ids, Nat.add_zero])) _, ?_⟩)|(refine ⟨_, _, qa0 (hsy) (by (simp [idsL, idsE, AV.ids, Nat.add_zero])) _, ?_⟩)|(refine ⟨_, qa0 (hsy) (by (simp [idsL, idsE, AV.ids, Nat.add_zero])) _, ?_⟩)|(refine ⟨_, fun _ => qa0 (hsy) (by (simp [idsL, idsE, AV.ids, Nat.add_zero])) _, ?_⟩))|simp (disch := (first|exact za0|fail)) only [push_cast, simprocAttr, a0, a1, ell, elr, hn, hs])
   ·rw [if_neg (fun e => hxe e.2.2.1)]
    rw [if_neg hxe] at hsx
    refine vd0 0 85 [.tmp 4] Tryz.func10 rfl rfl rfl (by simp) ?_
    intro s ⟨a0, a1, hz⟩
    simp only [Nat.zero_add, Nat.reduceAdd] at a1
    clear hz
    repeat' (first|refine nav ?_|(refine g0_ ?_; refine goD ?_)|(with_reducible refine gG ?_ ?_)|((with_reducible refine And.intro (fun h => ?_) (fun h => ?_)) <;> try (exfalso; omega))|(with_reducible refine andG ?_)|(first|(refine ⟨_, _, qa0 (hsx) (by (simp [idsL, idsE, AV.ids, Nat.add_zero])) _, ?_⟩)|(refine ⟨_, qa0 (hsx) (by (simp [idsL, idsE, AV.ids, Nat.add_zero])) _, ?_⟩)|(refine ⟨_, fun _ => qa0 (hsx) (by (simp [idsL, idsE, AV.ids, Nat.add_zero])) _, ?_⟩))|simp (disch := (first|exact za0|fail)) only [push_cast, simprocAttr, a0, a1, ell, elr, hn, hs])
    refine ⟨.top, ?_⟩
    repeat' (first|refine nav ?_|(refine g0_ ?_; refine goD ?_)|(with_reducible refine gG ?_ ?_)|((with_reducible refine And.intro (fun h => ?_) (fun h => ?_)) <;> try (exfalso; omega))|(with_reducible refine andG ?_)|(first|(refine ⟨_, _, qa0 (hsx) (by (simp [idsL, idsE, AV.ids, Nat.add_zero])) _, ?_⟩)|(refine ⟨_, qa0 (hsx) (by (simp [idsL, idsE, AV.ids, Nat.add_zero])) _, ?_⟩)|(refine ⟨_, fun _ => qa0 (hsx) (by (simp [idsL, idsE, AV.ids, Nat.add_zero])) _, ?_⟩))|simp (disch := (first|exact za0|fail)) only [push_cast, simprocAttr, a0, a1, ell, elr, hn, hs])
  ·rw [if_neg (fun e => hn (by have := congrArg List.length e.2.1; simpa [rowsV] using this))]
   have hn3 : ¬ (l.length : Int) = r.length := by omega
   refine vd0 0 85 [.tmp 4] Tryz.func10 rfl rfl rfl (by simp) ?_
   intro s ⟨a0, a1, hz⟩
   simp only [Nat.zero_add, Nat.reduceAdd] at a1
   clear hz
   repeat' (first|refine nav ?_|(refine g0_ ?_; refine goD ?_)|(with_reducible refine gG ?_ ?_)|((with_reducible refine And.intro (fun h => ?_) (fun h => ?_)) <;> try (exfalso; omega))|(with_reducible refine andG ?_)|fail|simp (disch := (first|exact za0|fail)) only [push_cast, simprocAttr, a0, a1, ell, elr, hs, hn3])
   refine ⟨.top, ?_⟩
   repeat' (first|refine nav ?_|(refine g0_ ?_; refine goD ?_)|(with_reducible refine gG ?_ ?_)|((with_reducible refine And.intro (fun h => ?_) (fun h => ?_)) <;> try (exfalso; omega))|(with_reducible refine andG ?_)|fail|simp (disch := (first|exact za0|fail)) only [push_cast, simprocAttr, a0, a1, ell, elr, hs, hn3])
   refine ⟨.top, ?_⟩
   repeat' (first|refine nav ?_|(refine g0_ ?_; refine goD ?_)|(with_reducible refine gG ?_ ?_)|((with_reducible refine And.intro (fun h => ?_) (fun h => ?_)) <;> try (exfalso; omega))|(with_reducible refine andG ?_)|fail|simp (disch := (first|exact za0|fail)) only [push_cast, simprocAttr, a0, a1, ell, elr, hs, hn3])
 ·rw [if_neg (fun e => hs e.1)]
  refine vd0 0 85 [.tmp 4] Tryz.func10 rfl rfl rfl (by simp) ?_
  intro s ⟨a0, a1, hz⟩
  simp only [Nat.zero_add, Nat.reduceAdd] at a1
  clear hz
  repeat' (first|refine nav ?_|(refine g0_ ?_; refine goD ?_)|(with_reducible refine gG ?_ ?_)|((with_reducible refine And.intro (fun h => ?_) (fun h => ?_)) <;> try (exfalso; omega))|(with_reducible refine andG ?_)|fail|simp (disch := (first|exact za0|fail)) only [push_cast, simprocAttr, a0, a1, ell, elr, hs])
  refine ⟨.top, ?_⟩
  repeat' (first|refine nav ?_|(refine g0_ ?_; refine goD ?_)|(with_reducible refine gG ?_ ?_)|((with_reducible refine And.intro (fun h => ?_) (fun h => ?_)) <;> try (exfalso; omega))|(with_reducible refine andG ?_)|fail|simp (disch := (first|exact za0|fail)) only [push_cast, simprocAttr, a0, a1, ell, elr, hs])
  refine ⟨.top, ?_⟩
  repeat' (first|refine nav ?_|(refine g0_ ?_; refine goD ?_)|(with_reducible refine gG ?_ ?_)|((with_reducible refine And.intro (fun h => ?_) (fun h => ?_)) <;> try (exfalso; omega))|(with_reducible refine andG ?_)|fail|simp (disch := (first|exact za0|fail)) only [push_cast, simprocAttr, a0, a1, ell, elr, hs])
end Go.Proofs
namespace Go.Proofs
open Go Go.V
set_option linter.unusedVariables false
set_option linter.unusedSimpArgs false
set_option maxHeartbeats 0
def qH0 {α : Type} (kA : α → AV) : Nat → List α → List (AV × AV)
 | _, [] => []
 | n, x :: d => (kA x, .int .i64 n) :: qH0 kA (n + 1) d
theorem qN0 {α : Type} {kA : α → AV} : ∀ (d : List α) (n : Nat), (qH0 kA n d).length = d.length
 | [], _ => rfl
 | _ :: d, n => by rw [qH0, List.length_cons, List.length_cons, qN0 d]
theorem xB0 {α : Type} [BEq α] [LawfulBEq α] {kA : α → AV} (hs : ∀ x y, zx0 (kA x) (kA y) = (x == y)) (z : AV) (x : α) : ∀ (d : List α) (n : Nat), zL0 z (qH0 kA n d) (kA x) = if x ∈ d then .int .i64 ((n + d.idxOf x : Nat) : Int) else z
 | [], n => by simp [zL0, qH0]
 | y :: d, n => by
  have ih := xB0 hs z x d (n + 1)
  simp only [zL0, qH0, List.find?_cons, hs] at ih ⊢
  by_cases h : x = y
  ·subst h; simp
  ·have h' : ¬ y = x := fun q => h q.symm
   rw [beq_eq_false_iff_ne.2 h]
   simp only [List.mem_cons, h, false_or, List.idxOf_cons, beq_eq_false_iff_ne.2 h', cond_false] at ih ⊢
   rw [ih]
   split
   ·congr 2; omega
   ·rfl
theorem zH0 {α : Type} [BEq α] [LawfulBEq α] {kA : α → AV} (hs : ∀ x y, zx0 (kA x) (kA y) = (x == y)) (x : α) : ∀ (d : List α) (n : Nat), hasA (qH0 kA n d) (kA x) = decide (x ∈ d)
 | [], n => by simp [hasA, qH0]
 | y :: d, n => by
  have ih := zH0 hs x d (n + 1)
  simp only [hasA, qH0, List.any_cons, hs] at ih ⊢
  rw [ih, Bool.eq_iff_iff]
  simp
theorem zaj9 {α : Type} [BEq α] [LawfulBEq α] {kA : α → AV} (hs : ∀ x y, zx0 (kA x) (kA y) = (x == y)) (x : α) : ∀ (d : List α) (n : Nat), ¬ x ∈ d → updA (qH0 kA n d) (kA x) (.int .i64 ((n + d.length : Nat) : Int)) = qH0 kA n (d ++ [x])
 | [], n, _ => by simp [updA, qH0]
 | y :: d, n, h => by
  simp only [List.mem_cons, not_or] at h
  have ih := zaj9 hs x d (n + 1) h.2
  simp only [qH0, updA, hs, beq_eq_false_iff_ne.2 h.1, Bool.false_eq_true, if_false, List.cons_append]
  rw [← ih]
  congr 4
  simp only [List.length_cons]; omega
theorem zaD9 {α : Type} {kA : α → AV} (p : Nat → Bool) (h : ∀ x, AV.ids p (kA x) = true) : ∀ (d : List α) (n : Nat), ((qH0 kA n d).all fun x => AV.ids p x.1 && AV.ids p x.2) = true
 | [], _ => rfl
 | x :: d, n => by rw [qH0, List.all_cons, zaD9 p h d]; simp [h, AV.ids]
theorem xaD9 {α : Type} {kA : α → AV} {kT : TypeId} (x : α) (h1 : eqTy Tryz.prog 8 kT = true) (h2 : keyA Tryz.prog 8 kT (kA x) = true) (h3 : ∀ y, (eqA Tryz.prog 8 kT (kA x) (kA y)) = (true, zx0 (kA x) (kA y))) : ∀ (d : List α) (n : Nat), qX0 Tryz.prog kT (qH0 kA n d) (kA x) = true := fun d n => by
 simp only [qX0, h1, h2, Bool.true_and]
 have : ∀ (d : List α) (n : Nat), ((qH0 kA n d).all fun p => (eqA Tryz.prog 8 kT (kA x) p.1).1 && ((eqA Tryz.prog 8 kT (kA x) p.1).2 == zx0 (kA x) p.1)) = true := fun d => by
  induction d with
  | nil => intro n; rfl
  | cons y d ih => intro n; rw [qH0, List.all_cons, ih]; simp [h3]
 exact this d n
structure W4 where
 a : Nat
 b : Nat
 c : Nat
 d : Nat
instance : DecidableEq W4 := fun x y => decidable_of_iff (x.a = y.a ∧ x.b = y.b ∧ x.c = y.c ∧ x.d = y.d) (by cases x; cases y; simp)
def w4 (p : Nat → Bool) : W4 := ⟨wP p 0, wP p 1, wP p 2, wP p 3⟩
def k4 (x : W4) : AV := .agg [.int .u64 (x.a : Nat), .int .u64 (x.b : Nat), .int .u64 (x.c : Nat), .int .u64 (x.d : Nat)]
theorem vQ0 (x y : W4) : zx0 (k4 x) (k4 y) = (x == y) := by
 rw [show (x == y) = decide (x = y) from rfl]
 obtain ⟨a, b, c, d⟩ := x
 obtain ⟨a', b', c', d'⟩ := y
 simp only [k4, zx0, kce9, qbR9, Bool.and_true]
 rw [show (IntKind.u64 == IntKind.u64) = true from rfl]
 simp only [Bool.true_and]
 rw [Bool.eq_iff_iff, decide_eq_true_eq, W4.mk.injEq]; simp [Int.natCast_inj]
theorem kdO9 (p : Nat → Bool) (x : W4) : AV.ids p (k4 x) = true := by simp [k4, AV.ids, idsL]
def pS (S : List Nat) (t : Nat) : Bool := S.contains t
def wS (S : List Nat) : W4 := w4 (pS S)
theorem xaO9 {n : Nat} {S : List Nat} (h : FiltF n S) : SetIs n (pS S) S := ⟨fun t _ => by rw [pS, List.contains_iff_mem], h⟩
theorem xbz9 {n : Nat} {p : Nat → Bool} {S : List Nat} (h : SetIs n p S) : setL p = setL (pS S) := by
 refine kar9 fun t ht => ?_
 rw [Bool.eq_iff_iff, pS, List.contains_iff_mem]; exact h.mem t ht
theorem vdh9 {n : Nat} {S T : List Nat} (hS : FiltF n S) (hT : FiltF n T) (hn : n ≤ 256) : wS S = wS T ↔ S = T := by
 rw [← qca9 (xaO9 hS) (xaO9 hT) hn]
 simp only [wS, w4, W4.mk.injEq]
 constructor
 ·rintro ⟨a, b, c, d⟩ i hi
  have : i = 0 ∨ i = 1 ∨ i = 2 ∨ i = 3 := by omega
  rcases this with rfl|rfl|rfl|rfl <;> assumption
 ·exact fun h => ⟨h 0 (by decide), h 1 (by decide), h 2 (by decide), h 3 (by decide)⟩
theorem kdh9 {n : Nat} (hn : n ≤ 256) {l : List (List Nat)} (hl : ∀ T ∈ l, FiltF n T) {S : List Nat} (hS : FiltF n S) : wS S ∈ l.map wS ↔ findX eqL l S < l.length := by
 unfold findX
 rw [List.findIdx_lt_length, List.mem_map]
 constructor
 ·rintro ⟨T, hT, e⟩; exact ⟨T, hT, by rw [(vdh9 (hl T hT) hS hn).1 e]; exact zar9 S⟩
 ·rintro ⟨T, hT, e⟩; exact ⟨T, hT, by rw [zdh9 e]⟩
theorem qdi9 {n : Nat} (hn : n ≤ 256) : ∀ {l : List (List Nat)} (hl : ∀ T ∈ l, FiltF n T) {S : List Nat} (hS : FiltF n S), (l.map wS).idxOf (wS S) = findX eqL l S
 | [], _, _, _ => rfl
 | T :: l, hl, S, hS => by
  have ih := qdi9 hn (l := l) (fun U hU => hl U (List.mem_cons_of_mem _ hU)) hS
  unfold findX at *
  rw [List.map_cons, List.idxOf_cons, List.findIdx_cons, ih]
  have : (wS T == wS S) = eqL T S := by
   rw [Bool.eq_iff_iff, beq_iff_eq, vdh9 (hl T List.mem_cons_self) hS hn]; simp [eqL]
  rw [this]
def PS (S : List Nat) : List AV := setL (pS S)
theorem vw0 (S : List Nat) : (PS S).length = 4 := rfl
theorem xo0 (S : List Nat) : (PS S).take 4 = PS S := rfl
theorem wo0 (S : List Nat) : (PS S).drop 4 = [] := rfl
theorem xf0 (p : Nat → Bool) (S : List Nat) : idsL p (PS S) = true := vh0 _ _
theorem wcz9 (S : List Nat) : AV.agg (PS S) = k4 (wS S) := rfl
def wao9 (l : List (List Nat)) : List (List AV) := l.map PS
theorem qan9 (l : List (List Nat)) : (wao9 l).length = l.length := by simp [wao9]
theorem waO9 (l : List (List Nat)) (k : Nat) (h : k < l.length) : (wao9 l).getD k [] = PS (l.getD k []) := by simp [wao9, h]
theorem xcc9 (l : List (List Nat)) (S : List Nat) : wao9 l ++ [PS S] = wao9 (l ++ [S]) := by simp [wao9]
theorem xd0 (p : Nat → Bool) (l : List (List Nat)) : idsE p (wao9 l) = true := zr0 _ _ fun x => xf0 _ _
def mapS (l : List (List Nat)) : List (AV × AV) := qH0 k4 0 (l.map wS)
theorem wbz9 (l : List (List Nat)) : (mapS l).length = l.length := by rw [mapS, qN0, List.length_map]
theorem vj0 (p : Nat → Bool) (l : List (List Nat)) : ((mapS l).all fun x => AV.ids p x.1 && AV.ids p x.2) = true := zaD9 p (kdO9 p) _ 0
theorem qdP9 : eqTy Tryz.prog 8 68 = true := by kernel_rfl
theorem zdP9 (x : W4) : keyA Tryz.prog 8 68 (k4 x) = true := by kernel_rfl
theorem wee9 (x y : W4) : eqA Tryz.prog 8 68 (k4 x) (k4 y) = (true, zx0 (k4 x) (k4 y)) := by
 rw [vQ0, show (x == y) = decide (x = y) from rfl]
 obtain ⟨a, b, c, d⟩ := x
 obtain ⟨a', b', c', d'⟩ := y
 have : eqA Tryz.prog 8 68 (k4 ⟨a, b, c, d⟩) (k4 ⟨a', b', c', d'⟩) = (true, decide ((a : Int) = a') && (decide ((b : Int) = b') && (decide ((c : Int) = c') && (decide ((d : Int) = d') && true)))) := by kernel_rfl
 rw [this, Prod.mk.injEq]
 refine ⟨rfl, ?_⟩
 rw [Bool.eq_iff_iff, decide_eq_true_eq, W4.mk.injEq]; simp [Int.natCast_inj]
theorem zdi9 (l : List (List Nat)) (S : List Nat) : qX0 Tryz.prog 68 (mapS l) (.agg (PS S)) = true := by
 rw [wcz9]; exact xaD9 _ qdP9 (zdP9 _) (fun y => wee9 _ _) _ 0
theorem wcW9 {n : Nat} (hn : n ≤ 256) {l : List (List Nat)} (hl : ∀ T ∈ l, FiltF n T) {S : List Nat} (hS : FiltF n S) (h : findX eqL l S < l.length) (z : AV) : hasA (mapS l) (.agg (PS S)) = true ∧ zL0 z (mapS l) (.agg (PS S)) = .int .i64 (findX eqL l S : Nat) := by
 have hm := (kdh9 hn hl hS).2 h
 rw [wcz9, mapS, zH0 vQ0, xB0 vQ0, if_pos hm, qdi9 hn hl hS, Nat.zero_add]
 exact ⟨decide_eq_true hm, rfl⟩
theorem vcW9 {n : Nat} (hn : n ≤ 256) {l : List (List Nat)} (hl : ∀ T ∈ l, FiltF n T) {S : List Nat} (hS : FiltF n S) (h : findX eqL l S = l.length) (z : AV) : hasA (mapS l) (.agg (PS S)) = false ∧ zL0 z (mapS l) (.agg (PS S)) = z ∧ updA (mapS l) (.agg (PS S)) (.int .i64 (l.length : Nat)) = mapS (l ++ [S]) := by
 have hm : ¬ wS S ∈ l.map wS := fun q => by have := (kdh9 hn hl hS).1 q; omega
 have hu := zaj9 vQ0 (wS S) (l.map wS) 0 hm
 rw [List.length_map, Nat.zero_add] at hu
 rw [wcz9, mapS, zH0 vQ0, xB0 vQ0, if_neg hm, hu, mapS, List.map_append]
 exact ⟨decide_eq_false hm, rfl, rfl⟩
theorem kcW9 (S : List Nat) : updA [] (.agg (PS S)) (.int .i64 0) = mapS [S] := rfl
theorem waD9 : zbR9 Tryz.prog 3 = .int .i64 0 := by kernel_rfl
end Go.Proofs
