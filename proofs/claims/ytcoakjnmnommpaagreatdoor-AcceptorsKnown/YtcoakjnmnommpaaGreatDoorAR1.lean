import Derived.Test.YtcoakjnmnommpaaGreatDoorA16
import Derived.Test.YtcoakjnmnommpaaGreatDoorA14
namespace Go.Proofs
open Go Go.V
set_option linter.unusedVariables false
set_option linter.unusedSimpArgs false
set_option maxHeartbeats 0
theorem wdQ9 {l r : List RC} (h : l.length = r.length) : rowsV l = rowsV r ↔ ∀ s, s < l.length → rowV (l.getD s ([], none)) = rowV (r.getD s ([], none)) := by
 constructor
 ·intro e j hj;have e2 := congrArg (fun x => x.getD j []) e;simpa [rowsV, hj, show j < r.length by omega] using e2
 ·intro hh;refine l'W (by simp [rowsV, h]) fun j h1 h2 => ?_;have hj : j < l.length := by simpa [rowsV] using h1
  have := hh j hj;simpa [rowsV, hj, show j < r.length by omega] using this
def wcL9 (sa : Int) (l : List RC) (x y : List Int) (sb : Int) (r : List RC) (x' y' : List Int) : Prop := sa = sb ∧ rowsV l = rowsV r ∧ x = x' ∧ y = y'
set_option maxRecDepth 100000 in
open Classical in
theorem vcL9 (sa : Int) (za : Nat) (l : List RC) (ca : Option Nat) (zx : Nat) (x : List Int) (cx : Option Nat) (zy : Nat) (y : List Int) (cy : Option Nat) (sb : Int) (zb : Nat) (r : List RC) (cb : Option Nat) (zx' : Nat) (x' : List Int) (cx' : Option Nat) (zy' : Nat) (y' : List Int) (cy' : Option Nat)
  (h1 : l = [] ∨ za = 1) (h3 : r = [] ∨ zb = 1) (hx : x = [] ∨ zx = 1) (hy : y = [] ∨ zy = 1) (hx' : x' = [] ∨ zx' = 1) (hy' : y' = [] ∨ zy' = 1) (hl : l.length ≤ 1000000) (hr : r.length ≤ 1000000) (hxl : x.length ≤ 1000000) (hyl : y.length ≤ 1000000) (hxl' : x'.length ≤ 1000000) (hyl' : y'.length ≤ 1000000)
  (il : ∀ s, s < l.length → (l.getD s ([], none)).1.length ≤ 1000000) (ir : ∀ s, s < r.length → (r.getD s ([], none)).1.length ≤ 1000000) (jl : ∀ s a, (((l.getD s ([], none)).1.getD a ([], none)).1).length ≤ 9223372036854775807) (jr : ∀ s a, (((r.getD s ([], none)).1.getD a ([], none)).1).length ≤ 9223372036854775807) :
  PC Tryz.prog G0 10 [nA sa za l ca zx x cx zy y cy, nA sb zb r cb zx' x' cx' zy' y' cy'] (.int .i64 (if wcL9 sa l x y sb r x' y' then 1 else 0)) := by
 have ell := vh0 l;have elr := vh0 r;have hgl := qq0 l;have hgr := qq0 r;have idl : ∀ p, idsE p (xe0 l) = true := fun p => ze0 _ _;have idr : ∀ p, idsE p (xe0 r) = true := fun p => ze0 _ _;have hsx := zbW9 zx x cx zx' x' cx' hx hx' (by omega) (by omega);have hsy := zbW9 zy y cy zy' y' cy' hy hy' (by omega) (by omega);have hsame := fun s k => zbW9 1 ((l.getD s ([], none)).1.getD k ([], none)).1 ((l.getD s ([], none)).1.getD k ([], none)).2 1 ((r.getD s ([], none)).1.getD k ([], none)).1 ((r.getD s ([], none)).1.getD k ([], none)).2 (.inr rfl) (.inr rfl) (jl s k) (jr s k);have idx : ∀ p, idsE p (ints x) = true := fun p => wa0 _ _;have idy : ∀ p, idsE p (ints y) = true := fun p => wa0 _ _;have idx' : ∀ p, idsE p (ints x') = true := fun p => wa0 _ _;have idy' : ∀ p, idsE p (ints y') = true := fun p => wa0 _ _;unfold nA;by_cases hs : sa = sb
 ·by_cases hn : l.length = r.length
  ·by_cases hxe : x = x'
   ·by_cases hye : y = y'
    ·rw [if_pos hxe] at hsx;rw [if_pos hye] at hsy;have hrows := wdQ9 hn;have hno1 : (∃ s, s < l.length ∧ rowV (l.getD s ([], none)) ≠ rowV (r.getD s ([], none))) → ¬ wcL9 sa l x y sb r x' y' := fun ⟨j, hj, q⟩ e => q (hrows.1 e.2.1 j hj);have hyes : (∀ s, s < l.length → rowV (l.getD s ([], none)) = rowV (r.getD s ([], none))) → wcL9 sa l x y sb r x' y' := fun q => ⟨hs, hrows.2 q, hxe, hye⟩;have hn2 : r.length = l.length := hn.symm;generalize wcL9 sa l x y sb r x' y' = P at *;subst hs;refine qc0 0 85 [.tmp 4] Tryz.func10 rfl rfl rfl (by simp) ?_;intro s ⟨a0, a1, hz⟩;simp only [l'm, Nat.reduceAdd] at a1;clear hz;repeat' (first|refine nv ?_|(with_reducible first|refine gG ?_ ?_|refine ⟨fun h => ?_, fun h => ?_⟩ <;> try omega|refine andG ?_)|refine cp_ hsx ?_|refine cp_ hsy ?_|simp (disch := try exact qa0) only [push_cast, simprocAttr, a0, a1, ell, elr, hn2])
     refine go_loop rfl (fun mz s' H' => ∃ s : Nat, s ≤ l.length ∧ mz = l.length - s ∧ H' = [.row 4 29 [[.int .i64 sa, .sl za (xe0 l) ca, .sl zx (ints x) cx, .sl zy (ints y) cy]], .row 4 29 [[.int .i64 sa, .sl zb (xe0 r) cb, .sl zx' (ints x') cx', .sl zy' (ints y') cy']]] ∧ s' 2 = .ptr 0 0 0 1 ∧ s' 3 = .ptr 1 0 0 1 ∧ s' 5 = .int .i64 s ∧ (∀ i, i < s → rowV (l.getD i ([], none)) = rowV (r.getD i ([], none)))) (m := l.length) (by first|exact va0|fail) (Weak.refl _ _) ⟨0, by omega, by omega, rfl, ?_⟩ ?_
     ·refine ⟨?_, ?_, ?_, fun i hi => by omega⟩;all_goals simp (disch := try exact qa0) only [push_cast, simprocAttr, a0, a1, ell, elr, hn2]
     ·rintro mz s' H' ⟨s, hs, rfl, rfl, b2, b3, b5, is⟩;rcases l'i s l.length with hlt|hge
      ·obtain rfl := h1.resolve_left (by intro h; rw [h] at hlt; simp at hlt);obtain rfl := h3.resolve_left (by intro h; rw [h] at hn; simp at hn; rw [hn] at hlt; simp at hlt);have e1 := hgl s hlt;have e2 := hgr s (by omega);have b1 := il s hlt;have b2' := ir s (by omega);have hsj := hsame s;have hsn := kaf9 (P := fun i => rowV (l.getD i ([], none)) = rowV (r.getD i ([], none))) (k := s) is;have hno := fun q => hno1 ⟨s, hlt, q⟩;generalize l.getD s ([], none) = u at *;generalize r.getD s ([], none) = v at *;have eu := zb0 u.1;have ev := zb0 v.1;have hgu := xg0 u.1;have hgv := xg0 v.1;have idu : ∀ p, idsE p (rowL u.1) = true := fun p => vc0 _ _;have idv : ∀ p, idsE p (rowL v.1) = true := fun p => vc0 _ _;unfold rC at e1 e2;by_cases hq : u.1.length = v.1.length
       ·have hq2 := hq.symm;have hcell : (∃ k, k < u.1.length ∧ (u.1.getD k ([], none)).1 ≠ (v.1.getD k ([], none)).1) → ¬ rowV u = rowV v := fun ⟨k, hk, q⟩ e => q ((kbj9 hq).1 e k hk);have hcelly : (∀ k, k < u.1.length → (u.1.getD k ([], none)).1 = (v.1.getD k ([], none)).1) → rowV u = rowV v := fun e => (kbj9 hq).2 e;repeat' (first|refine nv ?_|(with_reducible first|refine gG ?_ ?_|refine ⟨fun h => ?_, fun h => ?_⟩ <;> try omega|refine andG ?_)|simp (disch := try exact qa0) only [push_cast, simprocAttr, b2, b3, b5, e1, e2, ell, elr, eu, ev, hn2, hq2])
        refine go_loop rfl (fun mz s' H' => ∃ k : Nat, k ≤ u.1.length ∧ mz = u.1.length - k ∧ H' = [.row 4 29 [[.int .i64 sa, .sl 1 (xe0 l) ca, .sl zx (ints x) cx, .sl zy (ints y) cy]], .row 4 29 [[.int .i64 sa, .sl 1 (xe0 r) cb, .sl zx' (ints x') cx', .sl zy' (ints y') cy']]] ∧ s' 2 = .ptr 0 0 0 1 ∧ s' 3 = .ptr 1 0 0 1 ∧ s' 5 = .int .i64 s ∧ s' 6 = .int .i64 k ∧ (∀ i, i < k → (u.1.getD i ([], none)).1 = (v.1.getD i ([], none)).1)) (m := u.1.length) (by first|exact va0|fail) (Weak.refl _ _) ⟨0, by omega, by omega, rfl, ?_⟩ ?_
        ·refine ⟨?_, ?_, ?_, ?_, fun i hi => by omega⟩;all_goals simp (disch := try exact qa0) only [push_cast, simprocAttr, b2, b3, b5, e1, e2, ell, elr, eu, ev, hn2, hq2]
        ·rintro mz s' H' ⟨k, hk, rfl, rfl, b2, b3, b5, b6, ik⟩;rcases l'i k u.1.length with hltk|hgek
         ·have e3 := hgu k hltk;have e4 := hgv k (by omega);have hsk := hsj k;have hsnk := kaf9 (P := fun i => (u.1.getD i ([], none)).1 = (v.1.getD i ([], none)).1) (k := k) ik;have hnok := fun q => hno (hcell ⟨k, hltk, q⟩);generalize u.1.getD k ([], none) = p at *;generalize v.1.getD k ([], none) = q at *;unfold lC at e3 e4;by_cases hpq : p.1 = q.1
          ·have hsn2 := hsnk hpq;rw [if_pos hpq] at hsk;repeat' (first|refine nv ?_|(with_reducible first|refine gG ?_ ?_|refine ⟨fun h => ?_, fun h => ?_⟩ <;> try omega|refine andG ?_)|refine cp_ hsk ?_|simp (disch := try exact qa0) only [push_cast, simprocAttr, b2, b3, b5, b6, e1, e2, e3, e4, ell, elr, eu, ev, hn2, hq2])
           refine za0 (u.1.length - (k + 1)) (by omega) (by first|exact va0|fail) ⟨k + 1, by omega, rfl, rfl, ?_, ?_, ?_, ?_, hsn2⟩;all_goals simp (disch := try exact qa0) only [push_cast, simprocAttr, b2, b3, b5, b6, e1, e2, e3, e4, ell, elr, eu, ev, hn2, hq2]
          ·rw [if_neg (hnok hpq)];rw [if_neg hpq] at hsk;repeat' (first|refine nv ?_|(with_reducible first|refine gG ?_ ?_|refine ⟨fun h => ?_, fun h => ?_⟩ <;> try omega|refine andG ?_)|refine cp_ hsk ?_|simp (disch := try exact qa0) only [push_cast, simprocAttr, b2, b3, b5, b6, e1, e2, e3, e4, ell, elr, eu, ev, hn2, hq2])
         ·obtain rfl : k = u.1.length := by omega
          have hsn2 := hsn (hcelly ik);repeat' (first|refine nv ?_|(with_reducible first|refine gG ?_ ?_|refine ⟨fun h => ?_, fun h => ?_⟩ <;> try omega|refine andG ?_)|simp (disch := try exact qa0) only [push_cast, simprocAttr, b2, b3, b5, b6, e1, e2, ell, elr, eu, ev, hn2, hq2])
          refine za0 (l.length - (s + 1)) (by omega) (by first|exact va0|fail) ⟨s + 1, by omega, rfl, rfl, ?_, ?_, ?_, hsn2⟩;all_goals simp (disch := try exact qa0) only [push_cast, simprocAttr, b2, b3, b5, b6, e1, e2, ell, elr, eu, ev, hn2, hq2]
       ·have hq3 : ¬ (u.1.length : Int) = v.1.length := by omega
        rw [if_neg (hno (fun e => hq (by have := congrArg List.length e; simpa [rowV] using this)))];repeat' (first|refine nv ?_|(with_reducible first|refine gG ?_ ?_|refine ⟨fun h => ?_, fun h => ?_⟩ <;> try omega|refine andG ?_)|simp (disch := try exact qa0) only [push_cast, simprocAttr, b2, b3, b5, e1, e2, ell, elr, eu, ev, hn2, hq3])
      ·obtain rfl : s = l.length := by omega
       rw [if_pos (hyes is)];repeat' (first|refine nv ?_|(with_reducible first|refine gG ?_ ?_|refine ⟨fun h => ?_, fun h => ?_⟩ <;> try omega|refine andG ?_)|simp (disch := try exact qa0) only [push_cast, simprocAttr, b2, b3, b5, ell, elr, hn2])
    ·rw [if_neg (fun e => hye e.2.2.2)];rw [if_neg hye] at hsy;rw [if_pos hxe] at hsx;refine qc0 0 85 [.tmp 4] Tryz.func10 rfl rfl rfl (by simp) ?_;intro s ⟨a0, a1, hz⟩;simp only [l'm, Nat.reduceAdd] at a1;clear hz;repeat' (first|refine nv ?_|(with_reducible first|refine gG ?_ ?_|refine ⟨fun h => ?_, fun h => ?_⟩ <;> try omega|refine andG ?_)|refine cp_ hsx ?_|refine cp_ hsy ?_|simp (disch := try exact qa0) only [push_cast, simprocAttr, a0, a1, ell, elr, hn, hs])
   ·rw [if_neg (fun e => hxe e.2.2.1)];rw [if_neg hxe] at hsx;refine qc0 0 85 [.tmp 4] Tryz.func10 rfl rfl rfl (by simp) ?_;intro s ⟨a0, a1, hz⟩;simp only [l'm, Nat.reduceAdd] at a1;clear hz;repeat' (first|refine nv ?_|(with_reducible first|refine gG ?_ ?_|refine ⟨fun h => ?_, fun h => ?_⟩ <;> try omega|refine andG ?_)|refine cp_ hsx ?_|simp (disch := try exact qa0) only [push_cast, simprocAttr, a0, a1, ell, elr, hn, hs])
    refine ⟨.top, ?_⟩;repeat' (first|refine nv ?_|(with_reducible first|refine gG ?_ ?_|refine ⟨fun h => ?_, fun h => ?_⟩ <;> try omega|refine andG ?_)|refine cp_ hsx ?_|simp (disch := try exact qa0) only [push_cast, simprocAttr, a0, a1, ell, elr, hn, hs])
  ·rw [if_neg (fun e => hn (by have := congrArg List.length e.2.1; simpa [rowsV] using this))];have hn3 : ¬ (l.length : Int) = r.length := by omega
   refine qc0 0 85 [.tmp 4] Tryz.func10 rfl rfl rfl (by simp) ?_;intro s ⟨a0, a1, hz⟩;simp only [l'm, Nat.reduceAdd] at a1;clear hz;repeat' (first|refine nv ?_|(with_reducible first|refine gG ?_ ?_|refine ⟨fun h => ?_, fun h => ?_⟩ <;> try omega|refine andG ?_)|simp (disch := try exact qa0) only [push_cast, simprocAttr, a0, a1, ell, elr, hs, hn3])
   refine ⟨.top, ?_⟩;repeat' (first|refine nv ?_|(with_reducible first|refine gG ?_ ?_|refine ⟨fun h => ?_, fun h => ?_⟩ <;> try omega|refine andG ?_)|simp (disch := try exact qa0) only [push_cast, simprocAttr, a0, a1, ell, elr, hs, hn3])
   refine ⟨.top, ?_⟩;repeat' (first|refine nv ?_|(with_reducible first|refine gG ?_ ?_|refine ⟨fun h => ?_, fun h => ?_⟩ <;> try omega|refine andG ?_)|simp (disch := try exact qa0) only [push_cast, simprocAttr, a0, a1, ell, elr, hs, hn3])
 ·rw [if_neg (fun e => hs e.1)];refine qc0 0 85 [.tmp 4] Tryz.func10 rfl rfl rfl (by simp) ?_;intro s ⟨a0, a1, hz⟩;simp only [l'm, Nat.reduceAdd] at a1;clear hz;repeat' (first|refine nv ?_|(with_reducible first|refine gG ?_ ?_|refine ⟨fun h => ?_, fun h => ?_⟩ <;> try omega|refine andG ?_)|simp (disch := try exact qa0) only [push_cast, simprocAttr, a0, a1, ell, elr, hs])
  refine ⟨.top, ?_⟩;repeat' (first|refine nv ?_|(with_reducible first|refine gG ?_ ?_|refine ⟨fun h => ?_, fun h => ?_⟩ <;> try omega|refine andG ?_)|simp (disch := try exact qa0) only [push_cast, simprocAttr, a0, a1, ell, elr, hs])
  refine ⟨.top, ?_⟩;repeat' (first|refine nv ?_|(with_reducible first|refine gG ?_ ?_|refine ⟨fun h => ?_, fun h => ?_⟩ <;> try omega|refine andG ?_)|simp (disch := try exact qa0) only [push_cast, simprocAttr, a0, a1, ell, elr, hs])
def xL0 {α : Type} (kA : α → AV) : Nat → List α → List (AV × AV)
 | _, [] => []
 | n, x :: d => (kA x, .int .i64 n) :: xL0 kA (n + 1) d
theorem vV0 {α : Type} {kA : α → AV} : ∀ (d : List α) (n : Nat), (xL0 kA n d).length = d.length
 | [], _ => rfl
 | _ :: d, n => by rw [xL0, List.length_cons, List.length_cons, vV0 d]
theorem zE0 {α : Type} [BEq α] [LawfulBEq α] {kA : α → AV} (hs : ∀ x y, qz0 (kA x) (kA y) = (x == y)) (z : AV) (x : α) : ∀ (d : List α) (n : Nat), zS0 z (xL0 kA n d) (kA x) = if x ∈ d then .int .i64 ((n + d.idxOf x : Nat) : Int) else z
 | [], n => by simp [zS0, xL0]
 | y :: d, n => by
  have ih := zE0 hs z x d (n + 1);simp only [zS0, xL0, List.find?_cons, hs] at ih ⊢;by_cases h : x = y
  ·subst h; simp
  ·have h' : ¬ y = x := fun q => h q.symm;rw [beq_eq_false_iff_ne.2 h];simp only [l'C, h, false_or, List.idxOf_cons, beq_eq_false_iff_ne.2 h', cond_false] at ih ⊢;rw [ih];split
   ·congr 2; omega
   ·rfl
theorem wL0 {α : Type} [BEq α] [LawfulBEq α] {kA : α → AV} (hs : ∀ x y, qz0 (kA x) (kA y) = (x == y)) (x : α) : ∀ (d : List α) (n : Nat), hasA (xL0 kA n d) (kA x) = decide (x ∈ d)
 | [], n => by simp [hasA, xL0]
 | y :: d, n => by
  have ih := wL0 hs x d (n + 1);simp only [hasA, xL0, List.any_cons, hs] at ih ⊢;rw [ih, l'u];simp
theorem xas9 {α : Type} [BEq α] [LawfulBEq α] {kA : α → AV} (hs : ∀ x y, qz0 (kA x) (kA y) = (x == y)) (x : α) : ∀ (d : List α) (n : Nat), ¬ x ∈ d → updA (xL0 kA n d) (kA x) (.int .i64 ((n + d.length : Nat) : Int)) = xL0 kA n (d ++ [x])
 | [], n, _ => by simp [updA, xL0]
 | y :: d, n, h => by
  simp only [l'C, not_or] at h;have ih := xas9 hs x d (n + 1) h.2;simp only [xL0, updA, hs, beq_eq_false_iff_ne.2 h.1, l'Y, if_false, List.cons_append];rw [← ih];congr 4
  simp only [List.length_cons]; omega
theorem vaL9 {α : Type} {kA : α → AV} (p : Nat → Bool) (h : ∀ x, AV.ids p (kA x) = true) : ∀ (d : List α) (n : Nat), ((xL0 kA n d).all fun x => AV.ids p x.1 && AV.ids p x.2) = true
 | [], _ => rfl
 | x :: d, n => by rw [xL0, List.all_cons, vaL9 p h d]; simp [h, AV.ids]
theorem kaL9 {α : Type} {kA : α → AV} {kT : TypeId} (x : α) (h1 : eqTy Tryz.prog 8 kT = true) (h2 : keyA Tryz.prog 8 kT (kA x) = true) (h3 : ∀ y, (eqA Tryz.prog 8 kT (kA x) (kA y)) = (true, qz0 (kA x) (kA y))) : ∀ (d : List α) (n : Nat), kag9 Tryz.prog kT (xL0 kA n d) (kA x) = true := fun d n => by
 simp only [kag9, h1, h2, n'o];have : ∀ (d : List α) (n : Nat), ((xL0 kA n d).all fun p => (eqA Tryz.prog 8 kT (kA x) p.1).1 && ((eqA Tryz.prog 8 kT (kA x) p.1).2 == qz0 (kA x) p.1)) = true := fun d => by
  induction d with
  | nil => intro n; rfl
  | cons y d ih => intro n; rw [xL0, List.all_cons, ih]; simp [h3]
 exact this d n
structure W4 where
 a : Nat
 b : Nat
 c : Nat
 d : Nat
instance : DecidableEq W4 := fun x y => decidable_of_iff (x.a = y.a ∧ x.b = y.b ∧ x.c = y.c ∧ x.d = y.d) (by cases x; cases y; simp)
def w4 (p : Nat → Bool) : W4 := ⟨wP p 0, wP p 1, wP p 2, wP p 3⟩
def k4 (x : W4) : AV := .agg [.int .u64 (x.a : Nat), .int .u64 (x.b : Nat), .int .u64 (x.c : Nat), .int .u64 (x.d : Nat)]
theorem vaa9 (x y : W4) : qz0 (k4 x) (k4 y) = (x == y) := by
 rw [show (x == y) = decide (x = y) from rfl];obtain ⟨a, b, c, d⟩ := x;obtain ⟨a', b', c', d'⟩ := y;simp only [k4, qz0, xcr9, vcb9, n'W];rw [show (IntKind.u64 == IntKind.u64) = true from rfl];simp only [n'o];rw [l'u, decide_eq_true_eq, W4.mk.injEq]; simp [z'e]
theorem xek9 (p : Nat → Bool) (x : W4) : AV.ids p (k4 x) = true := by simp [k4, AV.ids, idsL]
def pS (S : List Nat) (t : Nat) : Bool := S.contains t
def wS (S : List Nat) : W4 := w4 (pS S)
theorem xaY9 {n : Nat} {S : List Nat} (h : FiltF n S) : SetIs n (pS S) S := ⟨fun t _ => by rw [pS, l'h], h⟩
theorem qbL9 {n : Nat} {p : Nat → Bool} {S : List Nat} (h : SetIs n p S) : setL p = setL (pS S) := by
 refine qaA9 fun t ht => ?_;rw [l'u, pS, l'h]; exact h.mem t ht
theorem zdA9 {n : Nat} {S T : List Nat} (hS : FiltF n S) (hT : FiltF n T) (hn : n ≤ 256) : wS S = wS T ↔ S = T := by
 rw [← xcl9 (xaY9 hS) (xaY9 hT) hn];simp only [wS, w4, W4.mk.injEq];constructor
 ·rintro ⟨a, b, c, d⟩ i hi;have : i = 0 ∨ i = 1 ∨ i = 2 ∨ i = 3 := by omega
  rcases this with rfl|rfl|rfl|rfl <;> assumption
 ·exact fun h => ⟨h 0 (by decide), h 1 (by decide), h 2 (by decide), h 3 (by decide)⟩
theorem xdA9 {n : Nat} (hn : n ≤ 256) {l : List (List Nat)} (hl : ∀ T ∈ l, FiltF n T) {S : List Nat} (hS : FiltF n S) : wS S ∈ l.map wS ↔ findX eqL l S < l.length := by
 unfold findX;rw [List.findIdx_lt_length, l'B];constructor
 ·rintro ⟨T, hT, e⟩; exact ⟨T, hT, by rw [(zdA9 (hl T hT) hS hn).1 e]; exact qx0 S⟩
 ·rintro ⟨T, hT, e⟩; exact ⟨T, hT, by rw [kbv9 e]⟩
theorem wdA9 {n : Nat} (hn : n ≤ 256) : ∀ {l : List (List Nat)} (hl : ∀ T ∈ l, FiltF n T) {S : List Nat} (hS : FiltF n S), (l.map wS).idxOf (wS S) = findX eqL l S
 | [], _, _, _ => rfl
 | T :: l, hl, S, hS => by
  have ih := wdA9 hn (l := l) (fun U hU => hl U (l'g _ hU)) hS;unfold findX at *;rw [List.map_cons, List.idxOf_cons, l'P, ih];have : (wS T == wS S) = eqL T S := by
   rw [l'u, beq_iff_eq, zdA9 (hl T l'n) hS hn]; simp [eqL]
  rw [this]
def PS (S : List Nat) : List AV := setL (pS S)
theorem wy0 (S : List Nat) : (PS S).length = 4 := rfl
theorem xo0 (S : List Nat) : (PS S).take 4 = PS S := rfl
theorem wo0 (S : List Nat) : (PS S).drop 4 = [] := rfl
theorem vo0 (p : Nat → Bool) (S : List Nat) : idsL p (PS S) = true := xu0 _ _
theorem kcL9 (S : List Nat) : AV.agg (PS S) = k4 (wS S) := rfl
def zax9 (l : List (List Nat)) : List (List AV) := l.map PS
theorem qaw9 (l : List (List Nat)) : (zax9 l).length = l.length := by simp [zax9]
theorem waY9 (l : List (List Nat)) (k : Nat) (h : k < l.length) : (zax9 l).getD k [] = PS (l.getD k []) := by simp [zax9, h]
theorem xcn9 (l : List (List Nat)) (S : List Nat) : zax9 l ++ [PS S] = zax9 (l ++ [S]) := by simp [zax9]
theorem zl0 (p : Nat → Bool) (l : List (List Nat)) : idsE p (zax9 l) = true := xA0 _ _ fun x => vo0 _ _
def mapS (l : List (List Nat)) : List (AV × AV) := xL0 k4 0 (l.map wS)
theorem zbL9 (l : List (List Nat)) : (mapS l).length = l.length := by rw [mapS, vV0, l'w]
theorem qH0 (p : Nat → Bool) (l : List (List Nat)) : ((mapS l).all fun x => AV.ids p x.1 && AV.ids p x.2) = true := vaL9 p (xek9 p) _ 0
theorem wek9 : eqTy Tryz.prog 8 68 = true := by kernel_rfl
theorem vek9 (x : W4) : keyA Tryz.prog 8 68 (k4 x) = true := by kernel_rfl
theorem weB9 (x y : W4) : eqA Tryz.prog 8 68 (k4 x) (k4 y) = (true, qz0 (k4 x) (k4 y)) := by
 rw [vaa9, show (x == y) = decide (x = y) from rfl];obtain ⟨a, b, c, d⟩ := x;obtain ⟨a', b', c', d'⟩ := y;have : eqA Tryz.prog 8 68 (k4 ⟨a, b, c, d⟩) (k4 ⟨a', b', c', d'⟩) = (true, decide ((a : Int) = a') && (decide ((b : Int) = b') && (decide ((c : Int) = c') && (decide ((d : Int) = d') && true)))) := by kernel_rfl
 rw [this, Prod.mk.injEq];refine ⟨rfl, ?_⟩;rw [l'u, decide_eq_true_eq, W4.mk.injEq]; simp [z'e]
theorem vdA9 (l : List (List Nat)) (S : List Nat) : kag9 Tryz.prog 68 (mapS l) (.agg (PS S)) = true := by
 rw [kcL9]; exact kaL9 _ wek9 (vek9 _) (fun y => weB9 _ _) _ 0
theorem kdm9 {n : Nat} (hn : n ≤ 256) {l : List (List Nat)} (hl : ∀ T ∈ l, FiltF n T) {S : List Nat} (hS : FiltF n S) (h : findX eqL l S < l.length) (z : AV) : hasA (mapS l) (.agg (PS S)) = true ∧ zS0 z (mapS l) (.agg (PS S)) = .int .i64 (findX eqL l S : Nat) := by
 have hm := (xdA9 hn hl hS).2 h;rw [kcL9, mapS, wL0 vaa9, zE0 vaa9, if_pos hm, wdA9 hn hl hS, l'm];exact ⟨decide_eq_true hm, rfl⟩
theorem qdn9 {n : Nat} (hn : n ≤ 256) {l : List (List Nat)} (hl : ∀ T ∈ l, FiltF n T) {S : List Nat} (hS : FiltF n S) (h : findX eqL l S = l.length) (z : AV) : hasA (mapS l) (.agg (PS S)) = false ∧ zS0 z (mapS l) (.agg (PS S)) = z ∧ updA (mapS l) (.agg (PS S)) (.int .i64 (l.length : Nat)) = mapS (l ++ [S]) := by
 have hm : ¬ wS S ∈ l.map wS := fun q => by have := (xdA9 hn hl hS).1 q; omega
 have hu := xas9 vaa9 (wS S) (l.map wS) 0 hm;rw [l'w, l'm] at hu;rw [kcL9, mapS, wL0 vaa9, zE0 vaa9, if_neg hm, hu, mapS, z'g];exact ⟨decide_eq_false hm, rfl, rfl⟩
theorem zdn9 (S : List Nat) : updA [] (.agg (PS S)) (.int .i64 0) = mapS [S] := rfl
theorem qaM9 : kcb9 Tryz.prog 3 = .int .i64 0 := by kernel_rfl
theorem qcM9 (S : List Nat) : natL (intN S) = S := by
 rw [natL, intN, n'k];exact (l'L fun x _ => Int.toNat_natCast x).trans (List.map_id S)
theorem vL0 (n : Nat) (p : Nat → Bool) : zf0 (intN ((List.range n).filter p)) n = true := zbw9 n p
def ND.nf (x : ND) : Nf := nfOf (rowsV (x.rows x.n)) (intN (bitS x.st x.n)) (intN (bitS x.ac x.n))
theorem was9 {A : Nat} {rows : List (List (List Int))} {st ac : List Int} (h : OkNv A rows st ac) : FiltF (nfOf rows st ac).n (nfOf rows st ac).S ∧ FiltF (nfOf rows st ac).n (nfOf rows st ac).F :=
 ⟨(xaK9 h.st).filt, (xaK9 h.ac).filt⟩
theorem qbk9 (x : Nf) (hS : FiltF x.n x.S) (A i : Nat) : ∀ S ∈ (stX (stepN x) eqL A x.S i).1, FiltF x.n S :=
 zaf9 (stepN x) eqL A (P := FiltF x.n) x.S hS (fun S _ a _ => waJ9 x S a) i
theorem FiltF.wlt {n : Nat} {S : List Nat} (h : FiltF n S) (hn : n ≤ 8) : wP (pS S) 0 < 256 := by
 refine Nat.lt_pow_two_of_testBit (n := 8) _ fun b hb => ?_;by_cases h64 : b < 64
 ·rw [xj0 _ _ _ (by decide) h64, pS, n'J];intro q;have := h.lt (l'h.1 q);omega
 ·exact n'g (n'v (kn0 _ _) (n'z (by decide) (by omega)))
theorem FiltF.winj {n : Nat} {S T : List Nat} (h : FiltF n S) (h2 : FiltF n T) (hn : n ≤ 64) (e : wP (pS S) 0 = wP (pS T) 0) : S = T := by
 refine h.ext h2 fun s hs => ?_;have h1 := xj0 (pS S) 0 s (by decide) (by omega);have h3 := xj0 (pS T) 0 s (by decide) (by omega);rw [e, h3] at h1;simp only [pS, Nat.mul_zero, l'm] at h1;rw [← l'h, ← l'h, h1]
theorem wcn9 (x : Nf) (hS : FiltF x.n x.S) (hn : x.n ≤ 8) (A i : Nat) : (stX (stepN x) eqL A x.S i).1.length ≤ 256 :=
 xaf9 (eqv := eqL) (fun S => wP (pS S) 0) 256 _ (fun S hS' => (qbk9 x hS A i S hS').wlt hn) (fun S hS' T hT' e => by
  rw [(qbk9 x hS A i S hS').winj (qbk9 x hS A i T hT') (by omega) e]; exact qx0 T) (qK0 (stepN x) eqL A x.S i)
end Go.Proofs
