import Derived.Test.YtcoakjnmnommpaaGreatDoorA14
import Derived.Test.YtcoakjnmnommpaaGreatDoorA10
namespace Go.Proofs
open Go Go.V
set_option linter.unusedVariables false
set_option linter.unusedSimpArgs false
set_option maxHeartbeats 0
structure ND where
 sy : Nat
 many : Nat
 arcs : List (Nat × Nat × Nat)
 st : Nat
 ac : Nat
def ND.A (x : ND) : Nat := 1 + x.sy % 3
def ND.n (x : ND) : Nat := x.many % 7
def ND.hit (x : ND) (s a t : Nat) (e : Nat × Nat × Nat) : Bool := decide (e.1 % x.n = s) && (decide (e.2.1 % x.A = a) && decide (e.2.2 % x.n = t))
def ND.dK (x : ND) (s a t k : Nat) : Bool := (x.arcs.take k).any (x.hit s a t)
def ND.d (x : ND) (s a t : Nat) : Bool := x.dK s a t (min 60 x.arcs.length)
def ND.lst (x : ND) (s a t : Nat) : List Nat := (List.range t).filter fun t => x.d s a t
def ND.row (x : ND) (s a : Nat) : List LC := (List.range a).map fun a => (intN (x.lst s a x.n), none)
def ND.rows (x : ND) (s : Nat) : List RC := (List.range s).map fun s => (x.row s x.A, none)
structure ND.Ok (x : ND) : Prop where
 sy : x.sy < 256
 many : x.many < 256
 st : x.st < 256
 ac : x.ac < 256
 arcs : ∀ e ∈ x.arcs, e.1 < 256 ∧ e.2.1 < 256 ∧ e.2.2 < 256
 len : x.arcs.length ≤ 9223372036854775807
def xeB9 (l : List (Nat × Nat × Nat)) : List (List AV) := l.map fun e => [.int .u8 (e.1 : Nat), .int .u8 (e.2.1 : Nat), .int .u8 (e.2.2 : Nat)]
def ndC (x : ND) (z : Nat) (c : Option Nat) : List AV := [.int .u8 x.sy, .int .u8 x.many, .sl z (xeB9 x.arcs) c, .int .u8 x.st, .int .u8 x.ac]
theorem kbj9 {l r : List LC} (h : l.length = r.length) : l.map Prod.fst = r.map Prod.fst ↔ ∀ j, j < l.length → (l.getD j ([], none)).1 = (r.getD j ([], none)).1 := by
 constructor
 ·intro e j hj;have e2 := congrArg (fun x => x.getD j []) e;simpa [hj, show j < r.length by omega] using e2
 ·intro hh;refine l'W (by simp [h]) fun j h1 h2 => ?_;have hj : j < l.length := by simpa using h1
  have := hh j hj;simpa [hj, show j < r.length by omega] using this
def xcL9 (sa : Int) (l : List LC) (a : List Bool) (sb : Int) (r : List LC) (b : List Bool) : Prop := sa = sb ∧ l.map Prod.fst = r.map Prod.fst ∧ a = b
set_option maxRecDepth 100000 in
open Classical in
theorem waL9 (sa : Int) (za : Nat) (l : List LC) (ca : Option Nat) (ya : Nat) (a : List Bool) (ea : Option Nat) (sb : Int) (zb : Nat) (r : List LC) (cb : Option Nat) (yb : Nat) (b : List Bool) (eb : Option Nat)
  (h1 : l = [] ∨ za = 1) (h2 : a = [] ∨ ya = 1) (h3 : r = [] ∨ zb = 1) (h4 : b = [] ∨ yb = 1) (hl : l.length ≤ 1000000) (hr : r.length ≤ 1000000) (hal : a.length ≤ 1000000) (hbl : b.length ≤ 1000000) (il : ∀ s, s < l.length → (l.getD s ([], none)).1.length ≤ 9223372036854775807) (ir : ∀ s, s < r.length → (r.getD s ([], none)).1.length ≤ 9223372036854775807) :
  PC Tryz.prog G0 30 [dA sa za l ca ya a ea, dA sb zb r cb yb b eb] (.int .i64 (if xcL9 sa l a sb r b then 1 else 0)) := by
 have ell := zb0 l;have elr := zb0 r;have ela := zc0 a;have elb := zc0 b;have hgl := xg0 l;have hgr := xg0 r;have hga := ql0 a;have hgb := ql0 b;have idl : ∀ p, idsE p (rowL l) = true := fun p => vc0 _ _;have idr : ∀ p, idsE p (rowL r) = true := fun p => vc0 _ _;have hsame := fun j => zbW9 1 (l.getD j ([], none)).1 (l.getD j ([], none)).2 1 (r.getD j ([], none)).1 (r.getD j ([], none)).2 (.inr rfl) (.inr rfl);unfold dA;by_cases hs : sa = sb
 ·by_cases hn : l.length = r.length
  ·by_cases hm : a.length = b.length
   ·have hrows := kbj9 hn;have hext := qbW9 (l := a) (r := b) false hm;have hno1 : (∃ j, j < l.length ∧ (l.getD j ([], none)).1 ≠ (r.getD j ([], none)).1) → ¬ xcL9 sa l a sb r b := fun ⟨j, hj, q⟩ e => q (hrows.1 e.2.1 j hj);have hno2 : (∃ j, a.getD j false ≠ b.getD j false) → ¬ xcL9 sa l a sb r b := fun ⟨j, q⟩ e => q (by rw [e.2.2]);have hyes : (∀ j, j < l.length → (l.getD j ([], none)).1 = (r.getD j ([], none)).1) → (∀ j, j < a.length → a.getD j false = b.getD j false) → xcL9 sa l a sb r b := fun q w => ⟨hs, hrows.2 q, hext w⟩;have hn2 : r.length = l.length := hn.symm;have hm2 : b.length = a.length := hm.symm;generalize xcL9 sa l a sb r b = P at *;subst hs;refine qc0 0 67 [.tmp 4] Tryz.func30 rfl rfl rfl (by simp) ?_;intro s ⟨a0, a1, hz⟩;simp only [l'm, Nat.reduceAdd] at a1;clear hz;repeat' (first|refine nv ?_|(with_reducible first|refine gG ?_ ?_|refine ⟨fun h => ?_, fun h => ?_⟩ <;> try omega|refine andG ?_)|simp (disch := try exact qa0) only [push_cast, simprocAttr, a0, a1, ell, elr, ela, elb, hn2, hm2])
    refine go_loop rfl (fun mz s' H' => ∃ j : Nat, j ≤ l.length ∧ mz = l.length - j ∧ H' = [.row 3 47 [[.int .i64 sa, .sl za (rowL l) ca, .sl ya (qb0 a) ea]], .row 3 47 [[.int .i64 sa, .sl zb (rowL r) cb, .sl yb (qb0 b) eb]]] ∧ s' 2 = .ptr 0 0 0 1 ∧ s' 3 = .ptr 1 0 0 1 ∧ s' 5 = .int .i64 j ∧ (∀ i, i < j → (l.getD i ([], none)).1 = (r.getD i ([], none)).1)) (m := l.length) (by first|exact va0|fail) (Weak.refl _ _) ⟨0, by omega, by omega, rfl, ?_⟩ ?_
    ·refine ⟨?_, ?_, ?_, fun i hi => by omega⟩;all_goals simp (disch := try exact qa0) only [push_cast, simprocAttr, a0, a1, ell, elr, ela, elb, hn2, hm2]
    ·rintro mz s' H' ⟨j, hj, rfl, rfl, b2, b3, b5, ij⟩;rcases l'i j l.length with hlt|hge
     ·obtain rfl := h1.resolve_left (by intro h; rw [h] at hlt; simp at hlt);obtain rfl := h3.resolve_left (by intro h; rw [h] at hn; simp at hn; rw [hn] at hlt; simp at hlt);have e1 := hgl j hlt;have e2 := hgr j (by omega);have hsj := hsame j (il j hlt) (ir j (by omega));have hsn := kaf9 (P := fun i => (l.getD i ([], none)).1 = (r.getD i ([], none)).1) (k := j) ij;have hno := fun q => hno1 ⟨j, hlt, q⟩;generalize l.getD j ([], none) = x at *;generalize r.getD j ([], none) = y at *;unfold lC at e1 e2;by_cases hq : x.1 = y.1
      ·rw [if_pos hq] at hsj;have hsn2 := hsn hq;repeat' (first|refine nv ?_|(with_reducible first|refine gG ?_ ?_|refine ⟨fun h => ?_, fun h => ?_⟩ <;> try omega|refine andG ?_)|refine cp_ hsj ?_|simp (disch := try exact qa0) only [push_cast, simprocAttr, b2, b3, b5, e1, e2, ell, elr, hn2])
       refine za0 (l.length - (j + 1)) (by omega) (by first|exact va0|fail) ⟨j + 1, by omega, rfl, rfl, ?_, ?_, ?_, hsn2⟩;all_goals simp (disch := try exact qa0) only [push_cast, simprocAttr, b2, b3, b5, e1, e2, ell, elr, hn2]
      ·rw [if_neg hq] at hsj;rw [if_neg (hno hq)];repeat' (first|refine nv ?_|(with_reducible first|refine gG ?_ ?_|refine ⟨fun h => ?_, fun h => ?_⟩ <;> try omega|refine andG ?_)|refine cp_ hsj ?_|simp (disch := try exact qa0) only [push_cast, simprocAttr, b2, b3, b5, e1, e2, ell, elr, hn2])
     ·obtain rfl : j = l.length := by omega
      repeat' (first|refine nv ?_|(with_reducible first|refine gG ?_ ?_|refine ⟨fun h => ?_, fun h => ?_⟩ <;> try omega|refine andG ?_)|simp (disch := try exact qa0) only [push_cast, simprocAttr, b2, b3, b5, ell, elr, hn2])
      refine go_loop rfl (fun mz s' H' => ∃ k : Nat, k ≤ a.length ∧ mz = a.length - k ∧ H' = [.row 3 47 [[.int .i64 sa, .sl za (rowL l) ca, .sl ya (qb0 a) ea]], .row 3 47 [[.int .i64 sa, .sl zb (rowL r) cb, .sl yb (qb0 b) eb]]] ∧ s' 2 = .ptr 0 0 0 1 ∧ s' 3 = .ptr 1 0 0 1 ∧ s' 6 = .int .i64 k ∧ (∀ i, i < k → a.getD i false = b.getD i false)) (m := a.length) (by first|exact va0|fail) (Weak.refl _ _) ⟨0, by omega, by omega, rfl, ?_⟩ ?_
      ·refine ⟨?_, ?_, ?_, fun i hi => by omega⟩;all_goals simp (disch := try exact qa0) only [push_cast, simprocAttr, b2, b3, b5, ell, elr, hn2]
      ·rintro mz s' H' ⟨k, hk, rfl, rfl, b2, b3, b6, ik⟩;rcases l'i k a.length with hlt2|hge2
       ·obtain rfl := h2.resolve_left (by intro h; rw [h] at hlt2; simp at hlt2);obtain rfl := h4.resolve_left (by intro h; rw [h] at hm; simp at hm; rw [hm] at hlt2; simp at hlt2);have e1 := hga k hlt2;have e2 := hgb k (by omega);have hsn := kaf9 (P := fun i => a.getD i false = b.getD i false) (k := k) ik;have hno := fun q => hno2 ⟨k, q⟩;generalize a.getD k false = x at *;generalize b.getD k false = y at *;by_cases hq : x = y
        ·have hsn2 := hsn hq;subst hq;repeat' (first|refine nv ?_|(with_reducible first|refine gG ?_ ?_|refine ⟨fun h => ?_, fun h => ?_⟩ <;> try omega|refine andG ?_)|simp (disch := try exact qa0) only [push_cast, simprocAttr, b2, b3, b6, e1, e2, ela, elb, hm2])
         refine za0 (a.length - (k + 1)) (by omega) (by first|exact va0|fail) ⟨k + 1, by omega, rfl, rfl, ?_, ?_, ?_, hsn2⟩;all_goals simp (disch := try exact qa0) only [push_cast, simprocAttr, b2, b3, b6, e1, e2, ela, elb, hm2]
        ·rw [if_neg (hno hq)];have hqb : (x == y) = false := by simp [hq]
         repeat' (first|refine nv ?_|(with_reducible first|refine gG ?_ ?_|refine ⟨fun h => ?_, fun h => ?_⟩ <;> try omega|refine andG ?_)|simp (disch := try exact qa0) only [push_cast, simprocAttr, b2, b3, b6, e1, e2, ela, elb, hm2, hqb])
       ·obtain rfl : k = a.length := by omega
        rw [if_pos (hyes ij ik)];repeat' (first|refine nv ?_|(with_reducible first|refine gG ?_ ?_|refine ⟨fun h => ?_, fun h => ?_⟩ <;> try omega|refine andG ?_)|simp (disch := try exact qa0) only [push_cast, simprocAttr, b2, b3, b6, ela, elb, hm2])
   ·rw [if_neg (fun e => hm (by rw [e.2.2]))];have hm3 : ¬ (a.length : Int) = b.length := by omega
    refine qc0 0 67 [.tmp 4] Tryz.func30 rfl rfl rfl (by simp) ?_;intro s ⟨a0, a1, hz⟩;simp only [l'm, Nat.reduceAdd] at a1;clear hz;repeat' (first|refine nv ?_|(with_reducible first|refine gG ?_ ?_|refine ⟨fun h => ?_, fun h => ?_⟩ <;> try omega|refine andG ?_)|simp (disch := try exact qa0) only [push_cast, simprocAttr, a0, a1, ell, elr, ela, elb, hn, hs, hm, hm3])
  ·rw [if_neg (fun e => hn (by have := congrArg List.length e.2.1; simpa using this))];have hn3 : ¬ (l.length : Int) = r.length := by omega
   refine qc0 0 67 [.tmp 4] Tryz.func30 rfl rfl rfl (by simp) ?_;intro s ⟨a0, a1, hz⟩;simp only [l'm, Nat.reduceAdd] at a1;clear hz;repeat' (first|refine nv ?_|(with_reducible first|refine gG ?_ ?_|refine ⟨fun h => ?_, fun h => ?_⟩ <;> try omega|refine andG ?_)|simp (disch := try exact qa0) only [push_cast, simprocAttr, a0, a1, ell, elr, ela, elb, hn, hs, hn3])
 ·rw [if_neg (fun e => hs e.1)];refine qc0 0 67 [.tmp 4] Tryz.func30 rfl rfl rfl (by simp) ?_;intro s ⟨a0, a1, hz⟩;simp only [l'm, Nat.reduceAdd] at a1;clear hz;repeat' (first|refine nv ?_|(with_reducible first|refine gG ?_ ?_|refine ⟨fun h => ?_, fun h => ?_⟩ <;> try omega|refine andG ?_)|simp (disch := try exact qa0) only [push_cast, simprocAttr, a0, a1, ell, elr, ela, elb, hs])
end Go.Proofs
