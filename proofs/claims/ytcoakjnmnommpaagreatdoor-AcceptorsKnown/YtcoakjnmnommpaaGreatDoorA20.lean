import Derived.Test.YtcoakjnmnommpaaGreatDoorAR1
import Derived.Test.YtcoakjnmnommpaaGreatDoorAR3
import Derived.Test.YtcoakjnmnommpaaGreatDoorV70
import Derived.Test.YtcoakjnmnommpaaGreatDoorA12
namespace Go.Proofs
open Go Go.V
set_option linter.unusedVariables false
set_option linter.unusedSimpArgs false
def shB (b v n : Nat) : Nat → Nat
 | 0 => 0
 | k + 1 => shB b v n k ||| (((b >>> k) &&& 1) <<< ((k + v) % n))
def aK (x : ND) (v s a k : Nat) : List (Nat × Nat × Nat) := ((x.lst s a x.n).take k).map fun t => ((s + v) % x.n, a, (t + v) % x.n)
def aA (x : ND) (v s a : Nat) : List (Nat × Nat × Nat) := (List.range a).flatMap fun a => aK x v s a (x.lst s a x.n).length
def aS (x : ND) (v s : Nat) : List (Nat × Nat × Nat) := (List.range s).flatMap fun s => aA x v s x.A
def ND.shift (x : ND) (v : Nat) : ND := ⟨x.sy, x.many, aS x v x.n, shB x.st v x.n x.n, shB x.ac v x.n x.n⟩
set_option maxHeartbeats 0
set_option maxRecDepth 100000
theorem vas9 (b n h : Nat) (t : TypeId) (es : List (List AV)) (c : Option Nat) (H : List Blk) (hb : H[b]? = some (.row 1 t es)) (hh : h = es.length) (hn : n ≤ h) : wd0 Tryz.prog G0 55 [.own b n h c] H (.own b n h (some n)) H := by
 subst hh;refine zJ0 9 [.tmp 2] Tryz.func55 rfl rfl rfl (by simp) ?_;intro s ⟨a0, hz⟩;clear hz;repeat' (first|refine nv ?_|(with_reducible first|refine gG ?_ ?_|refine ⟨fun h => ?_, fun h => ?_⟩ <;> try omega|refine andG ?_)|simp (disch := try exact qa0) only [push_cast, simprocAttr, a0, hb])
theorem vaY9 (b n h : Nat) (t : TypeId) (es : List (List AV)) (c : Option Nat) (H : List Blk) (hb : H[b]? = some (.row 1 t es)) (hh : h = es.length) (hn : n ≤ h) : wd0 Tryz.prog G0 56 [.own b n h c] H (.own b n h (some n)) H := by
 subst hh;refine zJ0 9 [.tmp 2] Tryz.func56 rfl rfl rfl (by simp) ?_;intro s ⟨a0, hz⟩;clear hz;repeat' (first|refine nv ?_|(with_reducible first|refine gG ?_ ?_|refine ⟨fun h => ?_, fun h => ?_⟩ <;> try omega|refine andG ?_)|simp (disch := try exact qa0) only [push_cast, simprocAttr, a0, hb])
theorem vcn9 (b n h : Nat) (t : TypeId) (es : List (List AV)) (c : Option Nat) (H : List Blk) (hb : H[b]? = some (.row 1 t es)) (hh : h = es.length) (hn : n ≤ h) : wd0 Tryz.prog G0 59 [.own b n h c] H (.own b n h (some n)) H := by
 subst hh;refine zJ0 9 [.tmp 2] Tryz.func59 rfl rfl rfl (by simp) ?_;intro s ⟨a0, hz⟩;clear hz;repeat' (first|refine nv ?_|(with_reducible first|refine gG ?_ ?_|refine ⟨fun h => ?_, fun h => ?_⟩ <;> try omega|refine andG ?_)|simp (disch := try exact qa0) only [push_cast, simprocAttr, a0, hb])
theorem kas9 (b n h : Nat) (t : TypeId) (es : List (List AV)) (c : Option Nat) (H : List Blk) (hb : H[b]? = some (.row 1 t es)) (hh : h = es.length) (hn : n ≤ h) : wd0 Tryz.prog G0 34 [.own b n h c] H (.own b n h (some n)) H := by
 subst hh;refine zJ0 9 [.tmp 2] Tryz.func34 rfl rfl rfl (by simp) ?_;intro s ⟨a0, hz⟩;clear hz;repeat' (first|refine nv ?_|(with_reducible first|refine gG ?_ ?_|refine ⟨fun h => ?_, fun h => ?_⟩ <;> try omega|refine andG ?_)|simp (disch := try exact qa0) only [push_cast, simprocAttr, a0, hb])
theorem kdA9 (z : Nat) (es : List (List AV)) (c : Option Nat) (H : List Blk) (hs : es = [] ∨ z = 1) (hid : ∀ p, idsE p es = true) : wd0 Tryz.prog G0 34 [.sl z es c] H (.sl z es (some es.length)) H := by
 rcases hs with rfl|rfl
 ·refine zJ0 9 [.tmp 2] Tryz.func34 rfl rfl rfl (by simp) ?_;intro s ⟨a0, hz⟩;clear hz;repeat' (first|refine nv ?_|(with_reducible first|refine gG ?_ ?_|refine ⟨fun h => ?_, fun h => ?_⟩ <;> try omega|refine andG ?_)|simp (disch := try exact qa0) only [push_cast, simprocAttr, a0])
 ·refine zJ0 9 [.tmp 2] Tryz.func34 rfl rfl rfl (by simp) ?_;intro s ⟨a0, hz⟩;clear hz;repeat' (first|refine nv ?_|(with_reducible first|refine gG ?_ ?_|refine ⟨fun h => ?_, fun h => ?_⟩ <;> try omega|refine andG ?_)|simp (disch := try exact qa0) only [push_cast, simprocAttr, a0, l'x, List.drop_zero])
structure keF9 (l : List RC) : Prop where
 r : ∀ s, s < l.length → (l.getD s ([], none)).2 = some (l.getD s ([], none)).1.length
 i : ∀ s a, s < l.length → a < (l.getD s ([], none)).1.length → ((l.getD s ([], none)).1.getD a ([], none)).2 = some ((l.getD s ([], none)).1.getD a ([], none)).1.length
theorem kek9 : PC Tryz.prog G0 49 [] (nA 2 1 [([([0, 1], some 2), ([0], some 1)], some 2), ([([], some 0), ([2], some 1)], some 2), ([([], some 0), ([], some 0)], some 2)] (some 3) 1 [0] (some 1) 1 [2] (some 1)) := by
 refine wdN9 (r := .agg [.int .i64 2, .sl 1 [[.sl 1 [[.sl 1 [[.int .i64 0], [.int .i64 1]] (some 2)], [.sl 1 [[.int .i64 0]] (some 1)]] (some 2)], [.sl 1 [[.sl 0 [] (some 0)], [.sl 1 [[.int .i64 2]] (some 1)]] (some 2)], [.sl 1 [[.sl 0 [] (some 0)], [.sl 0 [] (some 0)]] (some 2)]] (some 3), .sl 1 [[.int .i64 0]] (some 1), .sl 1 [[.int .i64 2]] (some 1)]) ?_ rfl;refine qc0 2 11 [.cell 0 29] Tryz.func49 rfl rfl rfl (by simp) ?_;intro s hz;clear hz;repeat' (first|(refine nv ?_ <;> (try simp (disch := try exact qa0) only [push_cast, simprocAttr, Nat.add_zero]))|(with_reducible first|refine gG ?_ ?_|refine ⟨fun h => ?_, fun h => ?_⟩ <;> try omega|refine andG ?_)|simp (disch := try exact qa0) only [push_cast, simprocAttr, Nat.add_zero])
def wR0 (r : List Int) (k : Nat) : List LC := (r.take k).map fun n => ([n], some 1)
def ofRC (l : List LC) (k : Nat) : List RC := (l.take k).map fun r => (wR0 r.1 r.1.length, some r.1.length)
def accK (ac : List Bool) (k : Nat) : List Nat := (List.range k).filter fun s => ac.getD s false
theorem kcn9 (r : List Int) (k : Nat) (h : k < r.length) : wR0 r (k + 1) = wR0 r k ++ [([r.getD k 0], some 1)] := xm0 _ _ 0 k h
theorem zcM9 (l : List LC) (k : Nat) (h : k < l.length) : ofRC l (k + 1) = ofRC l k ++ [(wR0 (l.getD k ([], none)).1 (l.getD k ([], none)).1.length, some (l.getD k ([], none)).1.length)] := xm0 _ _ ([], none) k h
theorem qbz9 (r : List Int) (k : Nat) (h : k ≤ r.length) : (wR0 r k).length = k := by simp [wR0]; omega
theorem wbW9 (l : List LC) (k : Nat) (h : k ≤ l.length) : (ofRC l k).length = k := by simp [ofRC]; omega
theorem xcM9 (ac : List Bool) (k : Nat) : accK ac (k + 1) = if ac.getD k false = true then accK ac k ++ [k] else accK ac k := by
 rw [accK, l'Z, n'w, ← accK];by_cases h : ac.getD k false = true
 ·rw [if_pos h]; congr 1; simp only [n'H, h, if_pos, List.filter_nil]
 ·rw [if_neg h];have h2 : ac.getD k false = false := by simpa using h
  simp only [n'H, h2, List.filter_nil];simp
theorem xdn9 (ac : List Bool) (k : Nat) : (accK ac k).length ≤ k := by
 have := n'a (fun s : Nat => ac.getD s false) (List.range k)
 rwa [n'p] at this
def nA0 : AV := .agg [.int .i64 0, .sl 0 [] (some 0), .sl 0 [] (some 0), .sl 0 [] (some 0)]
def dA0 : AV := .agg [.int .i64 0, .sl 0 [] (some 0), .sl 0 [] (some 0)]
def ofDV (sym : Int) (l : List LC) (ac : List Bool) : AV :=
 if vd0 sym (kd0 l) ac.length ≠ 0 then .tup [nA0, .int .i64 (vd0 sym (kd0 l) ac.length)]
 else .tup [nA sym 1 (ofRC l l.length) (some l.length) 1 [0] (some 1) 1 (intN (accK ac l.length)) (some (accK ac l.length).length), .int .i64 0]
theorem wdn9 (n : Int) : ints [n] = [[.int .i64 n]] := rfl
set_option maxRecDepth 100000 in
theorem vdQ9 (sym : Int) (zr : Nat) (l : List LC) (c : Option Nat) (za : Nat) (ac : List Bool) (ca : Option Nat) (hsz : SizeD zr l za ac) : PC Tryz.prog G0 26 [dA sym zr l c za ac ca] (ofDV sym l ac) := by
 have hck := hsz.check (sym := sym) (c := c) (ca := ca);have hidR : ∀ p, idsE p (rowL l) = true := fun p => vc0 _ _;have hidA : ∀ p, idsE p (qb0 ac) = true := fun p => zd0 _ _;unfold ofDV;by_cases h0 : vd0 sym (kd0 l) ac.length = 0
 ·rw [if_neg (by simp [h0])];rw [h0] at hck;obtain ⟨A, rfl, hok⟩ := qV0 h0;have hn := hok.n;have hn1 := hok.n1;have hm := hok.m;have hA := hok.a2;rw [ve0] at hn hn1 hm;obtain rfl := hsz.zl.resolve_left (by intro h; rw [h] at hn1; simp at hn1);obtain rfl := hsz.zac.resolve_left (by intro h; rw [h] at hm; simp at hm; omega);have hRl := zb0 l;have hAl := zc0 ac;have e1 := xg0 l;have e2 := ql0 ac;unfold dA at *;generalize rowL l = RN at *;generalize qb0 ac = BA at *;refine qc0 1 69 [.cell 2 29, .tmp 3] Tryz.func26 rfl rfl rfl (by simp) ?_;intro s ⟨a0, hz⟩;clear hz;repeat' (first|refine nv ?_|(with_reducible first|refine gG ?_ ?_|refine ⟨fun h => ?_, fun h => ?_⟩ <;> try omega|refine andG ?_)|refine cp_ hck ?_ (hi := by (simp [idsL, idsE, AV.ids, hidR, hidA]))|simp (disch := try exact qa0) only [push_cast, simprocAttr, a0, hRl])
  refine vv0 (by first|exact va0|fail) (wg0 (b := 2) (i := 0) (j := 1) (sz := 1) (ty := 44) rfl rfl rfl) ?_;refine go_loop rfl (fun mz s' H' => ∃ k : Nat, k ≤ l.length ∧ mz = l.length - k ∧ H' = [.row 3 47 [[.int .i64 A, .sl 1 RN c, .sl 1 BA ca]], .row 4 29 [[.int .i64 0, .sl 0 [] (some 0), .sl 0 [] (some 0), .sl 0 [] (some 0)]], .row 4 29 [[.int .i64 A, .own 3 k k none, .sl 1 [[.int .i64 0]] (some 1), .own 4 (accK ac k).length (accK ac k).length none]], .row 1 44 (xe0 (ofRC l k)), .row 1 3 (ints (intN (accK ac k)))] ∧ s' 1 = .ptr 0 0 0 1 ∧ s' 2 = .ptr 1 0 0 1 ∧ s' 5 = .ptr 2 0 0 1 ∧ s' 22 = .sl 1 RN c ∧ s' 23 = .int .i64 l.length ∧ s' 24 = .int .i64 k) (m := l.length) (by trivial) (wg0 (b := 2) (i := 0) (j := 3) (sz := 1) (ty := 3) rfl rfl rfl) ⟨0, by omega, by omega, by simp [ofRC, accK, kcH9, intN, zu0], ?_⟩ ?_
  ·simp (disch := try exact qa0) only [push_cast, simprocAttr, a0, hRl]
  ·rintro mz s' H' ⟨k, hk, rfl, rfl, b1, b2, b5, b22, b23, b24⟩;have hal := xdn9 ac k;have hml : (xe0 (ofRC l k)).length = k := by rw [vh0, wbW9 l k hk]
   have hml2 : (ints (intN (accK ac k))).length = (accK ac k).length := by rw [xa0, kc0]
   have et : (xe0 (ofRC l k)).take k = xe0 (ofRC l k) := l'k (by omega);have ed : (xe0 (ofRC l k)).drop (k + 1) = [] := l'z (by omega);have et2 : (ints (intN (accK ac k))).take (accK ac k).length = ints (intN (accK ac k)) := l'k (by omega);have ed2 : (ints (intN (accK ac k))).drop ((accK ac k).length + 1) = [] := l'z (by omega);have hidO : ∀ p, idsE p (xe0 (ofRC l k)) = true := fun p => ze0 _ _;have hidC : ∀ p, idsE p (ints (intN (accK ac k))) = true := fun p => wa0 _ _;rcases l'i k l.length with hlt|hge
   ·have e1k := e1 k hlt;have e2k := e2 k (by omega);have hrow := hok.row hlt;have hsu := zcM9 l k hlt;have hsa := xcM9 ac k;generalize l.getD k ([], none) = r at *;have hrl := xa0 r.1;have hsn := wcl9 (ofRC l k) (wR0 r.1 r.1.length, some r.1.length);rw [← hsu] at hsn;have e3 := xc0 r.1;unfold lC at e1k;repeat' (first|refine nv ?_|(with_reducible first|refine gG ?_ ?_|refine ⟨fun h => ?_, fun h => ?_⟩ <;> try omega|refine andG ?_)|simp (disch := try exact qa0) only [push_cast, simprocAttr, b1, b2, b5, b22, b23, b24, e1k, hRl, hrl])
    refine go_loop rfl (fun mz s' H' => ∃ a : Nat, a ≤ r.1.length ∧ mz = r.1.length - a ∧ H' = [.row 3 47 [[.int .i64 A, .sl 1 RN c, .sl 1 BA ca]], .row 4 29 [[.int .i64 0, .sl 0 [] (some 0), .sl 0 [] (some 0), .sl 0 [] (some 0)]], .row 4 29 [[.int .i64 A, .own 3 k k none, .sl 1 [[.int .i64 0]] (some 1), .own 4 (accK ac k).length (accK ac k).length none]], .row 1 44 (xe0 (ofRC l k)), .row 1 3 (ints (intN (accK ac k))), .row 1 27 (rowL (wR0 r.1 a))] ∧ s' 1 = .ptr 0 0 0 1 ∧ s' 2 = .ptr 1 0 0 1 ∧ s' 5 = .ptr 2 0 0 1 ∧ s' 6 = .int .i64 k ∧ s' 8 = .own 5 a a none ∧ s' 22 = .sl 1 RN c ∧ s' 23 = .int .i64 l.length ∧ s' 24 = .int .i64 k ∧ s' 29 = .sl 1 (ints r.1) r.2 ∧ s' 30 = .int .i64 r.1.length ∧ s' 31 = .int .i64 a) (m := r.1.length) (by first|exact va0|fail) (zN0 (t := 8) (sz := 1) (ty := 27) rfl) ⟨0, by omega, by omega, by simp [wR0, xdl9], ?_⟩ ?_
    ·simp (disch := try exact qa0) only [push_cast, simprocAttr, b1, b2, b5, b22, b23, b24, e1k, hRl, hrl]
    ·rintro mz s' H' ⟨a, ha, rfl, rfl, b1, b2, b5, b6, b8, b22, b23, b24, b29, b30, b31⟩;have hml3 : (rowL (wR0 r.1 a)).length = a := by rw [zb0, qbz9 r.1 a ha]
     have et3 : (rowL (wR0 r.1 a)).take a = rowL (wR0 r.1 a) := l'k (by omega);have ed3 : (rowL (wR0 r.1 a)).drop (a + 1) = [] := l'z (by omega);have hidL : ∀ p, idsE p (rowL (wR0 r.1 a)) = true := fun p => vc0 _ _;rcases l'i a r.1.length with hlta|hgea
     ·have hsu3 := kcn9 r.1 a hlta;have e3a := e3 a hlta;have hsn3 := qby9 (wR0 r.1 a) ([r.1.getD a 0], some 1);rw [← hsu3] at hsn3;generalize r.1.getD a 0 = n at *;repeat' (first|refine nv ?_|(with_reducible first|refine gG ?_ ?_|refine ⟨fun h => ?_, fun h => ?_⟩ <;> try omega|refine andG ?_)|simp (disch := try exact qa0) only [push_cast, simprocAttr, b1, b2, b5, b6, b8, b22, b23, b24, b29, b30, b31, e3a, hrl, hml3, et3, ed3])
      refine za0 (r.1.length - (a + 1)) (by omega) (by first|exact va0|fail) ⟨a + 1, by omega, rfl, by rw [← hsn3]; rfl, ?_⟩;simp (disch := try exact qa0) only [push_cast, simprocAttr, b1, b2, b5, b6, b8, b22, b23, b24, b29, b30, b31, e3a, hrl, hml3, et3, ed3]
     ·obtain rfl : a = r.1.length := by omega
      have hol := qbz9 r.1 r.1.length (l'f _);have hclip := fun H hb => vas9 5 r.1.length r.1.length 27 (rowL (wR0 r.1 r.1.length)) none H hb hml3.symm (l'f _);have hclip := hclip [.row 3 47 [[.int .i64 A, .sl 1 RN c, .sl 1 BA ca]], .row 4 29 [[.int .i64 0, .sl 0 [] (some 0), .sl 0 [] (some 0), .sl 0 [] (some 0)]], .row 4 29 [[.int .i64 A, .own 3 k k none, .sl 1 [[.int .i64 0]] (some 1), .own 4 (accK ac k).length (accK ac k).length none]], .row 1 44 (xe0 (ofRC l k)), .row 1 3 (ints (intN (accK ac k))), .row 1 27 (rowL (wR0 r.1 r.1.length))] rfl;cases hq : ac.getD k false with
      | true =>
       rw [hq, if_pos rfl] at hsa;rw [hq] at e2k;have hsn2 := zy0 (intN (accK ac k)) (k : Int);rw [← zL0, ← hsa] at hsn2;repeat' (first|refine nv ?_|(with_reducible first|refine gG ?_ ?_|refine ⟨fun h => ?_, fun h => ?_⟩ <;> try omega|refine andG ?_)|refine cl_ hclip ?_|simp (disch := try exact qa0) only [push_cast, simprocAttr, b1, b2, b5, b6, b8, b22, b23, b24, b29, b30, b31, hrl, hml, et, ed, hml2, et2, ed2, e2k, hAl, hol])
       refine zm0 (l.length - (k + 1)) 5 (j := 5) rfl (by omega) (by first|exact va0|fail) (by omega) (by simp [frzH]) (by simp [frzH, frzB, frz, Blk.below, idsE, idsL, AV.ids, xn0, qg0, hidR, hidA, hidO, hidC, hidL, et3, hml3]) ⟨k + 1, by omega, rfl, ?_, ?_⟩
       ·rw [← hsn, ← hsn2, hsa, l'v];simp [frzH, frzB, frz, xn0, hidR, hidA, hidO, hidC, hidL, et3, hml3, rC]
       ·simp (disch := try exact qa0) only [push_cast, simprocAttr, b1, b2, b5, b22, b23, b24, ki0, frz, AV.ids, idsL, hidR]
      | false =>
       rw [hq, if_neg (by simp)] at hsa;rw [hq] at e2k;repeat' (first|refine nv ?_|(with_reducible first|refine gG ?_ ?_|refine ⟨fun h => ?_, fun h => ?_⟩ <;> try omega|refine andG ?_)|refine cl_ hclip ?_|simp (disch := try exact qa0) only [push_cast, simprocAttr, b1, b2, b5, b6, b8, b22, b23, b24, b29, b30, b31, hrl, hml, et, ed, hml2, et2, ed2, e2k, hAl, hol])
       refine zm0 (l.length - (k + 1)) 5 (j := 5) rfl (by omega) (by first|exact va0|fail) (by omega) (by simp [frzH]) (by simp [frzH, frzB, frz, Blk.below, idsE, idsL, AV.ids, xn0, qg0, hidR, hidA, hidO, hidC, hidL, et3, hml3]) ⟨k + 1, by omega, rfl, ?_, ?_⟩
       ·rw [← hsn, hsa];simp [frzH, frzB, frz, xn0, hidR, hidA, hidO, hidC, hidL, et3, hml3, rC]
       ·simp (disch := try exact qa0) only [push_cast, simprocAttr, b1, b2, b5, b22, b23, b24, ki0, frz, AV.ids, idsL, hidR]
   ·obtain rfl : k = l.length := by omega
    have hoc := wbW9 l l.length (l'f _);have hc1 := vcn9 3 l.length l.length 44 (xe0 (ofRC l l.length)) none [.row 3 47 [[.int .i64 A, .sl 1 RN c, .sl 1 BA ca]], .row 4 29 [[.int .i64 0, .sl 0 [] (some 0), .sl 0 [] (some 0), .sl 0 [] (some 0)]], .row 4 29 [[.int .i64 A, .own 3 l.length l.length none, .sl 1 [[.int .i64 0]] (some 1), .own 4 (accK ac l.length).length (accK ac l.length).length none]], .row 1 44 (xe0 (ofRC l l.length)), .row 1 3 (ints (intN (accK ac l.length)))] rfl hml.symm (l'f _);have hc2 := kas9 4 (accK ac l.length).length (accK ac l.length).length 3 (ints (intN (accK ac l.length))) none [.row 3 47 [[.int .i64 A, .sl 1 RN c, .sl 1 BA ca]], .row 4 29 [[.int .i64 0, .sl 0 [] (some 0), .sl 0 [] (some 0), .sl 0 [] (some 0)]], .row 4 29 [[.int .i64 A, .own 3 l.length l.length none, .sl 1 [[.int .i64 0]] (some 1), .own 4 (accK ac l.length).length (accK ac l.length).length none]], .row 1 44 (xe0 (ofRC l l.length)), .row 1 3 (ints (intN (accK ac l.length)))] rfl hml2.symm (l'f _);unfold nA;repeat' (first|refine nv ?_|(with_reducible first|refine gG ?_ ?_|refine ⟨fun h => ?_, fun h => ?_⟩ <;> try omega|refine andG ?_)|refine cl_ hc1 ?_|refine cl_ hc2 ?_|simp (disch := try exact qa0) only [push_cast, simprocAttr, b1, b2, b5, b22, b23, b24, hRl, hml, et, hml2, et2, wdn9, kc0, hoc])
    done
 ·rw [if_pos h0];generalize vd0 sym (kd0 l) ac.length = e at *;unfold dA nA0 at *;generalize rowL l = RN at *;generalize qb0 ac = BA at *;refine qc0 0 69 [.cell 2 29, .tmp 3] Tryz.func26 rfl rfl rfl (by simp) ?_;intro s ⟨a0, hz⟩;clear hz;repeat' (first|refine nv ?_|(with_reducible first|refine gG ?_ ?_|refine ⟨fun h => ?_, fun h => ?_⟩ <;> try omega|refine andG ?_)|refine cp_ hck ?_ (hi := by (simp [idsL, idsE, AV.ids, hidR, hidA]))|simp (disch := try exact qa0) only [push_cast, simprocAttr, a0, h0])
end Go.Proofs
