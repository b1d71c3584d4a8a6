import Derived.Test.YtbgdagokjfmcbaaDoorD13
namespace Go.Proofs
open Go Go.V
set_option linter.unusedVariables false
set_option linter.unusedSimpArgs false
set_option maxHeartbeats 0
theorem wcB9 (H : List Blk) (d : Nat) (l : List Ed) : ((edsA l).map fun e => e.map (kh0 H d)) = edsA l := by
 cases d <;> simp [edsA, xA, kh0]
theorem wbo9 (p : Pt) (b : Nat) (t : TypeId) (H : List Blk) (hb : H[b]? = some (.row 6 t (edsA p.ed))) (hl : p.ed.length ≤ 1000000) (c : Option Nat) (n h : Nat) (hn : n = p.ed.length) (hh : h = p.ed.length) :
  qg0 Tryd.prog G0 36 [.agg [.int .i64 p.inp, .int .i64 p.o0, .int .i64 p.o1, .int .i64 p.s0, .int .i64 p.s1, .own b n h c]] H (.int .i64 (xj0 p)) H := by
 subst hn hh;have e : (edsA p.ed).take p.ed.length = edsA p.ed := List.take_of_length_le (by simp [edsA]);refine zbW9 1 ?_ ?_ (vag9 p 6 c (.inr rfl) hl) rfl
 ·simp [okA, okC, zj0, shOf, hb, e, xa0, AV.closed, AV.ids];simp [edsA, xA, AV.ids]
 ·have := wcB9 H 0 p.ed;simp [kx0, kh0, hb, e, pA, this]
def xab9 (x : Ed) : List Ed := bif qv0 x then [x] else []
theorem xK0 {x : Ed} (h : ¬(x.old.1 = x.new.1 ∧ x.old.2 = x.new.2)) : xab9 x = [x] := by
 have : qv0 x = true := by simp [qv0]; omega
 simp [xab9, this]
theorem wab9 {x : Ed} (h : x.old.1 = x.new.1 ∧ x.old.2 = x.new.2) : xab9 x = [] := by
 have : qv0 x = false := by simp [qv0, h]
 simp [xab9, this]
def zI0 : Nat → List Ed → List Ed → Option (List Ed)
 | 0, _, _ => some []
 | _ + 1, [], [] => some []
 | n + 1, x :: a, [] => (zI0 n a []).map (xab9 x ++ ·)
 | n + 1, [], y :: b => (zI0 n [] b).map (xab9 y ++ ·)
 | n + 1, x :: a, y :: b => if vC0 y x = true then (zI0 n a (y :: b)).map (xab9 x ++ ·) else if vC0 x y = true then (zI0 n (x :: a) b).map (xab9 y ++ ·)
  else if x.new.1 = y.old.1 ∧ x.new.2 = y.old.2 then (zI0 n a b).map (xab9 ⟨x.s, x.i, x.old, y.new⟩ ++ ·) else none
theorem qG0 : ∀ (n m : Nat) (a b : List Ed), a.length + b.length ≤ n → a.length + b.length ≤ m → zI0 n a b = zI0 m a b
 | 0, m, a, b, h, _ => by
  obtain rfl : a = [] := List.eq_nil_of_length_eq_zero (by omega);obtain rfl : b = [] := List.eq_nil_of_length_eq_zero (by omega);cases m <;> simp [zI0]
 | n + 1, 0, a, b, _, h => by
  obtain rfl : a = [] := List.eq_nil_of_length_eq_zero (by omega);obtain rfl : b = [] := List.eq_nil_of_length_eq_zero (by omega);simp [zI0]
 | n + 1, m + 1, [], [], _, _ => by simp [zI0]
 | n + 1, m + 1, x :: a, [], h, k => by simp only [List.length_cons, List.length_nil] at h k; simp [zI0, qG0 n m a [] (by simp; omega) (by simp; omega)]
 | n + 1, m + 1, [], y :: b, h, k => by simp only [List.length_cons, List.length_nil] at h k; simp [zI0, qG0 n m [] b (by simp; omega) (by simp; omega)]
 | n + 1, m + 1, x :: a, y :: b, h, k => by
  simp only [List.length_cons] at h k;simp [zI0, qG0 n m a (y :: b) (by simp; omega) (by simp; omega), qG0 n m (x :: a) b (by simp; omega) (by simp; omega), qG0 n m a b (by omega) (by omega)]
def wK0 (a b : List Ed) : Option (List Ed) := zI0 (a.length + b.length) a b
def zG0 (p q : Pt) (l : List Ed) : Pt := ⟨p.inp, p.o0, q.o1, p.s0, q.s1, l⟩
def zcd9 (p q : Pt) : Pt × Int :=
 if xj0 p ≠ 0 then (pZ, xj0 p) else if xj0 q ≠ 0 then (pZ, xj0 q) else if p.inp ≠ q.inp then (pZ, 5) else if p.o1 ≠ q.o0 ∨ p.s1 ≠ q.s0 then (pZ, 6) else
 match wK0 p.ed q.ed with
 | none => (pZ, 18)
 | some l => if xj0 (zG0 p q l) ≠ 0 then (pZ, 18) else (zG0 p q l, 0)
def resP (r : Pt × Int) : AV := .tup [pA r.1 (if r.2 = 0 then 6 else 0) (some r.1.ed.length), .int .i64 r.2]
theorem vO0 (e : Int) (h : e ≠ 0) : resP (pZ, e) = .tup [.agg [.int .i64 0, .int .i64 0, .int .i64 0, .int .i64 0, .int .i64 0, .sl 0 [] (some 0)], .int .i64 e] := by simp [resP, pA, pZ, edsA, h]
theorem xcd9 (p : Pt) : resP (p, 0) = .tup [pA p 6 (some p.ed.length), .int .i64 0] := by simp [resP]
def vaA9 (p q : Pt) (z y : Nat) (c d : Option Nat) (l : List Ed) : List Blk := [.row 6 36 [[.int .i64 p.inp, .int .i64 p.o0, .int .i64 p.o1, .int .i64 p.s0, .int .i64 p.s1, .sl z (edsA p.ed) c]], .row 6 36 [[.int .i64 q.inp, .int .i64 q.o0, .int .i64 q.o1, .int .i64 q.s0, .int .i64 q.s1, .sl y (edsA q.ed) d]], .row 6 36 [[.int .i64 0, .int .i64 0, .int .i64 0, .int .i64 0, .int .i64 0, .sl 0 [] (some 0)]], .row 6 36 [[.int .i64 p.inp, .int .i64 p.o0, .int .i64 q.o1, .int .i64 p.s0, .int .i64 q.s1, .own 4 l.length l.length none]], .row 6 93 (edsA l)]
set_option maxRecDepth 100000 in
theorem kdq9 (p q : Pt) (z y : Nat) (c d : Option Nat) (hz : p.ed = [] ∨ z = 6) (hy : q.ed = [] ∨ y = 6) (hl : p.ed.length ≤ 100000) (hk : q.ed.length ≤ 100000) : PC Tryd.prog G0 18 [pA p z c, pA q y d] (resP (zcd9 p q)) := by
 have hC1 := vag9 p z c hz (by omega);have hC2 := vag9 q y d hy (by omega);have hth : zcd9 p q = zcd9 p q := rfl
 conv at hth => rhs; unfold zcd9
 unfold pA at hC1 hC2 ⊢;by_cases h1 : xj0 p ≠ 0
 ·rw [hth, if_pos h1, vO0 _ h1];generalize xj0 p = e1 at *;refine wf0 1 166 [.cell 4 36, .tmp 5] Tryd.func18 rfl rfl rfl (by simp) ?_;intro s ⟨a0, a1, hz⟩;simp only [Nat.zero_add, Nat.reduceAdd] at a1;clear hz;repeat' (first|(first|refine nav ?_|(refine g0_ ?_; first|refine dN (p := [0, 1, 0, 0, 1, 0, 1, 0, 0, 0, 1, 1, 1, 1, 1, 1, 1]) [(127, 126)] [(11, some 11)] [] ?_|refine dN (p := [0, 1, 1, 1, 0, 0, 1, 0, 1, 0, 0, 0, 1, 1, 1, 1, 1, 1, 1]) [(145, 144)] [(11, some 11)] [] ?_|refine goD ?_))|(with_reducible first|refine gG ?_ ?_|refine ⟨fun h => ?_, fun h => ?_⟩ <;> try omega|refine andG ?_)|refine cp_ hC1 ?_|simp (disch := try exact qa0) only [push_cast, simprocAttr, a0, a1])
 ·rw [if_neg h1] at hth;have h1 : xj0 p = 0 := by omega
  rw [h1] at hC1;by_cases h2 : xj0 q ≠ 0
  ·rw [hth, if_pos h2, vO0 _ h2];generalize xj0 q = e2 at *;refine wf0 1 166 [.cell 4 36, .tmp 5] Tryd.func18 rfl rfl rfl (by simp) ?_;intro s ⟨a0, a1, hz⟩;simp only [Nat.zero_add, Nat.reduceAdd] at a1;clear hz;repeat' (first|(first|refine nav ?_|(refine g0_ ?_; first|refine dN (p := [0, 1, 0, 0, 1, 0, 1, 0, 0, 0, 1, 1, 1, 1, 1, 1, 1]) [(127, 126)] [(11, some 11)] [] ?_|refine dN (p := [0, 1, 1, 1, 0, 0, 1, 0, 1, 0, 0, 0, 1, 1, 1, 1, 1, 1, 1]) [(145, 144)] [(11, some 11)] [] ?_|refine goD ?_))|(with_reducible first|refine gG ?_ ?_|refine ⟨fun h => ?_, fun h => ?_⟩ <;> try omega|refine andG ?_)|refine cp_ hC1 ?_|refine cp_ hC2 ?_|simp (disch := try exact qa0) only [push_cast, simprocAttr, a0, a1])
  ·rw [if_neg h2] at hth;have h2 : xj0 q = 0 := by omega
   rw [h2] at hC2;by_cases h3 : p.inp ≠ q.inp
   ·rw [hth, if_pos h3, vO0 _ (by omega)];refine wf0 1 166 [.cell 4 36, .tmp 5] Tryd.func18 rfl rfl rfl (by simp) ?_;intro s ⟨a0, a1, hz⟩;simp only [Nat.zero_add, Nat.reduceAdd] at a1;clear hz;repeat' (first|(first|refine nav ?_|(refine g0_ ?_; first|refine dN (p := [0, 1, 0, 0, 1, 0, 1, 0, 0, 0, 1, 1, 1, 1, 1, 1, 1]) [(127, 126)] [(11, some 11)] [] ?_|refine dN (p := [0, 1, 1, 1, 0, 0, 1, 0, 1, 0, 0, 0, 1, 1, 1, 1, 1, 1, 1]) [(145, 144)] [(11, some 11)] [] ?_|refine goD ?_))|(with_reducible first|refine gG ?_ ?_|refine ⟨fun h => ?_, fun h => ?_⟩ <;> try omega|refine andG ?_)|refine cp_ hC1 ?_|refine cp_ hC2 ?_|simp (disch := try exact qa0) only [push_cast, simprocAttr, a0, a1])
   ·by_cases h4 : p.o1 ≠ q.o0 ∨ p.s1 ≠ q.s0
    ·rw [hth, if_neg h3, if_pos h4, vO0 _ (by omega)];refine wf0 1 166 [.cell 4 36, .tmp 5] Tryd.func18 rfl rfl rfl (by simp) ?_;intro s ⟨a0, a1, hz⟩;simp only [Nat.zero_add, Nat.reduceAdd] at a1;clear hz;repeat' (first|(first|refine nav ?_|(refine g0_ ?_; first|refine dN (p := [0, 1, 0, 0, 1, 0, 1, 0, 0, 0, 1, 1, 1, 1, 1, 1, 1]) [(127, 126)] [(11, some 11)] [] ?_|refine dN (p := [0, 1, 1, 1, 0, 0, 1, 0, 1, 0, 0, 0, 1, 1, 1, 1, 1, 1, 1]) [(145, 144)] [(11, some 11)] [] ?_|refine goD ?_))|(with_reducible first|refine gG ?_ ?_|refine ⟨fun h => ?_, fun h => ?_⟩ <;> try omega|refine andG ?_)|refine cp_ hC1 ?_|refine cp_ hC2 ?_|simp (disch := try exact qa0) only [push_cast, simprocAttr, a0, a1])
    ·rw [if_neg h3, if_neg h4] at hth;refine wf0 1 166 [.cell 4 36, .tmp 5] Tryd.func18 rfl rfl rfl (by simp) ?_;intro s ⟨a0, a1, hz⟩;simp only [Nat.zero_add, Nat.reduceAdd] at a1;clear hz;repeat' (first|(first|refine nav ?_|(refine g0_ ?_; first|refine dN (p := [0, 1, 0, 0, 1, 0, 1, 0, 0, 0, 1, 1, 1, 1, 1, 1, 1]) [(127, 126)] [(11, some 11)] [] ?_|refine dN (p := [0, 1, 1, 1, 0, 0, 1, 0, 1, 0, 0, 0, 1, 1, 1, 1, 1, 1, 1]) [(145, 144)] [(11, some 11)] [] ?_|refine goD ?_))|(with_reducible first|refine gG ?_ ?_|refine ⟨fun h => ?_, fun h => ?_⟩ <;> try omega|refine andG ?_)|refine cp_ hC1 ?_|refine cp_ hC2 ?_|simp (disch := try exact qa0) only [push_cast, simprocAttr, a0, a1])
     refine go_loop rfl (fun m s' H' => ∃ (a b acc : List Ed) (za zb : Nat) (ca cb : Option Nat), m = a.length + b.length ∧ (a = [] ∨ za = 6) ∧ (b = [] ∨ zb = 6) ∧ (a.length + b.length + acc.length ≤ 200000) ∧ wK0 p.ed q.ed = (wK0 a b).map (acc ++ ·) ∧ H' = vaA9 p q z y c d acc ∧ s' 4 = .ptr 2 0 0 1 ∧ s' 8 = .ptr 3 0 0 1 ∧ s' 9 = .sl za (edsA a) ca ∧ s' 10 = .sl zb (edsA b) cb) (m := p.ed.length + q.ed.length) (by first|exact wb0|fail) (vi0 (b := 3) (i := 0) (j := 5) (sz := 6) (ty := 93) rfl rfl rfl) ⟨p.ed, q.ed, [], z, y, c, d, rfl, hz, hy, by simp; omega, by simp, rfl, ?_⟩ ?_
     ·simp (disch := try exact qa0) only [push_cast, simprocAttr, a0, a1]
     ·rintro m s' H' ⟨a, b, acc, za, zb, ca, cb, rfl, ha, hb, hlen, hmap, rfl, b4, b8, b9, b10⟩;unfold vaA9;cases a with
      | nil =>
       cases b with
       | nil =>
        obtain ⟨e, he⟩ : ∃ e, e = xj0 (zG0 p q acc) := ⟨_, rfl⟩;have hK := wbo9 (zG0 p q acc) 4 93 (vaA9 p q z y c d acc) rfl (by simp at hlen; simp only [zG0]; omega) none acc.length acc.length rfl rfl;have hK2 := kag9 4 acc.length acc.length 93 (edsA acc) none (vaA9 p q z y c d acc) rfl (xa0 _).symm;rw [← he] at hK;dsimp only [zG0] at hK;unfold vaA9 at hK hK2;have hm : wK0 p.ed q.ed = some acc := by rw [hmap]; simp [wK0, zI0]
        rw [hm] at hth;dsimp only at hth;rw [← he] at hth;by_cases h0 : e ≠ 0
        ·rw [hth, if_pos h0, vO0 _ (by omega)];repeat' (first|(first|refine nav ?_|(refine g0_ ?_; first|refine dN (p := [0, 1, 0, 0, 1, 0, 1, 0, 0, 0, 1, 1, 1, 1, 1, 1, 1]) [(127, 126)] [(11, some 11)] [] ?_|refine dN (p := [0, 1, 1, 1, 0, 0, 1, 0, 1, 0, 0, 0, 1, 1, 1, 1, 1, 1, 1]) [(145, 144)] [(11, some 11)] [] ?_|refine goD ?_))|(with_reducible first|refine gG ?_ ?_|refine ⟨fun h => ?_, fun h => ?_⟩ <;> try omega|refine andG ?_)|refine cl_ hK ?_|refine cl_ hK2 ?_|simp (disch := try exact qa0) only [push_cast, simprocAttr, b4, b8, b9, b10, wk0])
        ·rw [hth, if_neg h0, xcd9];obtain rfl : e = 0 := by omega
         unfold pA zG0;dsimp only;repeat' (first|(first|refine nav ?_|(refine g0_ ?_; first|refine dN (p := [0, 1, 0, 0, 1, 0, 1, 0, 0, 0, 1, 1, 1, 1, 1, 1, 1]) [(127, 126)] [(11, some 11)] [] ?_|refine dN (p := [0, 1, 1, 1, 0, 0, 1, 0, 1, 0, 0, 0, 1, 1, 1, 1, 1, 1, 1]) [(145, 144)] [(11, some 11)] [] ?_|refine goD ?_))|(with_reducible first|refine gG ?_ ?_|refine ⟨fun h => ?_, fun h => ?_⟩ <;> try omega|refine andG ?_)|refine cl_ hK ?_|refine cl_ hK2 ?_|simp (disch := try exact qa0) only [push_cast, simprocAttr, b4, b8, b9, b10, wk0])
       | cons w b =>
        obtain rfl := hb.resolve_left (by simp);have hm1 : wK0 [] (w :: b) = (wK0 [] b).map (xab9 w ++ ·) := by simp [wK0, zI0]
        rw [hm1, Option.map_map] at hmap;simp only [List.length_cons, List.length_nil] at hlen;repeat' (first|(first|refine nav ?_|(refine g0_ ?_; first|refine dN (p := [0, 1, 0, 0, 1, 0, 1, 0, 0, 0, 1, 1, 1, 1, 1, 1, 1]) [(127, 126)] [(11, some 11)] [] ?_|refine dN (p := [0, 1, 1, 1, 0, 0, 1, 0, 1, 0, 0, 0, 1, 1, 1, 1, 1, 1, 1]) [(145, 144)] [(11, some 11)] [] ?_|refine goD ?_))|(with_reducible first|refine gG ?_ ?_|refine ⟨fun h => ?_, fun h => ?_⟩ <;> try omega|refine andG ?_)|(refine ⟨AV.str [], ?_⟩; refine kY0 ?_)|simp (disch := try exact qa0) only [push_cast, simprocAttr, b4, b8, b9, b10, wk0, qj0, xa0])
        ·have hk := xK0 (x := w) (by (try dsimp only); omega);refine va0 (b.length) 5 (by (try simp only [List.length_cons, List.length_nil]); omega) (by first|exact wb0|fail) (by omega) (by simp) (by simp [Blk.below, idsE, idsL, AV.ids]) ⟨[], b, acc ++ [w], za, 6, ca, (cb.map fun x => x - 1), by (try simp only [List.length_cons, List.length_nil, Nat.zero_add, Nat.add_zero]), ha, .inr rfl, by (try simp only [List.length_append, List.length_cons, List.length_nil]); omega, by rw [hmap]; congr 1; funext l; simp [hk], by simp [vaA9, edsA, xA], ?_⟩;simp (disch := try exact qa0) only [push_cast, simprocAttr, b4, b8, b9, b10, wk0, qj0, xa0, qe0, AV.ids, idsL, wh0]
        ·have hk := wab9 (x := w) (by (try dsimp only); omega);refine va0 (b.length) 5 (by (try simp only [List.length_cons, List.length_nil]); omega) (by first|exact wb0|fail) (by omega) (by simp) (by simp [Blk.below, idsE, idsL, AV.ids]) ⟨[], b, acc, za, 6, ca, (cb.map fun x => x - 1), by (try simp only [List.length_cons, List.length_nil, Nat.zero_add, Nat.add_zero]), ha, .inr rfl, by (try simp only [List.length_append, List.length_cons, List.length_nil]); omega, by rw [hmap]; congr 1; funext l; simp [hk], by rfl, ?_⟩;simp (disch := try exact qa0) only [push_cast, simprocAttr, b4, b8, b9, b10, wk0, qj0, xa0, qe0, AV.ids, idsL, wh0]
      | cons x a =>
       cases b with
       | nil =>
        obtain rfl := ha.resolve_left (by simp);have hm1 : wK0 (x :: a) [] = (wK0 a []).map (xab9 x ++ ·) := by simp [wK0, zI0]
        rw [hm1, Option.map_map] at hmap;simp only [List.length_cons, List.length_nil] at hlen;have hpos : ((0 : Int) < a.length + 1) = True := eq_true (by omega);repeat' (first|(first|refine nav ?_|(refine g0_ ?_; first|refine dN (p := [0, 1, 0, 0, 1, 0, 1, 0, 0, 0, 1, 1, 1, 1, 1, 1, 1]) [(127, 126)] [(11, some 11)] [] ?_|refine dN (p := [0, 1, 1, 1, 0, 0, 1, 0, 1, 0, 0, 0, 1, 1, 1, 1, 1, 1, 1]) [(145, 144)] [(11, some 11)] [] ?_|refine goD ?_))|(with_reducible first|refine gG ?_ ?_|refine ⟨fun h => ?_, fun h => ?_⟩ <;> try omega|refine andG ?_)|(refine ⟨AV.str [], ?_⟩; refine kY0 ?_)|simp (disch := try exact qa0) only [push_cast, simprocAttr, b4, b8, b9, b10, wk0, qj0, xa0, hpos])
        ·have hk := xK0 (x := x) (by (try dsimp only); omega);refine va0 (a.length) 5 (by (try simp only [List.length_cons, List.length_nil]); omega) (by first|exact wb0|fail) (by omega) (by simp) (by simp [Blk.below, idsE, idsL, AV.ids]) ⟨a, [], acc ++ [x], 6, zb, (ca.map fun x => x - 1), cb, by (try simp only [List.length_cons, List.length_nil, Nat.zero_add, Nat.add_zero]), .inr rfl, hb, by (try simp only [List.length_append, List.length_cons, List.length_nil]); omega, by rw [hmap]; congr 1; funext l; simp [hk], by simp [vaA9, edsA, xA], ?_⟩;simp (disch := try exact qa0) only [push_cast, simprocAttr, b4, b8, b9, b10, wk0, qj0, xa0, qe0, AV.ids, idsL, wh0]
        ·have hk := wab9 (x := x) (by (try dsimp only); omega);refine va0 (a.length) 5 (by (try simp only [List.length_cons, List.length_nil]); omega) (by first|exact wb0|fail) (by omega) (by simp) (by simp [Blk.below, idsE, idsL, AV.ids]) ⟨a, [], acc, 6, zb, (ca.map fun x => x - 1), cb, by (try simp only [List.length_cons, List.length_nil, Nat.zero_add, Nat.add_zero]), .inr rfl, hb, by (try simp only [List.length_append, List.length_cons, List.length_nil]); omega, by rw [hmap]; congr 1; funext l; simp [hk], by rfl, ?_⟩;simp (disch := try exact qa0) only [push_cast, simprocAttr, b4, b8, b9, b10, wk0, qj0, xa0, qe0, AV.ids, idsL, wh0]
       | cons w b =>
        obtain rfl := hb.resolve_left (by simp);obtain rfl := ha.resolve_left (by simp);have hB1 := waN9 w x;have hB2 := waN9 x w;have hm1 : wK0 (x :: a) (w :: b) = if vC0 w x = true then (wK0 a (w :: b)).map (xab9 x ++ ·) else if vC0 x w = true then (wK0 (x :: a) b).map (xab9 w ++ ·)
          else if x.new.1 = w.old.1 ∧ x.new.2 = w.old.2 then (wK0 a b).map (xab9 ⟨x.s, x.i, x.old, w.new⟩ ++ ·) else none := by
         simp only [wK0, List.length_cons];rw [show a.length + 1 + (b.length + 1) = (a.length + (b.length + 1)) + 1 by omega, zI0, qG0 (a.length + (b.length + 1)) (a.length + 1 + b.length) (x :: a) b (by simp; omega) (by simp),
          qG0 (a.length + (b.length + 1)) (a.length + b.length) a b (by omega) (by omega)]
        simp only [List.length_cons] at hlen;unfold xA at hB1 hB2;generalize vC0 w x = q1 at *;generalize vC0 x w = q2 at *;cases q1 with
        | true =>
         rw [if_pos rfl] at hm1;rw [hm1, Option.map_map] at hmap;repeat' (first|(first|refine nav ?_|(refine g0_ ?_; first|refine dN (p := [0, 1, 0, 0, 1, 0, 1, 0, 0, 0, 1, 1, 1, 1, 1, 1, 1]) [(127, 126)] [(11, some 11)] [] ?_|refine dN (p := [0, 1, 1, 1, 0, 0, 1, 0, 1, 0, 0, 0, 1, 1, 1, 1, 1, 1, 1]) [(145, 144)] [(11, some 11)] [] ?_|refine goD ?_))|(with_reducible first|refine gG ?_ ?_|refine ⟨fun h => ?_, fun h => ?_⟩ <;> try omega|refine andG ?_)|refine cp_ hB1 ?_|refine cp_ hB2 ?_|simp (disch := try exact qa0) only [push_cast, simprocAttr, b4, b8, b9, b10, wk0, qj0, xa0])
         ·have hk := xK0 (x := x) (by (try dsimp only); omega);refine va0 (a.length + (b.length + 1)) 5 (by (try simp only [List.length_cons, List.length_nil]); omega) (by first|exact wb0|fail) (by omega) (by simp) (by simp [Blk.below, idsE, idsL, AV.ids]) ⟨a, w :: b, acc ++ [x], 6, 6, (ca.map fun x => x - 1), cb, by (try simp only [List.length_cons, List.length_nil, Nat.zero_add, Nat.add_zero]), .inr rfl, .inr rfl, by (try simp only [List.length_append, List.length_cons, List.length_nil]); omega, by rw [hmap]; congr 1; funext l; simp [hk], by simp [vaA9, edsA, xA], ?_⟩;simp (disch := try exact qa0) only [push_cast, simprocAttr, b4, b8, b9, b10, wk0, qj0, xa0, qe0, AV.ids, idsL, wh0]
         ·have hk := wab9 (x := x) (by (try dsimp only); omega);refine va0 (a.length + (b.length + 1)) 5 (by (try simp only [List.length_cons, List.length_nil]); omega) (by first|exact wb0|fail) (by omega) (by simp) (by simp [Blk.below, idsE, idsL, AV.ids]) ⟨a, w :: b, acc, 6, 6, (ca.map fun x => x - 1), cb, by (try simp only [List.length_cons, List.length_nil, Nat.zero_add, Nat.add_zero]), .inr rfl, .inr rfl, by (try simp only [List.length_append, List.length_cons, List.length_nil]); omega, by rw [hmap]; congr 1; funext l; simp [hk], by rfl, ?_⟩;simp (disch := try exact qa0) only [push_cast, simprocAttr, b4, b8, b9, b10, wk0, qj0, xa0, qe0, AV.ids, idsL, wh0]
        | false =>
         rw [if_neg (by simp)] at hm1;cases q2 with
         | true =>
          rw [if_pos rfl] at hm1;rw [hm1, Option.map_map] at hmap;repeat' (first|(first|refine nav ?_|(refine g0_ ?_; first|refine dN (p := [0, 1, 0, 0, 1, 0, 1, 0, 0, 0, 1, 1, 1, 1, 1, 1, 1]) [(127, 126)] [(11, some 11)] [] ?_|refine dN (p := [0, 1, 1, 1, 0, 0, 1, 0, 1, 0, 0, 0, 1, 1, 1, 1, 1, 1, 1]) [(145, 144)] [(11, some 11)] [] ?_|refine goD ?_))|(with_reducible first|refine gG ?_ ?_|refine ⟨fun h => ?_, fun h => ?_⟩ <;> try omega|refine andG ?_)|refine cp_ hB1 ?_|refine cp_ hB2 ?_|simp (disch := try exact qa0) only [push_cast, simprocAttr, b4, b8, b9, b10, wk0, qj0, xa0])
          ·have hk := xK0 (x := w) (by (try dsimp only); omega);refine va0 (a.length + 1 + b.length) 5 (by (try simp only [List.length_cons, List.length_nil]); omega) (by first|exact wb0|fail) (by omega) (by simp) (by simp [Blk.below, idsE, idsL, AV.ids]) ⟨x :: a, b, acc ++ [w], 6, 6, ca, (cb.map fun x => x - 1), by (try simp only [List.length_cons, List.length_nil, Nat.zero_add, Nat.add_zero]), .inr rfl, .inr rfl, by (try simp only [List.length_append, List.length_cons, List.length_nil]); omega, by rw [hmap]; congr 1; funext l; simp [hk], by simp [vaA9, edsA, xA], ?_⟩;simp (disch := try exact qa0) only [push_cast, simprocAttr, b4, b8, b9, b10, wk0, qj0, xa0, qe0, AV.ids, idsL, wh0]
          ·have hk := wab9 (x := w) (by (try dsimp only); omega);refine va0 (a.length + 1 + b.length) 5 (by (try simp only [List.length_cons, List.length_nil]); omega) (by first|exact wb0|fail) (by omega) (by simp) (by simp [Blk.below, idsE, idsL, AV.ids]) ⟨x :: a, b, acc, 6, 6, ca, (cb.map fun x => x - 1), by (try simp only [List.length_cons, List.length_nil, Nat.zero_add, Nat.add_zero]), .inr rfl, .inr rfl, by (try simp only [List.length_append, List.length_cons, List.length_nil]); omega, by rw [hmap]; congr 1; funext l; simp [hk], by rfl, ?_⟩;simp (disch := try exact qa0) only [push_cast, simprocAttr, b4, b8, b9, b10, wk0, qj0, xa0, qe0, AV.ids, idsL, wh0]
         | false =>
          rw [if_neg (by simp)] at hm1;by_cases h5 : x.new.1 = w.old.1 ∧ x.new.2 = w.old.2
          ·rw [if_pos h5] at hm1;rw [hm1, Option.map_map] at hmap;repeat' (first|(first|refine nav ?_|(refine g0_ ?_; first|refine dN (p := [0, 1, 0, 0, 1, 0, 1, 0, 0, 0, 1, 1, 1, 1, 1, 1, 1]) [(127, 126)] [(11, some 11)] [] ?_|refine dN (p := [0, 1, 1, 1, 0, 0, 1, 0, 1, 0, 0, 0, 1, 1, 1, 1, 1, 1, 1]) [(145, 144)] [(11, some 11)] [] ?_|refine goD ?_))|(with_reducible first|refine gG ?_ ?_|refine ⟨fun h => ?_, fun h => ?_⟩ <;> try omega|refine andG ?_)|refine cp_ hB1 ?_|refine cp_ hB2 ?_|simp (disch := try exact qa0) only [push_cast, simprocAttr, b4, b8, b9, b10, wk0, qj0, xa0])
           ·have hk := xK0 (x := (⟨x.s, x.i, x.old, w.new⟩ : Ed)) (by (try dsimp only); omega);refine va0 (a.length + b.length) 5 (by (try simp only [List.length_cons, List.length_nil]); omega) (by first|exact wb0|fail) (by omega) (by simp) (by simp [Blk.below, idsE, idsL, AV.ids]) ⟨a, b, acc ++ [(⟨x.s, x.i, x.old, w.new⟩ : Ed)], 6, 6, (ca.map fun x => x - 1), (cb.map fun x => x - 1), by (try simp only [List.length_cons, List.length_nil, Nat.zero_add, Nat.add_zero]), .inr rfl, .inr rfl, by (try simp only [List.length_append, List.length_cons, List.length_nil]); omega, by rw [hmap]; congr 1; funext l; simp [hk], by simp [vaA9, edsA, xA], ?_⟩;simp (disch := try exact qa0) only [push_cast, simprocAttr, b4, b8, b9, b10, wk0, qj0, xa0, qe0, AV.ids, idsL, wh0]
           ·have hk := wab9 (x := (⟨x.s, x.i, x.old, w.new⟩ : Ed)) (by (try dsimp only); omega);refine va0 (a.length + b.length) 5 (by (try simp only [List.length_cons, List.length_nil]); omega) (by first|exact wb0|fail) (by omega) (by simp) (by simp [Blk.below, idsE, idsL, AV.ids]) ⟨a, b, acc, 6, 6, (ca.map fun x => x - 1), (cb.map fun x => x - 1), by (try simp only [List.length_cons, List.length_nil, Nat.zero_add, Nat.add_zero]), .inr rfl, .inr rfl, by (try simp only [List.length_append, List.length_cons, List.length_nil]); omega, by rw [hmap]; congr 1; funext l; simp [hk], by rfl, ?_⟩;simp (disch := try exact qa0) only [push_cast, simprocAttr, b4, b8, b9, b10, wk0, qj0, xa0, qe0, AV.ids, idsL, wh0]
          ·rw [if_neg h5] at hm1;rw [hm1] at hmap;have hm : wK0 p.ed q.ed = none := hmap;rw [hm] at hth;dsimp only at hth;rw [hth, vO0 _ (by omega)];repeat' (first|(first|refine nav ?_|(refine g0_ ?_; first|refine dN (p := [0, 1, 0, 0, 1, 0, 1, 0, 0, 0, 1, 1, 1, 1, 1, 1, 1]) [(127, 126)] [(11, some 11)] [] ?_|refine dN (p := [0, 1, 1, 1, 0, 0, 1, 0, 1, 0, 0, 0, 1, 1, 1, 1, 1, 1, 1]) [(145, 144)] [(11, some 11)] [] ?_|refine goD ?_))|(with_reducible first|refine gG ?_ ?_|refine ⟨fun h => ?_, fun h => ?_⟩ <;> try omega|refine andG ?_)|refine cp_ hB1 ?_|refine cp_ hB2 ?_|simp (disch := try exact qa0) only [push_cast, simprocAttr, b4, b8, b9, b10, wk0, qj0, xa0])
def xi0 (xs : List Bool) : List (List AV) := xs.map fun x => [.bool x]
theorem vl0 (xs : List Bool) : (xi0 xs).length = xs.length := by simp [xi0]
theorem ql0 (xs : List Bool) (k : Nat) (h : k < xs.length) : (xi0 xs).getD k [] = [.bool (xs.getD k false)] := by simp [xi0, h]
theorem xr0 (p : Nat → Bool) (xs : List Bool) : idsE p (xi0 xs) = true := zn0 _ _ fun x => by simp [idsL, AV.ids]
theorem wcd9 (p : Nat → Bool) (xs : List Bool) : ((xi0 xs).all fun e => e.all fun x => AV.ids p x) = true := xo0 (xr0 p xs)
attribute [simp] xr0
attribute [push_cast] wcd9 vl0
def aM : List Row := [([(1, 0), (0, 0)], some 2), ([(0, 1), (1, 0)], some 2)]
def bM : List Row := [([(1, 0), (0, 0)], some 2), ([(2, 1), (1, 0)], some 2), ([(0, 0), (-1, -1)], some 2)]
set_option maxRecDepth 100000 in
theorem a45 : PC Tryd.prog G0 45 [] (mA 2 2 aM (some 2)) := by
 unfold mA;refine wf0 1 9 [.cell 0 30] Tryd.func45 rfl rfl rfl (by simp) ?_;intro s hz;clear hz;repeat' (first|(refine nv ?_ <;> (try simp (disch := try exact qa0) only [push_cast, simprocAttr, Nat.add_zero]))|(with_reducible first|refine gG ?_ ?_|refine ⟨fun h => ?_, fun h => ?_⟩ <;> try omega|refine andG ?_)|simp (disch := try exact qa0) only [push_cast, simprocAttr, Nat.add_zero])
 simp [xb0, rowA, eA, aM]
set_option maxRecDepth 100000 in
theorem b46 : PC Tryd.prog G0 46 [] (mA 2 2 bM (some 3)) := by
 unfold mA;refine wf0 1 12 [.cell 0 30] Tryd.func46 rfl rfl rfl (by simp) ?_;intro s hz;clear hz;repeat' (first|(refine nv ?_ <;> (try simp (disch := try exact qa0) only [push_cast, simprocAttr, Nat.add_zero]))|(with_reducible first|refine gG ?_ ?_|refine ⟨fun h => ?_, fun h => ?_⟩ <;> try omega|refine andG ?_)|simp (disch := try exact qa0) only [push_cast, simprocAttr, Nat.add_zero])
 simp [xb0, rowA, eA, bM]
def kaA9 (r : List Edg) : List Row := r.map fun e => ([e], some 1)
set_option maxRecDepth 100000 in
theorem wcM9 (r : List Edg) (z : Nat) (c : Option Nat) (hz : r = [] ∨ z = 2) (hl : r.length ≤ 1000000) : PC Tryd.prog G0 48 [.sl z (rowA r) c] (mA 1 2 (kaA9 r) none) := by
 unfold mA;refine wf0 1 23 [.cell 2 30] Tryd.func48 rfl rfl rfl (by simp) ?_;intro s ⟨a0, hz⟩;clear hz;repeat' (first|refine nv ?_|(with_reducible first|refine gG ?_ ?_|refine ⟨fun h => ?_, fun h => ?_⟩ <;> try omega|refine andG ?_)|simp (disch := try exact qa0) only [push_cast, simprocAttr, a0])
 refine go_loop rfl (fun mz s' H' => ∃ k : Nat, k ≤ r.length ∧ mz = r.length - k ∧ H' = [.row 3 30 [[.int .i64 0, .int .i64 0, .sl 0 [] (some 0)]], .row 3 30 [[.int .i64 1, .int .i64 2, .own 2 k k none]], .row 1 97 (xb0 (kaA9 (r.take k)))] ∧ s' 0 = .sl z (rowA r) c ∧ s' 2 = .ptr 0 0 0 1 ∧ s' 3 = .ptr 1 0 0 1 ∧ s' 4 = .int .i64 k) (m := r.length) (by first|exact wb0|fail) (vi0 (b := 1) (i := 0) (j := 2) (sz := 1) (ty := 97) rfl rfl rfl) ⟨0, by omega, by omega, rfl, ?_⟩ ?_
 ·simp (disch := try exact qa0) only [push_cast, simprocAttr, a0]
 ·rintro mz s' H' ⟨k, hk, rfl, rfl, b0, b2, b3, b4⟩;have e0 : (xb0 (kaA9 (r.take k))).length = k := by simp [xb0, kaA9]; omega
  rcases Nat.lt_or_ge k r.length with hlt|hge
  ·obtain rfl := hz.resolve_left (by rintro rfl; simp at hlt);have e1 := zg0 r k hlt;have hs := wn0 (fun e => (([e], some 1) : Row)) r (0, 0) k hlt;generalize r.getD k (0, 0) = x at *;obtain ⟨x, y⟩ := x;simp only [eA] at e1;repeat' (first|refine nv ?_|(with_reducible first|refine gG ?_ ?_|refine ⟨fun h => ?_, fun h => ?_⟩ <;> try omega|refine andG ?_)|simp (disch := try exact qa0) only [push_cast, simprocAttr, b0, b2, b3, b4, e0, e1])
   refine va0 (r.length - (k + 1)) 3 (by omega) (by first|exact wb0|fail) (by omega) (by simp) (by simp [Blk.below, idsE, idsL, AV.ids]) ⟨k + 1, by omega, rfl, ?_, ?_⟩
   ·simp only [kaA9] at *;rw [hs];simp [xb0, rowA, eA]
   ·simp (disch := try exact qa0) only [push_cast, simprocAttr, b0, b2, b3, b4, qe0, AV.ids, idsL]
  ·obtain rfl : k = r.length := by omega
   rw [List.take_length] at e0;have e9 : (xb0 (kaA9 r)).take r.length = xb0 (kaA9 r) := List.take_of_length_le (by omega);repeat' (first|refine nv ?_|(with_reducible first|refine gG ?_ ?_|refine ⟨fun h => ?_, fun h => ?_⟩ <;> try omega|refine andG ?_)|simp (disch := try exact qa0) only [push_cast, simprocAttr, b0, b2, b3, b4, e0, e9, List.take_length])
set_option maxRecDepth 100000 in
theorem qdb9 (xs : List Bool) (v : Bool) (c : Option Nat) (hx : xs.length ≤ 1000000) : PC Tryd.prog G0 51 [.sl 1 (xi0 xs) c, .bool v] (.int .i64 (idxL (fun b => v == b) xs)) := by
 refine wf0 0 19 [.tmp 4] Tryd.func51 rfl rfl rfl (by simp) ?_;intro s ⟨a0, a1, hz⟩;simp only [Nat.zero_add, Nat.reduceAdd] at a1;clear hz;repeat' (first|refine nv ?_|(with_reducible first|refine gG ?_ ?_|refine ⟨fun h => ?_, fun h => ?_⟩ <;> try omega|refine andG ?_)|simp (disch := try exact qa0) only [push_cast, simprocAttr, a0, a1])
 refine go_loop rfl (fun mz s' H' => ∃ k : Nat, k ≤ xs.length ∧ mz = xs.length - k ∧ H' = [] ∧ s' 0 = .sl 1 (xi0 xs) c ∧ s' 1 = .bool v ∧ s' 7 = .int .i64 xs.length ∧ s' 8 = .int .i64 k ∧ ∀ j, j < k → (fun b => v == b) (xs.getD j false) = false) (m := xs.length) (by first|exact wb0|fail) (Weak.refl _ _) ⟨0, by omega, by omega, rfl, ?_⟩ ?_
 ·simp (disch := try exact qa0) only [push_cast, simprocAttr, a0, a1];exact fun j hj => by omega
 ·rintro mz s' H' ⟨k, hk, rfl, rfl, b0, b1, b7, b8, ik⟩;rcases Nat.lt_or_ge k xs.length with hlt|hge
  ·have e1 := ql0 xs k hlt;have hn := kaN9 (fun b => v == b) false xs k ik hlt;have hs := fun h => zaN9 ik (show (fun b => v == b) (xs.getD k false) = false from h);generalize xs.getD k false = x at *;cases v <;> cases x
   ·repeat' (first|refine nv ?_|(with_reducible first|refine gG ?_ ?_|refine ⟨fun h => ?_, fun h => ?_⟩ <;> try omega|refine andG ?_)|simp (disch := try exact qa0) only [push_cast, simprocAttr, b0, b1, b7, b8, e1])
    rw [hn rfl]
   ·repeat' (first|refine nv ?_|(with_reducible first|refine gG ?_ ?_|refine ⟨fun h => ?_, fun h => ?_⟩ <;> try omega|refine andG ?_)|simp (disch := try exact qa0) only [push_cast, simprocAttr, b0, b1, b7, b8, e1])
    refine qb0 (xs.length - (k + 1)) (by omega) (by first|exact wb0|fail) ⟨k + 1, by omega, rfl, rfl, ?_⟩;simp (disch := try exact qa0) only [push_cast, simprocAttr, b0, b1, b7, b8, e1];exact hs rfl
   ·repeat' (first|refine nv ?_|(with_reducible first|refine gG ?_ ?_|refine ⟨fun h => ?_, fun h => ?_⟩ <;> try omega|refine andG ?_)|simp (disch := try exact qa0) only [push_cast, simprocAttr, b0, b1, b7, b8, e1])
    refine qb0 (xs.length - (k + 1)) (by omega) (by first|exact wb0|fail) ⟨k + 1, by omega, rfl, rfl, ?_⟩;simp (disch := try exact qa0) only [push_cast, simprocAttr, b0, b1, b7, b8, e1];exact hs rfl
   ·repeat' (first|refine nv ?_|(with_reducible first|refine gG ?_ ?_|refine ⟨fun h => ?_, fun h => ?_⟩ <;> try omega|refine andG ?_)|simp (disch := try exact qa0) only [push_cast, simprocAttr, b0, b1, b7, b8, e1])
    rw [hn rfl]
  ·obtain rfl : k = xs.length := by omega
   repeat' (first|refine nv ?_|(with_reducible first|refine gG ?_ ?_|refine ⟨fun h => ?_, fun h => ?_⟩ <;> try omega|refine andG ?_)|simp (disch := try exact qa0) only [push_cast, simprocAttr, b0, b1, b7, b8])
   rw [xcc9 (fun b => v == b) false xs ik]
end Go.Proofs
