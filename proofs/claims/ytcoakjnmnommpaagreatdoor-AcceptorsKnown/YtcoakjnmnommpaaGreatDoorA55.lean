import Derived.Test.YtcoakjnmnommpaaGreatDoorZ8b
import Derived.Test.YtcoakjnmnommpaaGreatDoorA20
import Derived.Test.YtcoakjnmnommpaaGreatDoorA24
import Derived.Test.YtcoakjnmnommpaaGreatDoorA14
import Derived.Test.YtcoakjnmnommpaaGreatDoorA16
import Derived.Test.YtcoakjnmnommpaaGreatDoorAR1
import Derived.Test.YtcoakjnmnommpaaGreatDoorA48
import Derived.Test.YtcoakjnmnommpaaGreatDoorA42
namespace Go.Proofs
open Go Go.V Go.RowKit
set_option linter.unusedVariables false
set_option linter.unusedSimpArgs false
set_option maxHeartbeats 0
set_option maxRecDepth 100000
theorem law4 (sy : Int) (l : List RC) (c : Option Nat) (st : List Int) (cs : Option Nat) (ac : List Int) (ca : Option Nat) (hN : SizeN 1 l 1 st 1 ac) (sd : Int) (dl : List LC) (cd : Option Nat) (da : List Bool) (cb : Option Nat) (hD : SizeD 1 dl 1 da) (w : List Int) (cw : Option Nat) (hw : w.length ≤ 9223372036854775807) :
  PC Tryz.prog G0 4 [nA sy 1 l c 1 st cs 1 ac ca, dA sd 1 dl cd 1 da cb, .sl 1 (ints w) cw] (.bool true) := by
 have hlv := zaO9;have hRl := vh0 l;have hgR := qq0 l;have hDl := zb0 dl;have hgD := xg0 dl;have hWl := xa0 w;have hbr := hN.br;have hbi := hN.bi;have hbd := hD.br;have hbl := hN.bl;have hbdl := hD.bl;have hid1 : ∀ p, idsE p (xe0 l) = true := fun p => ze0 _ _;have hid2 : ∀ p, idsE p (ints st) = true := fun p => wa0 _ _;have hid3 : ∀ p, idsE p (ints ac) = true := fun p => wa0 _ _;have hid4 : ∀ p, idsE p (rowL dl) = true := fun p => vc0 _ _;have hid5 : ∀ p, idsE p (qb0 da) = true := fun p => zd0 _ _;have hid6 : ∀ p, idsE p (ints w) = true := fun p => wa0 _ _;have hc1 := vbk9 sy 1 l c 1 st cs 1 ac ca hN;have hc2 := hN.check (sym := sy) (c := c) (cs := cs) (ca := ca);have hc3 := kcS9 sd 1 dl cd 1 da cb hD;have hc4 := hD.check (sym := sd) (c := cd) (ca := cb);obtain ⟨aN, eN, hA, hcN⟩ := wcT9 (sym := sy) (c := c) (cs := cs) (ca := ca) hN w cw hw;obtain ⟨aD, eD, hB, hcD⟩ := vcT9 (sym := sd) (c := cd) (ca := cb) hD w cw hw;have hb1 := kdU9 (sym := sy) (c := c) (cs := cs) (ca := ca) hN;have hb2 := qcT9 (sym := sy) (c := c) (cs := cs) (ca := ca) hN;have hb3 := qds9 (sym := sy) (c := c) (cs := cs) (ca := ca) hN;have hb4 := qdV9 (sym := sd) (c := cd) (ca := cb) hD;have hb5 : vd0 sd (kd0 dl) da.length ≠ 0 → PC Tryz.prog G0 26 [dA sd 1 dl cd 1 da cb] (.tup [nA0, .int .i64 (vd0 sd (kd0 dl) da.length)]) := fun h => by
  have := vdQ9 sd 1 dl cd 1 da cb hD
  rwa [ofDV, if_pos h] at this
 have hb6 : vd0 sd (kd0 dl) da.length ≠ 0 → PC Tryz.prog G0 27 [dA sd 1 dl cd 1 da cb] (.tup [.str [], .int .i64 (vd0 sd (kd0 dl) da.length)]) := fun h => by
  have := xcS9 sd 1 dl cd 1 da cb hD
  rwa [zcp9, if_pos h] at this
 have hw1 := xbA9 1 w cw sy (.inr rfl) hw;have hw2 := xbA9 1 w cw sd (.inr rfl) hw;unfold nA dA nA0 dA0 at *;generalize wh0 sy (rowsV l) st ac = eW at *;generalize vd0 sd (kd0 dl) da.length = eX at *;generalize wag9 sy w = u1 at *;generalize wag9 sd w = u2 at *;generalize hRN : xe0 l = RN at *;generalize ints st = IS at *;generalize ints ac = IA at *;generalize hDL : rowL dl = DL at *;generalize qb0 da = DB at *;generalize ints w = IW at *;have hz : decide ((0 : Int) = 1) = false := rfl;have hendA := xdX9 (sy := sy) (c := c) (cs := cs) (ca := ca) hid1 hid2 hid3 hid4 hid5 hid6 hcD hb4 hb5 hb6 hw2;have hendB := wdX9 (sy := sy) (c := c) (cs := cs) (ca := ca) hid1 hid2 hid3 hid4 hid5 hid6 hcD hb4 hb5 hb6 hw2;by_cases h1 : 300 < l.length
 ·have h1' : (300 : Int) < l.length := by omega
  refine qc0 0 299 [.tmp 6] Tryz.func4 rfl rfl rfl (by simp) ?_;intro s ⟨a0, a1, a2, hz⟩;simp only [l'm, Nat.reduceAdd] at a1 a2;clear hz;repeat' (first|(refine nv ?_ <;> (try simp (disch := try exact qa0) only [push_cast, simprocAttr, a0, a1, a2, hRl, h1']))|(with_reducible first|refine gG ?_ ?_|refine ⟨fun h => ?_, fun h => ?_⟩ <;> try omega|refine andG ?_)|refine cp_ hlv ?_ (hi := by (simp [idsL, idsE, AV.ids, hid1, hid2, hid3, hid4, hid5, hid6]))|simp (disch := try exact qa0) only [push_cast, simprocAttr, a0, a1, a2, hRl, h1'])
 ·have h1' : ¬ (300 : Int) < l.length := by omega
  by_cases h2 : 300 < dl.length
  ·have h2' : (300 : Int) < dl.length := by omega
   refine qc0 0 299 [.tmp 6] Tryz.func4 rfl rfl rfl (by simp) ?_;intro s ⟨a0, a1, a2, hz⟩;simp only [l'm, Nat.reduceAdd] at a1 a2;clear hz;repeat' (first|(refine nv ?_ <;> (try simp (disch := try exact qa0) only [push_cast, simprocAttr, a0, a1, a2, hRl, hDl, h1', h2']))|(with_reducible first|refine gG ?_ ?_|refine ⟨fun h => ?_, fun h => ?_⟩ <;> try omega|refine andG ?_)|refine cp_ hlv ?_ (hi := by (simp [idsL, idsE, AV.ids, hid1, hid2, hid3, hid4, hid5, hid6]))|simp (disch := try exact qa0) only [push_cast, simprocAttr, a0, a1, a2, hRl, hDl, h1', h2'])
  ·have h2' : ¬ (300 : Int) < dl.length := by omega
   by_cases h3 : 300 < w.length
   ·have h3' : (300 : Int) < w.length := by omega
    refine qc0 0 299 [.tmp 6] Tryz.func4 rfl rfl rfl (by simp) ?_;intro s ⟨a0, a1, a2, hz⟩;simp only [l'm, Nat.reduceAdd] at a1 a2;clear hz;repeat' (first|(refine nv ?_ <;> (try simp (disch := try exact qa0) only [push_cast, simprocAttr, a0, a1, a2, hRl, hDl, hWl, h1', h2', h3']))|(with_reducible first|refine gG ?_ ?_|refine ⟨fun h => ?_, fun h => ?_⟩ <;> try omega|refine andG ?_)|refine cp_ hlv ?_ (hi := by (simp [idsL, idsE, AV.ids, hid1, hid2, hid3, hid4, hid5, hid6]))|simp (disch := try exact qa0) only [push_cast, simprocAttr, a0, a1, a2, hRl, hDl, hWl, h1', h2', h3'])
   ·have h3' : ¬ (300 : Int) < w.length := by omega
    refine qc0 0 299 [.tmp 6] Tryz.func4 rfl rfl rfl (by simp) ?_;intro s ⟨a0, a1, a2, hz⟩;simp only [l'm, Nat.reduceAdd] at a1 a2;clear hz;repeat' (first|(refine nv ?_ <;> (try simp (disch := try exact qa0) only [push_cast, simprocAttr, a0, a1, a2, hRl, hDl, hWl, h1', h2', h3']))|(with_reducible first|refine gG ?_ ?_|refine ⟨fun h => ?_, fun h => ?_⟩ <;> try omega|refine andG ?_)|refine cp_ hlv ?_ (hi := by (simp [idsL, idsE, AV.ids, hid1, hid2, hid3, hid4, hid5, hid6]))|simp (disch := try exact qa0) only [push_cast, simprocAttr, a0, a1, a2, hRl, hDl, hWl, h1', h2', h3'])
    refine go_loop rfl (fun mz s' H' => ∃ (s : Nat) (n : Int), s ≤ l.length ∧ mz = l.length - s ∧ H' = [.row 4 29 [[.int .i64 sy, .sl 1 RN c, .sl 1 IS cs, .sl 1 IA ca]], .row 3 47 [[.int .i64 sd, .sl 1 DL cd, .sl 1 DB cb]]] ∧ s' 2 = .sl 1 IW cw ∧ s' 3 = .ptr 0 0 0 1 ∧ s' 4 = .ptr 1 0 0 1 ∧ s' 7 = .int .i64 n ∧ s' 8 = .int .i64 s) (m := l.length) (by first|exact va0|fail) (Weak.refl _ _) ⟨0, 0, by omega, by omega, rfl, ?_⟩ ?_
    ·simp (disch := try exact qa0) only [push_cast, simprocAttr, a0, a1, a2, hRl, hDl, hWl, h1', h2', h3']
    ·rintro mz s' H' ⟨s, n, hs, rfl, rfl, b2, b3, b4, b7, b8⟩;rcases l'i s l.length with hlt|hge
     ·have e1 := hgR s hlt;have hbr := hbr s hlt;have hbi := fun a => hbi s a hlt;unfold rC at e1;generalize (l.getD s ([], none)).2 = cr at *;generalize (l.getD s ([], none)).1 = r at *;have hrl := zb0 r;have hgr := xg0 r;repeat' (first|(refine nv ?_ <;> (try simp (disch := try exact qa0) only [push_cast, simprocAttr, b2, b3, b4, b7, b8, hRl, e1]))|(with_reducible first|refine gG ?_ ?_|refine ⟨fun h => ?_, fun h => ?_⟩ <;> try omega|refine andG ?_)|simp (disch := try exact qa0) only [push_cast, simprocAttr, b2, b3, b4, b7, b8, hRl, e1])
      refine go_loop rfl (fun mz s' H' => ∃ (a : Nat) (n : Int), a ≤ r.length ∧ mz = r.length - a ∧ H' = [.row 4 29 [[.int .i64 sy, .sl 1 RN c, .sl 1 IS cs, .sl 1 IA ca]], .row 3 47 [[.int .i64 sd, .sl 1 DL cd, .sl 1 DB cb]]] ∧ s' 2 = .sl 1 IW cw ∧ s' 3 = .ptr 0 0 0 1 ∧ s' 4 = .ptr 1 0 0 1 ∧ s' 7 = .int .i64 n ∧ s' 8 = .int .i64 s ∧ s' 9 = .int .i64 a) (m := r.length) (by first|exact va0|fail) (Weak.refl _ _) ⟨0, n, by omega, by omega, rfl, ?_⟩ ?_
      ·simp (disch := try exact qa0) only [push_cast, simprocAttr, b2, b3, b4, b7, b8, hRl, e1]
      ·clear b2 b3 b4 b7 b8;rintro mz s' H' ⟨a, m, ha, rfl, rfl, b2, b3, b4, b7, b8, b9⟩;rcases l'i a r.length with hla|hga
       ·have e2 := hgr a hla;have hbi := hbi a hla;unfold lC at e2;generalize (r.getD a ([], none)).2 = cx at *;generalize (r.getD a ([], none)).1 = x at *;have hxl := xa0 x;repeat' (first|(refine nv ?_ <;> (try simp (disch := try exact qa0) only [push_cast, simprocAttr, b2, b3, b4, b7, b8, b9, hRl, e1, hrl, e2, hxl]))|(with_reducible first|refine gG ?_ ?_|refine ⟨fun h => ?_, fun h => ?_⟩ <;> try omega|refine andG ?_)|simp (disch := try exact qa0) only [push_cast, simprocAttr, b2, b3, b4, b7, b8, b9, hRl, e1, hrl, e2, hxl])
        refine za0 (r.length - (a + 1)) (by omega) (by first|exact va0|fail) ⟨a + 1, IntKind.i64.wrap (m + IntKind.i64.wrap (1 + (x.length : Int))), by omega, rfl, rfl, ?_⟩;simp (disch := try exact qa0) only [push_cast, simprocAttr, b2, b3, b4, b7, b8, b9, hRl, e1, hrl, e2, hxl]
       ·obtain rfl : r.length = a := by omega
        repeat' (first|(refine nv ?_ <;> (try simp (disch := try exact qa0) only [push_cast, simprocAttr, b2, b3, b4, b7, b8, b9, hRl, e1, hrl]))|(with_reducible first|refine gG ?_ ?_|refine ⟨fun h => ?_, fun h => ?_⟩ <;> try omega|refine andG ?_)|simp (disch := try exact qa0) only [push_cast, simprocAttr, b2, b3, b4, b7, b8, b9, hRl, e1, hrl])
        refine za0 (l.length - (s + 1)) (by omega) (by first|exact va0|fail) ⟨s + 1, m, by omega, rfl, rfl, ?_⟩;simp (disch := try exact qa0) only [push_cast, simprocAttr, b2, b3, b4, b7, b8, b9, hRl, e1, hrl]
     ·obtain rfl : l.length = s := by omega
      repeat' (first|(refine nv ?_ <;> (try simp (disch := try exact qa0) only [push_cast, simprocAttr, b2, b3, b4, b7, b8, hRl]))|(with_reducible first|refine gG ?_ ?_|refine ⟨fun h => ?_, fun h => ?_⟩ <;> try omega|refine andG ?_)|simp (disch := try exact qa0) only [push_cast, simprocAttr, b2, b3, b4, b7, b8, hRl])
      refine go_loop rfl (fun mz s' H' => ∃ (s : Nat) (n : Int), s ≤ dl.length ∧ mz = dl.length - s ∧ H' = [.row 4 29 [[.int .i64 sy, .sl 1 RN c, .sl 1 IS cs, .sl 1 IA ca]], .row 3 47 [[.int .i64 sd, .sl 1 DL cd, .sl 1 DB cb]]] ∧ s' 2 = .sl 1 IW cw ∧ s' 3 = .ptr 0 0 0 1 ∧ s' 4 = .ptr 1 0 0 1 ∧ s' 7 = .int .i64 n ∧ s' 10 = .int .i64 s) (m := dl.length) (by first|exact va0|fail) (Weak.refl _ _) ⟨0, n, by omega, by omega, rfl, ?_⟩ ?_
      ·simp (disch := try exact qa0) only [push_cast, simprocAttr, b2, b3, b4, b7, b8, hRl]
      ·clear b2 b3 b4 b7 b8;rintro mz s' H' ⟨s, n, hs, rfl, rfl, b2, b3, b4, b7, b10⟩;rcases l'i s dl.length with hlt|hge
       ·have e1 := hgD s hlt;have hbd := hbd s hlt;unfold lC at e1;generalize (dl.getD s ([], none)).2 = cr at *;generalize (dl.getD s ([], none)).1 = r at *;have hrl := xa0 r;repeat' (first|(refine nv ?_ <;> (try simp (disch := try exact qa0) only [push_cast, simprocAttr, b2, b3, b4, b7, b10, hDl, e1, hrl]))|(with_reducible first|refine gG ?_ ?_|refine ⟨fun h => ?_, fun h => ?_⟩ <;> try omega|refine andG ?_)|simp (disch := try exact qa0) only [push_cast, simprocAttr, b2, b3, b4, b7, b10, hDl, e1, hrl])
        refine za0 (dl.length - (s + 1)) (by omega) (by first|exact va0|fail) ⟨s + 1, IntKind.i64.wrap (n + (r.length : Int)), by omega, rfl, rfl, ?_⟩;simp (disch := try exact qa0) only [push_cast, simprocAttr, b2, b3, b4, b7, b10, hDl, e1, hrl]
       ·obtain rfl : dl.length = s := by omega
        by_cases h6 : 6000 < n
        ·skip
         repeat' (first|(refine nv ?_ <;> (try simp (disch := try exact qa0) only [push_cast, simprocAttr, b2, b3, b4, b7, b10, hDl, h6]))|(with_reducible first|refine gG ?_ ?_|refine ⟨fun h => ?_, fun h => ?_⟩ <;> try omega|refine andG ?_)|refine cp_ hlv ?_ (hi := by (simp [idsL, idsE, AV.ids, hid1, hid2, hid3, hid4, hid5, hid6]))|simp (disch := try exact qa0) only [push_cast, simprocAttr, b2, b3, b4, b7, b10, hDl, h6])
        ·rcases hcN with ⟨q1, rfl, rfl⟩|⟨rfl, q2, rfl, rfl⟩|⟨rfl, rfl, rfl, hE⟩
         ·have hb1 := hb1 q1;have hb2 := hb2 q1;have hb3 := hb3 q1;repeat' (first|(((first|(with_reducible refine xz0 (p := [0, 0, 1, 1, 1, 1, 1, 1, 1, 1, 1, 1, 1]) ?_)|refine nav ?_|(refine g0_ ?_; first|refine goD ?_))) <;> (try simp (disch := try exact qa0) only [push_cast, simprocAttr, b2, b3, b4, b7, b10, hDl, h6, q1]))|(with_reducible first|refine gG ?_ ?_|refine ⟨fun h => ?_, fun h => ?_⟩ <;> try omega|refine andG ?_)|refine cp_ hc1 ?_ (hi := by (simp [idsL, idsE, AV.ids, hid1, hid2, hid3, hid4, hid5, hid6]))|refine cp_ hc2 ?_ (hi := by (simp [idsL, idsE, AV.ids, hid1, hid2, hid3, hid4, hid5, hid6]))|refine cp_ hc3 ?_ (hi := by (simp [idsL, idsE, AV.ids, hid1, hid2, hid3, hid4, hid5, hid6]))|refine cp_ hc4 ?_ (hi := by (simp [idsL, idsE, AV.ids, hid1, hid2, hid3, hid4, hid5, hid6]))|refine cp_ hA ?_ (hi := by (simp [idsL, idsE, AV.ids, hid1, hid2, hid3, hid4, hid5, hid6]))|refine cp_ hB ?_ (hi := by (simp [idsL, idsE, AV.ids, hid1, hid2, hid3, hid4, hid5, hid6]))|refine cp_ hb1 ?_ (hi := by (simp [idsL, idsE, AV.ids, hid1, hid2, hid3, hid4, hid5, hid6]))|refine cp_ hb2 ?_ (hi := by (simp [idsL, idsE, AV.ids, hid1, hid2, hid3, hid4, hid5, hid6]))|refine cp_ hb3 ?_ (hi := by (simp [idsL, idsE, AV.ids, hid1, hid2, hid3, hid4, hid5, hid6]))|simp (disch := try exact qa0) only [push_cast, simprocAttr, b2, b3, b4, b7, b10, hDl, h6, q1])
          refine Halt.mk (hendA _ ?_ ?_ ?_ ?_ ?_ ?_);all_goals simp (disch := try exact qa0) only [push_cast, simprocAttr, b2, b3, b4, b7, b10, hDl, h6, q1]
         ·skip
          repeat' (first|(((first|(with_reducible refine xz0 (p := [0, 0, 1, 1, 1, 1, 1, 1, 1, 1, 1, 1, 1]) ?_)|refine nav ?_|(refine g0_ ?_; first|refine goD ?_))) <;> (try simp (disch := try exact qa0) only [push_cast, simprocAttr, b2, b3, b4, b7, b10, hDl, h6, q2]))|(with_reducible first|refine gG ?_ ?_|refine ⟨fun h => ?_, fun h => ?_⟩ <;> try omega|refine andG ?_)|refine cp_ hc1 ?_ (hi := by (simp [idsL, idsE, AV.ids, hid1, hid2, hid3, hid4, hid5, hid6]))|refine cp_ hc2 ?_ (hi := by (simp [idsL, idsE, AV.ids, hid1, hid2, hid3, hid4, hid5, hid6]))|refine cp_ hc3 ?_ (hi := by (simp [idsL, idsE, AV.ids, hid1, hid2, hid3, hid4, hid5, hid6]))|refine cp_ hc4 ?_ (hi := by (simp [idsL, idsE, AV.ids, hid1, hid2, hid3, hid4, hid5, hid6]))|refine cp_ hA ?_ (hi := by (simp [idsL, idsE, AV.ids, hid1, hid2, hid3, hid4, hid5, hid6]))|refine cp_ hB ?_ (hi := by (simp [idsL, idsE, AV.ids, hid1, hid2, hid3, hid4, hid5, hid6]))|refine cp_ hw1 ?_ (hi := by (simp [idsL, idsE, AV.ids, hid1, hid2, hid3, hid4, hid5, hid6]))|(refine ⟨AV.str [], ?_⟩; refine wC0 ?_)|simp (disch := try exact qa0) only [push_cast, simprocAttr, b2, b3, b4, b7, b10, hDl, h6, q2])
          refine Halt.mk (hendB _ ?_ ?_ ?_ ?_ ?_ ?_);all_goals simp (disch := try exact qa0) only [push_cast, simprocAttr, b2, b3, b4, b7, b10, hDl, h6, q2]
         ·cases aN with
          | true =>
           rw [if_pos rfl] at hE;repeat' (first|(((first|(with_reducible refine xz0 (p := [0, 0, 1, 1, 1, 1, 1, 1, 1, 1, 1, 1, 1]) ?_)|refine nav ?_|(refine g0_ ?_; first|refine goD ?_))) <;> (try simp (disch := try exact qa0) only [push_cast, simprocAttr, b2, b3, b4, b7, b10, hDl, h6, hz]))|(with_reducible first|refine gG ?_ ?_|refine ⟨fun h => ?_, fun h => ?_⟩ <;> try omega|refine andG ?_)|refine cp_ hc1 ?_ (hi := by (simp [idsL, idsE, AV.ids, hid1, hid2, hid3, hid4, hid5, hid6]))|refine cp_ hc2 ?_ (hi := by (simp [idsL, idsE, AV.ids, hid1, hid2, hid3, hid4, hid5, hid6]))|refine cp_ hc3 ?_ (hi := by (simp [idsL, idsE, AV.ids, hid1, hid2, hid3, hid4, hid5, hid6]))|refine cp_ hc4 ?_ (hi := by (simp [idsL, idsE, AV.ids, hid1, hid2, hid3, hid4, hid5, hid6]))|refine cp_ hA ?_ (hi := by (simp [idsL, idsE, AV.ids, hid1, hid2, hid3, hid4, hid5, hid6]))|refine cp_ hB ?_ (hi := by (simp [idsL, idsE, AV.ids, hid1, hid2, hid3, hid4, hid5, hid6]))|refine cp_ hw1 ?_ (hi := by (simp [idsL, idsE, AV.ids, hid1, hid2, hid3, hid4, hid5, hid6]))|refine cp_ hE ?_ (hi := by (simp [idsL, idsE, AV.ids, hid1, hid2, hid3, hid4, hid5, hid6]))|simp (disch := try exact qa0) only [push_cast, simprocAttr, b2, b3, b4, b7, b10, hDl, h6, hz])
           refine Halt.mk (hendB _ ?_ ?_ ?_ ?_ ?_ ?_);all_goals simp (disch := try exact qa0) only [push_cast, simprocAttr, b2, b3, b4, b7, b10, hDl, h6, hz]
          | false =>
           rw [if_neg (by decide)] at hE;repeat' (first|(((first|(with_reducible refine xz0 (p := [0, 0, 1, 1, 1, 1, 1, 1, 1, 1, 1, 1, 1]) ?_)|refine nav ?_|(refine g0_ ?_; first|refine goD ?_))) <;> (try simp (disch := try exact qa0) only [push_cast, simprocAttr, b2, b3, b4, b7, b10, hDl, h6, hz]))|(with_reducible first|refine gG ?_ ?_|refine ⟨fun h => ?_, fun h => ?_⟩ <;> try omega|refine andG ?_)|refine cp_ hc1 ?_ (hi := by (simp [idsL, idsE, AV.ids, hid1, hid2, hid3, hid4, hid5, hid6]))|refine cp_ hc2 ?_ (hi := by (simp [idsL, idsE, AV.ids, hid1, hid2, hid3, hid4, hid5, hid6]))|refine cp_ hc3 ?_ (hi := by (simp [idsL, idsE, AV.ids, hid1, hid2, hid3, hid4, hid5, hid6]))|refine cp_ hc4 ?_ (hi := by (simp [idsL, idsE, AV.ids, hid1, hid2, hid3, hid4, hid5, hid6]))|refine cp_ hA ?_ (hi := by (simp [idsL, idsE, AV.ids, hid1, hid2, hid3, hid4, hid5, hid6]))|refine cp_ hB ?_ (hi := by (simp [idsL, idsE, AV.ids, hid1, hid2, hid3, hid4, hid5, hid6]))|refine cp_ hw1 ?_ (hi := by (simp [idsL, idsE, AV.ids, hid1, hid2, hid3, hid4, hid5, hid6]))|refine cp_ hE ?_ (hi := by (simp [idsL, idsE, AV.ids, hid1, hid2, hid3, hid4, hid5, hid6]))|simp (disch := try exact qa0) only [push_cast, simprocAttr, b2, b3, b4, b7, b10, hDl, h6, hz])
           refine Halt.mk (hendB _ ?_ ?_ ?_ ?_ ?_ ?_);all_goals simp (disch := try exact qa0) only [push_cast, simprocAttr, b2, b3, b4, b7, b10, hDl, h6, hz]
end Go.Proofs
namespace Go.Proofs
open Go Go.V
set_option linter.unusedVariables false
set_option linter.unusedSimpArgs false
set_option maxHeartbeats 0
section
variable {A m : Nat} {l : List LC}
end
end Go.Proofs
namespace Go.Proofs
open Go Go.V Go.RowKit
set_option linter.unusedVariables false
set_option linter.unusedSimpArgs false
set_option maxHeartbeats 0
set_option maxRecDepth 100000
theorem wdC9 {A B : Int} {l : List LC} {c : Option Nat} {a : List Bool} {ca : Option Nat} {r : List LC} {c' : Option Nat} {b : List Bool} {cb : Option Nat} (h1 : SizeD 1 l 1 a) (h2 : SizeD 1 r 1 b) (hl : l.length ≤ 1000 ∧ a.length ≤ 1000 ∧ r.length ≤ 1000 ∧ b.length ≤ 1000) (hA : A = B) (hr : kd0 l = kd0 r) (hab : a = b) :
  PC Tryz.prog G0 30 [dA A 1 l c 1 a ca, dA B 1 r c' 1 b cb] (.int .i64 1) := by
 have h := waL9 A 1 l c 1 a ca B 1 r c' 1 b cb (.inr rfl) (.inr rfl) (.inr rfl) (.inr rfl) (by omega) (by omega) (by omega) (by omega) h1.br h2.br
 rwa [if_pos (by exact ⟨hA, hr, hab⟩)] at h
theorem xcq9 (rows : List (List Int × Bool)) : zag9 (lcP rows) (acP rows) rows.length = rows := by
 refine l'W (by simp [zag9]) fun i h1 h2 => ?_;simp [zag9, lcP, acP, h2]
theorem xcV9 {rows : List (List Int × Bool)} (h1 : rows.length ≤ 1000) (h2 : ∀ r ∈ rows, r.1.length ≤ 1000) : SizeD 1 (lcP rows) 1 (acP rows) :=
 zB0 (by rw [xW0]; exact h1) (by rw [xw0]; exact h1) (fun r hr => by obtain ⟨q, hq, rfl⟩ := l'B.1 hr; exact h2 q hq)
theorem wcV9 {rows : List (List Int × Bool)} (h1 : rows.length ≤ 1000) (h2 : ∀ r ∈ rows, r.1.length ≤ 1000) : SizeD 1 (lcN rows) 1 (acP rows) :=
 zB0 (by rw [qau9]; exact h1) (by rw [xw0]; exact h1) (fun r hr => by obtain ⟨q, hq, rfl⟩ := l'B.1 hr; exact h2 q hq)
end Go.Proofs
