import Derived.Test.YtbgdagokjfmcbaaDoorD5
import Derived.Test.YtbgdagokjfmcbaaDoorD8
namespace Go.Proofs
open Go Go.V
set_option linter.unusedVariables false
set_option linter.unusedSimpArgs false
set_option maxHeartbeats 0
theorem Ed.ext_iff' (x y : Ed) : x = y ↔ x.s = y.s ∧ x.i = y.i ∧ (x.old.1 = y.old.1 ∧ x.old.2 = y.old.2) ∧ x.new.1 = y.new.1 ∧ x.new.2 = y.new.2 := by
 obtain ⟨a, b, ⟨c, d⟩, e, f⟩ := x;obtain ⟨a', b', ⟨c', d'⟩, e', f'⟩ := y;simp
theorem Pt.ext_iff' (p q : Pt) : p = q ↔ p.inp = q.inp ∧ p.o0 = q.o0 ∧ p.o1 = q.o1 ∧ p.s0 = q.s0 ∧ p.s1 = q.s1 ∧ p.ed = q.ed := by
 obtain ⟨a, b, c, d, e, f⟩ := p;obtain ⟨a', b', c', d', e', f'⟩ := q;simp
def edgesOf (l : List Row) : List (List Edg) := l.map (·.1)
theorem kd0 (l : List Row) (k : Nat) : (edgesOf l).getD k [] = (l.getD k ([], none)).1 := by
 rw [edgesOf, List.getD_eq_getElem?_getD, List.getD_eq_getElem?_getD, List.getElem?_map];cases l[k]? <;> rfl
set_option maxRecDepth 100000 in
theorem qbb9 (i o : Int) (l : List Row) (z : Nat) (c : Option Nat) (i' o' : Int) (l' : List Row) (z' : Nat) (c' : Option Nat) (hz : l = [] ∨ z = 1) (hz' : l' = [] ∨ z' = 1) (hl : l.length ≤ 1000000) (hl' : l'.length ≤ 1000000) (hr : ∀ j, j < l.length → (l.getD j ([], none)).1.length ≤ 1000000) (hr' : ∀ j, j < l'.length → (l'.getD j ([], none)).1.length ≤ 1000000) : PC Tryd.prog G0 21 [.agg [.int .i64 i, .int .i64 o, .sl z (xb0 l) c], .agg [.int .i64 i', .int .i64 o', .sl z' (xb0 l') c']] (.bool (decide (i = i' ∧ o = o' ∧ edgesOf l = edgesOf l'))) := by
 refine wf0 1 75 [.tmp 4] Tryd.func21 rfl rfl rfl (by simp) ?_;intro s ⟨a0, a1, hz⟩;simp only [Nat.zero_add, Nat.reduceAdd] at a1;clear hz;repeat' (first|refine nv ?_|(with_reducible first|refine gG ?_ ?_|refine ⟨fun h => ?_, fun h => ?_⟩ <;> try omega|refine andG ?_)|simp (disch := try exact qa0) only [push_cast, simprocAttr, a0, a1])
 ·rw [decide_eq_false];rintro ⟨h1, h2, h3⟩;have := congrArg List.length h3;simp [edgesOf] at this;omega
 ·refine go_loop rfl (fun mz s' H' => ∃ k : Nat, k ≤ l.length ∧ mz = l.length - k ∧ H' = [.row 3 30 [[.int .i64 i, .int .i64 o, .sl z (xb0 l) c]], .row 3 30 [[.int .i64 i', .int .i64 o', .sl z' (xb0 l') c']]] ∧ s' 2 = .ptr 0 0 0 1 ∧ s' 3 = .ptr 1 0 0 1 ∧ s' 5 = .int .i64 k ∧ ∀ j, j < k → (l.getD j ([], none)).1 = (l'.getD j ([], none)).1) (m := l.length) (by first|exact wb0|fail) (Weak.refl _ _) ⟨0, by omega, by omega, rfl, ?_⟩ ?_
  ·simp (disch := try exact qa0) only [push_cast, simprocAttr, a0, a1];exact fun j hj => by omega
  ·rintro mz s' H' ⟨k, hk, rfl, rfl, b2, b3, b5, ik⟩;rcases Nat.lt_or_ge k l.length with hlt|hge
   ·have hlt2 : k < l'.length := by omega
    obtain rfl : z = 1 := by
     rcases hz with h|h
     ·rw [h] at hlt; simp at hlt
     ·exact h
    obtain rfl : z' = 1 := by
     rcases hz' with h|h
     ·rw [h] at hlt2; simp at hlt2
     ·exact h
    have e1 := xf0 l k hlt;have e2 := xf0 l' k hlt2;have q1 := hr k hlt;have q2 := hr' k hlt2;have hs := zaN9 (P := fun j => (l.getD j ([], none)).1 = (l'.getD j ([], none)).1) (k := k) ik;have hno : (l.getD k ([], none)).1 ≠ (l'.getD k ([], none)).1 → ¬(i = i' ∧ o = o' ∧ edgesOf l = edgesOf l') := fun h hh => h (by rw [← kd0, ← kd0, hh.2.2]);generalize (l.getD k ([], none)).1 = r at *;generalize (l'.getD k ([], none)).1 = r' at *;generalize (l.getD k ([], none)).2 = cc at *;generalize (l'.getD k ([], none)).2 = cc' at *;repeat' (first|refine nv ?_|(with_reducible first|refine gG ?_ ?_|refine ⟨fun h => ?_, fun h => ?_⟩ <;> try omega|refine andG ?_)|simp (disch := try exact qa0) only [push_cast, simprocAttr, b2, b3, b5, e1, e2])
    ·rw [decide_eq_false];exact hno fun hh => by rw [hh] at h; omega
    ·rename_i hlen;refine go_loop rfl (fun mz s' H' => ∃ m : Nat, m ≤ r.length ∧ mz = r.length - m ∧ H' = [.row 3 30 [[.int .i64 i, .int .i64 o, .sl 1 (xb0 l) c]], .row 3 30 [[.int .i64 i', .int .i64 o', .sl 1 (xb0 l') c']]] ∧ s' 2 = .ptr 0 0 0 1 ∧ s' 3 = .ptr 1 0 0 1 ∧ s' 5 = .int .i64 k ∧ s' 6 = .int .i64 m ∧ ∀ j, j < m → r.getD j (0, 0) = r'.getD j (0, 0)) (m := r.length) (by first|exact wb0|fail) (Weak.refl _ _) ⟨0, by omega, by omega, rfl, ?_⟩ ?_
     ·simp (disch := try exact qa0) only [push_cast, simprocAttr, b2, b3, b5, e1, e2];exact fun j hj => by omega
     ·rintro mz s' H' ⟨m, hm, rfl, rfl, b2, b3, b5, b6, im⟩;rcases Nat.lt_or_ge m r.length with hlt3|hge3
      ·have hlt4 : m < r'.length := by omega
       have e3 := zg0 r m hlt3;have e4 := zg0 r' m hlt4;have hs3 := zaN9 (P := fun j => r.getD j (0, 0) = r'.getD j (0, 0)) (k := m) im;have hno3 : r.getD m (0, 0) ≠ r'.getD m (0, 0) → ¬(i = i' ∧ o = o' ∧ edgesOf l = edgesOf l') := fun h => hno fun hh => h (by rw [hh]);generalize r.getD m (0, 0) = x at *;generalize r'.getD m (0, 0) = w at *;obtain ⟨x1, x2⟩ := x;obtain ⟨w1, w2⟩ := w;simp only [eA] at e3 e4;simp only [Prod.mk.injEq, Ne] at hs3 hno3;repeat' (first|refine nv ?_|(with_reducible first|refine gG ?_ ?_|refine ⟨fun h => ?_, fun h => ?_⟩ <;> try omega|refine andG ?_)|simp (disch := try exact qa0) only [push_cast, simprocAttr, b2, b3, b5, b6, e1, e2, e3, e4])
       ·rw [decide_eq_false];exact hno3 (by omega)
       ·refine qb0 (r.length - (m + 1)) (by omega) (by first|exact wb0|fail) ⟨m + 1, by omega, rfl, rfl, ?_⟩;simp (disch := try exact qa0) only [push_cast, simprocAttr, b2, b3, b5, b6, e1, e2, e3, e4];exact hs3 (by omega)
      ·obtain rfl : m = r.length := by omega
       repeat' (first|refine nv ?_|(with_reducible first|refine gG ?_ ?_|refine ⟨fun h => ?_, fun h => ?_⟩ <;> try omega|refine andG ?_)|simp (disch := try exact qa0) only [push_cast, simprocAttr, b2, b3, b5, b6, e1, e2])
       refine qb0 (l.length - (k + 1)) (by omega) (by first|exact wb0|fail) ⟨k + 1, by omega, rfl, rfl, ?_⟩;simp (disch := try exact qa0) only [push_cast, simprocAttr, b2, b3, b5, b6, e1, e2];exact hs (qab9 (0, 0) (by omega) im)
   ·obtain rfl : k = l.length := by omega
    repeat' (first|refine nv ?_|(with_reducible first|refine gG ?_ ?_|refine ⟨fun h => ?_, fun h => ?_⟩ <;> try omega|refine andG ?_)|simp (disch := try exact qa0) only [push_cast, simprocAttr, b2, b3, b5])
    rw [decide_eq_true];refine ⟨by omega, by omega, qab9 [] (by simp [edgesOf]; omega) fun j hj => ?_⟩;rw [kd0, kd0];exact ik j (by simpa [edgesOf] using hj)
def xak9 (l r : List Row) (s i : Nat) : Ed := ⟨s, i, vcb9 l s i, vcb9 r s i⟩
def qv0 (x : Ed) : Bool := !(decide (x.old.1 = x.new.1) && decide (x.old.2 = x.new.2))
def zK0 (l r : List Row) (I s : Nat) : List Ed := ((List.range I).map (xak9 l r s)).filter qv0
def kC0 (l r : List Row) (S I : Nat) : List Ed := (List.range S).flatMap (zK0 l r I)
theorem zbb9 (l r : List Row) (I s : Nat) : zK0 l r (I + 1) s = zK0 l r I s ++ bif qv0 (xak9 l r s I) then [xak9 l r s I] else [] := by
 rw [zK0, List.range_succ, List.map_append, List.filter_append];simp only [List.map_cons, List.map_nil, List.filter_cons, List.filter_nil];cases qv0 (xak9 l r s I) <;> rfl
theorem xbb9 (l r : List Row) (S I : Nat) : kC0 l r (S + 1) I = kC0 l r S I ++ zK0 l r I S := by
 rw [kC0, List.range_succ, List.flatMap_append]; simp [kC0]
def accE (l r : List Row) (I k j : Nat) : List Ed := kC0 l r k I ++ zK0 l r j k
def vda9 (i o : Int) (l : List Row) (o' : Int) (r : List Row) : Pt := ⟨i, o, o', l.length, r.length, kC0 l r (max l.length r.length) i.toNat⟩
def Wide (i : Int) (l : List Row) : Prop := ∀ s, s < l.length → ((l.getD s ([], none)).1.length : Int) = i
theorem Wide.len {i : Int} {l : List Row} (h : Wide i l) (s k : Nat) (hk : (k : Int) < i) : (s : Int) < l.length → (k : Int) < wbw9 l s := fun hs => by
 have := h s (by omega);unfold wbw9;rw [Int.toNat_natCast];omega
attribute [push_cast] ke0 wh0 wj0 wl0 qav9
def verC (i o : Int) (l : List Row) (c : Option Nat) : List AV := [.int .i64 i, .int .i64 o, .sl 1 (xb0 l) c]
set_option maxRecDepth 100000 in
theorem xdq9 (i o : Int) (l : List Row) (c : Option Nat) (i' o' : Int) (r : List Row) (d : Option Nat) : PC Tryd.prog G0 41 [mA i o l c, mA i' o' r d] (.fn 73 [.iptr (verC i o l c) 0, .iptr (verC i' o' r d) 0, .iptr [.fn 67 []] 0]) := by
 unfold mA verC;refine wf0 3 7 [.tmp 4] Tryd.func41 rfl rfl rfl (by simp) ?_;intro s ⟨a0, a1, hz⟩;simp only [Nat.zero_add, Nat.reduceAdd] at a1;clear hz;repeat' (first|refine nv ?_|(with_reducible first|refine gG ?_ ?_|refine ⟨fun h => ?_, fun h => ?_⟩ <;> try omega|refine andG ?_)|simp (disch := try exact qa0) only [push_cast, simprocAttr, a0, a1])
def waA9 (l r : List Row) (I q : Nat) : Ed := xak9 l r (q / I) (q % I)
theorem qaO9 (l r : List Row) (I s i : Nat) (hi : i < I) : waA9 l r I (s * I + i) = xak9 l r s i := by
 rw [waA9, Nat.mul_comm, Nat.mul_add_div (by omega), Nat.div_eq_of_lt hi, Nat.mul_add_mod, Nat.mod_eq_of_lt hi, Nat.add_zero]
theorem vcA9 {s S i I : Nat} (hs : s < S) (hi : i < I) : s * I + i < S * I := by
 have : (s + 1) * I ≤ S * I := Nat.mul_le_mul_right I hs;rw [Nat.succ_mul] at this;omega
set_option maxRecDepth 100000 in
theorem wdq9 (i o : Int) (l : List Row) (c : Option Nat) (i' o' : Int) (r : List Row) (d : Option Nat) (hi : 1 ≤ i ∧ i ≤ 1000) (hl : l.length ≤ 1000) (hr : r.length ≤ 1000) (wl : Wide i l) (wr : Wide i r) :
  Iter Tryd.prog G0 73 [.iptr (verC i o l c) 0, .iptr (verC i' o' r d) 0, .iptr [.fn 67 []] 0] (fun q => [.agg (xA (waA9 l r i.toNat q))]) (max l.length r.length * i.toNat) := by
 intro K b q stop hs1 hs2 hy hz;unfold verC;refine vQ0 40 [] Tryd.func73 rfl rfl rfl (by simp) ?_;intro s ⟨a0, a1, a2, a3, hz⟩;simp only [Nat.zero_add, Nat.reduceAdd] at a1 a2 a3;clear hz;repeat' (first|refine nv ?_|(with_reducible first|refine gG ?_ ?_|refine ⟨fun h => ?_, fun h => ?_⟩ <;> try omega|refine andG ?_)|simp (disch := try exact qa0) only [push_cast, simprocAttr, a0, a1, a2, a3])
 have hmax : (if (l.length : Int) < r.length then (r.length : Int) else l.length) = ((max l.length r.length : Nat) : Int) := by split <;> omega
 have hmax' : (if (r.length : Int) > l.length then (r.length : Int) else l.length) = ((max l.length r.length : Nat) : Int) := by split <;> omega
 have hq : q ≤ max l.length r.length * i.toNat := by
  cases stop with
  | true => have := hs1 rfl; omega
  | false => have := hs2 rfl; omega
 generalize hS : max l.length r.length = S at *;generalize hI : i.toNat = I at *;refine go_loop rfl (fun mz s' H' => ∃ k : Nat, k ≤ S ∧ mz = S - k ∧ H' = K (k * I) ∧ s' 0 = .yld b ∧ s' 1 = .iptr [.int .i64 i, .int .i64 o, .sl 1 (xb0 l) c] 0 ∧ s' 2 = .iptr [.int .i64 i', .int .i64 o', .sl 1 (xb0 r) d] 0 ∧ s' 3 = .iptr [.fn 67 []] 0 ∧ s' 13 = .int .i64 S ∧ s' 14 = .int .i64 k ∧ k * I ≤ q) (m := S) (by first|exact wb0|fail) (Weak.refl _ _) ⟨0, by omega, by omega, (by first|rfl|simp [Nat.zero_mul]), ?_⟩ ?_
 ·simp (disch := try exact qa0) only [push_cast, simprocAttr, a0, a1, a2, a3, hmax, hmax'];exact ⟨by congr 1; split <;> omega, by omega⟩
 ·rintro mz s' H' ⟨k, hk, rfl, rfl, b0, b1, b2, b3, b13, b14, ik⟩;rcases Nat.lt_or_ge k S with hlt|hge
  ·have hki : k * I + I ≤ S * I := by rw [← Nat.succ_mul]; exact Nat.mul_le_mul_right I hlt
   repeat' (first|refine nv ?_|(with_reducible first|refine gG ?_ ?_|refine ⟨fun h => ?_, fun h => ?_⟩ <;> try omega|refine andG ?_)|simp (disch := try exact qa0) only [push_cast, simprocAttr, b0, b1, b2, b3, b13, b14])
   refine go_loop rfl (fun mz s' H' => ∃ j : Nat, j ≤ I ∧ mz = I - j ∧ H' = K (k * I + j) ∧ s' 0 = .yld b ∧ s' 1 = .iptr [.int .i64 i, .int .i64 o, .sl 1 (xb0 l) c] 0 ∧ s' 2 = .iptr [.int .i64 i', .int .i64 o', .sl 1 (xb0 r) d] 0 ∧ s' 3 = .iptr [.fn 67 []] 0 ∧ s' 13 = .int .i64 S ∧ s' 14 = .int .i64 k ∧ s' 5 = .int .i64 k ∧ s' 18 = .int .i64 I ∧ s' 19 = .int .i64 j ∧ k * I + j ≤ q) (m := I) (by first|exact wb0|fail) (Weak.refl _ _) ⟨0, by omega, by omega, (by first|rfl|simp [Nat.add_zero]), ?_⟩ ?_
   ·simp (disch := try exact qa0) only [push_cast, simprocAttr, b0, b1, b2, b3, b13, b14];exact ⟨by congr 1; omega, by omega⟩
   ·rintro mz s' H' ⟨j, hj, rfl, rfl, b0, b1, b2, b3, b13, b14, b5, b18, b19, ij⟩;rcases Nat.lt_or_ge j I with hlt2|hge2
    ·have hpl := vcA9 hlt hlt2;have hE1 := zcM9 i o l c k j (by omega) (by omega) (wl.len k j (by omega));have hE2 := zcM9 i' o' r d k j (by omega) (by omega) (wr.len k j (by omega));unfold mA eA at hE1 hE2;have hyj := hy (k * I + j);have hzj := hz;simp only [qaO9 l r I k j hlt2, xak9, xA] at hyj;rcases Nat.lt_or_ge (k * I + j) q with h3|h3
     ·have hyj := hyj h3;repeat' (first|(first|refine nav ?_|(refine g0_ ?_; first|refine wg0 (dr := exQ [22] []) rfl rfl mixed (by first|assumption|kernel_rfl) ?_|refine goD ?_))|(with_reducible first|refine gG ?_ ?_|refine ⟨fun h => ?_, fun h => ?_⟩ <;> try omega|refine andG ?_)|refine cp_ hE1 ?_|refine cp_ hE2 ?_|refine cl_ hyj ?_|simp (disch := try exact qa0) only [push_cast, simprocAttr, b0, b1, b2, b3, b13, b14, b5, b18, b19, en67, List.contains_cons, List.contains_nil, Nat.reduceBEq])
      refine qb0 (I - (j + 1)) (by omega) (by first|exact wb0|fail) ⟨j + 1, by omega, rfl, by rw [Nat.add_assoc], ?_⟩;simp (disch := try exact qa0) only [push_cast, simprocAttr, b0, b1, b2, b3, b13, b14, b5, b18, b19, en67, List.contains_cons, List.contains_nil, Nat.reduceBEq];omega
     ·cases stop with
      | false => have := hs2 rfl; omega
      | true =>
       obtain rfl : k * I + j = q := by omega
       have hzj := hzj rfl;simp only [qaO9 l r I k j hlt2, xak9, xA] at hzj;repeat' (first|(first|refine nav ?_|(refine g0_ ?_; first|refine wg0 (dr := exQ [22] []) rfl rfl mixed (by first|assumption|kernel_rfl) ?_|refine goD ?_))|(with_reducible first|refine gG ?_ ?_|refine ⟨fun h => ?_, fun h => ?_⟩ <;> try omega|refine andG ?_)|refine cp_ hE1 ?_|refine cp_ hE2 ?_|refine cl_ hzj ?_|simp (disch := try exact qa0) only [push_cast, simprocAttr, b0, b1, b2, b3, b13, b14, b5, b18, b19, en67, List.contains_cons, List.contains_nil, Nat.reduceBEq])
    ·obtain rfl : j = I := by omega
     repeat' (first|(first|refine nav ?_|(refine g0_ ?_; first|refine wg0 (dr := exQ [22] []) rfl rfl mixed (by first|assumption|kernel_rfl) ?_|refine goD ?_))|(with_reducible first|refine gG ?_ ?_|refine ⟨fun h => ?_, fun h => ?_⟩ <;> try omega|refine andG ?_)|simp (disch := try exact qa0) only [push_cast, simprocAttr, b0, b1, b2, b3, b13, b14, b5, b18, b19])
     refine qb0 (S - (k + 1)) (by omega) (by first|exact wb0|fail) ⟨k + 1, by omega, rfl, by rw [Nat.succ_mul], ?_⟩;simp (disch := try exact qa0) only [push_cast, simprocAttr, b0, b1, b2, b3, b13, b14, b5, b18, b19];rw [Nat.succ_mul]; omega
  ·obtain rfl : k = S := by omega
   repeat' (first|(first|refine nav ?_|(refine g0_ ?_; first|refine wg0 (dr := exQ [22] []) rfl rfl mixed (by first|assumption|kernel_rfl) ?_|refine goD ?_))|(with_reducible first|refine gG ?_ ?_|refine ⟨fun h => ?_, fun h => ?_⟩ <;> try omega|refine andG ?_)|simp (disch := try exact qa0) only [push_cast, simprocAttr, b0, b1, b2, b3, b13, b14])
   cases stop with
   | true => have := hs1 rfl; omega
   | false =>
    rw [hs2 rfl];rfl
end Go.Proofs
