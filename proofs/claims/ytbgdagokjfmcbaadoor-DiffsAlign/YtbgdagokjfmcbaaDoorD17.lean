import Derived.Test.YtbgdagokjfmcbaaDoorD16
import Derived.Test.YtbgdagokjfmcbaaDoorV50
namespace Go.Proofs
open Go Go.V
set_option linter.unusedVariables false
set_option linter.unusedSimpArgs false
set_option maxHeartbeats 0
def midN (nb k : Nat) : List Int := List.replicate k (-1) ++ List.replicate (nb - k) 0
theorem vbo9 (nb k : Nat) (h : k ≤ nb) : (midN nb k).length = nb := by simp [midN]; omega
theorem kcB9 (nb k : Nat) (h : k < nb) : (midN nb k).set k (-1) = midN nb (k + 1) := by
 have e : nb - k = (nb - (k + 1)) + 1 := by omega
 rw [midN, List.set_append_right _ _ (by simp), List.length_replicate, Nat.sub_self, e, List.replicate_succ, List.set_cons_zero, midN, List.replicate_succ', List.append_assoc];rfl
theorem vk0 (xs : List Int) (k : Nat) (v : Int) : (ints xs).set k [.int .i64 v] = ints (xs.set k v) := by rw [ints, ints, List.map_set]
theorem qk0 (xs : List Bool) (k : Nat) (v : Bool) : (xi0 xs).set k [.bool v] = xi0 (xs.set k v) := by rw [xi0, xi0, List.map_set]
theorem qcC9 (nb : Nat) : outM nb [] = List.replicate nb (-1) := by
 refine List.ext_getElem (by simp [outM]) fun k h1 h2 => ?_;simp [outM, vn0]
theorem qbK9 (na : Nat) : vm0 na [] = List.replicate na false := by
 refine List.ext_getElem (by simp [vm0]) fun k h1 h2 => ?_;simp [vm0]
theorem vbb9 (nb : Nat) : (midN nb nb).set 0 0 = outM nb [(0, 0)] := by
 have := qL0 (nb := nb) (P := []) (s := 0) (t := 0) (by omega) (by simp);rw [qcC9] at this;rw [midN, Nat.sub_self, List.replicate_zero, List.append_nil];exact this
theorem wav9 (na : Nat) : (List.replicate na false).set 0 true = vm0 na [(0, 0)] := by
 have := kz0 (na := na) (P := []) (s := 0) (t := 0) (by omega);rw [qbK9] at this;simpa using this
theorem zk0 (n : Nat) (b : Bool) : List.replicate n [AV.bool b] = xi0 (List.replicate n b) := by simp [xi0]
theorem qD0 (n : Nat) (b : Int) : List.replicate n [AV.int .i64 b] = ints (List.replicate n b) := by simp [ints]
theorem kbo9 (la lb : List Row) (I F : Nat) (P : PP) : goP la lb I F P.length P = P := by
 cases F <;> simp [goP]
theorem zv0 {P : PP} {k : Nat} (h : k < P.length) : P.getD k (0, 0) ∈ P := by
 rw [List.getD_eq_getElem?_getD, List.getElem?_eq_getElem h]; exact List.getElem_mem h
set_option maxRecDepth 100000 in
theorem kbb9 (i o : Int) (la : List Row) (c : Option Nat) (i' o' : Int) (lb : List Row) (d : Option Nat) (I : Nat) (hI : 1 ≤ I ∧ I ≤ 1000) (hna : 1 ≤ la.length ∧ la.length ≤ 1000) (hnb : 1 ≤ lb.length ∧ lb.length ≤ 1000)
  (wa : ∀ s, s < la.length → (la.getD s ([], none)).1.length = I) (wb : ∀ s, s < lb.length → (lb.getD s ([], none)).1.length = I) (ga : qaB9 I la.length la) (gb : qaB9 I lb.length lb) :
  qg0 Tryd.prog G0 50 [mA i o la c, mA i' o' lb d] [] (.own 2 lb.length lb.length (some lb.length)) [.row 3 30 [[.int .i64 i, .int .i64 o, .sl 1 (xb0 la) c]], .row 3 30 [[.int .i64 i', .int .i64 o', .sl 1 (xb0 lb) d]], .row 1 3 (ints (outM lb.length (pairsP la lb I)))] := by
 unfold mA;refine vQ0 106 [.tmp 4] Tryd.func50 rfl rfl rfl (by simp) ?_;intro s ⟨a0, a1, hz⟩;simp only [Nat.zero_add, Nat.reduceAdd] at a1;clear hz;repeat' (first|refine nv ?_|(with_reducible first|refine gG ?_ ?_|refine ⟨fun h => ?_, fun h => ?_⟩ <;> try omega|refine andG ?_)|simp (disch := try exact qa0) only [push_cast, simprocAttr, a0, a1, qD0, zk0])
 refine go_loop rfl (fun mz s' H' => ∃ q : Nat, q ≤ lb.length ∧ mz = lb.length - q ∧ H' = [.row 3 30 [[.int .i64 i, .int .i64 o, .sl 1 (xb0 la) c]], .row 3 30 [[.int .i64 i', .int .i64 o', .sl 1 (xb0 lb) d]], .row 1 3 (ints (midN lb.length q))] ∧ s' 2 = .ptr 0 0 0 1 ∧ s' 3 = .ptr 1 0 0 1 ∧ s' 5 = .own 2 lb.length lb.length (some lb.length) ∧ s' 19 = .int .i64 lb.length ∧ s' 20 = .int .i64 q) (m := lb.length) (by first|exact wb0|fail) (Weak.refl _ _) ⟨0, by omega, by omega, (by first|rfl|simp [midN, List.replicate_zero, Nat.sub_zero, List.nil_append]), ?_⟩ ?_
 ·simp (disch := try exact qa0) only [push_cast, simprocAttr, a0, a1, qD0, zk0]
 ·rintro mz s' H' ⟨q, hq, rfl, rfl, b2, b3, b5, b19, b20⟩;have e0 : (midN lb.length q).length = lb.length := vbo9 _ _ hq;rcases Nat.lt_or_ge q lb.length with hlt|hge
  ·have e1 := kcB9 lb.length q hlt;have e2 := wc0 (midN lb.length q) q (by omega);repeat' (first|refine nv ?_|(with_reducible first|refine gG ?_ ?_|refine ⟨fun h => ?_, fun h => ?_⟩ <;> try omega|refine andG ?_)|simp (disch := try exact qa0) only [push_cast, simprocAttr, b2, b3, b5, b19, b20, e0, vk0, e1, e2])
   refine qb0 (lb.length - (q + 1)) (by omega) (by first|exact wb0|fail) ⟨q + 1, by omega, rfl, rfl, ?_⟩;simp (disch := try exact qa0) only [push_cast, simprocAttr, b2, b3, b5, b19, b20, e0, vk0, e1, e2]
  ·obtain rfl : q = lb.length := by omega
   have e3 := wc0 (midN lb.length lb.length) 0 (by omega);have e4 := ql0 (List.replicate la.length false) 0 (by simp; omega);have ok0 : OkP la.length lb.length [(0, 0)] := ⟨fun x hx => by simp at hx; subst hx; dsimp only; omega, by simp⟩;repeat' (first|refine nv ?_|(with_reducible first|refine gG ?_ ?_|refine ⟨fun h => ?_, fun h => ?_⟩ <;> try omega|refine andG ?_)|simp (disch := try exact qa0) only [push_cast, simprocAttr, b2, b3, b5, b19, b20, e0, e3, e4, vk0, qk0, vbb9, wav9, zk0])
   refine go_loop rfl (fun m s' H' => ∃ (k : Nat) (P : PP), k ≤ P.length ∧ m = lb.length + 1 - k ∧ OkP la.length lb.length P ∧ pairsP la lb I = goP la lb I (lb.length + 1 - k) k P ∧ s' 9 = .int .i64 k ∧ s' 2 = .ptr 0 0 0 1 ∧ s' 3 = .ptr 1 0 0 1 ∧ s' 5 = .own 2 lb.length lb.length (some lb.length) ∧ s' 7 = .own 3 la.length la.length (some la.length) ∧ ((P = [(0, 0)] ∧ H' = [.row 3 30 [[.int .i64 i, .int .i64 o, .sl 1 (xb0 la) c]], .row 3 30 [[.int .i64 i', .int .i64 o', .sl 1 (xb0 lb) d]], .row 1 3 (ints (outM lb.length P)), .row 1 4 (xi0 (vm0 la.length P))] ∧ s' 8 = .sl 1 [[.int .i64 0]] (some 1)) ∨ (H' = [.row 3 30 [[.int .i64 i, .int .i64 o, .sl 1 (xb0 la) c]], .row 3 30 [[.int .i64 i', .int .i64 o', .sl 1 (xb0 lb) d]], .row 1 3 (ints (outM lb.length P)), .row 1 4 (xi0 (vm0 la.length P)), .row 2 0 [[], []], .row 1 3 (ints (P.map (·.2)))] ∧ s' 8 = .own 5 P.length P.length none))) (m := lb.length + 1) (by first|exact wb0|fail) (Weak.refl _ _) ⟨0, [(0, 0)], by simp, rfl, ok0, rfl, ?_⟩ ?_
   ·simp (disch := try exact qa0) only [push_cast, simprocAttr, b2, b3, b5, b19, b20, e0, e3, e4, vk0, qk0, vbb9, wav9, zk0]
   ·clear ok0;rintro mz s' H' ⟨k, P, hk, rfl, okP, hgo, b9, b2, b3, b5, b7, hst⟩;have hln := okP.len;rcases hst with ⟨hP, rfl, b8⟩|⟨rfl, b8⟩
    ·-- the queue as the text lays it
     rcases Nat.lt_or_ge k P.length with hlt|hge
     ·have hx := zv0 hlt;have hxb := okP.b _ hx;have hF : lb.length + 1 - k = (lb.length + 1 - (k + 1)) + 1 := by omega
      rw [hF, goP, if_pos hlt] at hgo;obtain rfl : k = 0 := by subst hP; simp at hlt; omega
      have eq0 : P.getD 0 (0, 0) = (0, 0) := by subst hP; rfl
      have eqk : ([[.int .i64 0]] : List (List AV)).getD 0 [] = [.int .i64 (P.getD 0 (0, 0)).2] := by rw [eq0]; rfl
      have b9 : s' 9 = .int .i64 0 := b9;generalize P.getD 0 (0, 0) = x at *;have erb := xf0 lb x.2.toNat (by omega);have wrb := wb x.2.toNat (by omega);have tob : ∀ j : Nat, toAt lb x.2 j = ((lb.getD x.2.toNat ([], none)).1.getD j (0, 0)).1 := fun j => rfl;generalize (lb.getD x.2.toNat ([], none)).1 = rb at *;generalize (lb.getD x.2.toNat ([], none)).2 = cb at *;repeat' (first|refine nv ?_|(with_reducible first|refine gG ?_ ?_|refine ⟨fun h => ?_, fun h => ?_⟩ <;> try omega|refine andG ?_)|simp (disch := try exact qa0) only [push_cast, simprocAttr, b9, b2, b3, b5, b7, b8, eqk, erb, za0, wrb])
      refine go_loop rfl (fun m s' H' => ∃ (j : Nat) (R : PP), j ≤ I ∧ m = I - j ∧ OkP la.length lb.length R ∧ R = rowP la lb x P j ∧ s' 9 = .int .i64 0 ∧ s' 2 = .ptr 0 0 0 1 ∧ s' 3 = .ptr 1 0 0 1 ∧ s' 5 = .own 2 lb.length lb.length (some lb.length) ∧ s' 7 = .own 3 la.length la.length (some la.length) ∧ s' 10 = .int .i64 x.2 ∧ s' 50 = .sl 2 (rowA rb) cb ∧ s' 51 = .int .i64 I ∧ s' 52 = .int .i64 j ∧ ((R = [(0, 0)] ∧ H' = [.row 3 30 [[.int .i64 i, .int .i64 o, .sl 1 (xb0 la) c]], .row 3 30 [[.int .i64 i', .int .i64 o', .sl 1 (xb0 lb) d]], .row 1 3 (ints (outM lb.length R)), .row 1 4 (xi0 (vm0 la.length R))] ∧ s' 8 = .sl 1 [[.int .i64 0]] (some 1)) ∨ (H' = [.row 3 30 [[.int .i64 i, .int .i64 o, .sl 1 (xb0 la) c]], .row 3 30 [[.int .i64 i', .int .i64 o', .sl 1 (xb0 lb) d]], .row 1 3 (ints (outM lb.length R)), .row 1 4 (xi0 (vm0 la.length R)), .row 2 0 [[], []], .row 1 3 (ints (R.map (·.2)))] ∧ s' 8 = .own 5 R.length R.length none))) (m := I) (by first|exact wb0|fail) (Weak.refl _ _) ⟨0, P, by omega, rfl, okP, rfl, ?_⟩ ?_
      ·simp (disch := try exact qa0) only [push_cast, simprocAttr, b9, b2, b3, b5, b7, b8];simp [hP, eq0]
      ·skip
       rintro m2 s' H' ⟨j, R, hj, rfl, okR, hR, b9, b2, b3, b5, b7, b10, b50, b51, b52, hst⟩;rcases Nat.lt_or_ge j I with hlt2|hge2
       ·have hxR : x ∈ R := by
         obtain ⟨l, hl⟩ := qq0 la lb x P j;rw [hR, hl]; exact List.mem_append_left _ hx
        have hlnR := okR.len;have en : vn0 R x.2 = x.1 := kD0 okR hxR;have eo := wc0 (outM lb.length R) x.2.toNat (by rw [vd0]; omega);rw [qE0 _ (by omega), show ((x.2.toNat : Nat) : Int) = x.2 by omega, en] at eo;have era := xf0 la x.1.toNat (by omega);have wra := wa x.1.toNat (by omega);have toa : toAt la x.1 j = ((la.getD x.1.toNat ([], none)).1.getD j (0, 0)).1 := rfl;have la1 := ga x.1.toNat j (by omega) hlt2;have lb1 := gb x.2.toNat j (by omega) hlt2;rw [show ((x.1.toNat : Nat) : Int) = x.1 by omega] at la1;rw [show ((x.2.toNat : Nat) : Int) = x.2 by omega] at lb1;have tobj := tob j;have hstep : rowP la lb x P (j + 1) = stepP la lb x R j := by rw [rowP, ← hR]
        unfold stepP at hstep;rw [zbx9 okR, toa, tobj] at hstep;rw [toa] at la1;rw [tobj] at lb1;generalize (la.getD x.1.toNat ([], none)).1 = ra at *;generalize (la.getD x.1.toNat ([], none)).2 = ca at *;have erj := zg0 ra j (by omega);have ebj := zg0 rb j (by omega);generalize ra.getD j (0, 0) = e at *;generalize rb.getD j (0, 0) = f at *;obtain ⟨s, so⟩ := e;obtain ⟨t, tq⟩ := f;simp only [eA] at erj ebj;dsimp only at hstep la1 lb1;rcases hst with ⟨hR0, rfl, b8⟩|⟨rfl, b8⟩
        ·skip
         by_cases h1 : s = -1
         ·subst h1;have hstep : rowP la lb x P (j + 1) = R := by rw [hstep]; simp
          repeat' (first|refine nv ?_|(with_reducible first|refine gG ?_ ?_|refine ⟨fun h => ?_, fun h => ?_⟩ <;> try omega|refine andG ?_)|simp (disch := try exact qa0) only [push_cast, simprocAttr, b9, b2, b3, b5, b7, b10, b50, b51, b52, b8, eo, era, erj, ebj, za0, wra, wrb, vd0, qd0, Int.reduceNeg, hlt2])
          refine va0 (I - (j + 1)) 4 (by omega) (by first|exact wb0|fail) (by omega) (by simp) (by simp [Blk.below, idsE, idsL, AV.ids]) ⟨j + 1, R, by omega, rfl, okR, hstep.symm, ?_⟩;simp (disch := try exact qa0) only [push_cast, simprocAttr, b9, b2, b3, b5, b7, b10, b50, b51, b52, b8, qe0, AV.ids, idsL, hR0]
         ·have ets := ql0 (vm0 la.length R) s.toNat (by rw [qd0]; omega);rw [xG0 _ (by omega), show ((s.toNat : Nat) : Int) = s by omega] at ets;by_cases h2 : t = -1
          ·subst h2;have hstep : rowP la lb x P (j + 1) = R := by rw [hstep]; simp
           repeat' (first|refine nv ?_|(with_reducible first|refine gG ?_ ?_|refine ⟨fun h => ?_, fun h => ?_⟩ <;> try omega|refine andG ?_)|simp (disch := try exact qa0) only [push_cast, simprocAttr, b9, b2, b3, b5, b7, b10, b50, b51, b52, b8, eo, era, erj, ebj, za0, wra, wrb, vd0, qd0, Int.reduceNeg, h1])
           refine va0 (I - (j + 1)) 4 (by omega) (by first|exact wb0|fail) (by omega) (by simp) (by simp [Blk.below, idsE, idsL, AV.ids]) ⟨j + 1, R, by omega, rfl, okR, hstep.symm, ?_⟩;simp (disch := try exact qa0) only [push_cast, simprocAttr, b9, b2, b3, b5, b7, b10, b50, b51, b52, b8, qe0, AV.ids, idsL, hR0]
          ·have egt := wc0 (outM lb.length R) t.toNat (by rw [vd0]; omega);rw [qE0 _ (by omega), show ((t.toNat : Nat) : Int) = t by omega] at egt;have hn2 := kK0 okR (t := t);have eS3 := (qk0 (vm0 la.length R) s.toNat true).trans (congrArg xi0 (kz0 (na := la.length) (P := R) (s := s) (t := t) (by omega)));have eS2 := fun h => (vk0 (outM lb.length R) t.toNat s).trans (congrArg ints (qL0 (nb := lb.length) (P := R) (s := s) (t := t) (by omega) h));generalize (R.any fun x => decide (x.1 = s)) = bs at *;generalize vn0 R t = nn at *;cases bs with
           | true =>
            have hstep : rowP la lb x P (j + 1) = R := by rw [hstep]; simp
            repeat' (first|refine nv ?_|(with_reducible first|refine gG ?_ ?_|refine ⟨fun h => ?_, fun h => ?_⟩ <;> try omega|refine andG ?_)|simp (disch := try exact qa0) only [push_cast, simprocAttr, b9, b2, b3, b5, b7, b10, b50, b51, b52, b8, eo, era, erj, ebj, za0, wra, wrb, vd0, qd0, Int.reduceNeg, h1, h2, ets])
            refine va0 (I - (j + 1)) 4 (by omega) (by first|exact wb0|fail) (by omega) (by simp) (by simp [Blk.below, idsE, idsL, AV.ids]) ⟨j + 1, R, by omega, rfl, okR, hstep.symm, ?_⟩;simp (disch := try exact qa0) only [push_cast, simprocAttr, b9, b2, b3, b5, b7, b10, b50, b51, b52, b8, qe0, AV.ids, idsL, hR0]
           | false =>
            by_cases h3 : nn = -1
            ·subst h3;have hno := hn2.1 rfl;have eS2 := eS2 hno;have okR2 := okR.snoc (s := s) (t := t) (by omega) (by omega) hno;have hstep : rowP la lb x P (j + 1) = R ++ [(s, t)] := by rw [hstep]; simp [h1, h2]
             repeat' (first|refine nv ?_|(with_reducible first|refine gG ?_ ?_|refine ⟨fun h => ?_, fun h => ?_⟩ <;> try omega|refine andG ?_)|simp (disch := try exact qa0) only [push_cast, simprocAttr, b9, b2, b3, b5, b7, b10, b50, b51, b52, b8, eo, era, erj, ebj, za0, wra, wrb, vd0, qd0, Int.reduceNeg, h1, h2, ets, egt, eS2, eS3])
             refine vS0 (I - (j + 1)) 6 (b := 4) rfl (by omega) (by first|exact wb0|fail) (by omega) (by simp) (by simp [Blk.below, idsE, idsL, AV.ids, zd0]) ⟨j + 1, R ++ [(s, t)], by omega, rfl, okR2, hstep.symm, ?_⟩;simp (disch := try exact qa0) only [push_cast, simprocAttr, b9, b2, b3, b5, b7, b10, b50, b51, b52, b8, qe0, AV.ids, idsL, hR0];exact .inr (by simp [zd0, hR0, ints, List.replicate])
            ·have hstep : rowP la lb x P (j + 1) = R := by rw [hstep]; simp [h3]
             repeat' (first|refine nv ?_|(with_reducible first|refine gG ?_ ?_|refine ⟨fun h => ?_, fun h => ?_⟩ <;> try omega|refine andG ?_)|simp (disch := try exact qa0) only [push_cast, simprocAttr, b9, b2, b3, b5, b7, b10, b50, b51, b52, b8, eo, era, erj, ebj, za0, wra, wrb, vd0, qd0, Int.reduceNeg, h1, h2, h3, ets, egt])
             refine va0 (I - (j + 1)) 4 (by omega) (by first|exact wb0|fail) (by omega) (by simp) (by simp [Blk.below, idsE, idsL, AV.ids]) ⟨j + 1, R, by omega, rfl, okR, hstep.symm, ?_⟩;simp (disch := try exact qa0) only [push_cast, simprocAttr, b9, b2, b3, b5, b7, b10, b50, b51, b52, b8, qe0, AV.ids, idsL, hR0]
        ·have hR0 : True := trivial;have eql2 : (ints (R.map (·.2))).length = R.length := by simp [zb0]
         by_cases h1 : s = -1
         ·subst h1;have hstep : rowP la lb x P (j + 1) = R := by rw [hstep]; simp
          repeat' (first|refine nv ?_|(with_reducible first|refine gG ?_ ?_|refine ⟨fun h => ?_, fun h => ?_⟩ <;> try omega|refine andG ?_)|simp (disch := try exact qa0) only [push_cast, simprocAttr, b9, b2, b3, b5, b7, b10, b50, b51, b52, b8, eo, era, erj, ebj, za0, wra, wrb, vd0, qd0, Int.reduceNeg, hlt2, eql2])
          refine va0 (I - (j + 1)) 6 (by omega) (by first|exact wb0|fail) (by omega) (by simp) (by simp [Blk.below, idsE, idsL, AV.ids]) ⟨j + 1, R, by omega, rfl, okR, hstep.symm, ?_⟩;simp (disch := try exact qa0) only [push_cast, simprocAttr, b9, b2, b3, b5, b7, b10, b50, b51, b52, b8, qe0, AV.ids, idsL, hR0];first|done|(right; simp [ints])
         ·have ets := ql0 (vm0 la.length R) s.toNat (by rw [qd0]; omega);rw [xG0 _ (by omega), show ((s.toNat : Nat) : Int) = s by omega] at ets;by_cases h2 : t = -1
          ·subst h2;have hstep : rowP la lb x P (j + 1) = R := by rw [hstep]; simp
           repeat' (first|refine nv ?_|(with_reducible first|refine gG ?_ ?_|refine ⟨fun h => ?_, fun h => ?_⟩ <;> try omega|refine andG ?_)|simp (disch := try exact qa0) only [push_cast, simprocAttr, b9, b2, b3, b5, b7, b10, b50, b51, b52, b8, eo, era, erj, ebj, za0, wra, wrb, vd0, qd0, Int.reduceNeg, h1, eql2])
           refine va0 (I - (j + 1)) 6 (by omega) (by first|exact wb0|fail) (by omega) (by simp) (by simp [Blk.below, idsE, idsL, AV.ids]) ⟨j + 1, R, by omega, rfl, okR, hstep.symm, ?_⟩;simp (disch := try exact qa0) only [push_cast, simprocAttr, b9, b2, b3, b5, b7, b10, b50, b51, b52, b8, qe0, AV.ids, idsL, hR0];first|done|(right; simp [ints])
          ·have egt := wc0 (outM lb.length R) t.toNat (by rw [vd0]; omega);rw [qE0 _ (by omega), show ((t.toNat : Nat) : Int) = t by omega] at egt;have hn2 := kK0 okR (t := t);have eS3 := (qk0 (vm0 la.length R) s.toNat true).trans (congrArg xi0 (kz0 (na := la.length) (P := R) (s := s) (t := t) (by omega)));have eS2 := fun h => (vk0 (outM lb.length R) t.toNat s).trans (congrArg ints (qL0 (nb := lb.length) (P := R) (s := s) (t := t) (by omega) h));generalize (R.any fun x => decide (x.1 = s)) = bs at *;generalize vn0 R t = nn at *;cases bs with
           | true =>
            have hstep : rowP la lb x P (j + 1) = R := by rw [hstep]; simp
            repeat' (first|refine nv ?_|(with_reducible first|refine gG ?_ ?_|refine ⟨fun h => ?_, fun h => ?_⟩ <;> try omega|refine andG ?_)|simp (disch := try exact qa0) only [push_cast, simprocAttr, b9, b2, b3, b5, b7, b10, b50, b51, b52, b8, eo, era, erj, ebj, za0, wra, wrb, vd0, qd0, Int.reduceNeg, h1, h2, ets, eql2])
            refine va0 (I - (j + 1)) 6 (by omega) (by first|exact wb0|fail) (by omega) (by simp) (by simp [Blk.below, idsE, idsL, AV.ids]) ⟨j + 1, R, by omega, rfl, okR, hstep.symm, ?_⟩;simp (disch := try exact qa0) only [push_cast, simprocAttr, b9, b2, b3, b5, b7, b10, b50, b51, b52, b8, qe0, AV.ids, idsL, hR0];first|done|(right; simp [ints])
           | false =>
            by_cases h3 : nn = -1
            ·subst h3;have hno := hn2.1 rfl;have eS2 := eS2 hno;have okR2 := okR.snoc (s := s) (t := t) (by omega) (by omega) hno;have hstep : rowP la lb x P (j + 1) = R ++ [(s, t)] := by rw [hstep]; simp [h1, h2]
             repeat' (first|refine nv ?_|(with_reducible first|refine gG ?_ ?_|refine ⟨fun h => ?_, fun h => ?_⟩ <;> try omega|refine andG ?_)|simp (disch := try exact qa0) only [push_cast, simprocAttr, b9, b2, b3, b5, b7, b10, b50, b51, b52, b8, eo, era, erj, ebj, za0, wra, wrb, vd0, qd0, Int.reduceNeg, h1, h2, ets, egt, eS2, eS3, eql2])
             refine va0 (I - (j + 1)) 6 (by omega) (by first|exact wb0|fail) (by omega) (by simp) (by simp [Blk.below, idsE, idsL, AV.ids]) ⟨j + 1, R ++ [(s, t)], by omega, rfl, okR2, hstep.symm, ?_⟩;simp (disch := try exact qa0) only [push_cast, simprocAttr, b9, b2, b3, b5, b7, b10, b50, b51, b52, b8, qe0, AV.ids, idsL, hR0];first|done|(right; simp [ints])
            ·have hstep : rowP la lb x P (j + 1) = R := by rw [hstep]; simp [h3]
             repeat' (first|refine nv ?_|(with_reducible first|refine gG ?_ ?_|refine ⟨fun h => ?_, fun h => ?_⟩ <;> try omega|refine andG ?_)|simp (disch := try exact qa0) only [push_cast, simprocAttr, b9, b2, b3, b5, b7, b10, b50, b51, b52, b8, eo, era, erj, ebj, za0, wra, wrb, vd0, qd0, Int.reduceNeg, h1, h2, h3, ets, egt, eql2])
             refine va0 (I - (j + 1)) 6 (by omega) (by first|exact wb0|fail) (by omega) (by simp) (by simp [Blk.below, idsE, idsL, AV.ids]) ⟨j + 1, R, by omega, rfl, okR, hstep.symm, ?_⟩;simp (disch := try exact qa0) only [push_cast, simprocAttr, b9, b2, b3, b5, b7, b10, b50, b51, b52, b8, qe0, AV.ids, idsL, hR0];first|done|(right; simp [ints])
       ·obtain rfl : j = I := by omega
        rw [← hR] at hgo;rcases hst with ⟨hR0, rfl, b8⟩|⟨rfl, b8⟩
        ·skip
         repeat' (first|refine nv ?_|(with_reducible first|refine gG ?_ ?_|refine ⟨fun h => ?_, fun h => ?_⟩ <;> try omega|refine andG ?_)|simp (disch := try exact qa0) only [push_cast, simprocAttr, b9, b2, b3, b5, b7, b10, b50, b51, b52, b8])
         have hRl : 0 + 1 ≤ R.length := by obtain ⟨l, hl⟩ := qq0 la lb x P j; rw [hR, hl, List.length_append]; omega
         refine qb0 (lb.length + 1 - (0 + 1)) (by omega) (by first|exact wb0|fail) ⟨0 + 1, R, hRl, rfl, okR, hgo, ?_⟩;simp (disch := try exact qa0) only [push_cast, simprocAttr, b9, b2, b3, b5, b7, b10, b50, b51, b52, b8];exact .inl hR0
        ·skip
         repeat' (first|refine nv ?_|(with_reducible first|refine gG ?_ ?_|refine ⟨fun h => ?_, fun h => ?_⟩ <;> try omega|refine andG ?_)|simp (disch := try exact qa0) only [push_cast, simprocAttr, b9, b2, b3, b5, b7, b10, b50, b51, b52, b8])
         have hRl : 0 + 1 ≤ R.length := by obtain ⟨l, hl⟩ := qq0 la lb x P j; rw [hR, hl, List.length_append]; omega
         refine qb0 (lb.length + 1 - (0 + 1)) (by omega) (by first|exact wb0|fail) ⟨0 + 1, R, hRl, rfl, okR, hgo, ?_⟩;simp (disch := try exact qa0) only [push_cast, simprocAttr, b9, b2, b3, b5, b7, b10, b50, b51, b52, b8];try simp
     ·obtain rfl : k = P.length := by omega
      rw [kbo9] at hgo;have hl1 : P.length = 1 := by rw [hP]; rfl
      repeat' (first|(first|(with_reducible refine wx0 (p := [1, 1, 1, 1, 1, 1, 1]) ?_)|refine nav ?_|(refine g0_ ?_; first|refine goD ?_))|(with_reducible first|refine gG ?_ ?_|refine ⟨fun h => ?_, fun h => ?_⟩ <;> try omega|refine andG ?_)|simp (disch := try exact qa0) only [push_cast, simprocAttr, b9, b2, b3, b5, b7, b8, hl1])
      refine Halt.mk (zo0 (by first|exact wb0|fail) (wO0 (m := 3) (by omega) (by simp) (by simp [Blk.below, idsE, idsL, AV.ids])) ?_);repeat' (first|refine nv ?_|(with_reducible first|refine gG ?_ ?_|refine ⟨fun h => ?_, fun h => ?_⟩ <;> try omega|refine andG ?_)|simp (disch := try exact qa0) only [push_cast, simprocAttr, b9, b2, b3, b5, b7, b8, hgo, qe0, AV.ids, idsL])
    ·-- the queue that has grown
     rcases Nat.lt_or_ge k P.length with hlt|hge
     ·have hx := zv0 hlt;have hxb := okP.b _ hx;have hF : lb.length + 1 - k = (lb.length + 1 - (k + 1)) + 1 := by omega
      rw [hF, goP, if_pos hlt] at hgo;have eqk := wc0 (P.map (·.2)) k (by simpa using hlt);rw [show (P.map (·.2)).getD k 0 = (P.getD k (0, 0)).2 by simp [hlt]] at eqk;have eql : (ints (P.map (·.2))).length = P.length := by simp [zb0]
      generalize P.getD k (0, 0) = x at *;have erb := xf0 lb x.2.toNat (by omega);have wrb := wb x.2.toNat (by omega);have tob : ∀ j : Nat, toAt lb x.2 j = ((lb.getD x.2.toNat ([], none)).1.getD j (0, 0)).1 := fun j => rfl;generalize (lb.getD x.2.toNat ([], none)).1 = rb at *;generalize (lb.getD x.2.toNat ([], none)).2 = cb at *;repeat' (first|refine nv ?_|(with_reducible first|refine gG ?_ ?_|refine ⟨fun h => ?_, fun h => ?_⟩ <;> try omega|refine andG ?_)|simp (disch := try exact qa0) only [push_cast, simprocAttr, b9, b2, b3, b5, b7, b8, eqk, erb, za0, wrb, eql])
      refine go_loop rfl (fun m s' H' => ∃ (j : Nat) (R : PP), j ≤ I ∧ m = I - j ∧ OkP la.length lb.length R ∧ R = rowP la lb x P j ∧ s' 9 = .int .i64 k ∧ s' 2 = .ptr 0 0 0 1 ∧ s' 3 = .ptr 1 0 0 1 ∧ s' 5 = .own 2 lb.length lb.length (some lb.length) ∧ s' 7 = .own 3 la.length la.length (some la.length) ∧ s' 10 = .int .i64 x.2 ∧ s' 50 = .sl 2 (rowA rb) cb ∧ s' 51 = .int .i64 I ∧ s' 52 = .int .i64 j ∧ ((R = [(0, 0)] ∧ H' = [.row 3 30 [[.int .i64 i, .int .i64 o, .sl 1 (xb0 la) c]], .row 3 30 [[.int .i64 i', .int .i64 o', .sl 1 (xb0 lb) d]], .row 1 3 (ints (outM lb.length R)), .row 1 4 (xi0 (vm0 la.length R))] ∧ s' 8 = .sl 1 [[.int .i64 0]] (some 1)) ∨ (H' = [.row 3 30 [[.int .i64 i, .int .i64 o, .sl 1 (xb0 la) c]], .row 3 30 [[.int .i64 i', .int .i64 o', .sl 1 (xb0 lb) d]], .row 1 3 (ints (outM lb.length R)), .row 1 4 (xi0 (vm0 la.length R)), .row 2 0 [[], []], .row 1 3 (ints (R.map (·.2)))] ∧ s' 8 = .own 5 R.length R.length none))) (m := I) (by first|exact wb0|fail) (Weak.refl _ _) ⟨0, P, by omega, rfl, okP, rfl, ?_⟩ ?_
      ·simp (disch := try exact qa0) only [push_cast, simprocAttr, b9, b2, b3, b5, b7, b8]
      ·skip
       rintro m2 s' H' ⟨j, R, hj, rfl, okR, hR, b9, b2, b3, b5, b7, b10, b50, b51, b52, hst⟩;rcases Nat.lt_or_ge j I with hlt2|hge2
       ·have hxR : x ∈ R := by
         obtain ⟨l, hl⟩ := qq0 la lb x P j;rw [hR, hl]; exact List.mem_append_left _ hx
        have hlnR := okR.len;have en : vn0 R x.2 = x.1 := kD0 okR hxR;have eo := wc0 (outM lb.length R) x.2.toNat (by rw [vd0]; omega);rw [qE0 _ (by omega), show ((x.2.toNat : Nat) : Int) = x.2 by omega, en] at eo;have era := xf0 la x.1.toNat (by omega);have wra := wa x.1.toNat (by omega);have toa : toAt la x.1 j = ((la.getD x.1.toNat ([], none)).1.getD j (0, 0)).1 := rfl;have la1 := ga x.1.toNat j (by omega) hlt2;have lb1 := gb x.2.toNat j (by omega) hlt2;rw [show ((x.1.toNat : Nat) : Int) = x.1 by omega] at la1;rw [show ((x.2.toNat : Nat) : Int) = x.2 by omega] at lb1;have tobj := tob j;have hstep : rowP la lb x P (j + 1) = stepP la lb x R j := by rw [rowP, ← hR]
        unfold stepP at hstep;rw [zbx9 okR, toa, tobj] at hstep;rw [toa] at la1;rw [tobj] at lb1;generalize (la.getD x.1.toNat ([], none)).1 = ra at *;generalize (la.getD x.1.toNat ([], none)).2 = ca at *;have erj := zg0 ra j (by omega);have ebj := zg0 rb j (by omega);generalize ra.getD j (0, 0) = e at *;generalize rb.getD j (0, 0) = f at *;obtain ⟨s, so⟩ := e;obtain ⟨t, tq⟩ := f;simp only [eA] at erj ebj;dsimp only at hstep la1 lb1;rcases hst with ⟨hR0, rfl, b8⟩|⟨rfl, b8⟩
        ·skip
         by_cases h1 : s = -1
         ·subst h1;have hstep : rowP la lb x P (j + 1) = R := by rw [hstep]; simp
          repeat' (first|refine nv ?_|(with_reducible first|refine gG ?_ ?_|refine ⟨fun h => ?_, fun h => ?_⟩ <;> try omega|refine andG ?_)|simp (disch := try exact qa0) only [push_cast, simprocAttr, b9, b2, b3, b5, b7, b10, b50, b51, b52, b8, eo, era, erj, ebj, za0, wra, wrb, vd0, qd0, Int.reduceNeg, hlt2])
          refine va0 (I - (j + 1)) 4 (by omega) (by first|exact wb0|fail) (by omega) (by simp) (by simp [Blk.below, idsE, idsL, AV.ids]) ⟨j + 1, R, by omega, rfl, okR, hstep.symm, ?_⟩;simp (disch := try exact qa0) only [push_cast, simprocAttr, b9, b2, b3, b5, b7, b10, b50, b51, b52, b8, qe0, AV.ids, idsL, hR0]
         ·have ets := ql0 (vm0 la.length R) s.toNat (by rw [qd0]; omega);rw [xG0 _ (by omega), show ((s.toNat : Nat) : Int) = s by omega] at ets;by_cases h2 : t = -1
          ·subst h2;have hstep : rowP la lb x P (j + 1) = R := by rw [hstep]; simp
           repeat' (first|refine nv ?_|(with_reducible first|refine gG ?_ ?_|refine ⟨fun h => ?_, fun h => ?_⟩ <;> try omega|refine andG ?_)|simp (disch := try exact qa0) only [push_cast, simprocAttr, b9, b2, b3, b5, b7, b10, b50, b51, b52, b8, eo, era, erj, ebj, za0, wra, wrb, vd0, qd0, Int.reduceNeg, h1])
           refine va0 (I - (j + 1)) 4 (by omega) (by first|exact wb0|fail) (by omega) (by simp) (by simp [Blk.below, idsE, idsL, AV.ids]) ⟨j + 1, R, by omega, rfl, okR, hstep.symm, ?_⟩;simp (disch := try exact qa0) only [push_cast, simprocAttr, b9, b2, b3, b5, b7, b10, b50, b51, b52, b8, qe0, AV.ids, idsL, hR0]
          ·have egt := wc0 (outM lb.length R) t.toNat (by rw [vd0]; omega);rw [qE0 _ (by omega), show ((t.toNat : Nat) : Int) = t by omega] at egt;have hn2 := kK0 okR (t := t);have eS3 := (qk0 (vm0 la.length R) s.toNat true).trans (congrArg xi0 (kz0 (na := la.length) (P := R) (s := s) (t := t) (by omega)));have eS2 := fun h => (vk0 (outM lb.length R) t.toNat s).trans (congrArg ints (qL0 (nb := lb.length) (P := R) (s := s) (t := t) (by omega) h));generalize (R.any fun x => decide (x.1 = s)) = bs at *;generalize vn0 R t = nn at *;cases bs with
           | true =>
            have hstep : rowP la lb x P (j + 1) = R := by rw [hstep]; simp
            repeat' (first|refine nv ?_|(with_reducible first|refine gG ?_ ?_|refine ⟨fun h => ?_, fun h => ?_⟩ <;> try omega|refine andG ?_)|simp (disch := try exact qa0) only [push_cast, simprocAttr, b9, b2, b3, b5, b7, b10, b50, b51, b52, b8, eo, era, erj, ebj, za0, wra, wrb, vd0, qd0, Int.reduceNeg, h1, h2, ets])
            refine va0 (I - (j + 1)) 4 (by omega) (by first|exact wb0|fail) (by omega) (by simp) (by simp [Blk.below, idsE, idsL, AV.ids]) ⟨j + 1, R, by omega, rfl, okR, hstep.symm, ?_⟩;simp (disch := try exact qa0) only [push_cast, simprocAttr, b9, b2, b3, b5, b7, b10, b50, b51, b52, b8, qe0, AV.ids, idsL, hR0]
           | false =>
            by_cases h3 : nn = -1
            ·subst h3;have hno := hn2.1 rfl;have eS2 := eS2 hno;have okR2 := okR.snoc (s := s) (t := t) (by omega) (by omega) hno;have hstep : rowP la lb x P (j + 1) = R ++ [(s, t)] := by rw [hstep]; simp [h1, h2]
             repeat' (first|refine nv ?_|(with_reducible first|refine gG ?_ ?_|refine ⟨fun h => ?_, fun h => ?_⟩ <;> try omega|refine andG ?_)|simp (disch := try exact qa0) only [push_cast, simprocAttr, b9, b2, b3, b5, b7, b10, b50, b51, b52, b8, eo, era, erj, ebj, za0, wra, wrb, vd0, qd0, Int.reduceNeg, h1, h2, ets, egt, eS2, eS3])
             refine vS0 (I - (j + 1)) 6 (b := 4) rfl (by omega) (by first|exact wb0|fail) (by omega) (by simp) (by simp [Blk.below, idsE, idsL, AV.ids, zd0]) ⟨j + 1, R ++ [(s, t)], by omega, rfl, okR2, hstep.symm, ?_⟩;simp (disch := try exact qa0) only [push_cast, simprocAttr, b9, b2, b3, b5, b7, b10, b50, b51, b52, b8, qe0, AV.ids, idsL, hR0];exact .inr (by simp [zd0, hR0, ints, List.replicate])
            ·have hstep : rowP la lb x P (j + 1) = R := by rw [hstep]; simp [h3]
             repeat' (first|refine nv ?_|(with_reducible first|refine gG ?_ ?_|refine ⟨fun h => ?_, fun h => ?_⟩ <;> try omega|refine andG ?_)|simp (disch := try exact qa0) only [push_cast, simprocAttr, b9, b2, b3, b5, b7, b10, b50, b51, b52, b8, eo, era, erj, ebj, za0, wra, wrb, vd0, qd0, Int.reduceNeg, h1, h2, h3, ets, egt])
             refine va0 (I - (j + 1)) 4 (by omega) (by first|exact wb0|fail) (by omega) (by simp) (by simp [Blk.below, idsE, idsL, AV.ids]) ⟨j + 1, R, by omega, rfl, okR, hstep.symm, ?_⟩;simp (disch := try exact qa0) only [push_cast, simprocAttr, b9, b2, b3, b5, b7, b10, b50, b51, b52, b8, qe0, AV.ids, idsL, hR0]
        ·have hR0 : True := trivial;have eql2 : (ints (R.map (·.2))).length = R.length := by simp [zb0]
         by_cases h1 : s = -1
         ·subst h1;have hstep : rowP la lb x P (j + 1) = R := by rw [hstep]; simp
          repeat' (first|refine nv ?_|(with_reducible first|refine gG ?_ ?_|refine ⟨fun h => ?_, fun h => ?_⟩ <;> try omega|refine andG ?_)|simp (disch := try exact qa0) only [push_cast, simprocAttr, b9, b2, b3, b5, b7, b10, b50, b51, b52, b8, eo, era, erj, ebj, za0, wra, wrb, vd0, qd0, Int.reduceNeg, hlt2, eql2])
          refine va0 (I - (j + 1)) 6 (by omega) (by first|exact wb0|fail) (by omega) (by simp) (by simp [Blk.below, idsE, idsL, AV.ids]) ⟨j + 1, R, by omega, rfl, okR, hstep.symm, ?_⟩;simp (disch := try exact qa0) only [push_cast, simprocAttr, b9, b2, b3, b5, b7, b10, b50, b51, b52, b8, qe0, AV.ids, idsL, hR0];first|done|(right; simp [ints])
         ·have ets := ql0 (vm0 la.length R) s.toNat (by rw [qd0]; omega);rw [xG0 _ (by omega), show ((s.toNat : Nat) : Int) = s by omega] at ets;by_cases h2 : t = -1
          ·subst h2;have hstep : rowP la lb x P (j + 1) = R := by rw [hstep]; simp
           repeat' (first|refine nv ?_|(with_reducible first|refine gG ?_ ?_|refine ⟨fun h => ?_, fun h => ?_⟩ <;> try omega|refine andG ?_)|simp (disch := try exact qa0) only [push_cast, simprocAttr, b9, b2, b3, b5, b7, b10, b50, b51, b52, b8, eo, era, erj, ebj, za0, wra, wrb, vd0, qd0, Int.reduceNeg, h1, eql2])
           refine va0 (I - (j + 1)) 6 (by omega) (by first|exact wb0|fail) (by omega) (by simp) (by simp [Blk.below, idsE, idsL, AV.ids]) ⟨j + 1, R, by omega, rfl, okR, hstep.symm, ?_⟩;simp (disch := try exact qa0) only [push_cast, simprocAttr, b9, b2, b3, b5, b7, b10, b50, b51, b52, b8, qe0, AV.ids, idsL, hR0];first|done|(right; simp [ints])
          ·have egt := wc0 (outM lb.length R) t.toNat (by rw [vd0]; omega);rw [qE0 _ (by omega), show ((t.toNat : Nat) : Int) = t by omega] at egt;have hn2 := kK0 okR (t := t);have eS3 := (qk0 (vm0 la.length R) s.toNat true).trans (congrArg xi0 (kz0 (na := la.length) (P := R) (s := s) (t := t) (by omega)));have eS2 := fun h => (vk0 (outM lb.length R) t.toNat s).trans (congrArg ints (qL0 (nb := lb.length) (P := R) (s := s) (t := t) (by omega) h));generalize (R.any fun x => decide (x.1 = s)) = bs at *;generalize vn0 R t = nn at *;cases bs with
           | true =>
            have hstep : rowP la lb x P (j + 1) = R := by rw [hstep]; simp
            repeat' (first|refine nv ?_|(with_reducible first|refine gG ?_ ?_|refine ⟨fun h => ?_, fun h => ?_⟩ <;> try omega|refine andG ?_)|simp (disch := try exact qa0) only [push_cast, simprocAttr, b9, b2, b3, b5, b7, b10, b50, b51, b52, b8, eo, era, erj, ebj, za0, wra, wrb, vd0, qd0, Int.reduceNeg, h1, h2, ets, eql2])
            refine va0 (I - (j + 1)) 6 (by omega) (by first|exact wb0|fail) (by omega) (by simp) (by simp [Blk.below, idsE, idsL, AV.ids]) ⟨j + 1, R, by omega, rfl, okR, hstep.symm, ?_⟩;simp (disch := try exact qa0) only [push_cast, simprocAttr, b9, b2, b3, b5, b7, b10, b50, b51, b52, b8, qe0, AV.ids, idsL, hR0];first|done|(right; simp [ints])
           | false =>
            by_cases h3 : nn = -1
            ·subst h3;have hno := hn2.1 rfl;have eS2 := eS2 hno;have okR2 := okR.snoc (s := s) (t := t) (by omega) (by omega) hno;have hstep : rowP la lb x P (j + 1) = R ++ [(s, t)] := by rw [hstep]; simp [h1, h2]
             repeat' (first|refine nv ?_|(with_reducible first|refine gG ?_ ?_|refine ⟨fun h => ?_, fun h => ?_⟩ <;> try omega|refine andG ?_)|simp (disch := try exact qa0) only [push_cast, simprocAttr, b9, b2, b3, b5, b7, b10, b50, b51, b52, b8, eo, era, erj, ebj, za0, wra, wrb, vd0, qd0, Int.reduceNeg, h1, h2, ets, egt, eS2, eS3, eql2])
             refine va0 (I - (j + 1)) 6 (by omega) (by first|exact wb0|fail) (by omega) (by simp) (by simp [Blk.below, idsE, idsL, AV.ids]) ⟨j + 1, R ++ [(s, t)], by omega, rfl, okR2, hstep.symm, ?_⟩;simp (disch := try exact qa0) only [push_cast, simprocAttr, b9, b2, b3, b5, b7, b10, b50, b51, b52, b8, qe0, AV.ids, idsL, hR0];first|done|(right; simp [ints])
            ·have hstep : rowP la lb x P (j + 1) = R := by rw [hstep]; simp [h3]
             repeat' (first|refine nv ?_|(with_reducible first|refine gG ?_ ?_|refine ⟨fun h => ?_, fun h => ?_⟩ <;> try omega|refine andG ?_)|simp (disch := try exact qa0) only [push_cast, simprocAttr, b9, b2, b3, b5, b7, b10, b50, b51, b52, b8, eo, era, erj, ebj, za0, wra, wrb, vd0, qd0, Int.reduceNeg, h1, h2, h3, ets, egt, eql2])
             refine va0 (I - (j + 1)) 6 (by omega) (by first|exact wb0|fail) (by omega) (by simp) (by simp [Blk.below, idsE, idsL, AV.ids]) ⟨j + 1, R, by omega, rfl, okR, hstep.symm, ?_⟩;simp (disch := try exact qa0) only [push_cast, simprocAttr, b9, b2, b3, b5, b7, b10, b50, b51, b52, b8, qe0, AV.ids, idsL, hR0];first|done|(right; simp [ints])
       ·obtain rfl : j = I := by omega
        rw [← hR] at hgo;rcases hst with ⟨hR0, rfl, b8⟩|⟨rfl, b8⟩
        ·skip
         repeat' (first|refine nv ?_|(with_reducible first|refine gG ?_ ?_|refine ⟨fun h => ?_, fun h => ?_⟩ <;> try omega|refine andG ?_)|simp (disch := try exact qa0) only [push_cast, simprocAttr, b9, b2, b3, b5, b7, b10, b50, b51, b52, b8])
         have hRl : k + 1 ≤ R.length := by obtain ⟨l, hl⟩ := qq0 la lb x P j; rw [hR, hl, List.length_append]; omega
         refine qb0 (lb.length + 1 - (k + 1)) (by omega) (by first|exact wb0|fail) ⟨k + 1, R, hRl, rfl, okR, hgo, ?_⟩;simp (disch := try exact qa0) only [push_cast, simprocAttr, b9, b2, b3, b5, b7, b10, b50, b51, b52, b8];exact .inl hR0
        ·skip
         repeat' (first|refine nv ?_|(with_reducible first|refine gG ?_ ?_|refine ⟨fun h => ?_, fun h => ?_⟩ <;> try omega|refine andG ?_)|simp (disch := try exact qa0) only [push_cast, simprocAttr, b9, b2, b3, b5, b7, b10, b50, b51, b52, b8])
         have hRl : k + 1 ≤ R.length := by obtain ⟨l, hl⟩ := qq0 la lb x P j; rw [hR, hl, List.length_append]; omega
         refine qb0 (lb.length + 1 - (k + 1)) (by omega) (by first|exact wb0|fail) ⟨k + 1, R, hRl, rfl, okR, hgo, ?_⟩;simp (disch := try exact qa0) only [push_cast, simprocAttr, b9, b2, b3, b5, b7, b10, b50, b51, b52, b8];try simp
     ·obtain rfl : k = P.length := by omega
      rw [kbo9] at hgo;repeat' (first|(first|(with_reducible refine wx0 (p := [1, 1, 1, 1, 1, 1, 1]) ?_)|refine nav ?_|(refine g0_ ?_; first|refine goD ?_))|(with_reducible first|refine gG ?_ ?_|refine ⟨fun h => ?_, fun h => ?_⟩ <;> try omega|refine andG ?_)|simp (disch := try exact qa0) only [push_cast, simprocAttr, b9, b2, b3, b5, b7, b8])
      refine Halt.mk (zo0 (by first|exact wb0|fail) (wO0 (m := 3) (by omega) (by simp) (by simp [Blk.below, idsE, idsL, AV.ids])) ?_);repeat' (first|refine nv ?_|(with_reducible first|refine gG ?_ ?_|refine ⟨fun h => ?_, fun h => ?_⟩ <;> try omega|refine andG ?_)|simp (disch := try exact qa0) only [push_cast, simprocAttr, b9, b2, b3, b5, b7, b8, hgo, qe0, AV.ids, idsL])
end Go.Proofs
