import Derived.Test.YtbgdagokjfmcbaaDoorE4
namespace Go.Proofs
open Go Go.V
set_option linter.unusedVariables false
set_option linter.unusedSimpArgs false
set_option maxHeartbeats 0
set_option maxRecDepth 100000
def wrdC (k : Nat) : Option Nat := if k = 0 then some 0 else none
def wrdZ (k : Nat) : Nat := if k = 0 then 0 else 1
theorem xbr9 (I k : Nat) : wrdI I k = [] ∨ wrdZ k = 1 := by cases k with|zero => exact .inl rfl|succ k => exact .inr rfl
def pthW (la : List Row) (I n : Nat) : Nat → List (List AV)
 | 0 => List.replicate n [.sl 0 [] (some 0)]
 | k + 1 => if 0 ≤ aftM la 0 (wrdI I k) ∧ (pthM la I n k).1.getD (aftM la 0 (wrdI I k)).toNat true = false then
   (pthW la I n k).set (aftM la 0 (wrdI I k)).toNat [.sl (wrdZ k) (ints (nI (wrdI I k))) (wrdC k)] else pthW la I n k
section
variable (la : List Row) (I n : Nat)
theorem kP0 : ∀ k, (pthW la I n k).length = n
 | 0 => by simp [pthW]
 | k + 1 => by
  rw [pthW];split
  ·rw [List.length_set, kP0 k]
  ·exact kP0 k
theorem zcj9 (k : Nat) : pthM la I n (k + 1) = if 0 ≤ aftM la 0 (wrdI I k) ∧ (pthM la I n k).1.getD (aftM la 0 (wrdI I k)).toNat true = false then
   ((pthM la I n k).1.set (aftM la 0 (wrdI I k)).toNat true, (pthM la I n k).2.set (aftM la 0 (wrdI I k)).toNat (wrdI I k)) else pthM la I n k := rfl
theorem xcj9 (k : Nat) : pthW la I n (k + 1) = if 0 ≤ aftM la 0 (wrdI I k) ∧ (pthM la I n k).1.getD (aftM la 0 (wrdI I k)).toNat true = false then
   (pthW la I n k).set (aftM la 0 (wrdI I k)).toNat [.sl (wrdZ k) (ints (nI (wrdI I k))) (wrdC k)] else pthW la I n k := rfl
theorem waQ9 : ∀ k s, s < n → ∃ z c, ((pthM la I n k).2.getD s [] = [] ∨ z = 1) ∧ (pthW la I n k).getD s [] = [.sl z (ints (nI ((pthM la I n k).2.getD s []))) c]
 | 0, s, hs => ⟨0, some 0, .inl (by simp [pthM, hs]), by simp [pthM, pthW, hs, nI, ints]⟩
 | k + 1, s, hs => by
  have ih := waQ9 k s hs;have l1 := kP0 la I n k;obtain ⟨_, l2⟩ := zW0 (la := la) (I := I) (n := n) k;rw [pthM, pthW];split
  ·by_cases q : (aftM la 0 (wrdI I k)).toNat = s
   ·refine ⟨wrdZ k, wrdC k, by simp only [q, List.getD_eq_getElem?_getD]; rw [List.getElem?_set_self (by omega)]; exact xbr9 I k, ?_⟩;simp only [q, List.getD_eq_getElem?_getD];rw [List.getElem?_set_self (by omega), List.getElem?_set_self (by omega)]; rfl
   ·simp only [List.getD_eq_getElem?_getD] at ih ⊢;rw [List.getElem?_set_ne q, List.getElem?_set_ne q]; exact ih
  ·exact ih
theorem zbg9 (p : Nat → Bool) : ∀ l : List (List AV), (∀ e ∈ l, idsL p e = true) → idsE p l = true
 | [], _ => rfl
 | e :: l, h => by rw [idsE, h e List.mem_cons_self, zbg9 p l fun x hx => h x (List.mem_cons_of_mem _ hx)]; rfl
theorem vaQ9 (p : Nat → Bool) : ∀ k, idsE p (pthW la I n k) = true := by
 intro k;refine zbg9 p _ fun e he => ?_;obtain ⟨s, hs, rfl⟩ := List.getElem_of_mem he;have hs' : s < n := by rw [kP0] at hs; exact hs
 obtain ⟨z, c, _, h⟩ := waQ9 la I n k s hs';rw [List.getD_eq_getElem?_getD, List.getElem?_eq_getElem hs, Option.getD_some] at h;rw [h]; simp [idsL, AV.ids, wl0]
end
theorem kcH9 {I : Nat} (h : 0 < I) (n k : Nat) : (wrdI I k).length < n ↔ k < cntR I n := by rw [wrdI, List.length_reverse, wax9 h]
theorem qdf9 (I : Nat) (o : Int) (la : List Row) (c : Option Nat) (h0 : 0 < I) (hI : I ≤ 1000) (hn : 1 ≤ la.length ∧ la.length ≤ 1000) (hw : ∀ s, s < la.length → (la.getD s ([], none)).1.length = I) (hA : kal9 I la.length la) : PC Tryd.prog G0 91 [mA I o la c, .int .i64 0] (.tup [.sl 1 (pthW la I la.length (cntR I la.length)) (some la.length), .sl 1 (xi0 (pthM la I la.length (cntR I la.length)).1) (some la.length)]) := by
 have hlR := wa0 la;have hidR : ∀ p, idsE p (xb0 la) = true := fun p => ke0 _ _;have h63 := fun w z cw hz hb hl => kdt9 I o la c (by omega) hI hw hA w z cw 0 hz (.inr (by omega)) hb hl;have h98 := fun w z c hz hb hl => vdt9 I w z c hz hI hb hl;unfold mA at *;have hw0 : wrdI I 0 = [] := rfl;generalize hC : cntR I la.length = C at *;refine wf0 1 51 [.tmp 4, .tmp 5] Tryd.func91 rfl rfl rfl (by simp) ?_;intro s ⟨a0, a1, hz⟩;simp only [Nat.zero_add, Nat.reduceAdd] at a1;clear hz;repeat' (first|refine nv ?_|(with_reducible first|refine gG ?_ ?_|refine ⟨fun h => ?_, fun h => ?_⟩ <;> try omega|refine andG ?_)|simp (disch := try exact qa0) only [push_cast, simprocAttr, a0, a1])
 refine go_loop rfl (fun mz s' H' => ∃ k : Nat, k ≤ C ∧ mz = C - k ∧ H' = [.row 3 30 [[.int .i64 I, .int .i64 o, .sl 1 (xb0 la) c]], .row 1 50 (pthW la I la.length k), .row 1 4 (xi0 (pthM la I la.length k).1)] ∧ s' 1 = .int .i64 0 ∧ s' 2 = .ptr 0 0 0 1 ∧ s' 6 = .own 1 la.length la.length (some la.length) ∧ s' 7 = .own 2 la.length la.length (some la.length) ∧ s' 8 = .sl (wrdZ k) (ints (nI (wrdI I k))) (wrdC k)) (m := C) (by first|exact wb0|fail) (Weak.refl _ _) ⟨0, by omega, by omega, by simp [pthW, pthM, xi0], ?_⟩ ?_
 ·rw [hw0];simp (disch := try exact qa0) only [push_cast, simprocAttr, a0, a1];try rfl
 ·rintro mz s' H' ⟨k, hk, rfl, rfl, b1, b2, b6, b7, b8⟩;have hwl := kcH9 h0 la.length k;rw [hC] at hwl;have hb := vbq9 h0 k;have hll : (ints (nI (wrdI I k))).length = (wrdI I k).length := by rw [zb0, wM0]
  obtain ⟨hp1, hp2⟩ := zW0 (la := la) (I := I) (n := la.length) k;have hpW := kP0 la I la.length k;have hidW := fun p => vaQ9 la I la.length p k;have hidB : ∀ p, idsE p (xi0 (pthM la I la.length k).1) = true := fun p => xr0 _ _;have hlB : (xi0 (pthM la I la.length k).1).length = la.length := by rw [vl0, hp1]
  rcases Nat.lt_or_ge k C with hlt|hge
  ·have hlw := hwl.2 hlt;have a63 := h63 (wrdI I k) (wrdZ k) (wrdC k) (xbr9 I k) hb (by omega);have a98 := h98 (wrdI I k) (wrdZ k) (wrdC k) (xbr9 I k) hb (by omega);have hnx := qci9 I k;have hcn : wrdC (k + 1) = none := rfl;have hzn : wrdZ (k + 1) = 1 := rfl;have hr := vax9 hA (wrdI I k) 0 hb (.inr (by omega));have hsM := zcj9 la I la.length k;have hsW := xcj9 la I la.length k;rw [← hnx] at a98;have hidw : ∀ p, idsE p (ints (nI (wrdI I k))) = true := fun p => wl0 _ _;generalize aftM la 0 (wrdI I k) = t at *;generalize hw2 : wrdI I (k + 1) = w2 at *;generalize wrdI I k = w at *;rcases hr with rfl|⟨t0, t1⟩
   ·rw [if_neg (by omega)] at hsM hsW;repeat' (first|refine nv ?_|(with_reducible first|refine gG ?_ ?_|refine ⟨fun h => ?_, fun h => ?_⟩ <;> try omega|refine andG ?_)|refine cp_ a63 ?_|refine cp_ a98 ?_|simp (disch := try exact qa0) only [push_cast, simprocAttr, b1, b2, b6, b7, b8, hll, hlR])
    refine qb0 (C - (k + 1)) (by omega) (by first|exact wb0|fail) ⟨k + 1, by omega, rfl, by rw [hsM, hsW], ?_⟩;simp (disch := try exact qa0) only [push_cast, simprocAttr, b1, b2, b6, b7, b8, hll, hlR];rw [hw2]; rfl
   ·obtain ⟨q, rfl⟩ : ∃ q : Nat, t = q := ⟨t.toNat, by omega⟩;rw [Int.toNat_natCast] at hsM hsW;have eB := ql0 (pthM la I la.length k).1 q (by omega);have hgt : (pthM la I la.length k).1.getD q true = (pthM la I la.length k).1.getD q false := by
     rw [List.getD_eq_getElem?_getD, List.getD_eq_getElem?_getD, List.getElem?_eq_getElem (by omega)]; rfl
    rw [hgt] at hsM hsW;cases hc : (pthM la I la.length k).1.getD q false with
    | true =>
     rw [hc, if_neg (by simp)] at hsM hsW;rw [hc] at eB;repeat' (first|refine nv ?_|(with_reducible first|refine gG ?_ ?_|refine ⟨fun h => ?_, fun h => ?_⟩ <;> try omega|refine andG ?_)|refine cp_ a63 ?_|refine cp_ a98 ?_|simp (disch := try exact qa0) only [push_cast, simprocAttr, b1, b2, b6, b7, b8, hll, hlR, hlB, hpW, eB])
     refine qb0 (C - (k + 1)) (by omega) (by first|exact wb0|fail) ⟨k + 1, by omega, rfl, by rw [hsM, hsW], ?_⟩;simp (disch := try exact qa0) only [push_cast, simprocAttr, b1, b2, b6, b7, b8, hll, hlR, hlB, hpW, eB];rw [hw2]; rfl
    | false =>
     rw [hc, if_pos ⟨by omega, rfl⟩] at hsM hsW;rw [hc] at eB;obtain ⟨z0, c0, _, eW⟩ := waQ9 la I la.length k q (by omega);repeat' (first|refine nv ?_|(with_reducible first|refine gG ?_ ?_|refine ⟨fun h => ?_, fun h => ?_⟩ <;> try omega|refine andG ?_)|refine cp_ a63 ?_|refine cp_ a98 ?_|simp (disch := try exact qa0) only [push_cast, simprocAttr, b1, b2, b6, b7, b8, hll, hlR, hlB, hpW, eB, eW])
     refine qb0 (C - (k + 1)) (by omega) (by first|exact wb0|fail) ⟨k + 1, by omega, rfl, by rw [hsM, hsW, ← qk0], ?_⟩;simp (disch := try exact qa0) only [push_cast, simprocAttr, b1, b2, b6, b7, b8, hll, hlR, hlB, hpW, eB, eW];rw [hw2]; rfl
  ·obtain rfl : k = C := by omega
   have hlw : ¬ (wrdI I k).length < la.length := fun h => absurd (hwl.1 h) (Nat.lt_irrefl _);have htW : (pthW la I la.length k).take la.length = pthW la I la.length k := List.take_of_length_le (by omega);have htB : (xi0 (pthM la I la.length k).1).take la.length = xi0 (pthM la I la.length k).1 := List.take_of_length_le (by omega);repeat' (first|refine nv ?_|(with_reducible first|refine gG ?_ ?_|refine ⟨fun h => ?_, fun h => ?_⟩ <;> try omega|refine andG ?_)|simp (disch := try exact qa0) only [push_cast, simprocAttr, b1, b2, b6, b7, b8, hll, hlR, hlB, hpW, htW, htB, hp1, hidW, hidB])
   refine List.all_eq_true.2 fun e he => ?_;have := (xq0 _).1 (hidW kX0) e he;simpa [qY0] using this
theorem qcI9 (I : Nat) (o : Int) (la : List Row) (c : Option Nat) (h0 : 0 < I) (hI : I ≤ 1000) (hn : 1 ≤ la.length ∧ la.length ≤ 1000) (hw : ∀ s, s < la.length → (la.getD s ([], none)).1.length = I) (hA : kal9 I la.length la) : PC Tryd.prog G0 81 [mA I o la c] (.tup [.sl 1 (pthW la I la.length (cntR I la.length)) (some la.length), .sl 1 (xi0 (pthM la I la.length (cntR I la.length)).1) (some la.length)]) := by
 have h := qdf9 I o la c h0 hI hn hw hA;have hid := fun p => vaQ9 la I la.length p (cntR I la.length);have hidB : ∀ p, idsE p (xi0 (pthM la I la.length (cntR I la.length)).1) = true := fun p => xr0 _ _;generalize pthW la I la.length (cntR I la.length) = W at *;generalize xi0 (pthM la I la.length (cntR I la.length)).1 = B at *;unfold mA at *;refine wf0 1 8 [.tmp 2, .tmp 3] Tryd.func81 rfl rfl rfl (by simp) ?_;intro s ⟨a0, hz⟩;clear hz;repeat' (first|refine nv ?_|(with_reducible first|refine gG ?_ ?_|refine ⟨fun h => ?_, fun h => ?_⟩ <;> try omega|refine andG ?_)|refine cp_ h ?_|simp (disch := try exact qa0) only [push_cast, simprocAttr, a0])
 exact ⟨hid _, hidB _⟩
theorem wcj9 (p : Nat → Bool) (l : List (List AV)) (k : Nat) (h : idsE p l = true) : idsE p (l.take k) = true := by
 rw [xq0] at h ⊢;exact fun e he => h e (List.mem_of_mem_take he)
theorem vcj9 (p : Nat → Bool) (l : List (List AV)) (k : Nat) (h : idsE p l = true) : idsE p (l.drop k) = true := by
 rw [xq0] at h ⊢;exact fun e he => h e (List.mem_of_mem_drop he)
theorem zdf9 (I : Nat) (o : Int) (la : List Row) (c : Option Nat) (h0 : 0 < I) (hI : I ≤ 1000) (hn : 1 ≤ la.length ∧ la.length ≤ 1000) (hw : ∀ s, s < la.length → (la.getD s ([], none)).1.length = I) (hA : kal9 I la.length la) (hlen : ∀ s, s < la.length → ((pthM la I la.length (cntR I la.length)).2.getD s []).length ≤ 1000000) : PC Tryd.prog G0 56 [mA I o la c] (.sl 1 (ints (ordM la I la.length)) none) := by
 have h81 := qcI9 I o la c h0 hI hn hw hA;have hO := (xcN9 h0 (by omega) hA).1.ne;obtain ⟨lp1, lp2⟩ := zW0 (la := la) (I := I) (n := la.length) (cntR I la.length);have hid := fun p => vaQ9 la I la.length p (cntR I la.length);have hWl := kP0 la I la.length (cntR I la.length);have hWa := waQ9 la I la.length (cntR I la.length);rw [← wcH9] at hO ⊢;generalize pthW la I la.length (cntR I la.length) = W at *;generalize (pthM la I la.length (cntR I la.length)).1 = B at *;generalize (pthM la I la.length (cntR I la.length)).2 = P at *;have hBl : (xi0 B).length = la.length := by rw [vl0, lp1]
 have hidB : ∀ p, idsE p (xi0 B) = true := fun p => xr0 _ _;unfold mA at *;refine wf0 1 61 [.tmp 2] Tryd.func56 rfl rfl rfl (by simp) ?_;intro s ⟨a0, hz⟩;clear hz;repeat' (first|refine nv ?_|(with_reducible first|refine gG ?_ ?_|refine ⟨fun h => ?_, fun h => ?_⟩ <;> try omega|refine andG ?_)|refine cp_ h81 ?_|simp (disch := try exact qa0) only [push_cast, simprocAttr, a0])
 refine go_loop rfl (fun mz s' H' => ∃ (q : Nat) (z : Nat) (co : Option Nat), q ≤ la.length ∧ mz = la.length - q ∧ (ordK B P q = [] ∨ z = 1) ∧ (ordK B P q = [] ∨ co = none) ∧ H' = [.row 3 30 [[.int .i64 I, .int .i64 o, .sl 1 (xb0 la) c]]] ∧ s' 3 = .sl 1 W (some la.length) ∧ s' 4 = .sl 1 (xi0 B) (some la.length) ∧ s' 5 = .sl z (ints (ordK B P q)) co ∧ s' 6 = .int .i64 q) (m := la.length) (by first|exact wb0|fail) (Weak.refl _ _) ⟨0, 0, some 0, by omega, by omega, .inl rfl, .inl rfl, rfl, ?_⟩ ?_
 ·rw [xci9, show ints [] = [] from rfl];simp (disch := try exact qa0) only [push_cast, simprocAttr, a0]
 ·rintro mz s' H' ⟨q, z, co, hq, rfl, hz, hco, rfl, b3, b4, b5, b6⟩;have hol := wbz9 B P q;have hom := xaQ9 B P q;rcases Nat.lt_or_ge q la.length with hlt|hge
  ·have eB := ql0 B q (by omega);cases hc : B.getD q false with
   | false =>
    rw [hc] at eB;have hno := zbr9 (l := P) hc;repeat' (first|refine nv ?_|(with_reducible first|refine gG ?_ ?_|refine ⟨fun h => ?_, fun h => ?_⟩ <;> try omega|refine andG ?_)|simp (disch := try exact qa0) only [push_cast, simprocAttr, b3, b4, b5, b6, hWl, eB, hBl])
    refine qb0 (la.length - (q + 1)) (by omega) (by first|exact wb0|fail) ⟨q + 1, z, co, by omega, rfl, by rw [hno]; exact hz, by rw [hno]; exact hco, rfl, ?_⟩;rw [hno];simp (disch := try exact qa0) only [push_cast, simprocAttr, b3, b4, b5, b6, hWl, eB, hBl]
   | true =>
    rw [hc] at eB;have hyes := zaQ9 (l := P) hc;generalize ordK B P q = Q at *;have hQl : (ints Q).length = Q.length := zb0 Q;repeat' (first|refine nv ?_|(with_reducible first|refine gG ?_ ?_|refine ⟨fun h => ?_, fun h => ?_⟩ <;> try omega|refine andG ?_)|simp (disch := try exact qa0) only [push_cast, simprocAttr, b3, b4, b5, b6, hWl, eB, hBl, hQl])
    refine go_loop rfl (fun mz s2 H2 => ∃ j : Nat, j ≤ Q.length ∧ mz = Q.length - j ∧ (∀ i, i < j → xM0 (P.getD (Q.getD i 0).toNat []) (P.getD q []) = true) ∧ H2 = [.row 3 30 [[.int .i64 I, .int .i64 o, .sl 1 (xb0 la) c]]] ∧ s2 3 = .sl 1 W (some la.length) ∧ s2 4 = .sl 1 (xi0 B) (some la.length) ∧ s2 5 = .sl z (ints Q) co ∧ s2 6 = .int .i64 q ∧ s2 7 = .int .i64 j) (m := Q.length) (by first|exact wb0|fail) (Weak.refl _ _) ⟨0, by omega, by omega, fun i hi => absurd hi (Nat.not_lt_zero _), rfl, ?_⟩ ?_
    ·simp (disch := try exact qa0) only [push_cast, simprocAttr, b3, b4, b5, b6, hWl, eB, hBl, hQl]
    ·clear b3 b4 b5 b6;rintro mz s2 H2 ⟨j, hj, rfl, hbe, rfl, b3, b4, b5, b6, b7⟩;rcases Nat.lt_or_ge j Q.length with hjl|hjl
     ·have eQ := wc0 Q j hjl;have hmx : Q.getD j 0 ∈ Q := by rw [List.getD_eq_getElem?_getD, List.getElem?_eq_getElem hjl]; exact List.getElem_mem hjl
      obtain ⟨x0, x1⟩ := hom _ hmx;obtain rfl := hz.resolve_left (by intro e; rw [e] at hjl; exact absurd hjl (Nat.not_lt_zero _));obtain ⟨z1, c1, hz1, e1⟩ := hWa (Q.getD j 0).toNat (by omega);obtain ⟨z2, c2, hz2, e2⟩ := hWa q hlt;have a82 := zdt9 z1 _ c1 z2 _ c2 hz1 hz2 (hlen (Q.getD j 0).toNat (by omega)) (hlen q hlt);have hins := fun h => qbr9 (fun x s => xM0 (P.getD x.toNat []) (P.getD s.toNat [])) Q q j hj hbe (.inr h);rw [Int.toNat_natCast] at hins;obtain ⟨y, hy⟩ : ∃ y : Nat, Q.getD j 0 = y := ⟨(Q.getD j 0).toNat, by omega⟩;have hbs := fun h => zaN9 hbe h;rw [hy] at eQ e1 a82 hins hbs x1;rw [Int.toNat_natCast] at e1 a82 hins hbs;generalize P.getD y [] = wa at *;generalize P.getD q [] = wb at *;cases hL : xM0 wa wb with
      | true =>
       rw [hL, if_pos rfl] at a82;repeat' (first|refine nv ?_|(with_reducible first|refine gG ?_ ?_|refine ⟨fun h => ?_, fun h => ?_⟩ <;> try omega|refine andG ?_)|refine cp_ a82 ?_|simp (disch := try exact qa0) only [push_cast, simprocAttr, b3, b4, b5, b6, b7, hWl, hQl, eQ, e1, e2])
       refine qb0 (Q.length - (j + 1)) (by omega) (by first|exact wb0|fail) ⟨j + 1, by omega, rfl, hbs hL, rfl, ?_⟩;simp (disch := try exact qa0) only [push_cast, simprocAttr, b3, b4, b5, b6, b7, hWl, hQl, eQ, e1, e2]
      | false =>
       have hn := hyes.trans (hins hL);rw [hL, if_neg (by decide)] at a82;repeat' (first|(first|(with_reducible refine wx0 (p := [0, 1, 1, 1, 1, 0, 0, 1, 0, 0, 1, 0, 1, 1, 1]) ?_)|refine nav ?_|(refine g0_ ?_; first|refine goD ?_))|(with_reducible first|refine gG ?_ ?_|refine ⟨fun h => ?_, fun h => ?_⟩ <;> try omega|refine andG ?_)|refine cp_ a82 ?_|simp (disch := try exact qa0) only [push_cast, simprocAttr, b3, b4, b5, b6, b7, hWl, hQl, eQ, e1, e2])
       refine Halt.mk ?_;refine zo0 (by first|exact wb0|fail) (kv0 (t := 8) (z := 0) (sz := 1) (ty := 3) rfl) ?_;repeat' (first|refine nv ?_|(with_reducible first|refine gG ?_ ?_|refine ⟨fun h => ?_, fun h => ?_⟩ <;> try omega|refine andG ?_)|simp (disch := try exact qa0) only [push_cast, simprocAttr, b3, b4, b5, b6, b7, hWl, hQl, eQ, e1, e2])
       have htd : (ints Q).take j ++ [.int .i64 (q : Nat)] :: (ints Q).drop j = ints (ordK B P (q + 1)) := by rw [hn]; simp only [ints, List.map_append, List.map_cons, List.map_take, List.map_drop]
       have hdl : ((ints Q).drop j).length = Q.length - j := by rw [List.length_drop, hQl]
       have hnl2 : (ints (ordK B P (q + 1))).length = Q.length + 1 := by rw [← htd]; simp [hQl]; try omega
       have hidn : ∀ p, idsE p (ints (ordK B P (q + 1))) = true := fun p => wl0 _ _;refine vg0 (la.length - (q + 1)) 1 (j := 1) rfl (by omega) (by first|exact wb0|fail) (by omega) (by simp [frzH]) (by simp [frzH, frzB, frz, qi0, Blk.below, idsE, idsL, AV.ids, zd0]) ⟨q + 1, 1, none, by omega, rfl, .inr rfl, .inr rfl, by simp [frzH, frzB, frz, qi0, Blk.below, idsE, idsL, AV.ids, zd0], ?_⟩;simp (disch := try exact qa0) only [push_cast, simprocAttr, b3, b4, b5, b6, b7, qe0, frz, AV.ids, idsL, htd, hdl, hid, hidB];rw [if_pos ⟨wcj9 _ _ _ (wl0 _ _), vcj9 _ _ _ (wl0 _ _)⟩, ← htd, List.append_assoc]; rfl
     ·obtain rfl : j = Q.length := by omega
      have hins := qbr9 (fun x s => xM0 (P.getD x.toNat []) (P.getD s.toNat [])) Q q Q.length hj hbe (.inl rfl);have hn := hyes.trans hins;have hnl : ¬ Q.length < Q.length := Nat.lt_irrefl _;rcases hz with rfl|rfl
      ·have hi0 : ints [] = [] := rfl;rw [hi0] at *;have b7 : s2 7 = .int .i64 0 := b7;have hn1 : ordK B P (q + 1) = [(q : Int)] := by rw [hn]; rfl
       repeat' (first|(first|(with_reducible refine wx0 (p := [0, 1, 1, 1, 1, 0, 0, 1, 0, 0, 1, 0, 1, 1, 1]) ?_)|refine nav ?_|(refine g0_ ?_; first|refine goD ?_))|(with_reducible first|refine gG ?_ ?_|refine ⟨fun h => ?_, fun h => ?_⟩ <;> try omega|refine andG ?_)|(refine ⟨AV.int .i64 0, ?_⟩; refine kY0 ?_)|simp (disch := try exact qa0) only [push_cast, simprocAttr, b3, b4, b5, b6, b7, hWl, hi0])
       refine Halt.mk ?_;refine zo0 (by first|exact wb0|fail) (kv0 (t := 8) (z := 0) (sz := 1) (ty := 3) rfl) ?_;repeat' (first|refine nv ?_|(with_reducible first|refine gG ?_ ?_|refine ⟨fun h => ?_, fun h => ?_⟩ <;> try omega|refine andG ?_)|simp (disch := try exact qa0) only [push_cast, simprocAttr, b3, b4, b5, b6, b7, hWl, hi0])
       have hnI : ints (ordK B P (q + 1)) = [[.int .i64 (q : Nat)]] := by rw [hn1]; rfl
       refine vg0 (la.length - (q + 1)) 1 (j := 1) rfl (by omega) (by refine ⟨⟨⟨⟨.inl rfl, ?_⟩, ?_⟩, .inl rfl⟩, ?_⟩ <;> (simp only [maxLen]; omega)) (by omega) (by simp [frzH]) (by simp [frzH, frzB, frz, qi0, Blk.below, idsE, idsL, AV.ids, zd0]) ⟨q + 1, 1, none, by omega, rfl, .inr rfl, .inr rfl, by simp [frzH, frzB, frz, qi0, Blk.below, idsE, idsL, AV.ids, zd0], ?_⟩;rw [hnI];simp (disch := try exact qa0) only [push_cast, simprocAttr, b3, b4, b5, b6, b7, qe0, frz, AV.ids, idsL, idsE, hid, hidB]
      ·skip
       repeat' (first|(first|(with_reducible refine wx0 (p := [0, 1, 1, 1, 1, 0, 0, 1, 0, 0, 1, 0, 1, 1, 1]) ?_)|refine nav ?_|(refine g0_ ?_; first|refine goD ?_))|(with_reducible first|refine gG ?_ ?_|refine ⟨fun h => ?_, fun h => ?_⟩ <;> try omega|refine andG ?_)|(refine ⟨AV.int .i64 0, ?_⟩; refine kY0 ?_)|simp (disch := try exact qa0) only [push_cast, simprocAttr, b3, b4, b5, b6, b7, hWl, hQl, hnl])
       refine Halt.mk ?_;refine zo0 (by first|exact wb0|fail) (kv0 (t := 8) (z := 0) (sz := 1) (ty := 3) rfl) ?_;repeat' (first|refine nv ?_|(with_reducible first|refine gG ?_ ?_|refine ⟨fun h => ?_, fun h => ?_⟩ <;> try omega|refine andG ?_)|simp (disch := try exact qa0) only [push_cast, simprocAttr, b3, b4, b5, b6, b7, hWl, hQl, hnl])
       have htd : ints Q ++ [[.int .i64 (q : Nat)]] = ints (ordK B P (q + 1)) := by
        rw [hn, List.take_of_length_le (Nat.le_refl _), List.drop_eq_nil_of_le (Nat.le_refl _)];simp only [ints, List.map_append, List.map_cons, List.map_nil]
       have hnl2 : (ints (ordK B P (q + 1))).length = Q.length + 1 := by rw [← htd]; simp [hQl]
       have hidn : ∀ p, idsE p (ints (ordK B P (q + 1))) = true := fun p => wl0 _ _;have htk : (ints (ordK B P (q + 1))).take (Q.length + 1) = ints (ordK B P (q + 1)) := List.take_of_length_le (by omega);rw [htd];refine vg0 (la.length - (q + 1)) 1 (j := 1) rfl (by omega) (by first|exact wb0|fail) (by omega) (by simp [frzH]) (by simp [frzH, frzB, frz, qi0, Blk.below, idsE, idsL, AV.ids, zd0]) ⟨q + 1, 1, none, by omega, rfl, .inr rfl, .inr rfl, by simp [frzH, frzB, frz, qi0, Blk.below, idsE, idsL, AV.ids, zd0], ?_⟩;simp (disch := try exact qa0) only [push_cast, simprocAttr, b3, b4, b5, b6, b7, qe0, frz, AV.ids, idsL, hid, hidB, hnl2, htk, hidn]
  ·obtain rfl : q = la.length := by omega
   obtain rfl := hz.resolve_left hO;obtain rfl := hco.resolve_left hO;repeat' (first|refine nv ?_|(with_reducible first|refine gG ?_ ?_|refine ⟨fun h => ?_, fun h => ?_⟩ <;> try omega|refine andG ?_)|simp (disch := try exact qa0) only [push_cast, simprocAttr, b3, b4, b5, b6, hWl])
def swE (a b : Nat) (e : Edg) : Edg := (swS a b e.1, e.2)
theorem xdf9 (a b : Nat) (r : List Edg) : relS (swS a b) r = r.map (swE a b) := by
 refine List.map_congr_left fun e _ => ?_;unfold swE;by_cases h : e.1 = -1
 ·rw [if_pos h, h];have : swS a b (-1) = -1 := by unfold swS; rw [if_neg (by omega), if_neg (by omega)]
  rw [this, ← h]
 ·rw [if_neg h]
theorem zcI9 (a b : Nat) (R : Rs) {k : Nat} (hk : k < R.length) : (swR a b R).getD k [] = (R.getD (swS a b k).toNat []).map (swE a b) := by
 rw [← xdf9, swR, List.getD_eq_getElem?_getD, List.getElem?_map, List.getElem?_range hk]; rfl
theorem kcj9 (I : Nat) (o : Int) (la : List Row) (c : Option Nat) (a b : Nat) (hIb : I ≤ 1000) (ha : a < la.length) (hb : b < la.length) (hw : ∀ s, s < la.length → (la.getD s ([], none)).1.length = I) (hla : la.length ≤ 1000000) :
  PC Tryd.prog G0 25 [mA I o la c, .int .i64 a, .int .i64 b] (mA I o (vj0 (swR a b (edgesOf la))) none) := by
 have hlR := wa0 la;have hPl : (swR a b (edgesOf la)).length = la.length := by rw [kaP9]; simp [edgesOf]
 have hidR : ∀ p, idsE p (xb0 la) = true := fun p => ke0 _ _;have hg : ∀ k, k < la.length → (swR a b (edgesOf la)).getD k [] = ((edgesOf la).getD (swS a b k).toNat []).map (swE a b) := fun k hk => zcI9 a b _ (by simpa [edgesOf] using hk);have hin : ∀ k : Nat, k < la.length → ∃ q : Nat, swS a b k = q ∧ q < la.length ∧ ((((k = a) = True) ∧ ((k = a) = True) ∧ q = b) ∨ (((k = a) = False) ∧ ((k = b) = True) ∧ q = a) ∨ (((k = a) = False) ∧ ((k = b) = False) ∧ q = k)) := fun k hk => by
  unfold swS;by_cases h1 : k = a
  ·exact ⟨b, by rw [if_pos (by omega)], hb, .inl ⟨eq_true h1, eq_true h1, rfl⟩⟩
  ·by_cases h2 : k = b
   ·exact ⟨a, by rw [if_neg (by omega), if_pos (by omega)], ha, .inr (.inl ⟨eq_false h1, eq_true h2, rfl⟩)⟩
   ·exact ⟨k, by rw [if_neg (by omega), if_neg (by omega)], hk, .inr (.inr ⟨eq_false h1, eq_false h2, rfl⟩)⟩
 generalize hRR : swR a b (edgesOf la) = RR at *;unfold mA;refine wf0 1 71 [.cell 6 30] Tryd.func25 rfl rfl rfl (by simp) ?_;intro s ⟨a0, a1, a2, hz⟩;simp only [Nat.zero_add, Nat.reduceAdd] at a1 a2;clear hz;repeat' (first|refine nv ?_|(with_reducible first|refine gG ?_ ?_|refine ⟨fun h => ?_, fun h => ?_⟩ <;> try omega|refine andG ?_)|simp (disch := try exact qa0) only [push_cast, simprocAttr, a0, a1, a2])
 refine go_loop rfl (fun mz s' H' => ∃ k : Nat, k ≤ la.length ∧ mz = la.length - k ∧ H' = [.row 3 30 [[.int .i64 I, .int .i64 o, .sl 1 (xb0 la) c]], .row 3 30 [[.int .i64 0, .int .i64 0, .sl 0 [] (some 0)]], .row 3 30 [[.int .i64 I, .int .i64 o, .own 3 k k none]], .row 1 97 (xb0 (vj0 (RR.take k)))] ∧ s' 1 = .int .i64 a ∧ s' 2 = .int .i64 b ∧ s' 3 = .ptr 0 0 0 1 ∧ s' 6 = .ptr 1 0 0 1 ∧ s' 7 = .ptr 2 0 0 1 ∧ s' 8 = .int .i64 k) (m := la.length) (by first|exact wb0|fail) (vi0 (b := 2) (i := 0) (j := 2) (sz := 1) (ty := 97) rfl rfl rfl) ⟨0, by omega, by omega, rfl, ?_⟩ ?_
 ·simp (disch := try exact qa0) only [push_cast, simprocAttr, a0, a1, a2]
 ·rintro mz s' H' ⟨k, hk, rfl, rfl, b1, b2, b3, b6, b7, b8⟩;have hkl : (xb0 (vj0 (RR.take k))).length = k := by rw [wa0, kw0, List.length_take]; omega
  rcases Nat.lt_or_ge k la.length with hlt|hge
  ·have hsn := xaH9 (RR.take k) (RR.getD k []);rw [← qay9 _ [] k (by omega), hg k hlt] at hsn;obtain ⟨q, hq, hql, hcs⟩ := hin k hlt;rw [hq, Int.toNat_natCast, kd0] at hsn;have eR := xf0 la q hql;have hwr := hw q hql;generalize (la.getD q ([], none)).2 = cr at *;generalize (la.getD q ([], none)).1 = r at *;have hrl := za0 r;have hiW : ∀ p, idsE p (xb0 (vj0 (RR.take k))) = true := fun p => ke0 _ _;obtain ⟨RW2, hRW2⟩ : ∃ x, x = xb0 (vj0 (RR.take (k + 1))) := ⟨_, rfl⟩;rw [← hRW2] at hsn;generalize xb0 (vj0 (RR.take k)) = RW at *;rcases hcs with ⟨hc1, hc2, hc3⟩|⟨hc1, hc2, hc3⟩|⟨hc1, hc2, hc3⟩;all_goals
    repeat' (first|refine nv ?_|(with_reducible first|refine gG ?_ ?_|refine ⟨fun h => ?_, fun h => ?_⟩ <;> try omega|refine andG ?_)|simp (disch := try exact qa0) only [push_cast, simprocAttr, b1, b2, b3, b6, b7, b8, hkl, hc1, hc2])
    refine zo0 (by first|exact wb0|fail) (kv0 (t := 10) (z := 0) (sz := 2) (ty := 91) rfl) ?_;refine go_loop rfl (fun mz s2 H2 => ∃ j : Nat, j ≤ I ∧ mz = I - j ∧ H2 = [.row 3 30 [[.int .i64 I, .int .i64 o, .sl 1 (xb0 la) c]], .row 3 30 [[.int .i64 0, .int .i64 0, .sl 0 [] (some 0)]], .row 3 30 [[.int .i64 I, .int .i64 o, .own 3 k k none]], .row 1 97 RW, .row 2 91 (rowA ((r.take j).map (swE a b)))] ∧ s2 1 = .int .i64 a ∧ s2 2 = .int .i64 b ∧ s2 3 = .ptr 0 0 0 1 ∧ s2 6 = .ptr 1 0 0 1 ∧ s2 7 = .ptr 2 0 0 1 ∧ s2 8 = .int .i64 k ∧ s2 9 = .int .i64 q ∧ s2 10 = .own 4 j j none ∧ s2 11 = .int .i64 j) (m := I) (by trivial) (Weak.refl _ _) ⟨0, by omega, by omega, rfl, ?_⟩ ?_
    ·simp (disch := try exact qa0) only [push_cast, simprocAttr, b1, b2, b3, b6, b7, b8, hkl, hc1, hc2];rw [hc3]
    ·clear b1 b2 b3 b6 b7 b8 hc1 hc2 hc3;rintro mz s2 H2 ⟨j, hj, rfl, rfl, b1, b2, b3, b6, b7, b8, b9, b10, b11⟩;have hjl : (rowA ((r.take j).map (swE a b))).length = j := by rw [za0, List.length_map, List.length_take]; omega
     rcases Nat.lt_or_ge j I with hjI|hjI
     ·have hjI' : (j : Int) < I := by omega
      have eE := zg0 r j (by omega);have hsj : rowA ((r.take j).map (swE a b)) ++ [eA (swE a b (r.getD j (0, 0)))] = rowA ((r.take (j + 1)).map (swE a b)) := by rw [qay9 r (0, 0) j (by omega), List.map_append, zav9]; rfl
      generalize r.getD j (0, 0) = e at *;obtain ⟨x1, x2⟩ := e;obtain ⟨y1, hy⟩ : ∃ y, y = swS a b x1 := ⟨_, rfl⟩;have hys : (((x1 = a) = True) ∧ ((x1 = a) = True) ∧ y1 = b) ∨ (((x1 = a) = False) ∧ ((x1 = b) = True) ∧ y1 = a) ∨ (((x1 = a) = False) ∧ ((x1 = b) = False) ∧ y1 = x1) := by
       rw [hy];unfold swS;by_cases h1 : x1 = a
       ·exact .inl ⟨eq_true h1, eq_true h1, if_pos h1⟩
       ·by_cases h2 : x1 = b
        ·exact .inr (.inl ⟨eq_false h1, eq_true h2, by rw [if_neg h1, if_pos h2]⟩)
        ·exact .inr (.inr ⟨eq_false h1, eq_false h2, by rw [if_neg h1, if_neg h2]⟩)
      simp only [eA, swE] at eE hsj;rw [← hy] at hsj;have hiJ : ∀ p, idsE p (rowA ((r.take (j + 1)).map (swE a b))) = true := fun p => wj0 _ _;obtain ⟨RJ2, hRJ2⟩ : ∃ x, x = rowA ((r.take (j + 1)).map (swE a b)) := ⟨_, rfl⟩;rw [← hRJ2] at hsj hiJ;generalize rowA ((r.take j).map (swE a b)) = RJ at *;rcases hys with ⟨hd1, hd2, hd3⟩|⟨hd1, hd2, hd3⟩|⟨hd1, hd2, hd3⟩;all_goals
       rw [hd3] at hsj;repeat' (first|refine nv ?_|(with_reducible first|refine gG ?_ ?_|refine ⟨fun h => ?_, fun h => ?_⟩ <;> try omega|refine andG ?_)|simp (disch := try exact qa0) only [push_cast, simprocAttr, b1, b2, b3, b6, b7, b8, b9, b10, b11, hkl, hjl, hjI', eR, eE, hlR, hrl, hd1, hd2])
       rw [hsj];refine va0 (I - (j + 1)) 5 (by omega) (by first|exact wb0|fail) (by omega) (by simp) (by simp [Blk.below, idsE, idsL, AV.ids, hidR, hiW, hiJ]) ⟨j + 1, by omega, rfl, by simp only [List.take, hRJ2], ?_⟩;simp (disch := try exact qa0) only [push_cast, simprocAttr, b1, b2, b3, b6, b7, b8, b9, b10, qe0, AV.ids, idsL]
     ·obtain rfl : j = I := by omega
      have hnj : ¬ ((j : Int) < j) := by omega
      rw [List.take_of_length_le (by omega)] at hjl ⊢;repeat' (first|refine nv ?_|(with_reducible first|refine gG ?_ ?_|refine ⟨fun h => ?_, fun h => ?_⟩ <;> try omega|refine andG ?_)|simp (disch := try exact qa0) only [push_cast, simprocAttr, b1, b2, b3, b6, b7, b8, b9, b10, b11, hkl, hjl])
      have hiR : ∀ p, idsE p (rowA (r.map (swE a b))) = true := fun p => wj0 _ _;obtain ⟨RX, hRX⟩ : ∃ x, x = rowA (r.map (swE a b)) := ⟨_, rfl⟩;rw [← hRX] at hjl hiR hsn ⊢;have htk : RX.take j = RX := List.take_of_length_le (by omega);refine vg0 (la.length - (k + 1)) 4 (j := 4) rfl (by omega) (by first|exact wb0|fail) (by omega) (by simp [frzH]) (by simp [frzH, frzB, frz, qi0, Blk.below, idsE, idsL, AV.ids, zd0, hidR, hiW, hiR, hjl, htk]) ⟨k + 1, by omega, rfl, by rw [← hRW2, hsn]; simp [frzH, frzB, frz, qi0, Blk.below, idsE, idsL, AV.ids, zd0, hidR, hiW, hiR, hjl, htk], ?_⟩;simp (disch := try exact qa0) only [push_cast, simprocAttr, b1, b2, b3, b6, b7, b8, qe0, AV.ids, idsL, frz]
  ·obtain rfl : k = la.length := by omega
   rw [List.take_of_length_le (by omega)] at hkl ⊢;have hnl : (vj0 RR).length = la.length := by rw [kw0, hPl]
   have hiW : ∀ p, idsE p (xb0 (vj0 RR)) = true := fun p => ke0 _ _;have htk : (xb0 (vj0 RR)).take la.length = xb0 (vj0 RR) := List.take_of_length_le (by omega);repeat' (first|refine nv ?_|(with_reducible first|refine gG ?_ ?_|refine ⟨fun h => ?_, fun h => ?_⟩ <;> try omega|refine andG ?_)|simp (disch := try exact qa0) only [push_cast, simprocAttr, b1, b2, b3, b6, b7, b8, hlR, hkl, hiW, htk, hnl])
end Go.Proofs
