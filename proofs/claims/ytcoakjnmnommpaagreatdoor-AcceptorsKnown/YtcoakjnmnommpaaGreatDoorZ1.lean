import Derived.Test.YtcoakjnmnommpaaGreatDoorA42
import Derived.Test.YtcoakjnmnommpaaGreatDoorA14
namespace Go.Proofs
open Go Go.V Go.RowKit
set_option linter.unusedVariables false
set_option linter.unusedSimpArgs false
set_option maxHeartbeats 0
set_option maxRecDepth 100000
def errR (a b w : Int) : Int := if 16 < a ∨ 256 < b then 3 else if w = 1 then 1 else 0
theorem wbZ9 (a b w : Int) : PC Tryz.prog G0 52 [.int .i64 a, .int .i64 b, .int .i64 w] (.int .i64 (errR a b w)) := by
 unfold errR;by_cases h1 : 16 < a
 ·rw [if_pos (.inl h1)];refine qc0 0 15 [.tmp 6] Tryz.func52 rfl rfl rfl (by simp) ?_;intro s ⟨a0, a1, a2, hz⟩;simp only [l'm, Nat.reduceAdd] at a1 a2;clear hz;repeat' (first|refine nv ?_|(with_reducible first|refine gG ?_ ?_|refine ⟨fun h => ?_, fun h => ?_⟩ <;> try omega|refine andG ?_)|simp (disch := try exact qa0) only [push_cast, simprocAttr, a0, a1, a2, h1])
 ·by_cases h2 : 256 < b
  ·rw [if_pos (.inr h2)];refine qc0 0 15 [.tmp 6] Tryz.func52 rfl rfl rfl (by simp) ?_;intro s ⟨a0, a1, a2, hz⟩;simp only [l'm, Nat.reduceAdd] at a1 a2;clear hz;repeat' (first|refine nv ?_|(with_reducible first|refine gG ?_ ?_|refine ⟨fun h => ?_, fun h => ?_⟩ <;> try omega|refine andG ?_)|simp (disch := try exact qa0) only [push_cast, simprocAttr, a0, a1, a2, h1, h2])
  ·rw [if_neg (by rintro (q|q) <;> contradiction)];by_cases h3 : w = 1
   ·rw [if_pos h3];refine qc0 0 15 [.tmp 6] Tryz.func52 rfl rfl rfl (by simp) ?_;intro s ⟨a0, a1, a2, hz⟩;simp only [l'm, Nat.reduceAdd] at a1 a2;clear hz;repeat' (first|refine nv ?_|(with_reducible first|refine gG ?_ ?_|refine ⟨fun h => ?_, fun h => ?_⟩ <;> try omega|refine andG ?_)|simp (disch := try exact qa0) only [push_cast, simprocAttr, a0, a1, a2, h1, h2, h3])
   ·rw [if_neg h3];refine qc0 0 15 [.tmp 6] Tryz.func52 rfl rfl rfl (by simp) ?_;intro s ⟨a0, a1, a2, hz⟩;simp only [l'm, Nat.reduceAdd] at a1 a2;clear hz;repeat' (first|refine nv ?_|(with_reducible first|refine gG ?_ ?_|refine ⟨fun h => ?_, fun h => ?_⟩ <;> try omega|refine andG ?_)|simp (disch := try exact qa0) only [push_cast, simprocAttr, a0, a1, a2, h1, h2, h3])
def bI (b : Bool) : Int := if b = true then 1 else 0
theorem xag9 : bI true = 1 := rfl
theorem qB0 : bI false = 0 := rfl
def wA (sym : Int) (l : List LC) (m : Nat) : Bool := decide (sym < 1) || (decide (l.length = 0) || decide ((m : Int) ≠ l.length))
def wB (sym : Int) (l : List LC) (m s : Nat) : Bool := wA sym l m || (l.take s).any fun r => !xK0 sym l.length r.1
def wR (w : Bool) (sym n : Int) (r : List Int) (a : Nat) : Bool := (w || decide ((r.length : Int) ≠ sym)) || (r.take a).any fun x => !toOk n x
theorem zdU9 (sym : Int) (l : List LC) (m : Nat) : wB sym l m 0 = wA sym l m := by simp [wB]
theorem xdU9 (w : Bool) (sym n : Int) (r : List Int) : wR w sym n r 0 = (w || decide ((r.length : Int) ≠ sym)) := by simp [wR]
theorem wdU9 (w : Bool) (sym n : Int) (r : List Int) (a : Nat) (h : a < r.length) : wR w sym n r (a + 1) = (wR w sym n r a || !toOk n (r.getD a 0)) := by
 rw [wR, xd0 r 0 a h, n'K, wR, ← n'q]; simp
theorem qeo9 (sym : Int) (l : List LC) (m s : Nat) (h : s < l.length) : wR (wB sym l m s) sym l.length (l.getD s ([], none)).1 (l.getD s ([], none)).1.length = wB sym l m (s + 1) := by
 rw [wR, l'x, wB, wB, xd0 l ([], none) s h, n'K];simp only [List.any_cons, List.any_nil, n'Y, xaa9, Bool.not_and, n'q];congr 2
 rw [List.not_all_eq_any_not];simp
theorem zdr9 (sym : Int) (l : List LC) (m : Nat) (h : ¬ 256 < l.length) : errR sym l.length (bI (wB sym l m l.length)) = vd0 sym (kd0 l) m := by
 unfold errR;by_cases h1 : 16 < sym ∨ 256 < l.length
 ·rw [cD3 h1, if_pos (by omega)]
 ·rw [if_neg (by omega)];cases hw : wB sym l m l.length with
  | true =>
   rw [xag9, if_pos rfl];unfold wB wA at hw;rw [l'x] at hw;simp only [l'H, decide_eq_true_eq, l'y, l'M] at hw;rcases hw with hw|⟨r, hr, hw⟩
   ·rw [cD1 h1 (by omega)]
   ·obtain ⟨s, hs, rfl⟩ := l'G hr;rw [cD1r h1 hs (by rw [l'b, l'e hs]; exact hw)]
  | false =>
   rw [qB0, if_neg (by omega)];unfold wB wA at hw;rw [l'x] at hw;simp only [n'Q, decide_eq_false_iff_not, z'j, l'M, n'B] at hw;rw [cD0 h1 hw.1.1 (by omega) (by omega) fun s hs => by rw [l'b, l'e hs]; exact hw.2 _ (l'X hs)]
theorem wcp9 (sym : Int) (l : List LC) (m : Nat) (w : Int) (h : 256 < l.length) : errR sym l.length w = vd0 sym (kd0 l) m := by
 rw [errR, if_pos (by omega), cD3 (.inr h)]
theorem kcS9 (sym : Int) (zr : Nat) (l : List LC) (c : Option Nat) (za : Nat) (ac : List Bool) (ca : Option Nat) (hsz : SizeD zr l za ac) : PC Tryz.prog G0 19 [dA sym zr l c za ac ca] (.int .i64 (vd0 sym (kd0 l) ac.length)) := by
 have hidR : ∀ p, idsE p (rowL l) = true := fun p => vc0 _ _;have hidA : ∀ p, idsE p (qb0 ac) = true := fun p => zd0 _ _;have hRl := zb0 l;have hAl := zc0 ac;have e1 := xg0 l;have hl := hsz.bl;have hacl := hsz.bac;have hbr := hsz.br;have hbig := wcp9 sym l ac.length;have hW := zdr9 sym l ac.length;have hE := fun w => wbZ9 sym l.length w;have hw0 := zdU9 sym l ac.length;have hsu := qeo9 sym l ac.length;have hzr := hsz.zl;unfold dA at *;generalize hRN : rowL l = RN at *;generalize qb0 ac = BA at *;generalize vd0 sym (kd0 l) ac.length = R at *;have hgo : ∀ (s1 : Nat → AV), s1 1 = .ptr 0 0 0 1 → s1 3 = .int .i64 l.length → s1 4 = .int .i64 (bI (wA sym l ac.length)) → s1 5 = .int .i64 0 →
   V.Go false Tryz.prog G0 0 78 (wq0 Tryz.f19) [0, 1, 0, 1, 1, 1, 1] (zr0 0 (kai9 false Tryz.prog G0 0 78 (wq0 Tryz.f19) [1, 1, 1, 1, 1] (xaF9 Tryz.prog 78 [ResultVar.tmp 2] 0 (.int .i64 R)))) True s1 [.row 3 47 [[.int .i64 sym, .sl zr RN c, .sl za BA ca]]] := by
  intro s1 r1 r3 r4 r5;refine go_loop rfl (fun mz s' H' => ∃ s : Nat, s ≤ l.length ∧ (256 < l.length → s = 0) ∧ mz = l.length - s ∧ H' = [.row 3 47 [[.int .i64 sym, .sl zr RN c, .sl za BA ca]]] ∧ s' 1 = .ptr 0 0 0 1 ∧ s' 3 = .int .i64 l.length ∧ s' 4 = .int .i64 (bI (wB sym l ac.length s)) ∧ s' 5 = .int .i64 s) (m := l.length) (by first|exact va0|fail) (Weak.refl _ _) ⟨0, by omega, fun _ => rfl, by omega, rfl, ?_⟩ ?_
  ·simp (disch := try exact qa0) only [push_cast, simprocAttr, r1, r3, r4, r5];rw [hw0]
  ·rintro mz s' H' ⟨s, hs, hs0, rfl, rfl, b1, b3, b4, b5⟩;rcases l'i s l.length with hlt|hge
   ·obtain rfl := hzr.resolve_left (by intro h; rw [h] at hlt; simp at hlt);by_cases hb : 256 < l.length
    ·have hR := hbig (bI (wB sym l ac.length s)) hb;have hb' : ¬ (l.length : Int) ≤ 256 := by omega
     generalize bI (wB sym l ac.length s) = w at *;repeat' (first|refine nv ?_|(with_reducible first|refine gG ?_ ?_|refine ⟨fun h => ?_, fun h => ?_⟩ <;> try omega|refine andG ?_)|refine cp_ (hE w) ?_|simp (disch := try exact qa0) only [push_cast, simprocAttr, b1, b3, b4, b5, hRl, hb'])
     rw [hR]
    ·have hb' : (l.length : Int) ≤ 256 := by omega
     have e1s := e1 s hlt;have hr3 := hbr s hlt;have hsu := hsu s hlt;unfold lC at e1s;generalize (l.getD s ([], none)).2 = cr at *;generalize (l.getD s ([], none)).1 = r at *;have hIl := xa0 r;have e3 := xc0 r;have hz0 := xdU9 (wB sym l ac.length s) sym l.length r;have hz1 := wdU9 (wB sym l ac.length s) sym l.length r;generalize wB sym l ac.length s = w at *;by_cases hls : (r.length : Int) = sym
     ·have hls' : ¬ (r.length : Int) ≠ sym := by omega
      have hz0' : bI (wR w sym l.length r 0) = bI w := by rw [hz0, decide_eq_false hls', n'Y]
      repeat' (first|refine nv ?_|(with_reducible first|refine gG ?_ ?_|refine ⟨fun h => ?_, fun h => ?_⟩ <;> try omega|refine andG ?_)|simp (disch := try exact qa0) only [push_cast, simprocAttr, b1, b3, b4, b5, hRl, hb', e1s, hIl, hls])
      refine go_loop rfl (fun mz s' H' => ∃ a : Nat, a ≤ r.length ∧ mz = r.length - a ∧ H' = [.row 3 47 [[.int .i64 sym, .sl 1 RN c, .sl za BA ca]]] ∧ s' 1 = .ptr 0 0 0 1 ∧ s' 3 = .int .i64 l.length ∧ s' 4 = .int .i64 (bI (wR w sym l.length r a)) ∧ s' 5 = .int .i64 s ∧ s' 6 = .int .i64 a) (m := r.length) (by first|exact va0|fail) (Weak.refl _ _) ⟨0, by omega, by omega, rfl, ?_⟩ ?_
      ·simp (disch := try exact qa0) only [push_cast, simprocAttr, b1, b3, b4, b5, hRl, hb', e1s, hIl, hls];rw [hz0']
      ·clear b1 b3 b4 b5;rintro mz s' H' ⟨a, ha, rfl, rfl, b1, b3, b4, b5, b6⟩;rcases l'i a r.length with hla|hga
       ·have e3a := e3 a hla;have hz1 := hz1 a hla;unfold toOk at hz1;generalize r.getD a 0 = x at *;by_cases c1 : x < 0
        ·have hz2 : bI (wR w sym l.length r (a + 1)) = 1 := by rw [hz1, decide_eq_false (by omega)]; simp [bI]
         repeat' (first|refine nv ?_|(with_reducible first|refine gG ?_ ?_|refine ⟨fun h => ?_, fun h => ?_⟩ <;> try omega|refine andG ?_)|simp (disch := try exact qa0) only [push_cast, simprocAttr, b1, b3, b4, b5, b6, hRl, hb', e1s, hIl, e3a, c1])
         refine za0 (r.length - (a + 1)) (by omega) (by first|exact va0|fail) ⟨a + 1, by omega, rfl, rfl, ?_⟩;simp (disch := try exact qa0) only [push_cast, simprocAttr, b1, b3, b4, b5, b6, hRl, hb', e1s, hIl, e3a, c1];rw [hz2]
        ·by_cases c2 : (l.length : Int) ≤ x
         ·have hz2 : bI (wR w sym l.length r (a + 1)) = 1 := by rw [hz1, decide_eq_false (p := x < l.length) (by omega)]; simp [bI]
          repeat' (first|refine nv ?_|(with_reducible first|refine gG ?_ ?_|refine ⟨fun h => ?_, fun h => ?_⟩ <;> try omega|refine andG ?_)|simp (disch := try exact qa0) only [push_cast, simprocAttr, b1, b3, b4, b5, b6, hRl, hb', e1s, hIl, e3a, c1, c2])
          refine za0 (r.length - (a + 1)) (by omega) (by first|exact va0|fail) ⟨a + 1, by omega, rfl, rfl, ?_⟩;simp (disch := try exact qa0) only [push_cast, simprocAttr, b1, b3, b4, b5, b6, hRl, hb', e1s, hIl, e3a, c1, c2];rw [hz2]
         ·have hz2 : wR w sym l.length r (a + 1) = wR w sym l.length r a := by rw [hz1, decide_eq_true (p := x < l.length) (by omega), decide_eq_true (p := 0 ≤ x) (by omega)]; simp
          repeat' (first|refine nv ?_|(with_reducible first|refine gG ?_ ?_|refine ⟨fun h => ?_, fun h => ?_⟩ <;> try omega|refine andG ?_)|simp (disch := try exact qa0) only [push_cast, simprocAttr, b1, b3, b4, b5, b6, hRl, hb', e1s, hIl, e3a, c1, c2])
          refine za0 (r.length - (a + 1)) (by omega) (by first|exact va0|fail) ⟨a + 1, by omega, rfl, rfl, ?_⟩;simp (disch := try exact qa0) only [push_cast, simprocAttr, b1, b3, b4, b5, b6, hRl, hb', e1s, hIl, e3a, c1, c2];rw [hz2]
       ·obtain rfl : r.length = a := by omega
        rw [hsu] at b4;repeat' (first|refine nv ?_|(with_reducible first|refine gG ?_ ?_|refine ⟨fun h => ?_, fun h => ?_⟩ <;> try omega|refine andG ?_)|simp (disch := try exact qa0) only [push_cast, simprocAttr, b1, b3, b4, b5, b6, hRl, hb', e1s, hIl])
        refine za0 (l.length - (s + 1)) (by omega) (by first|exact va0|fail) ⟨s + 1, by omega, by omega, rfl, rfl, ?_⟩;simp (disch := try exact qa0) only [push_cast, simprocAttr, b1, b3, b4, b5, b6, hRl, hb', e1s, hIl]
     ·have hz0' : bI (wR w sym l.length r 0) = 1 := by rw [hz0, decide_eq_true hls, z'G]; rfl
      repeat' (first|refine nv ?_|(with_reducible first|refine gG ?_ ?_|refine ⟨fun h => ?_, fun h => ?_⟩ <;> try omega|refine andG ?_)|simp (disch := try exact qa0) only [push_cast, simprocAttr, b1, b3, b4, b5, hRl, hb', e1s, hIl, hls])
      refine go_loop rfl (fun mz s' H' => ∃ a : Nat, a ≤ r.length ∧ mz = r.length - a ∧ H' = [.row 3 47 [[.int .i64 sym, .sl 1 RN c, .sl za BA ca]]] ∧ s' 1 = .ptr 0 0 0 1 ∧ s' 3 = .int .i64 l.length ∧ s' 4 = .int .i64 (bI (wR w sym l.length r a)) ∧ s' 5 = .int .i64 s ∧ s' 6 = .int .i64 a) (m := r.length) (by first|exact va0|fail) (Weak.refl _ _) ⟨0, by omega, by omega, rfl, ?_⟩ ?_
      ·simp (disch := try exact qa0) only [push_cast, simprocAttr, b1, b3, b4, b5, hRl, hb', e1s, hIl, hls];rw [hz0']
      ·clear b1 b3 b4 b5;rintro mz s' H' ⟨a, ha, rfl, rfl, b1, b3, b4, b5, b6⟩;rcases l'i a r.length with hla|hga
       ·have e3a := e3 a hla;have hz1 := hz1 a hla;unfold toOk at hz1;generalize r.getD a 0 = x at *;by_cases c1 : x < 0
        ·have hz2 : bI (wR w sym l.length r (a + 1)) = 1 := by rw [hz1, decide_eq_false (by omega)]; simp [bI]
         repeat' (first|refine nv ?_|(with_reducible first|refine gG ?_ ?_|refine ⟨fun h => ?_, fun h => ?_⟩ <;> try omega|refine andG ?_)|simp (disch := try exact qa0) only [push_cast, simprocAttr, b1, b3, b4, b5, b6, hRl, hb', e1s, hIl, e3a, c1])
         refine za0 (r.length - (a + 1)) (by omega) (by first|exact va0|fail) ⟨a + 1, by omega, rfl, rfl, ?_⟩;simp (disch := try exact qa0) only [push_cast, simprocAttr, b1, b3, b4, b5, b6, hRl, hb', e1s, hIl, e3a, c1];rw [hz2]
        ·by_cases c2 : (l.length : Int) ≤ x
         ·have hz2 : bI (wR w sym l.length r (a + 1)) = 1 := by rw [hz1, decide_eq_false (p := x < l.length) (by omega)]; simp [bI]
          repeat' (first|refine nv ?_|(with_reducible first|refine gG ?_ ?_|refine ⟨fun h => ?_, fun h => ?_⟩ <;> try omega|refine andG ?_)|simp (disch := try exact qa0) only [push_cast, simprocAttr, b1, b3, b4, b5, b6, hRl, hb', e1s, hIl, e3a, c1, c2])
          refine za0 (r.length - (a + 1)) (by omega) (by first|exact va0|fail) ⟨a + 1, by omega, rfl, rfl, ?_⟩;simp (disch := try exact qa0) only [push_cast, simprocAttr, b1, b3, b4, b5, b6, hRl, hb', e1s, hIl, e3a, c1, c2];rw [hz2]
         ·have hz2 : wR w sym l.length r (a + 1) = wR w sym l.length r a := by rw [hz1, decide_eq_true (p := x < l.length) (by omega), decide_eq_true (p := 0 ≤ x) (by omega)]; simp
          repeat' (first|refine nv ?_|(with_reducible first|refine gG ?_ ?_|refine ⟨fun h => ?_, fun h => ?_⟩ <;> try omega|refine andG ?_)|simp (disch := try exact qa0) only [push_cast, simprocAttr, b1, b3, b4, b5, b6, hRl, hb', e1s, hIl, e3a, c1, c2])
          refine za0 (r.length - (a + 1)) (by omega) (by first|exact va0|fail) ⟨a + 1, by omega, rfl, rfl, ?_⟩;simp (disch := try exact qa0) only [push_cast, simprocAttr, b1, b3, b4, b5, b6, hRl, hb', e1s, hIl, e3a, c1, c2];rw [hz2]
       ·obtain rfl : r.length = a := by omega
        rw [hsu] at b4;repeat' (first|refine nv ?_|(with_reducible first|refine gG ?_ ?_|refine ⟨fun h => ?_, fun h => ?_⟩ <;> try omega|refine andG ?_)|simp (disch := try exact qa0) only [push_cast, simprocAttr, b1, b3, b4, b5, b6, hRl, hb', e1s, hIl])
        refine za0 (l.length - (s + 1)) (by omega) (by first|exact va0|fail) ⟨s + 1, by omega, by omega, rfl, rfl, ?_⟩;simp (disch := try exact qa0) only [push_cast, simprocAttr, b1, b3, b4, b5, b6, hRl, hb', e1s, hIl]
   ·obtain rfl : l.length = s := by omega
    by_cases hb : 256 < l.length
    ·have := hs0 hb; omega
    ·have hR := hW hb;generalize bI (wB sym l ac.length l.length) = w at *;repeat' (first|refine nv ?_|(with_reducible first|refine gG ?_ ?_|refine ⟨fun h => ?_, fun h => ?_⟩ <;> try omega|refine andG ?_)|refine cp_ (hE w) ?_|simp (disch := try exact qa0) only [push_cast, simprocAttr, b1, b3, b4, b5, hRl])
     rw [hR]
 by_cases h1 : sym < 1
 ·have hw : bI (wA sym l ac.length) = 1 := by simp [wA, bI, h1]
  rw [hw] at hgo;refine qc0 0 78 [.tmp 2] Tryz.func19 rfl rfl rfl (by simp) ?_;intro s ⟨a0, hz⟩;clear hz;repeat' (first|refine nv ?_|(with_reducible first|refine gG ?_ ?_|refine ⟨fun h => ?_, fun h => ?_⟩ <;> try omega|refine andG ?_)|simp (disch := try exact qa0) only [push_cast, simprocAttr, a0, hRl, hAl, h1])
  refine hgo _ ?_ ?_ ?_ ?_;all_goals simp (disch := try exact qa0) only [push_cast, simprocAttr, a0, hRl, hAl, h1]
 ·by_cases h2 : l.length = 0
  ·have hw : bI (wA sym l ac.length) = 1 := by simp [wA, bI, h2]
   rw [hw] at hgo;have h2' : (l.length : Int) = 0 := by omega
   refine qc0 0 78 [.tmp 2] Tryz.func19 rfl rfl rfl (by simp) ?_;intro s ⟨a0, hz⟩;clear hz;repeat' (first|refine nv ?_|(with_reducible first|refine gG ?_ ?_|refine ⟨fun h => ?_, fun h => ?_⟩ <;> try omega|refine andG ?_)|simp (disch := try exact qa0) only [push_cast, simprocAttr, a0, hRl, hAl, h1, h2'])
   refine hgo _ ?_ ?_ ?_ ?_;all_goals simp (disch := try exact qa0) only [push_cast, simprocAttr, a0, hRl, hAl, h1, h2']
  ·have h2' : ¬ (l.length : Int) = 0 := by omega
   by_cases h3 : (ac.length : Int) = l.length
   ·have hw : bI (wA sym l ac.length) = 0 := by simp [wA, bI, h1, h2, h3]
    rw [hw] at hgo;refine qc0 0 78 [.tmp 2] Tryz.func19 rfl rfl rfl (by simp) ?_;intro s ⟨a0, hz⟩;clear hz;repeat' (first|refine nv ?_|(with_reducible first|refine gG ?_ ?_|refine ⟨fun h => ?_, fun h => ?_⟩ <;> try omega|refine andG ?_)|simp (disch := try exact qa0) only [push_cast, simprocAttr, a0, hRl, hAl, h1, h2', h3])
    refine hgo _ ?_ ?_ ?_ ?_;all_goals simp (disch := try exact qa0) only [push_cast, simprocAttr, a0, hRl, hAl, h1, h2', h3]
   ·have hw : bI (wA sym l ac.length) = 1 := by simp [wA, bI, h3]
    rw [hw] at hgo;refine qc0 0 78 [.tmp 2] Tryz.func19 rfl rfl rfl (by simp) ?_;intro s ⟨a0, hz⟩;clear hz;repeat' (first|refine nv ?_|(with_reducible first|refine gG ?_ ?_|refine ⟨fun h => ?_, fun h => ?_⟩ <;> try omega|refine andG ?_)|simp (disch := try exact qa0) only [push_cast, simprocAttr, a0, hRl, hAl, h1, h2', h3])
    refine hgo _ ?_ ?_ ?_ ?_;all_goals simp (disch := try exact qa0) only [push_cast, simprocAttr, a0, hRl, hAl, h1, h2', h3]
theorem wbk9 (z : Nat) (l : List Int) (c : Option Nat) (n : Int) (hz : l = [] ∨ z = 1) (hl : l.length ≤ 9223372036854775807) : PC Tryz.prog G0 51 [.sl z (ints l) c, .int .i64 n] (.int .i64 (bI (zf0 l n))) := by
 have hil := xa0 l;refine qc0 0 41 [.tmp 4] Tryz.func51 rfl rfl rfl (by simp) ?_;intro s ⟨a0, a1, hz⟩;simp only [l'm, Nat.reduceAdd] at a1;clear hz;repeat' (first|refine nv ?_|(with_reducible first|refine gG ?_ ?_|refine ⟨fun h => ?_, fun h => ?_⟩ <;> try omega|refine andG ?_)|simp (disch := try exact qa0) only [push_cast, simprocAttr, a0, a1, hil])
 refine go_loop rfl (fun mz s' H' => ∃ k : Nat, k ≤ l.length ∧ mz = l.length - k ∧ H' = [] ∧ s' 0 = .sl z (ints l) c ∧ s' 1 = .int .i64 n ∧ s' 5 = .int .i64 k ∧ (∀ j, j < k → okI l n j = true)) (m := l.length) (by first|exact va0|fail) (Weak.refl _ _) ⟨0, by omega, by omega, rfl, ?_⟩ ?_
 ·refine ⟨?_, ?_, ?_, fun j hj => by omega⟩;all_goals simp (disch := try exact qa0) only [push_cast, simprocAttr, a0, a1, hil]
 ·rintro mz s' H' ⟨k, hk, rfl, rfl, b0, b1, b5, ik⟩;rcases l'i k l.length with hlt|hge
  ·obtain rfl := hz.resolve_left (by intro h; rw [h] at hlt; simp at hlt);have e1 := xc0 l k hlt;have e2 := xc0 l (k - 1) (by omega);have hno := kbU9 (n := n) hlt;have hsn := kaf9 (P := fun j => okI l n j = true) (k := k) ik;have hok : okI l n k = (decide (0 ≤ l.getD k 0) && (decide (l.getD k 0 < n) && (decide (k = 0) || decide (l.getD (k - 1) 0 < l.getD k 0)))) := rfl;rw [hok] at hno hsn;generalize l.getD k 0 = x at *;generalize l.getD (k - 1) 0 = y at *;by_cases h1 : x < 0
   ·rw [hno (by rw [decide_eq_false (by omega)]; rfl)];repeat' (first|refine nv ?_|(with_reducible first|refine gG ?_ ?_|refine ⟨fun h => ?_, fun h => ?_⟩ <;> try omega|refine andG ?_)|simp (disch := try exact qa0) only [push_cast, simprocAttr, b0, b1, b5, e1, h1, hil, qB0])
   ·by_cases h2 : n ≤ x
    ·rw [hno (by rw [decide_eq_true (by omega), decide_eq_false (by omega)]; rfl)];repeat' (first|refine nv ?_|(with_reducible first|refine gG ?_ ?_|refine ⟨fun h => ?_, fun h => ?_⟩ <;> try omega|refine andG ?_)|simp (disch := try exact qa0) only [push_cast, simprocAttr, b0, b1, b5, e1, h1, h2, hil, qB0])
    ·rcases n'G k with rfl|hk0
     ·have h3 := hsn (by simp; omega);repeat' (first|refine nv ?_|(with_reducible first|refine gG ?_ ?_|refine ⟨fun h => ?_, fun h => ?_⟩ <;> try omega|refine andG ?_)|simp (disch := try exact qa0) only [push_cast, simprocAttr, b0, b1, b5, e1, h1, h2, hil])
      refine za0 (l.length - (0 + 1)) (by omega) (by first|exact va0|fail) ⟨0 + 1, by omega, rfl, rfl, ?_, ?_, ?_, h3⟩;all_goals simp (disch := try exact qa0) only [push_cast, simprocAttr, b0, b1, b5, e1, h1, h2, hil]
     ·have hj3 : ((k : Int) - 1).toNat = k - 1 := by omega
      have hj4 : 0 ≤ (k : Int) - 1 := by omega
      have hj5 : (k : Int) - 1 < l.length := by omega
      have hk1 : (0 : Int) < k := by omega
      by_cases h3 : x ≤ y
      ·rw [hno (by rw [decide_eq_true (by omega), decide_eq_true (by omega), decide_eq_false (by omega), decide_eq_false (by omega)]; rfl)];repeat' (first|refine nv ?_|(with_reducible first|refine gG ?_ ?_|refine ⟨fun h => ?_, fun h => ?_⟩ <;> try omega|refine andG ?_)|simp (disch := try exact qa0) only [push_cast, simprocAttr, b0, b1, b5, e1, e2, h1, h2, h3, hj3, hj4, hj5, hil, hk0, hk1, qB0])
      ·have h4 := hsn (by simp; omega);repeat' (first|refine nv ?_|(with_reducible first|refine gG ?_ ?_|refine ⟨fun h => ?_, fun h => ?_⟩ <;> try omega|refine andG ?_)|simp (disch := try exact qa0) only [push_cast, simprocAttr, b0, b1, b5, e1, e2, h1, h2, h3, hj3, hj4, hj5, hil, hk0, hk1])
       refine za0 (l.length - (k + 1)) (by omega) (by first|exact va0|fail) ⟨k + 1, by omega, rfl, rfl, ?_, ?_, ?_, h4⟩;all_goals simp (disch := try exact qa0) only [push_cast, simprocAttr, b0, b1, b5, e1, e2, h1, h2, h3, hj3, hj4, hj5, hil, hk0, hk1]
  ·obtain rfl : k = l.length := by omega
   rw [vaJ9 ik, xag9];repeat' (first|refine nv ?_|(with_reducible first|refine gG ?_ ?_|refine ⟨fun h => ?_, fun h => ?_⟩ <;> try omega|refine andG ?_)|simp (disch := try exact qa0) only [push_cast, simprocAttr, b0, b1, b5, hil])
def wag9 (sym : Int) (w : List Int) : Int := if 256 < w.length then 3 else if w.any (badW sym) = true then 1 else 0
theorem xbA9 (z : Nat) (w : List Int) (c : Option Nat) (sym : Int) (hz : w = [] ∨ z = 1) (hl : w.length ≤ 9223372036854775807) : PC Tryz.prog G0 24 [.sl z (ints w) c, .int .i64 sym] (.int .i64 (wag9 sym w)) := by
 have hil := xa0 w;by_cases h256 : 256 < w.length
 ·rw [wag9, if_pos h256];have h256' : (256 : Int) < w.length := by omega
  generalize ints w = IW at *;refine qc0 0 28 [.tmp 4] Tryz.func24 rfl rfl rfl (by simp) ?_;intro s ⟨a0, a1, hz⟩;simp only [l'm, Nat.reduceAdd] at a1;clear hz;repeat' (first|refine nv ?_|(with_reducible first|refine gG ?_ ?_|refine ⟨fun h => ?_, fun h => ?_⟩ <;> try omega|refine andG ?_)|simp (disch := try exact qa0) only [push_cast, simprocAttr, a0, a1, hil, h256'])
 ·rw [wag9, if_neg h256];have h256' : ¬ (256 : Int) < w.length := by omega
  refine qc0 0 28 [.tmp 4] Tryz.func24 rfl rfl rfl (by simp) ?_;intro s ⟨a0, a1, hz⟩;simp only [l'm, Nat.reduceAdd] at a1;clear hz;repeat' (first|refine nv ?_|(with_reducible first|refine gG ?_ ?_|refine ⟨fun h => ?_, fun h => ?_⟩ <;> try omega|refine andG ?_)|simp (disch := try exact qa0) only [push_cast, simprocAttr, a0, a1, hil, h256'])
  refine go_loop rfl (fun mz s' H' => ∃ k : Nat, k ≤ w.length ∧ mz = w.length - k ∧ H' = [] ∧ s' 0 = .sl z (ints w) c ∧ s' 1 = .int .i64 sym ∧ s' 5 = .int .i64 k ∧ (∀ j, j < k → badW sym (w.getD j 0) = false)) (m := w.length) (by first|exact va0|fail) (Weak.refl _ _) ⟨0, by omega, by omega, rfl, ?_⟩ ?_
  ·refine ⟨?_, ?_, ?_, fun j hj => by omega⟩;all_goals simp (disch := try exact qa0) only [push_cast, simprocAttr, a0, a1, hil, h256']
  ·rintro mz s' H' ⟨k, hk, rfl, rfl, b0, b1, b5, ik⟩;rcases l'i k w.length with hlt|hge
   ·obtain rfl := hz.resolve_left (by intro h; rw [h] at hlt; simp at hlt);have e1 := xc0 w k hlt;have hsn := kaf9 (P := fun j => badW sym (w.getD j 0) = false) (k := k) ik;have hany : badW sym (w.getD k 0) = true → w.any (badW sym) = true := fun h => by
     rw [l'y]; exact ⟨_, wc0 (d := 0) hlt, h⟩
    have hbw : badW sym (w.getD k 0) = (decide (w.getD k 0 < 0) || decide (sym ≤ w.getD k 0)) := rfl;rw [hbw] at hany hsn;generalize w.getD k 0 = x at *;by_cases h1 : x < 0
    ·rw [if_pos (hany (by rw [decide_eq_true h1]; rfl))];repeat' (first|refine nv ?_|(with_reducible first|refine gG ?_ ?_|refine ⟨fun h => ?_, fun h => ?_⟩ <;> try omega|refine andG ?_)|simp (disch := try exact qa0) only [push_cast, simprocAttr, b0, b1, b5, e1, h1, hil])
    ·by_cases h2 : sym ≤ x
     ·rw [if_pos (hany (by rw [decide_eq_true h2, z'G]))];repeat' (first|refine nv ?_|(with_reducible first|refine gG ?_ ?_|refine ⟨fun h => ?_, fun h => ?_⟩ <;> try omega|refine andG ?_)|simp (disch := try exact qa0) only [push_cast, simprocAttr, b0, b1, b5, e1, h1, h2, hil])
     ·have h3 := hsn (by rw [decide_eq_false h1, decide_eq_false h2]; rfl);repeat' (first|refine nv ?_|(with_reducible first|refine gG ?_ ?_|refine ⟨fun h => ?_, fun h => ?_⟩ <;> try omega|refine andG ?_)|simp (disch := try exact qa0) only [push_cast, simprocAttr, b0, b1, b5, e1, h1, h2, hil])
      refine za0 (w.length - (k + 1)) (by omega) (by first|exact va0|fail) ⟨k + 1, by omega, rfl, rfl, ?_, ?_, ?_, h3⟩;all_goals simp (disch := try exact qa0) only [push_cast, simprocAttr, b0, b1, b5, e1, h1, h2, hil]
   ·obtain rfl : k = w.length := by omega
    rw [if_neg (by
     rw [l'y];rintro ⟨x, hx, hb⟩;obtain ⟨j, hj, rfl⟩ := l'G hx;have := ik j hj;rw [l'b, l'e hj, Option.getD_some] at this;rw [this] at hb; cases hb)]
    repeat' (first|refine nv ?_|(with_reducible first|refine gG ?_ ?_|refine ⟨fun h => ?_, fun h => ?_⟩ <;> try omega|refine andG ?_)|simp (disch := try exact qa0) only [push_cast, simprocAttr, b0, b1, b5, hil])
end Go.Proofs
