import Derived.Test.YtcoakjnmnommpaaGreatDoorZ1
import Derived.Test.YtcoakjnmnommpaaGreatDoorA12
import Derived.Test.YtcoakjnmnommpaaGreatDoorA20
import Derived.Test.YtcoakjnmnommpaaGreatDoorA37
namespace Go.Proofs
open Go Go.V Go.RowKit
set_option linter.unusedVariables false
set_option linter.unusedSimpArgs false
set_option maxHeartbeats 0
set_option maxRecDepth 100000
def wAn (sym n : Int) (st ac : List Int) : Bool := decide (sym < 1) || (!zf0 st n || !zf0 ac n)
def badR (sym n : Int) (r : List LC) : Bool := decide ((r.length : Int) ≠ sym) || (r.take 17).any fun x => !zf0 x.1 n
def wBn (sym : Int) (l : List RC) (st ac : List Int) (s : Nat) : Bool := wAn sym l.length st ac || (l.take s).any fun r => badR sym l.length r.1
def wRn (w : Bool) (sym n : Int) (r : List LC) (a : Nat) : Bool := (w || decide ((r.length : Int) ≠ sym)) || (r.take a).any fun x => !zf0 x.1 n
theorem xdr9 (sym : Int) (l : List RC) (st ac : List Int) : wBn sym l st ac 0 = wAn sym l.length st ac := by simp [wBn]
theorem wdr9 (w : Bool) (sym n : Int) (r : List LC) : wRn w sym n r 0 = (w || decide ((r.length : Int) ≠ sym)) := by simp [wRn]
theorem vdr9 (w : Bool) (sym n : Int) (r : List LC) (a : Nat) (h : a < r.length) : wRn w sym n r (a + 1) = (wRn w sym n r a || !zf0 (r.getD a ([], none)).1 n) := by
 rw [wRn, xd0 r ([], none) a h, n'K, wRn, ← n'q]; simp
theorem vdU9 (sym : Int) (l : List RC) (st ac : List Int) (s : Nat) (h : s < l.length) : wRn (wBn sym l st ac s) sym l.length (l.getD s ([], none)).1 (min 17 (l.getD s ([], none)).1.length) = wBn sym l st ac (s + 1) := by
 have e : (l.getD s ([], none)).1.take (min 17 (l.getD s ([], none)).1.length) = (l.getD s ([], none)).1.take 17 := by
  rw [← List.take_take, l'x]
 rw [wRn, e, wBn, wBn, xd0 l ([], none) s h, n'K];simp only [List.any_cons, List.any_nil, n'Y, badR, n'q]
theorem kdr9 (sym : Int) (l : List RC) (st ac : List Int) (h : ¬ 256 < l.length) : errR sym l.length (bI (wBn sym l st ac l.length)) = wh0 sym (rowsV l) st ac := by
 unfold errR;by_cases h1 : 16 < sym ∨ 256 < l.length
 ·rw [cN3 h1, if_pos (by omega)]
 ·rw [if_neg (by omega)];cases hw : wBn sym l st ac l.length with
  | true =>
   rw [xag9, if_pos rfl];unfold wBn wAn at hw;rw [l'x] at hw;simp only [l'H, decide_eq_true_eq, l'y, l'M] at hw;rcases hw with hw|⟨r, hr, hw⟩
   ·rw [cN1 h1 hw]
   ·obtain ⟨s, hs, rfl⟩ := l'G hr;have hs' : (l.getD s ([], none)) = l[s] := by rw [l'b, l'e hs]; rfl
    unfold badR at hw;simp only [l'H, decide_eq_true_eq, l'y, l'M] at hw;rcases hw with hw|⟨x, hx, hw⟩
    ·rw [cN1r h1 hs (by rw [hs']; exact xby9 hw)]
    ·obtain ⟨a, ha, rfl⟩ := l'G (n'y hx);rw [cN1r h1 hs (by rw [hs']; exact vbV9 ha (by rw [l'b, l'e ha]; exact hw))]
  | false =>
   rw [qB0, if_neg (by omega)];unfold wBn wAn at hw;rw [l'x] at hw;simp only [n'Q, decide_eq_false_iff_not, z'j, Bool.not_eq_false'] at hw;obtain ⟨⟨hw1, hw2, hw3⟩, hw4⟩ := hw;rw [cN0 h1 hw1 hw2 hw3 fun s hs => ?_];have hs' : (l.getD s ([], none)) = l[s] := by rw [l'b, l'e hs]; rfl
   rw [hs'];have := hw4 l[s] (l'X hs);unfold badR at this;simp only [l'H, decide_eq_true_eq, l'y, l'M, not_or, not_exists, not_and, ne_eq, z'B, n'B] at this;refine wby9 this.1 fun a ha => ?_;refine this.2 _ ?_;rw [l'k (by omega)];exact wc0 (d := ([], none)) ha
theorem vcp9 (sym : Int) (l : List RC) (st ac : List Int) (w : Int) (h : 256 < l.length) : errR sym l.length w = wh0 sym (rowsV l) st ac := by
 rw [errR, if_pos (by omega), cN3 (.inr h)]
theorem vbk9 (sym : Int) (zr : Nat) (l : List RC) (c : Option Nat) (zs : Nat) (st : List Int) (cs : Option Nat) (za : Nat) (ac : List Int) (ca : Option Nat) (hsz : SizeN zr l zs st za ac) : PC Tryz.prog G0 18 [nA sym zr l c zs st cs za ac ca] (.int .i64 (wh0 sym (rowsV l) st ac)) := by
 have hidR : ∀ p, idsE p (xe0 l) = true := fun p => ze0 _ _;have hidS : ∀ p, idsE p (ints st) = true := fun p => wa0 _ _;have hidA : ∀ p, idsE p (ints ac) = true := fun p => wa0 _ _;have hRl := vh0 l;have e1 := qq0 l;have hl := hsz.bl;have hbr := hsz.br;have hbi := hsz.bi;have hbig := vcp9 sym l st ac;have hW := kdr9 sym l st ac;have hE := fun w => wbZ9 sym l.length w;have hw0 := xdr9 sym l st ac;have hsu := vdU9 sym l st ac;have hzr := hsz.zl;have hr1 := wbk9 zs st cs l.length hsz.zst hsz.bst;have hr2 := wbk9 za ac ca l.length hsz.zac hsz.bac;unfold nA at *;generalize hRN : xe0 l = RN at *;generalize ints st = IS at *;generalize ints ac = IA at *;generalize wh0 sym (rowsV l) st ac = R at *;have hgo : ∀ (s1 : Nat → AV), s1 1 = .ptr 0 0 0 1 → s1 3 = .int .i64 l.length → s1 4 = .int .i64 (bI (wAn sym l.length st ac)) → s1 5 = .int .i64 0 →
   V.Go false Tryz.prog G0 0 75 (wq0 Tryz.f18) [0, 1, 0, 1, 1, 1, 1] (zr0 0 (kai9 false Tryz.prog G0 0 75 (wq0 Tryz.f18) [1, 1, 1, 1, 1] (xaF9 Tryz.prog 75 [ResultVar.tmp 2] 0 (.int .i64 R)))) True s1 [.row 4 29 [[.int .i64 sym, .sl zr RN c, .sl zs IS cs, .sl za IA ca]]] := by
  intro s1 r1 r3 r4 r5;refine go_loop rfl (fun mz s' H' => ∃ s : Nat, s ≤ l.length ∧ (256 < l.length → s = 0) ∧ mz = l.length - s ∧ H' = [.row 4 29 [[.int .i64 sym, .sl zr RN c, .sl zs IS cs, .sl za IA ca]]] ∧ s' 1 = .ptr 0 0 0 1 ∧ s' 3 = .int .i64 l.length ∧ s' 4 = .int .i64 (bI (wBn sym l st ac s)) ∧ s' 5 = .int .i64 s) (m := l.length) (by first|exact va0|fail) (Weak.refl _ _) ⟨0, by omega, by omega, by omega, rfl, ?_⟩ ?_
  ·rw [hw0];simp (disch := try exact qa0) only [push_cast, simprocAttr, r1, r3, r4, r5]
  ·rintro mz s' H' ⟨s, hs, hs0, rfl, rfl, b1, b3, b4, b5⟩;rcases l'i s l.length with hlt|hge
   ·obtain rfl := hzr.resolve_left (by intro h; rw [h] at hlt; simp at hlt);by_cases hb : 256 < l.length
    ·have hR := hbig (bI (wBn sym l st ac s)) hb;have hb' : ¬ (l.length : Int) ≤ 256 := by omega
     generalize bI (wBn sym l st ac s) = w at *;repeat' (first|refine nv ?_|(with_reducible first|refine gG ?_ ?_|refine ⟨fun h => ?_, fun h => ?_⟩ <;> try omega|refine andG ?_)|refine cp_ (hE w) ?_|simp (disch := try exact qa0) only [push_cast, simprocAttr, b1, b3, b4, b5, hRl, hb'])
     rw [hR]
    ·have hb' : (l.length : Int) ≤ 256 := by omega
     have e1s := e1 s hlt;have hr3 := hbr s hlt;have hr4 := fun a => hbi s a hlt;have hsu := hsu s hlt;unfold rC at e1s;generalize (l.getD s ([], none)).2 = cr at *;generalize (l.getD s ([], none)).1 = r at *;have hIl := zb0 r;have e3 := xg0 r;have hz0 := wdr9 (wBn sym l st ac s) sym l.length r;have hz1 := vdr9 (wBn sym l st ac s) sym l.length r;generalize wBn sym l st ac s = w at *;by_cases hls : (r.length : Int) = sym
     ·have hz0' : bI (wRn w sym l.length r 0) = bI w := by rw [hz0, decide_eq_false (by omega), n'Y]
      repeat' (first|refine nv ?_|(with_reducible first|refine gG ?_ ?_|refine ⟨fun h => ?_, fun h => ?_⟩ <;> try omega|refine andG ?_)|simp (disch := try exact qa0) only [push_cast, simprocAttr, b1, b3, b4, b5, hRl, hb', e1s, hIl, hls])
      refine go_loop rfl (fun mz s' H' => ∃ a : Nat, a ≤ min 17 r.length ∧ mz = min 17 r.length - a ∧ H' = [.row 4 29 [[.int .i64 sym, .sl 1 RN c, .sl zs IS cs, .sl za IA ca]]] ∧ s' 1 = .ptr 0 0 0 1 ∧ s' 3 = .int .i64 l.length ∧ s' 4 = .int .i64 (bI (wRn w sym l.length r a)) ∧ s' 5 = .int .i64 s ∧ s' 6 = .int .i64 a) (m := min 17 r.length) (by first|exact va0|fail) (Weak.refl _ _) ⟨0, by omega, by omega, rfl, ?_⟩ ?_
      ·simp (disch := try exact qa0) only [push_cast, simprocAttr, b1, b3, b4, b5, hRl, hb', e1s, hIl, hls];rw [hz0']
      ·clear b1 b3 b4 b5;rintro mz s' H' ⟨a, ha, rfl, rfl, b1, b3, b4, b5, b6⟩;rcases l'i a (min 17 r.length) with hla|hga
       ·have e3a := e3 a (by omega);have hz1 := hz1 a (by omega);have hr4a := hr4 a (by omega);have ha17 : (a : Int) < 17 := by omega
        have har : (a : Int) < r.length := by omega
        have harN : a < r.length := by omega
        unfold lC at e3a;generalize (r.getD a ([], none)).2 = cx at *;generalize (r.getD a ([], none)).1 = x at *;have hrx := wbk9 1 x cx l.length (.inr rfl) hr4a;cases hq : zf0 x l.length with
        | false =>
         rw [hq] at hrx hz1;rw [qB0] at hrx;have hz2 : bI (wRn w sym l.length r (a + 1)) = 1 := by rw [hz1]; simp [bI]
         repeat' (first|refine nv ?_|(with_reducible first|refine gG ?_ ?_|refine ⟨fun h => ?_, fun h => ?_⟩ <;> try omega|refine andG ?_)|refine cp_ hrx ?_|simp (disch := try exact qa0) only [push_cast, simprocAttr, b1, b3, b4, b5, b6, hRl, hb', e1s, hIl, e3a, ha17, har, harN])
         refine za0 (min 17 r.length - (a + 1)) (by omega) (by first|exact va0|fail) ⟨a + 1, by omega, rfl, rfl, ?_⟩;simp (disch := try exact qa0) only [push_cast, simprocAttr, b1, b3, b4, b5, b6, hRl, hb', e1s, hIl, e3a, ha17, har, harN];rw [hz2]
        | true =>
         rw [hq] at hrx hz1;rw [xag9] at hrx;have hz2 : wRn w sym l.length r (a + 1) = wRn w sym l.length r a := by rw [hz1]; simp
         repeat' (first|refine nv ?_|(with_reducible first|refine gG ?_ ?_|refine ⟨fun h => ?_, fun h => ?_⟩ <;> try omega|refine andG ?_)|refine cp_ hrx ?_|simp (disch := try exact qa0) only [push_cast, simprocAttr, b1, b3, b4, b5, b6, hRl, hb', e1s, hIl, e3a, ha17, har, harN])
         refine za0 (min 17 r.length - (a + 1)) (by omega) (by first|exact va0|fail) ⟨a + 1, by omega, rfl, rfl, ?_⟩;simp (disch := try exact qa0) only [push_cast, simprocAttr, b1, b3, b4, b5, b6, hRl, hb', e1s, hIl, e3a, ha17, har, harN];rw [hz2]
       ·obtain rfl : min 17 r.length = a := by omega
        rw [hsu] at b4;by_cases hr17 : r.length < 17
        ·have hmn : min 17 r.length = r.length := by omega
         rw [hmn] at *;repeat' (first|refine nv ?_|(with_reducible first|refine gG ?_ ?_|refine ⟨fun h => ?_, fun h => ?_⟩ <;> try omega|refine andG ?_)|simp (disch := try exact qa0) only [push_cast, simprocAttr, b1, b3, b4, b5, b6, hRl, hb', e1s, hIl])
         refine za0 (l.length - (s + 1)) (by omega) (by first|exact va0|fail) ⟨s + 1, by omega, by omega, rfl, rfl, ?_⟩;simp (disch := try exact qa0) only [push_cast, simprocAttr, b1, b3, b4, b5, b6, hRl, hb', e1s, hIl]
        ·have hmn : min 17 r.length = 17 := by omega
         rw [hmn] at *;by_cases hr18 : 17 < r.length
         ·have h18' : (17 : Int) < r.length := by omega
          have hcn : ((17 : Nat) : Int) = 17 := rfl;repeat' (first|refine nv ?_|(with_reducible first|refine gG ?_ ?_|refine ⟨fun h => ?_, fun h => ?_⟩ <;> try omega|refine andG ?_)|simp (disch := try exact qa0) only [push_cast, simprocAttr, b1, b3, b4, b5, b6, hRl, hb', e1s, hIl, h18', hr18, hcn])
          refine za0 (l.length - (s + 1)) (by omega) (by first|exact va0|fail) ⟨s + 1, by omega, by omega, rfl, rfl, ?_⟩;simp (disch := try exact qa0) only [push_cast, simprocAttr, b1, b3, b4, b5, b6, hRl, hb', e1s, hIl, h18', hr18, hcn]
         ·have h18' : ¬ (17 : Int) < r.length := by omega
          have hcn : ((17 : Nat) : Int) = 17 := rfl;repeat' (first|refine nv ?_|(with_reducible first|refine gG ?_ ?_|refine ⟨fun h => ?_, fun h => ?_⟩ <;> try omega|refine andG ?_)|simp (disch := try exact qa0) only [push_cast, simprocAttr, b1, b3, b4, b5, b6, hRl, hb', e1s, hIl, h18', hr18, hcn])
          refine za0 (l.length - (s + 1)) (by omega) (by first|exact va0|fail) ⟨s + 1, by omega, by omega, rfl, rfl, ?_⟩;simp (disch := try exact qa0) only [push_cast, simprocAttr, b1, b3, b4, b5, b6, hRl, hb', e1s, hIl, h18', hr18, hcn]
     ·have hz0' : bI (wRn w sym l.length r 0) = 1 := by rw [hz0, decide_eq_true hls, z'G]; rfl
      repeat' (first|refine nv ?_|(with_reducible first|refine gG ?_ ?_|refine ⟨fun h => ?_, fun h => ?_⟩ <;> try omega|refine andG ?_)|simp (disch := try exact qa0) only [push_cast, simprocAttr, b1, b3, b4, b5, hRl, hb', e1s, hIl, hls])
      refine go_loop rfl (fun mz s' H' => ∃ a : Nat, a ≤ min 17 r.length ∧ mz = min 17 r.length - a ∧ H' = [.row 4 29 [[.int .i64 sym, .sl 1 RN c, .sl zs IS cs, .sl za IA ca]]] ∧ s' 1 = .ptr 0 0 0 1 ∧ s' 3 = .int .i64 l.length ∧ s' 4 = .int .i64 (bI (wRn w sym l.length r a)) ∧ s' 5 = .int .i64 s ∧ s' 6 = .int .i64 a) (m := min 17 r.length) (by first|exact va0|fail) (Weak.refl _ _) ⟨0, by omega, by omega, rfl, ?_⟩ ?_
      ·simp (disch := try exact qa0) only [push_cast, simprocAttr, b1, b3, b4, b5, hRl, hb', e1s, hIl, hls];rw [hz0']
      ·clear b1 b3 b4 b5;rintro mz s' H' ⟨a, ha, rfl, rfl, b1, b3, b4, b5, b6⟩;rcases l'i a (min 17 r.length) with hla|hga
       ·have e3a := e3 a (by omega);have hz1 := hz1 a (by omega);have hr4a := hr4 a (by omega);have ha17 : (a : Int) < 17 := by omega
        have har : (a : Int) < r.length := by omega
        have harN : a < r.length := by omega
        unfold lC at e3a;generalize (r.getD a ([], none)).2 = cx at *;generalize (r.getD a ([], none)).1 = x at *;have hrx := wbk9 1 x cx l.length (.inr rfl) hr4a;cases hq : zf0 x l.length with
        | false =>
         rw [hq] at hrx hz1;rw [qB0] at hrx;have hz2 : bI (wRn w sym l.length r (a + 1)) = 1 := by rw [hz1]; simp [bI]
         repeat' (first|refine nv ?_|(with_reducible first|refine gG ?_ ?_|refine ⟨fun h => ?_, fun h => ?_⟩ <;> try omega|refine andG ?_)|refine cp_ hrx ?_|simp (disch := try exact qa0) only [push_cast, simprocAttr, b1, b3, b4, b5, b6, hRl, hb', e1s, hIl, e3a, ha17, har, harN])
         refine za0 (min 17 r.length - (a + 1)) (by omega) (by first|exact va0|fail) ⟨a + 1, by omega, rfl, rfl, ?_⟩;simp (disch := try exact qa0) only [push_cast, simprocAttr, b1, b3, b4, b5, b6, hRl, hb', e1s, hIl, e3a, ha17, har, harN];rw [hz2]
        | true =>
         rw [hq] at hrx hz1;rw [xag9] at hrx;have hz2 : wRn w sym l.length r (a + 1) = wRn w sym l.length r a := by rw [hz1]; simp
         repeat' (first|refine nv ?_|(with_reducible first|refine gG ?_ ?_|refine ⟨fun h => ?_, fun h => ?_⟩ <;> try omega|refine andG ?_)|refine cp_ hrx ?_|simp (disch := try exact qa0) only [push_cast, simprocAttr, b1, b3, b4, b5, b6, hRl, hb', e1s, hIl, e3a, ha17, har, harN])
         refine za0 (min 17 r.length - (a + 1)) (by omega) (by first|exact va0|fail) ⟨a + 1, by omega, rfl, rfl, ?_⟩;simp (disch := try exact qa0) only [push_cast, simprocAttr, b1, b3, b4, b5, b6, hRl, hb', e1s, hIl, e3a, ha17, har, harN];rw [hz2]
       ·obtain rfl : min 17 r.length = a := by omega
        rw [hsu] at b4;by_cases hr17 : r.length < 17
        ·have hmn : min 17 r.length = r.length := by omega
         rw [hmn] at *;repeat' (first|refine nv ?_|(with_reducible first|refine gG ?_ ?_|refine ⟨fun h => ?_, fun h => ?_⟩ <;> try omega|refine andG ?_)|simp (disch := try exact qa0) only [push_cast, simprocAttr, b1, b3, b4, b5, b6, hRl, hb', e1s, hIl])
         refine za0 (l.length - (s + 1)) (by omega) (by first|exact va0|fail) ⟨s + 1, by omega, by omega, rfl, rfl, ?_⟩;simp (disch := try exact qa0) only [push_cast, simprocAttr, b1, b3, b4, b5, b6, hRl, hb', e1s, hIl]
        ·have hmn : min 17 r.length = 17 := by omega
         rw [hmn] at *;by_cases hr18 : 17 < r.length
         ·have h18' : (17 : Int) < r.length := by omega
          have hcn : ((17 : Nat) : Int) = 17 := rfl;repeat' (first|refine nv ?_|(with_reducible first|refine gG ?_ ?_|refine ⟨fun h => ?_, fun h => ?_⟩ <;> try omega|refine andG ?_)|simp (disch := try exact qa0) only [push_cast, simprocAttr, b1, b3, b4, b5, b6, hRl, hb', e1s, hIl, h18', hr18, hcn])
          refine za0 (l.length - (s + 1)) (by omega) (by first|exact va0|fail) ⟨s + 1, by omega, by omega, rfl, rfl, ?_⟩;simp (disch := try exact qa0) only [push_cast, simprocAttr, b1, b3, b4, b5, b6, hRl, hb', e1s, hIl, h18', hr18, hcn]
         ·have h18' : ¬ (17 : Int) < r.length := by omega
          have hcn : ((17 : Nat) : Int) = 17 := rfl;repeat' (first|refine nv ?_|(with_reducible first|refine gG ?_ ?_|refine ⟨fun h => ?_, fun h => ?_⟩ <;> try omega|refine andG ?_)|simp (disch := try exact qa0) only [push_cast, simprocAttr, b1, b3, b4, b5, b6, hRl, hb', e1s, hIl, h18', hr18, hcn])
          refine za0 (l.length - (s + 1)) (by omega) (by first|exact va0|fail) ⟨s + 1, by omega, by omega, rfl, rfl, ?_⟩;simp (disch := try exact qa0) only [push_cast, simprocAttr, b1, b3, b4, b5, b6, hRl, hb', e1s, hIl, h18', hr18, hcn]
   ·obtain rfl : l.length = s := by omega
    have hb : ¬ 256 < l.length ∨ l.length = 0 := by omega
    by_cases hb2 : 256 < l.length
    ·omega
    ·have hb' : (l.length : Int) ≤ 256 := by omega
     have hW := hW hb2;generalize bI (wBn sym l st ac l.length) = w at *;repeat' (first|refine nv ?_|(with_reducible first|refine gG ?_ ?_|refine ⟨fun h => ?_, fun h => ?_⟩ <;> try omega|refine andG ?_)|refine cp_ (hE w) ?_|simp (disch := try exact qa0) only [push_cast, simprocAttr, b1, b3, b4, b5, hRl, hb'])
     rw [hW]
 by_cases h1 : sym < 1
 ·have hq : bI (wAn sym l.length st ac) = 1 := by rw [wAn, decide_eq_true h1]; rfl
  refine qc0 0 75 [.tmp 2] Tryz.func18 rfl rfl rfl (by simp) ?_;intro s ⟨a0, hz⟩;clear hz;repeat' (first|refine nv ?_|(with_reducible first|refine gG ?_ ?_|refine ⟨fun h => ?_, fun h => ?_⟩ <;> try omega|refine andG ?_)|refine cp_ hr1 ?_ (hi := by (simp [idsL, idsE, AV.ids, hidR, hidS, hidA]))|refine cp_ hr2 ?_ (hi := by (simp [idsL, idsE, AV.ids, hidR, hidS, hidA]))|(refine ⟨AV.str [], ?_⟩; refine wC0 ?_)|simp (disch := try exact qa0) only [push_cast, simprocAttr, a0, hRl, h1])
  refine hgo _ ?_ ?_ ?_ ?_;all_goals simp (disch := try exact qa0) only [push_cast, simprocAttr, a0, hRl, h1]
  rw [hq]
 ·cases hs : zf0 st l.length with
  | false =>
   rw [hs, qB0] at hr1;have hq : bI (wAn sym l.length st ac) = 1 := by rw [wAn, hs]; simp [bI]
   refine qc0 0 75 [.tmp 2] Tryz.func18 rfl rfl rfl (by simp) ?_;intro s ⟨a0, hz⟩;clear hz;repeat' (first|refine nv ?_|(with_reducible first|refine gG ?_ ?_|refine ⟨fun h => ?_, fun h => ?_⟩ <;> try omega|refine andG ?_)|refine cp_ hr1 ?_ (hi := by (simp [idsL, idsE, AV.ids, hidR, hidS, hidA]))|refine cp_ hr2 ?_ (hi := by (simp [idsL, idsE, AV.ids, hidR, hidS, hidA]))|(refine ⟨AV.str [], ?_⟩; refine wC0 ?_)|simp (disch := try exact qa0) only [push_cast, simprocAttr, a0, hRl, h1])
   refine hgo _ ?_ ?_ ?_ ?_;all_goals simp (disch := try exact qa0) only [push_cast, simprocAttr, a0, hRl, h1]
   rw [hq]
  | true =>
   rw [hs, xag9] at hr1;cases ht : zf0 ac l.length with
   | false =>
    rw [ht, qB0] at hr2;have hq : bI (wAn sym l.length st ac) = 1 := by rw [wAn, ht]; simp [bI]
    refine qc0 0 75 [.tmp 2] Tryz.func18 rfl rfl rfl (by simp) ?_;intro s ⟨a0, hz⟩;clear hz;repeat' (first|refine nv ?_|(with_reducible first|refine gG ?_ ?_|refine ⟨fun h => ?_, fun h => ?_⟩ <;> try omega|refine andG ?_)|refine cp_ hr1 ?_ (hi := by (simp [idsL, idsE, AV.ids, hidR, hidS, hidA]))|refine cp_ hr2 ?_ (hi := by (simp [idsL, idsE, AV.ids, hidR, hidS, hidA]))|(refine ⟨AV.str [], ?_⟩; refine wC0 ?_)|simp (disch := try exact qa0) only [push_cast, simprocAttr, a0, hRl, h1])
    refine hgo _ ?_ ?_ ?_ ?_;all_goals simp (disch := try exact qa0) only [push_cast, simprocAttr, a0, hRl, h1]
    rw [hq]
   | true =>
    rw [ht, xag9] at hr2;have hq : bI (wAn sym l.length st ac) = 0 := by rw [wAn, hs, ht, decide_eq_false h1]; rfl
    refine qc0 0 75 [.tmp 2] Tryz.func18 rfl rfl rfl (by simp) ?_;intro s ⟨a0, hz⟩;clear hz;repeat' (first|refine nv ?_|(with_reducible first|refine gG ?_ ?_|refine ⟨fun h => ?_, fun h => ?_⟩ <;> try omega|refine andG ?_)|refine cp_ hr1 ?_ (hi := by (simp [idsL, idsE, AV.ids, hidR, hidS, hidA]))|refine cp_ hr2 ?_ (hi := by (simp [idsL, idsE, AV.ids, hidR, hidS, hidA]))|(refine ⟨AV.str [], ?_⟩; refine wC0 ?_)|simp (disch := try exact qa0) only [push_cast, simprocAttr, a0, hRl, h1])
    refine hgo _ ?_ ?_ ?_ ?_;all_goals simp (disch := try exact qa0) only [push_cast, simprocAttr, a0, hRl, h1]
    rw [hq]
section
variable {sym : Int} {zr : Nat} {l : List RC} {c : Option Nat} {zs : Nat} {st : List Int} {cs : Option Nat} {za : Nat} {ac : List Int} {ca : Option Nat}
theorem kdU9 (hsz : SizeN zr l zs st za ac) (h : wh0 sym (rowsV l) st ac ≠ 0) : PC Tryz.prog G0 23 [nA sym zr l c zs st cs za ac ca] (.tup [dA0, .int .i64 (wh0 sym (rowsV l) st ac)]) := by
 have hck := hsz.check (sym := sym) (c := c) (cs := cs) (ca := ca);have hid1 : ∀ p, idsE p (xe0 l) = true := fun p => ze0 _ _;have hid2 : ∀ p, idsE p (ints st) = true := fun p => wa0 _ _;have hid3 : ∀ p, idsE p (ints ac) = true := fun p => wa0 _ _;unfold nA dA0 at *;generalize wh0 sym (rowsV l) st ac = e at *;generalize xe0 l = e1 at *;generalize ints st = e2 at *;generalize ints ac = e3 at *;refine qc0 0 106 [.cell 2 47, .tmp 3] Tryz.func23 rfl rfl rfl (by simp) ?_;intro s ⟨a0, hz⟩;clear hz;repeat' (first|(first|refine nav ?_|(refine g0_ ?_; first|refine dN (p := [0, 1, 0, 0, 1, 1, 0, 0, 1, 0, 1, 0, 0, 1, 0, 0, 1, 0, 1, 1, 1, 1, 1]) [] [] [(7, 8)] ?_|refine dN (p := [1, 0, 1, 0, 1, 1, 1, 0, 0, 1, 1, 0, 0, 1, 0, 1, 0, 0, 1, 0, 0, 1, 0, 1, 1, 1, 1, 1]) [(67, 11)] [(72, some 69)] [] ?_|refine goD ?_))|(with_reducible first|refine gG ?_ ?_|refine ⟨fun h => ?_, fun h => ?_⟩ <;> try omega|refine andG ?_)|refine cp_ hck ?_ (hi := by (simp [idsL, idsE, AV.ids, hid1, hid2, hid3]))|simp (disch := try exact qa0) only [push_cast, simprocAttr, a0, h])
theorem qcT9 (hsz : SizeN zr l zs st za ac) (h : wh0 sym (rowsV l) st ac ≠ 0) : PC Tryz.prog G0 8 [nA sym zr l c zs st cs za ac ca] (.tup [nA0, .int .i64 (wh0 sym (rowsV l) st ac)]) := by
 have hck := hsz.check (sym := sym) (c := c) (cs := cs) (ca := ca);have hid1 : ∀ p, idsE p (xe0 l) = true := fun p => ze0 _ _;have hid2 : ∀ p, idsE p (ints st) = true := fun p => wa0 _ _;have hid3 : ∀ p, idsE p (ints ac) = true := fun p => wa0 _ _;unfold nA nA0 at *;generalize wh0 sym (rowsV l) st ac = e at *;generalize xe0 l = e1 at *;generalize ints st = e2 at *;generalize ints ac = e3 at *;refine qc0 0 78 [.cell 2 29, .tmp 3] Tryz.func8 rfl rfl rfl (by simp) ?_;intro s ⟨a0, hz⟩;clear hz;repeat' (first|(first|refine nav ?_|(refine g0_ ?_; first|refine dN (p := [1, 0, 0, 1, 1, 0, 0, 1, 1, 0, 0, 1, 1, 0, 0, 1, 1, 0, 0, 1, 1, 0, 0, 1, 0, 1, 1, 1, 1]) [(55, 5), (56, 55), (58, 56), (59, 58)] [(71, some 68)] [] ?_|refine goD ?_))|(with_reducible first|refine gG ?_ ?_|refine ⟨fun h => ?_, fun h => ?_⟩ <;> try omega|refine andG ?_)|refine cp_ hck ?_ (hi := by (simp [idsL, idsE, AV.ids, hid1, hid2, hid3]))|simp (disch := try exact qa0) only [push_cast, simprocAttr, a0, h])
theorem qds9 (hsz : SizeN zr l zs st za ac) (h : wh0 sym (rowsV l) st ac ≠ 0) : PC Tryz.prog G0 9 [nA sym zr l c zs st cs za ac ca] (.tup [nA0, .int .i64 (wh0 sym (rowsV l) st ac)]) := by
 have hck := qcT9 (c := c) (cs := cs) (ca := ca) hsz h;have hid1 : ∀ p, idsE p (xe0 l) = true := fun p => ze0 _ _;have hid2 : ∀ p, idsE p (ints st) = true := fun p => wa0 _ _;have hid3 : ∀ p, idsE p (ints ac) = true := fun p => wa0 _ _;unfold nA nA0 at *;generalize wh0 sym (rowsV l) st ac = e at *;generalize xe0 l = e1 at *;generalize ints st = e2 at *;generalize ints ac = e3 at *;refine qc0 0 103 [.cell 2 29, .tmp 3] Tryz.func9 rfl rfl rfl (by simp) ?_;intro s ⟨a0, hz⟩;clear hz;repeat' (first|(first|refine nav ?_|(refine g0_ ?_; first|refine dN (p := [0, 1, 1, 1]) [(26, 1), (27, 1), (28, 27), (30, 4), (31, 1), (32, 31)] [(6, none), (7, none), (6, some 6)] [(9, 10)] ?_|refine goD ?_))|(with_reducible first|refine gG ?_ ?_|refine ⟨fun h => ?_, fun h => ?_⟩ <;> try omega|refine andG ?_)|refine cp_ hck ?_ (hi := by (simp [idsL, idsE, AV.ids, hid1, hid2, hid3]))|simp (disch := try exact qa0) only [push_cast, simprocAttr, a0, h])
end
theorem qdV9 {sym : Int} {zr : Nat} {l : List LC} {c : Option Nat} {za : Nat} {ac : List Bool} {ca : Option Nat} (hsz : SizeD zr l za ac) (h : vd0 sym (kd0 l) ac.length ≠ 0) : PC Tryz.prog G0 25 [dA sym zr l c za ac ca] (.tup [dA0, .int .i64 (vd0 sym (kd0 l) ac.length)]) := by
 have hck := hsz.check (sym := sym) (c := c) (ca := ca);have hid1 : ∀ p, idsE p (rowL l) = true := fun p => vc0 _ _;have hid2 : ∀ p, idsE p (qb0 ac) = true := fun p => zd0 _ _;unfold dA dA0 at *;generalize vd0 sym (kd0 l) ac.length = e at *;generalize rowL l = e1 at *;generalize qb0 ac = e2 at *;refine qc0 0 92 [.cell 2 47, .tmp 3] Tryz.func25 rfl rfl rfl (by simp) ?_;intro s ⟨a0, hz⟩;clear hz;repeat' (first|(first|refine nav ?_|(refine g0_ ?_; first|refine dN (p := [0, 1, 1, 1, 1]) [(28, 1), (29, 28)] [(31, none), (33, none)] [(7, 8)] ?_|refine dN (p := [0, 1, 1, 1, 1, 0, 0, 1, 1, 0, 0, 1, 0, 1, 1, 1, 1, 1]) [(60, 8), (61, 60)] [(65, none)] [] ?_|refine goD ?_))|(with_reducible first|refine gG ?_ ?_|refine ⟨fun h => ?_, fun h => ?_⟩ <;> try omega|refine andG ?_)|refine cp_ hck ?_ (hi := by (simp [idsL, idsE, AV.ids, hid1, hid2]))|simp (disch := try exact qa0) only [push_cast, simprocAttr, a0, h])
theorem wbA9 (A : Nat) (zr : Nat) (l : List LC) (c : Option Nat) (za : Nat) (ac : List Bool) (ca : Option Nat) (hsz : SizeD zr l za ac) (hok : OkDv A (kd0 l) ac.length) (zw : Nat) (w : List Int) (cw : Option Nat) (hzw : w = [] ∨ zw = 1) (hwl : w.length ≤ 256) (hwr : ∀ x ∈ w, 0 ≤ x ∧ x < A) :
  PC Tryz.prog G0 28 [dA A zr l c za ac ca, .sl zw (ints w) cw] (.int .i64 (if ac.getD (runD (vl0 l) 0 (natL w)) false = true then 1 else 0)) := by
 have hidR : ∀ p, idsE p (rowL l) = true := fun p => vc0 _ _;have hidA : ∀ p, idsE p (qb0 ac) = true := fun p => zd0 _ _;have hidW : ∀ p, idsE p (ints w) = true := fun p => wa0 _ _;have hn1 := hok.n1;have hn := hok.n;have hm := hok.m;rw [ve0] at hn1 hn hm;obtain rfl := hsz.zl.resolve_left (by intro h; rw [h] at hn1; simp at hn1);obtain rfl := hsz.zac.resolve_left (by intro h; rw [h] at hm; simp at hm; omega);have hRl := zb0 l;have hAl := zc0 ac;have hWl := xa0 w;have e1 := xg0 l;have e2 := ql0 ac;have e3 := xc0 w;have hin : ∀ k, ∀ a ∈ natL (w.take k), a < A := fun k a ha => by
  obtain ⟨x, hx, rfl⟩ := l'B.1 ha;have := hwr x (n'y hx);omega
 have hlow := fun k => zcK9 hok (natL (w.take k)) (hin k);have hsn : ∀ k, k < w.length → runD (vl0 l) 0 (natL (w.take (k + 1))) = ((vl0 l).getD (runD (vl0 l) 0 (natL (w.take k))) []).getD (w.getD k 0).toNat 0 := fun k hk => by
  rw [xd0 w 0 k hk, natL, z'g, ← natL];exact kby9 _ _ _
 unfold dA;refine qc0 0 29 [.tmp 4] Tryz.func28 rfl rfl rfl (by simp) ?_;intro s ⟨a0, a1, hz⟩;simp only [l'm, Nat.reduceAdd] at a1;clear hz;repeat' (first|refine nv ?_|(with_reducible first|refine gG ?_ ?_|refine ⟨fun h => ?_, fun h => ?_⟩ <;> try omega|refine andG ?_)|simp (disch := try exact qa0) only [push_cast, simprocAttr, a0, a1, hRl, hAl, hWl])
 refine go_loop rfl (fun mz s' H' => ∃ k : Nat, k ≤ w.length ∧ mz = w.length - k ∧ H' = [.row 3 47 [[.int .i64 A, .sl 1 (rowL l) c, .sl 1 (qb0 ac) ca]]] ∧ s' 1 = .sl zw (ints w) cw ∧ s' 2 = .ptr 0 0 0 1 ∧ s' 5 = .int .i64 (runD (vl0 l) 0 (natL (w.take k)) : Nat) ∧ s' 6 = .int .i64 k) (m := w.length) (by first|exact va0|fail) (Weak.refl _ _) ⟨0, by omega, by omega, rfl, ?_⟩ ?_
 ·simp (disch := try exact qa0) only [push_cast, simprocAttr, a0, a1, hRl, hAl, hWl];rfl
 ·rintro mz s' H' ⟨k, hk, rfl, rfl, b1, b2, b5, b6⟩;rcases l'i k w.length with hlt|hge
  ·obtain rfl := hzw.resolve_left (by intro h; rw [h] at hlt; simp at hlt);have e3k := e3 k hlt;have hwk := hwr _ (wc0 (d := 0) hlt);have hsk := hsn k hlt;have hlk := hlow k;generalize w.getD k 0 = a at *;generalize runD (vl0 l) 0 (natL (w.take k)) = q at *;have e1q := e1 q hlk;have hrow := hok.row (l := l) hlk;have hat := hok.at (l := l) (a := a.toNat) hlk (by omega);rw [waa9 l q a.toNat hlk (by omega)] at hsk;have e4 := xc0 (l.getD q ([], none)).1 a.toNat (by omega);have hil := xa0 (l.getD q ([], none)).1;unfold lC at e1q;generalize (l.getD q ([], none)).2 = cr at *;generalize (l.getD q ([], none)).1 = r at *;generalize r.getD a.toNat 0 = y at *;have ha0 : 0 ≤ a := hwk.1;have ha1 : a < (r.length : Int) := by omega
   have hy : ((y.toNat : Nat) : Int) = y := by omega
   repeat' (first|refine nv ?_|(with_reducible first|refine gG ?_ ?_|refine ⟨fun h => ?_, fun h => ?_⟩ <;> try omega|refine andG ?_)|simp (disch := try exact qa0) only [push_cast, simprocAttr, b1, b2, b5, b6, hRl, hWl, e3k, e1q, e4, hil, ha0, ha1])
   refine za0 (w.length - (k + 1)) (by omega) (by first|exact va0|fail) ⟨k + 1, by omega, rfl, rfl, ?_⟩;rw [hsk];simp (disch := try exact qa0) only [push_cast, simprocAttr, b1, b2, b5, b6, hy]
  ·obtain rfl : w.length = k := by omega
   have hlk := hlow w.length;rw [l'x] at *;generalize runD (vl0 l) 0 (natL w) = q at *;have e2q := e2 q (by omega);generalize hb : ac.getD q false = b at *;cases b with
   | true =>
    repeat' (first|refine nv ?_|(with_reducible first|refine gG ?_ ?_|refine ⟨fun h => ?_, fun h => ?_⟩ <;> try omega|refine andG ?_)|simp (disch := try exact qa0) only [push_cast, simprocAttr, b1, b2, b5, b6, hRl, hWl, hAl, hm, e2q])
   | false =>
    repeat' (first|refine nv ?_|(with_reducible first|refine gG ?_ ?_|refine ⟨fun h => ?_, fun h => ?_⟩ <;> try omega|refine andG ?_)|simp (disch := try exact qa0) only [push_cast, simprocAttr, b1, b2, b5, b6, hRl, hWl, hAl, hm, e2q])
end Go.Proofs
