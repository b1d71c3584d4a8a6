import Derived.Test.YtcoakjnmnommpaaGreatDoorZ1
namespace Go.Proofs
open Go Go.V Go.RowKit
set_option linter.unusedVariables false
set_option linter.unusedSimpArgs false
set_option maxHeartbeats 0
set_option maxRecDepth 100000
def wAn (sym n : Int) (st ac : List Int) : Bool := decide (sym < 1) || (!risesL st n || !risesL ac n)
def badR (sym n : Int) (r : List LC) : Bool := decide ((r.length : Int) ≠ sym) || (r.take 17).any fun x => !risesL x.1 n
def wBn (sym : Int) (l : List RC) (st ac : List Int) (s : Nat) : Bool := wAn sym l.length st ac || (l.take s).any fun r => badR sym l.length r.1
def wRn (w : Bool) (sym n : Int) (r : List LC) (a : Nat) : Bool := (w || decide ((r.length : Int) ≠ sym)) || (r.take a).any fun x => !risesL x.1 n
theorem wBn_zero (sym : Int) (l : List RC) (st ac : List Int) : wBn sym l st ac 0 = wAn sym l.length st ac := by simp [wBn]
theorem wRn_zero (w : Bool) (sym n : Int) (r : List LC) : wRn w sym n r 0 = (w || decide ((r.length : Int) ≠ sym)) := by simp [wRn]
theorem wRn_succ (w : Bool) (sym n : Int) (r : List LC) (a : Nat) (h : a < r.length) : wRn w sym n r (a + 1) = (wRn w sym n r a || !risesL (r.getD a ([], none)).1 n) := by
 rw [wRn, take_succ_snoc r ([], none) a h, List.any_append, wRn, ← Bool.or_assoc]; simp
theorem wRn_all (sym : Int) (l : List RC) (st ac : List Int) (s : Nat) (h : s < l.length) : wRn (wBn sym l st ac s) sym l.length (l.getD s ([], none)).1 (min 17 (l.getD s ([], none)).1.length) = wBn sym l st ac (s + 1) := by
 have e : (l.getD s ([], none)).1.take (min 17 (l.getD s ([], none)).1.length) = (l.getD s ([], none)).1.take 17 := by
  rw [← List.take_take, List.take_length]
 rw [wRn, e, wBn, wBn, take_succ_snoc l ([], none) s h, List.any_append]
 simp only [List.any_cons, List.any_nil, Bool.or_false, badR, Bool.or_assoc]
theorem checkN_w (sym : Int) (l : List RC) (st ac : List Int) (h : ¬ 256 < l.length) : errR sym l.length (bI (wBn sym l st ac l.length)) = checkN sym (rowsV l) st ac := by
 unfold errR
 by_cases h1 : 16 < sym ∨ 256 < l.length
 ·rw [cN3 h1, if_pos (by omega)]
 ·rw [if_neg (by omega)]
  cases hw : wBn sym l st ac l.length with
  | true =>
   rw [bI_true, if_pos rfl]
   unfold wBn wAn at hw
   rw [List.take_length] at hw
   simp only [Bool.or_eq_true, decide_eq_true_eq, List.any_eq_true, Bool.not_eq_true'] at hw
   rcases hw with hw|⟨r, hr, hw⟩
   ·rw [cN1 h1 hw]
   ·obtain ⟨s, hs, rfl⟩ := List.getElem_of_mem hr
    have hs' : (l.getD s ([], none)) = l[s] := by rw [List.getD_eq_getElem?_getD, List.getElem?_eq_getElem hs]; rfl
    unfold badR at hw
    simp only [Bool.or_eq_true, decide_eq_true_eq, List.any_eq_true, Bool.not_eq_true'] at hw
    rcases hw with hw|⟨x, hx, hw⟩
    ·rw [cN1r h1 hs (by rw [hs']; exact rowOk_len hw)]
    ·obtain ⟨a, ha, rfl⟩ := List.getElem_of_mem (List.mem_of_mem_take hx)
     rw [cN1r h1 hs (by rw [hs']; exact rowOk_no ha (by rw [List.getD_eq_getElem?_getD, List.getElem?_eq_getElem ha]; exact hw))]
  | false =>
   rw [bI_false, if_neg (by omega)]
   unfold wBn wAn at hw
   rw [List.take_length] at hw
   simp only [Bool.or_eq_false_iff, decide_eq_false_iff_not, List.any_eq_false, Bool.not_eq_false'] at hw
   obtain ⟨⟨hw1, hw2, hw3⟩, hw4⟩ := hw
   rw [cN0 h1 hw1 hw2 hw3 fun s hs => ?_]
   have hs' : (l.getD s ([], none)) = l[s] := by rw [List.getD_eq_getElem?_getD, List.getElem?_eq_getElem hs]; rfl
   rw [hs']
   have := hw4 l[s] (List.getElem_mem hs)
   unfold badR at this
   simp only [Bool.or_eq_true, decide_eq_true_eq, List.any_eq_true, Bool.not_eq_true', not_or, not_exists, not_and, ne_eq, Classical.not_not, Bool.not_eq_false] at this
   refine rowOk_yes this.1 fun a ha => ?_
   refine this.2 _ ?_
   rw [List.take_of_length_le (by omega)]
   exact getD_mem (d := ([], none)) ha
theorem checkN_big (sym : Int) (l : List RC) (st ac : List Int) (w : Int) (h : 256 < l.length) : errR sym l.length w = checkN sym (rowsV l) st ac := by
 rw [errR, if_pos (by omega), cN3 (.inr h)]
theorem refCheckNfa18 (sym : Int) (zr : Nat) (l : List RC) (c : Option Nat) (zs : Nat) (st : List Int) (cs : Option Nat) (za : Nat) (ac : List Int) (ca : Option Nat) (hsz : SizeN zr l zs st za ac) : PC Tryz.prog G0 18 [nA sym zr l c zs st cs za ac ca] (.int .i64 (checkN sym (rowsV l) st ac)) := by
 have hidR : ∀ p, idsE p (rowsN l) = true := fun p => idsE_rowsN _ _
 have hidS : ∀ p, idsE p (ints st) = true := fun p => idsE_ints _ _
 have hidA : ∀ p, idsE p (ints ac) = true := fun p => idsE_ints _ _
 have hRl := length_rowsN l
 have e1 := getD_rowsN l
 have hl := hsz.bl
 have hbr := hsz.br
 have hbi := hsz.bi
 have hbig := checkN_big sym l st ac
 have hW := checkN_w sym l st ac
 have hE := fun w => errors70 sym l.length w
 have hw0 := wBn_zero sym l st ac
 have hsu := wRn_all sym l st ac
 have hzr := hsz.zl
 have hr1 := rises51 zs st cs l.length hsz.zst hsz.bst
 have hr2 := rises51 za ac ca l.length hsz.zac hsz.bac
 unfold nA at *
 generalize hRN : rowsN l = RN at *
 generalize ints st = IS at *
 generalize ints ac = IA at *
 generalize checkN sym (rowsV l) st ac = R at *
 have hgo : ∀ (s1 : Nat → AV), s1 1 = .ptr 0 0 0 1 → s1 3 = .int .i64 l.length → s1 4 = .int .i64 (bI (wAn sym l.length st ac)) → s1 5 = .int .i64 0 →
   V.Go false Tryz.prog G0 0 75 (bodyOf Tryz.f18) [0, 1, 0, 1, 1, 1, 1] (inBlockS 0 (thenC false Tryz.prog G0 0 75 (bodyOf Tryz.f18) [1, 1, 1, 1, 1] (DoneS Tryz.prog 75 [ResultVar.tmp 2] 0 (.int .i64 R)))) True s1 [.row 4 29 [[.int .i64 sym, .sl zr RN c, .sl zs IS cs, .sl za IA ca]]] := by
  intro s1 r1 r3 r4 r5
  refine go_loop rfl (fun mz s' H' => ∃ s : Nat, s ≤ l.length ∧ (256 < l.length → s = 0) ∧ mz = l.length - s ∧ H' = [.row 4 29 [[.int .i64 sym, .sl zr RN c, .sl zs IS cs, .sl za IA ca]]] ∧ s' 1 = .ptr 0 0 0 1 ∧ s' 3 = .int .i64 l.length ∧ s' 4 = .int .i64 (bI (wBn sym l st ac s)) ∧ s' 5 = .int .i64 s) (m := l.length) (by first|exact sideB|fail) (Weak.refl _ _) ⟨0, by omega, by omega, by omega, rfl, ?_⟩ ?_
  ·rw [hw0]
   simp (disch := (first|exact discB|fail)) only [push_cast, ↓reduceIte, reduceIte, reduceCtorEq, Nat.reduceAdd, Nat.reduceLT, Nat.reduceEqDiff, Nat.reduceLeDiff, Int.reduceAdd, Int.reduceLT, Int.reduceLE, Nat.reduceMul, r1, r3, r4, r5]
  ·rintro mz s' H' ⟨s, hs, hs0, rfl, rfl, b1, b3, b4, b5⟩
   rcases Nat.lt_or_ge s l.length with hlt|hge
   ·obtain rfl := hzr.resolve_left (by intro h; rw [h] at hlt; simp at hlt)
    by_cases hb : 256 < l.length
    ·have hR := hbig (bI (wBn sym l st ac s)) hb
     have hb' : ¬ (l.length : Int) ≤ 256 := by omega
     generalize bI (wBn sym l st ac s) = w at *
     repeat' (first|refine nav ?_|(refine g0_ ?_; refine goD ?_)|(with_reducible refine gG ?_ ?_)|((with_reducible refine And.intro (fun h => ?_) (fun h => ?_)) <;> try (exfalso; omega))|(with_reducible refine andG ?_)|(refine And.intro ⟨[_], rfl⟩ ?_)|(refine And.intro ⟨[], by simp only [List.append_nil]⟩ ?_)|(first|(refine ⟨_, _, pc_lift (hE w) (by (simp [idsL, idsE, AV.ids, Nat.add_zero])) _, ?_⟩)|(refine ⟨_, pc_lift (hE w) (by (simp [idsL, idsE, AV.ids, Nat.add_zero])) _, ?_⟩)|(refine ⟨_, fun _ => pc_lift (hE w) (by (simp [idsL, idsE, AV.ids, Nat.add_zero])) _, ?_⟩))|simp (disch := (first|exact discB|fail)) only [push_cast, ↓reduceIte, reduceIte, reduceCtorEq, Nat.reduceAdd, Nat.reduceLT, Nat.reduceEqDiff, Nat.reduceLeDiff, Int.reduceAdd, Int.reduceLT, Int.reduceLE, Nat.reduceMul, b1, b3, b4, b5, hRl, hb'])
     rw [hR]
    ·have hb' : (l.length : Int) ≤ 256 := by omega
     have e1s := e1 s hlt
     have hr3 := hbr s hlt
     have hr4 := fun a => hbi s a hlt
     have hsu := hsu s hlt
     unfold rC at e1s
     generalize (l.getD s ([], none)).2 = cr at *
     generalize (l.getD s ([], none)).1 = r at *
     have hIl := length_rowL r
     have e3 := getD_rowL r
     have hz0 := wRn_zero (wBn sym l st ac s) sym l.length r
     have hz1 := wRn_succ (wBn sym l st ac s) sym l.length r
     generalize wBn sym l st ac s = w at *
     by_cases hls : (r.length : Int) = sym
     ·have hz0' : bI (wRn w sym l.length r 0) = bI w := by rw [hz0, decide_eq_false (by omega), Bool.or_false]
      repeat' (first|refine nav ?_|(refine g0_ ?_; refine goD ?_)|(with_reducible refine gG ?_ ?_)|((with_reducible refine And.intro (fun h => ?_) (fun h => ?_)) <;> try (exfalso; omega))|(with_reducible refine andG ?_)|(refine And.intro ⟨[_], rfl⟩ ?_)|(refine And.intro ⟨[], by simp only [List.append_nil]⟩ ?_)|fail|simp (disch := (first|exact discB|fail)) only [push_cast, ↓reduceIte, reduceIte, reduceCtorEq, Nat.reduceAdd, Nat.reduceLT, Nat.reduceEqDiff, Nat.reduceLeDiff, Int.reduceAdd, Int.reduceLT, Int.reduceLE, Nat.reduceMul, b1, b3, b4, b5, hRl, hb', e1s, hIl, hls])
      refine go_loop rfl (fun mz s' H' => ∃ a : Nat, a ≤ min 17 r.length ∧ mz = min 17 r.length - a ∧ H' = [.row 4 29 [[.int .i64 sym, .sl 1 RN c, .sl zs IS cs, .sl za IA ca]]] ∧ s' 1 = .ptr 0 0 0 1 ∧ s' 3 = .int .i64 l.length ∧ s' 4 = .int .i64 (bI (wRn w sym l.length r a)) ∧ s' 5 = .int .i64 s ∧ s' 6 = .int .i64 a) (m := min 17 r.length) (by first|exact sideB|fail) (Weak.refl _ _) ⟨0, by omega, by omega, rfl, ?_⟩ ?_
      ·simp (disch := (first|exact discB|fail)) only [push_cast, ↓reduceIte, reduceIte, reduceCtorEq, Nat.reduceAdd, Nat.reduceLT, Nat.reduceEqDiff, Nat.reduceLeDiff, Int.reduceAdd, Int.reduceLT, Int.reduceLE, Nat.reduceMul, b1, b3, b4, b5, hRl, hb', e1s, hIl, hls]
       rw [hz0']
      ·clear b1 b3 b4 b5
       rintro mz s' H' ⟨a, ha, rfl, rfl, b1, b3, b4, b5, b6⟩
       rcases Nat.lt_or_ge a (min 17 r.length) with hla|hga
       ·have e3a := e3 a (by omega)
        have hz1 := hz1 a (by omega)
        have hr4a := hr4 a (by omega)
        have ha17 : (a : Int) < 17 := by omega
        have har : (a : Int) < r.length := by omega
        have harN : a < r.length := by omega
        unfold lC at e3a
        generalize (r.getD a ([], none)).2 = cx at *
        generalize (r.getD a ([], none)).1 = x at *
        have hrx := rises51 1 x cx l.length (.inr rfl) hr4a
        cases hq : risesL x l.length with
        | false =>
         rw [hq] at hrx hz1
         rw [bI_false] at hrx
         have hz2 : bI (wRn w sym l.length r (a + 1)) = 1 := by rw [hz1]; simp [bI]
         repeat' (first|refine nav ?_|(refine g0_ ?_; refine goD ?_)|(with_reducible refine gG ?_ ?_)|((with_reducible refine And.intro (fun h => ?_) (fun h => ?_)) <;> try (exfalso; omega))|(with_reducible refine andG ?_)|(refine And.intro ⟨[_], rfl⟩ ?_)|(refine And.intro ⟨[], by simp only [List.append_nil]⟩ ?_)|(first|(refine ⟨_, _, pc_lift (hrx) (by (simp [idsL, idsE, AV.ids, Nat.add_zero])) _, ?_⟩)|(refine ⟨_, pc_lift (hrx) (by (simp [idsL, idsE, AV.ids, Nat.add_zero])) _, ?_⟩)|(refine ⟨_, fun _ => pc_lift (hrx) (by (simp [idsL, idsE, AV.ids, Nat.add_zero])) _, ?_⟩))|simp (disch := (first|exact discB|fail)) only [push_cast, ↓reduceIte, reduceIte, reduceCtorEq, Nat.reduceAdd, Nat.reduceLT, Nat.reduceEqDiff, Nat.reduceLeDiff, Int.reduceAdd, Int.reduceLT, Int.reduceLE, Nat.reduceMul, b1, b3, b4, b5, b6, hRl, hb', e1s, hIl, e3a, ha17, har, harN])
         refine out_round (min 17 r.length - (a + 1)) (by omega) (by first|exact sideB|fail) ⟨a + 1, by omega, rfl, rfl, ?_⟩
         simp (disch := (first|exact discB|fail)) only [push_cast, ↓reduceIte, reduceIte, reduceCtorEq, Nat.reduceAdd, Nat.reduceLT, Nat.reduceEqDiff, Nat.reduceLeDiff, Int.reduceAdd, Int.reduceLT, Int.reduceLE, Nat.reduceMul, b1, b3, b4, b5, b6, hRl, hb', e1s, hIl, e3a, ha17, har, harN]
         rw [hz2]
        | true =>
         rw [hq] at hrx hz1
         rw [bI_true] at hrx
         have hz2 : wRn w sym l.length r (a + 1) = wRn w sym l.length r a := by rw [hz1]; simp
         repeat' (first|refine nav ?_|(refine g0_ ?_; refine goD ?_)|(with_reducible refine gG ?_ ?_)|((with_reducible refine And.intro (fun h => ?_) (fun h => ?_)) <;> try (exfalso; omega))|(with_reducible refine andG ?_)|(refine And.intro ⟨[_], rfl⟩ ?_)|(refine And.intro ⟨[], by simp only [List.append_nil]⟩ ?_)|(first|(refine ⟨_, _, pc_lift (hrx) (by (simp [idsL, idsE, AV.ids, Nat.add_zero])) _, ?_⟩)|(refine ⟨_, pc_lift (hrx) (by (simp [idsL, idsE, AV.ids, Nat.add_zero])) _, ?_⟩)|(refine ⟨_, fun _ => pc_lift (hrx) (by (simp [idsL, idsE, AV.ids, Nat.add_zero])) _, ?_⟩))|simp (disch := (first|exact discB|fail)) only [push_cast, ↓reduceIte, reduceIte, reduceCtorEq, Nat.reduceAdd, Nat.reduceLT, Nat.reduceEqDiff, Nat.reduceLeDiff, Int.reduceAdd, Int.reduceLT, Int.reduceLE, Nat.reduceMul, b1, b3, b4, b5, b6, hRl, hb', e1s, hIl, e3a, ha17, har, harN])
         refine out_round (min 17 r.length - (a + 1)) (by omega) (by first|exact sideB|fail) ⟨a + 1, by omega, rfl, rfl, ?_⟩
         simp (disch := (first|exact discB|fail)) only [push_cast, ↓reduceIte, reduceIte, reduceCtorEq, Nat.reduceAdd, Nat.reduceLT, Nat.reduceEqDiff, Nat.reduceLeDiff, Int.reduceAdd, Int.reduceLT, Int.reduceLE, Nat.reduceMul, b1, b3, b4, b5, b6, hRl, hb', e1s, hIl, e3a, ha17, har, harN]
         rw [hz2]
       ·obtain rfl : min 17 r.length = a := by omega
        rw [hsu] at b4
        by_cases hr17 : r.length < 17
        ·have hmn : min 17 r.length = r.length := by omega
         rw [hmn] at *
         repeat' (first|refine nav ?_|(refine g0_ ?_; refine goD ?_)|(with_reducible refine gG ?_ ?_)|((with_reducible refine And.intro (fun h => ?_) (fun h => ?_)) <;> try (exfalso; omega))|(with_reducible refine andG ?_)|(refine And.intro ⟨[_], rfl⟩ ?_)|(refine And.intro ⟨[], by simp only [List.append_nil]⟩ ?_)|fail|simp (disch := (first|exact discB|fail)) only [push_cast, ↓reduceIte, reduceIte, reduceCtorEq, Nat.reduceAdd, Nat.reduceLT, Nat.reduceEqDiff, Nat.reduceLeDiff, Int.reduceAdd, Int.reduceLT, Int.reduceLE, Nat.reduceMul, b1, b3, b4, b5, b6, hRl, hb', e1s, hIl])
         refine out_round (l.length - (s + 1)) (by omega) (by first|exact sideB|fail) ⟨s + 1, by omega, by omega, rfl, rfl, ?_⟩
         simp (disch := (first|exact discB|fail)) only [push_cast, ↓reduceIte, reduceIte, reduceCtorEq, Nat.reduceAdd, Nat.reduceLT, Nat.reduceEqDiff, Nat.reduceLeDiff, Int.reduceAdd, Int.reduceLT, Int.reduceLE, Nat.reduceMul, b1, b3, b4, b5, b6, hRl, hb', e1s, hIl]
        ·have hmn : min 17 r.length = 17 := by omega
         rw [hmn] at *
         by_cases hr18 : 17 < r.length
         ·have h18' : (17 : Int) < r.length := by omega
          have hcn : ((17 : Nat) : Int) = 17 := rfl
          repeat' (first|refine nav ?_|(refine g0_ ?_; refine goD ?_)|(with_reducible refine gG ?_ ?_)|((with_reducible refine And.intro (fun h => ?_) (fun h => ?_)) <;> try (exfalso; omega))|(with_reducible refine andG ?_)|(refine And.intro ⟨[_], rfl⟩ ?_)|(refine And.intro ⟨[], by simp only [List.append_nil]⟩ ?_)|fail|simp (disch := (first|exact discB|fail)) only [push_cast, ↓reduceIte, reduceIte, reduceCtorEq, Nat.reduceAdd, Nat.reduceLT, Nat.reduceEqDiff, Nat.reduceLeDiff, Int.reduceAdd, Int.reduceLT, Int.reduceLE, Nat.reduceMul, b1, b3, b4, b5, b6, hRl, hb', e1s, hIl, h18', hr18, hcn])
          refine out_round (l.length - (s + 1)) (by omega) (by first|exact sideB|fail) ⟨s + 1, by omega, by omega, rfl, rfl, ?_⟩
          simp (disch := (first|exact discB|fail)) only [push_cast, ↓reduceIte, reduceIte, reduceCtorEq, Nat.reduceAdd, Nat.reduceLT, Nat.reduceEqDiff, Nat.reduceLeDiff, Int.reduceAdd, Int.reduceLT, Int.reduceLE, Nat.reduceMul, b1, b3, b4, b5, b6, hRl, hb', e1s, hIl, h18', hr18, hcn]
         ·have h18' : ¬ (17 : Int) < r.length := by omega
          have hcn : ((17 : Nat) : Int) = 17 := rfl
          repeat' (first|refine nav ?_|(refine g0_ ?_; refine goD ?_)|(with_reducible refine gG ?_ ?_)|((with_reducible refine And.intro (fun h => ?_) (fun h => ?_)) <;> try (exfalso; omega))|(with_reducible refine andG ?_)|(refine And.intro ⟨[_], rfl⟩ ?_)|(refine And.intro ⟨[], by simp only [List.append_nil]⟩ ?_)|fail|simp (disch := (first|exact discB|fail)) only [push_cast, ↓reduceIte, reduceIte, reduceCtorEq, Nat.reduceAdd, Nat.reduceLT, Nat.reduceEqDiff, Nat.reduceLeDiff, Int.reduceAdd, Int.reduceLT, Int.reduceLE, Nat.reduceMul, b1, b3, b4, b5, b6, hRl, hb', e1s, hIl, h18', hr18, hcn])
          refine out_round (l.length - (s + 1)) (by omega) (by first|exact sideB|fail) ⟨s + 1, by omega, by omega, rfl, rfl, ?_⟩
          simp (disch := (first|exact discB|fail)) only [push_cast, ↓reduceIte, reduceIte, reduceCtorEq, Nat.reduceAdd, Nat.reduceLT, Nat.reduceEqDiff, Nat.reduceLeDiff, Int.reduceAdd, Int.reduceLT, Int.reduceLE, Nat.reduceMul, b1, b3, b4, b5, b6, hRl, hb', e1s, hIl, h18', hr18, hcn]
     ·have hz0' : bI (wRn w sym l.length r 0) = 1 := by rw [hz0, decide_eq_true hls, Bool.or_true]; rfl
      repeat' (first|refine nav ?_|(refine g0_ ?_; refine goD ?_)|(with_reducible refine gG ?_ ?_)|((with_reducible refine And.intro (fun h => ?_) (fun h => ?_)) <;> try (exfalso; omega))|(with_reducible refine andG ?_)|(refine And.intro ⟨[_], rfl⟩ ?_)|(refine And.intro ⟨[], by simp only [List.append_nil]⟩ ?_)|fail|simp (disch := (first|exact discB|fail)) only [push_cast, ↓reduceIte, reduceIte, reduceCtorEq, Nat.reduceAdd, Nat.reduceLT, Nat.reduceEqDiff, Nat.reduceLeDiff, Int.reduceAdd, Int.reduceLT, Int.reduceLE, Nat.reduceMul, b1, b3, b4, b5, hRl, hb', e1s, hIl, hls])
      refine go_loop rfl (fun mz s' H' => ∃ a : Nat, a ≤ min 17 r.length ∧ mz = min 17 r.length - a ∧ H' = [.row 4 29 [[.int .i64 sym, .sl 1 RN c, .sl zs IS cs, .sl za IA ca]]] ∧ s' 1 = .ptr 0 0 0 1 ∧ s' 3 = .int .i64 l.length ∧ s' 4 = .int .i64 (bI (wRn w sym l.length r a)) ∧ s' 5 = .int .i64 s ∧ s' 6 = .int .i64 a) (m := min 17 r.length) (by first|exact sideB|fail) (Weak.refl _ _) ⟨0, by omega, by omega, rfl, ?_⟩ ?_
      ·simp (disch := (first|exact discB|fail)) only [push_cast, ↓reduceIte, reduceIte, reduceCtorEq, Nat.reduceAdd, Nat.reduceLT, Nat.reduceEqDiff, Nat.reduceLeDiff, Int.reduceAdd, Int.reduceLT, Int.reduceLE, Nat.reduceMul, b1, b3, b4, b5, hRl, hb', e1s, hIl, hls]
       rw [hz0']
      ·clear b1 b3 b4 b5
       rintro mz s' H' ⟨a, ha, rfl, rfl, b1, b3, b4, b5, b6⟩
       rcases Nat.lt_or_ge a (min 17 r.length) with hla|hga
       ·have e3a := e3 a (by omega)
        have hz1 := hz1 a (by omega)
        have hr4a := hr4 a (by omega)
        have ha17 : (a : Int) < 17 := by omega
        have har : (a : Int) < r.length := by omega
        have harN : a < r.length := by omega
        unfold lC at e3a
        generalize (r.getD a ([], none)).2 = cx at *
        generalize (r.getD a ([], none)).1 = x at *
        have hrx := rises51 1 x cx l.length (.inr rfl) hr4a
        cases hq : risesL x l.length with
        | false =>
         rw [hq] at hrx hz1
         rw [bI_false] at hrx
         have hz2 : bI (wRn w sym l.length r (a + 1)) = 1 := by rw [hz1]; simp [bI]
         repeat' (first|refine nav ?_|(refine g0_ ?_; refine goD ?_)|(with_reducible refine gG ?_ ?_)|((with_reducible refine And.intro (fun h => ?_) (fun h => ?_)) <;> try (exfalso; omega))|(with_reducible refine andG ?_)|(refine And.intro ⟨[_], rfl⟩ ?_)|(refine And.intro ⟨[], by simp only [List.append_nil]⟩ ?_)|(first|(refine ⟨_, _, pc_lift (hrx) (by (simp [idsL, idsE, AV.ids, Nat.add_zero])) _, ?_⟩)|(refine ⟨_, pc_lift (hrx) (by (simp [idsL, idsE, AV.ids, Nat.add_zero])) _, ?_⟩)|(refine ⟨_, fun _ => pc_lift (hrx) (by (simp [idsL, idsE, AV.ids, Nat.add_zero])) _, ?_⟩))|simp (disch := (first|exact discB|fail)) only [push_cast, ↓reduceIte, reduceIte, reduceCtorEq, Nat.reduceAdd, Nat.reduceLT, Nat.reduceEqDiff, Nat.reduceLeDiff, Int.reduceAdd, Int.reduceLT, Int.reduceLE, Nat.reduceMul, b1, b3, b4, b5, b6, hRl, hb', e1s, hIl, e3a, ha17, har, harN])
         refine out_round (min 17 r.length - (a + 1)) (by omega) (by first|exact sideB|fail) ⟨a + 1, by omega, rfl, rfl, ?_⟩
         simp (disch := (first|exact discB|fail)) only [push_cast, ↓reduceIte, reduceIte, reduceCtorEq, Nat.reduceAdd, Nat.reduceLT, Nat.reduceEqDiff, Nat.reduceLeDiff, Int.reduceAdd, Int.reduceLT, Int.reduceLE, Nat.reduceMul, b1, b3, b4, b5, b6, hRl, hb', e1s, hIl, e3a, ha17, har, harN]
         rw [hz2]
        | true =>
         rw [hq] at hrx hz1
         rw [bI_true] at hrx
         have hz2 : wRn w sym l.length r (a + 1) = wRn w sym l.length r a := by rw [hz1]; simp
         repeat' (first|refine nav ?_|(refine g0_ ?_; refine goD ?_)|(with_reducible refine gG ?_ ?_)|((with_reducible refine And.intro (fun h => ?_) (fun h => ?_)) <;> try (exfalso; omega))|(with_reducible refine andG ?_)|(refine And.intro ⟨[_], rfl⟩ ?_)|(refine And.intro ⟨[], by simp only [List.append_nil]⟩ ?_)|(first|(refine ⟨_, _, pc_lift (hrx) (by (simp [idsL, idsE, AV.ids, Nat.add_zero])) _, ?_⟩)|(refine ⟨_, pc_lift (hrx) (by (simp [idsL, idsE, AV.ids, Nat.add_zero])) _, ?_⟩)|(refine ⟨_, fun _ => pc_lift (hrx) (by (simp [idsL, idsE, AV.ids, Nat.add_zero])) _, ?_⟩))|simp (disch := (first|exact discB|fail)) only [push_cast, ↓reduceIte, reduceIte, reduceCtorEq, Nat.reduceAdd, Nat.reduceLT, Nat.reduceEqDiff, Nat.reduceLeDiff, Int.reduceAdd, Int.reduceLT, Int.reduceLE, Nat.reduceMul, b1, b3, b4, b5, b6, hRl, hb', e1s, hIl, e3a, ha17, har, harN])
         refine out_round (min 17 r.length - (a + 1)) (by omega) (by first|exact sideB|fail) ⟨a + 1, by omega, rfl, rfl, ?_⟩
         simp (disch := (first|exact discB|fail)) only [push_cast, ↓reduceIte, reduceIte, reduceCtorEq, Nat.reduceAdd, Nat.reduceLT, Nat.reduceEqDiff, Nat.reduceLeDiff, Int.reduceAdd, Int.reduceLT, Int.reduceLE, Nat.reduceMul, b1, b3, b4, b5, b6, hRl, hb', e1s, hIl, e3a, ha17, har, harN]
         rw [hz2]
       ·obtain rfl : min 17 r.length = a := by omega
        rw [hsu] at b4
        by_cases hr17 : r.length < 17
        ·have hmn : min 17 r.length = r.length := by omega
         rw [hmn] at *
         repeat' (first|refine nav ?_|(refine g0_ ?_; refine goD ?_)|(with_reducible refine gG ?_ ?_)|((with_reducible refine And.intro (fun h => ?_) (fun h => ?_)) <;> try (exfalso; omega))|(with_reducible refine andG ?_)|(refine And.intro ⟨[_], rfl⟩ ?_)|(refine And.intro ⟨[], by simp only [List.append_nil]⟩ ?_)|fail|simp (disch := (first|exact discB|fail)) only [push_cast, ↓reduceIte, reduceIte, reduceCtorEq, Nat.reduceAdd, Nat.reduceLT, Nat.reduceEqDiff, Nat.reduceLeDiff, Int.reduceAdd, Int.reduceLT, Int.reduceLE, Nat.reduceMul, b1, b3, b4, b5, b6, hRl, hb', e1s, hIl])
         refine out_round (l.length - (s + 1)) (by omega) (by first|exact sideB|fail) ⟨s + 1, by omega, by omega, rfl, rfl, ?_⟩
         simp (disch := (first|exact discB|fail)) only [push_cast, ↓reduceIte, reduceIte, reduceCtorEq, Nat.reduceAdd, Nat.reduceLT, Nat.reduceEqDiff, Nat.reduceLeDiff, Int.reduceAdd, Int.reduceLT, Int.reduceLE, Nat.reduceMul, b1, b3, b4, b5, b6, hRl, hb', e1s, hIl]
        ·have hmn : min 17 r.length = 17 := by omega
         rw [hmn] at *
         by_cases hr18 : 17 < r.length
         ·have h18' : (17 : Int) < r.length := by omega
          have hcn : ((17 : Nat) : Int) = 17 := rfl
          repeat' (first|refine nav ?_|(refine g0_ ?_; refine goD ?_)|(with_reducible refine gG ?_ ?_)|((with_reducible refine And.intro (fun h => ?_) (fun h => ?_)) <;> try (exfalso; omega))|(with_reducible refine andG ?_)|(refine And.intro ⟨[_], rfl⟩ ?_)|(refine And.intro ⟨[], by simp only [List.append_nil]⟩ ?_)|fail|simp (disch := (first|exact discB|fail)) only [push_cast, ↓reduceIte, reduceIte, reduceCtorEq, Nat.reduceAdd, Nat.reduceLT, Nat.reduceEqDiff, Nat.reduceLeDiff, Int.reduceAdd, Int.reduceLT, Int.reduceLE, Nat.reduceMul, b1, b3, b4, b5, b6, hRl, hb', e1s, hIl, h18', hr18, hcn])
          refine out_round (l.length - (s + 1)) (by omega) (by first|exact sideB|fail) ⟨s + 1, by omega, by omega, rfl, rfl, ?_⟩
          simp (disch := (first|exact discB|fail)) only [push_cast, ↓reduceIte, reduceIte, reduceCtorEq, Nat.reduceAdd, Nat.reduceLT, Nat.reduceEqDiff, Nat.reduceLeDiff, Int.reduceAdd, Int.reduceLT, Int.reduceLE, Nat.reduceMul, b1, b3, b4, b5, b6, hRl, hb', e1s, hIl, h18', hr18, hcn]
         ·have h18' : ¬ (17 : Int) < r.length := by omega
          have hcn : ((17 : Nat) : Int) = 17 := rfl
          repeat' (first|refine nav ?_|(refine g0_ ?_; refine goD ?_)|(with_reducible refine gG ?_ ?_)|((with_reducible refine And.intro (fun h => ?_) (fun h => ?_)) <;> try (exfalso; omega))|(with_reducible refine andG ?_)|(refine And.intro ⟨[_], rfl⟩ ?_)|(refine And.intro ⟨[], by simp only [List.append_nil]⟩ ?_)|fail|simp (disch := (first|exact discB|fail)) only [push_cast, ↓reduceIte, reduceIte, reduceCtorEq, Nat.reduceAdd, Nat.reduceLT, Nat.reduceEqDiff, Nat.reduceLeDiff, Int.reduceAdd, Int.reduceLT, Int.reduceLE, Nat.reduceMul, b1, b3, b4, b5, b6, hRl, hb', e1s, hIl, h18', hr18, hcn])
          refine out_round (l.length - (s + 1)) (by omega) (by first|exact sideB|fail) ⟨s + 1, by omega, by omega, rfl, rfl, ?_⟩
          simp (disch := (first|exact discB|fail)) only [push_cast, ↓reduceIte, reduceIte, reduceCtorEq, Nat.reduceAdd, Nat.reduceLT, Nat.reduceEqDiff, Nat.reduceLeDiff, Int.reduceAdd, Int.reduceLT, Int.reduceLE, Nat.reduceMul, b1, b3, b4, b5, b6, hRl, hb', e1s, hIl, h18', hr18, hcn]
   ·obtain rfl : l.length = s := by omega
    have hb : ¬ 256 < l.length ∨ l.length = 0 := by omega
    by_cases hb2 : 256 < l.length
    ·omega
    ·have hb' : (l.length : Int) ≤ 256 := by omega
     have hW := hW hb2
     generalize bI (wBn sym l st ac l.length) = w at *
     repeat' (first|refine nav ?_|(refine g0_ ?_; refine goD ?_)|(with_reducible refine gG ?_ ?_)|((with_reducible refine And.intro (fun h => ?_) (fun h => ?_)) <;> try (exfalso; omega))|(with_reducible refine andG ?_)|(refine And.intro ⟨[_], rfl⟩ ?_)|(refine And.intro ⟨[], by simp only [List.append_nil]⟩ ?_)|(first|(refine ⟨_, _, pc_lift (hE w) (by (simp [idsL, idsE, AV.ids, Nat.add_zero])) _, ?_⟩)|(refine ⟨_, pc_lift (hE w) (by (simp [idsL, idsE, AV.ids, Nat.add_zero])) _, ?_⟩)|(refine ⟨_, fun _ => pc_lift (hE w) (by (simp [idsL, idsE, AV.ids, Nat.add_zero])) _, ?_⟩))|simp (disch := (first|exact discB|fail)) only [push_cast, ↓reduceIte, reduceIte, reduceCtorEq, Nat.reduceAdd, Nat.reduceLT, Nat.reduceEqDiff, Nat.reduceLeDiff, Int.reduceAdd, Int.reduceLT, Int.reduceLE, Nat.reduceMul, b1, b3, b4, b5, hRl, hb'])
     rw [hW]
 by_cases h1 : sym < 1
 ·have hq : bI (wAn sym l.length st ac) = 1 := by rw [wAn, decide_eq_true h1]; rfl
  refine pc_go 0 75 [.tmp 2] Tryz.func18 rfl rfl rfl (by simp) ?_
  intro s ⟨a0, hz⟩
  clear hz
  repeat' (first|refine nav ?_|(refine g0_ ?_; refine goD ?_)|(with_reducible refine gG ?_ ?_)|((with_reducible refine And.intro (fun h => ?_) (fun h => ?_)) <;> try (exfalso; omega))|(with_reducible refine andG ?_)|(refine And.intro ⟨[_], rfl⟩ ?_)|(refine And.intro ⟨[], by simp only [List.append_nil]⟩ ?_)|(first|(refine ⟨_, _, pc_lift (hr1) (by (simp [idsL, idsE, AV.ids, hidR, hidS, hidA])) _, ?_⟩)|(refine ⟨_, pc_lift (hr1) (by (simp [idsL, idsE, AV.ids, hidR, hidS, hidA])) _, ?_⟩)|(refine ⟨_, fun _ => pc_lift (hr1) (by (simp [idsL, idsE, AV.ids, hidR, hidS, hidA])) _, ?_⟩)|(refine ⟨_, _, pc_lift (hr2) (by (simp [idsL, idsE, AV.ids, hidR, hidS, hidA])) _, ?_⟩)|(refine ⟨_, pc_lift (hr2) (by (simp [idsL, idsE, AV.ids, hidR, hidS, hidA])) _, ?_⟩)|(refine ⟨_, fun _ => pc_lift (hr2) (by (simp [idsL, idsE, AV.ids, hidR, hidS, hidA])) _, ?_⟩)|(refine ⟨AV.str [], ?_⟩; refine acc_id ?_))|simp (disch := (first|exact discB|fail)) only [push_cast, ↓reduceIte, reduceIte, reduceCtorEq, Nat.reduceAdd, Nat.reduceLT, Nat.reduceEqDiff, Nat.reduceLeDiff, Int.reduceAdd, Int.reduceLT, Int.reduceLE, Nat.reduceMul, a0, hRl, h1])
  refine hgo _ ?_ ?_ ?_ ?_
  all_goals simp (disch := (first|exact discB|fail)) only [push_cast, ↓reduceIte, reduceIte, reduceCtorEq, Nat.reduceAdd, Nat.reduceLT, Nat.reduceEqDiff, Nat.reduceLeDiff, Int.reduceAdd, Int.reduceLT, Int.reduceLE, Nat.reduceMul, a0, hRl, h1]
  rw [hq]
 ·cases hs : risesL st l.length with
  | false =>
   rw [hs, bI_false] at hr1
   have hq : bI (wAn sym l.length st ac) = 1 := by rw [wAn, hs]; simp [bI]
   refine pc_go 0 75 [.tmp 2] Tryz.func18 rfl rfl rfl (by simp) ?_
   intro s ⟨a0, hz⟩
   clear hz
   repeat' (first|refine nav ?_|(refine g0_ ?_; refine goD ?_)|(with_reducible refine gG ?_ ?_)|((with_reducible refine And.intro (fun h => ?_) (fun h => ?_)) <;> try (exfalso; omega))|(with_reducible refine andG ?_)|(refine And.intro ⟨[_], rfl⟩ ?_)|(refine And.intro ⟨[], by simp only [List.append_nil]⟩ ?_)|(first|(refine ⟨_, _, pc_lift (hr1) (by (simp [idsL, idsE, AV.ids, hidR, hidS, hidA])) _, ?_⟩)|(refine ⟨_, pc_lift (hr1) (by (simp [idsL, idsE, AV.ids, hidR, hidS, hidA])) _, ?_⟩)|(refine ⟨_, fun _ => pc_lift (hr1) (by (simp [idsL, idsE, AV.ids, hidR, hidS, hidA])) _, ?_⟩)|(refine ⟨_, _, pc_lift (hr2) (by (simp [idsL, idsE, AV.ids, hidR, hidS, hidA])) _, ?_⟩)|(refine ⟨_, pc_lift (hr2) (by (simp [idsL, idsE, AV.ids, hidR, hidS, hidA])) _, ?_⟩)|(refine ⟨_, fun _ => pc_lift (hr2) (by (simp [idsL, idsE, AV.ids, hidR, hidS, hidA])) _, ?_⟩)|(refine ⟨AV.str [], ?_⟩; refine acc_id ?_))|simp (disch := (first|exact discB|fail)) only [push_cast, ↓reduceIte, reduceIte, reduceCtorEq, Nat.reduceAdd, Nat.reduceLT, Nat.reduceEqDiff, Nat.reduceLeDiff, Int.reduceAdd, Int.reduceLT, Int.reduceLE, Nat.reduceMul, a0, hRl, h1])
   refine hgo _ ?_ ?_ ?_ ?_
   all_goals simp (disch := (first|exact discB|fail)) only [push_cast, ↓reduceIte, reduceIte, reduceCtorEq, Nat.reduceAdd, Nat.reduceLT, Nat.reduceEqDiff, Nat.reduceLeDiff, Int.reduceAdd, Int.reduceLT, Int.reduceLE, Nat.reduceMul, a0, hRl, h1]
   rw [hq]
  | true =>
   rw [hs, bI_true] at hr1
   cases ht : risesL ac l.length with
   | false =>
    rw [ht, bI_false] at hr2
    have hq : bI (wAn sym l.length st ac) = 1 := by rw [wAn, ht]; simp [bI]
    refine pc_go 0 75 [.tmp 2] Tryz.func18 rfl rfl rfl (by simp) ?_
    intro s ⟨a0, hz⟩
    clear hz
    repeat' (first|refine nav ?_|(refine g0_ ?_; refine goD ?_)|(with_reducible refine gG ?_ ?_)|((with_reducible refine And.intro (fun h => ?_) (fun h => ?_)) <;> try (exfalso; omega))|(with_reducible refine andG ?_)|(refine And.intro ⟨[_], rfl⟩ ?_)|(refine And.intro ⟨[], by simp only [List.append_nil]⟩ ?_)|(first|(refine ⟨_, _, pc_lift (hr1) (by (simp [idsL, idsE, AV.ids, hidR, hidS, hidA])) _, ?_⟩)|(refine ⟨_, pc_lift (hr1) (by (simp [idsL, idsE, AV.ids, hidR, hidS, hidA])) _, ?_⟩)|(refine ⟨_, fun _ => pc_lift (hr1) (by (simp [idsL, idsE, AV.ids, hidR, hidS, hidA])) _, ?_⟩)|(refine ⟨_, _, pc_lift (hr2) (by (simp [idsL, idsE, AV.ids, hidR, hidS, hidA])) _, ?_⟩)|(refine ⟨_, pc_lift (hr2) (by (simp [idsL, idsE, AV.ids, hidR, hidS, hidA])) _, ?_⟩)|(refine ⟨_, fun _ => pc_lift (hr2) (by (simp [idsL, idsE, AV.ids, hidR, hidS, hidA])) _, ?_⟩)|(refine ⟨AV.str [], ?_⟩; refine acc_id ?_))|simp (disch := (first|exact discB|fail)) only [push_cast, ↓reduceIte, reduceIte, reduceCtorEq, Nat.reduceAdd, Nat.reduceLT, Nat.reduceEqDiff, Nat.reduceLeDiff, Int.reduceAdd, Int.reduceLT, Int.reduceLE, Nat.reduceMul, a0, hRl, h1])
    refine hgo _ ?_ ?_ ?_ ?_
    all_goals simp (disch := (first|exact discB|fail)) only [push_cast, ↓reduceIte, reduceIte, reduceCtorEq, Nat.reduceAdd, Nat.reduceLT, Nat.reduceEqDiff, Nat.reduceLeDiff, Int.reduceAdd, Int.reduceLT, Int.reduceLE, Nat.reduceMul, a0, hRl, h1]
    rw [hq]
   | true =>
    rw [ht, bI_true] at hr2
    have hq : bI (wAn sym l.length st ac) = 0 := by rw [wAn, hs, ht, decide_eq_false h1]; rfl
    refine pc_go 0 75 [.tmp 2] Tryz.func18 rfl rfl rfl (by simp) ?_
    intro s ⟨a0, hz⟩
    clear hz
    repeat' (first|refine nav ?_|(refine g0_ ?_; refine goD ?_)|(with_reducible refine gG ?_ ?_)|((with_reducible refine And.intro (fun h => ?_) (fun h => ?_)) <;> try (exfalso; omega))|(with_reducible refine andG ?_)|(refine And.intro ⟨[_], rfl⟩ ?_)|(refine And.intro ⟨[], by simp only [List.append_nil]⟩ ?_)|(first|(refine ⟨_, _, pc_lift (hr1) (by (simp [idsL, idsE, AV.ids, hidR, hidS, hidA])) _, ?_⟩)|(refine ⟨_, pc_lift (hr1) (by (simp [idsL, idsE, AV.ids, hidR, hidS, hidA])) _, ?_⟩)|(refine ⟨_, fun _ => pc_lift (hr1) (by (simp [idsL, idsE, AV.ids, hidR, hidS, hidA])) _, ?_⟩)|(refine ⟨_, _, pc_lift (hr2) (by (simp [idsL, idsE, AV.ids, hidR, hidS, hidA])) _, ?_⟩)|(refine ⟨_, pc_lift (hr2) (by (simp [idsL, idsE, AV.ids, hidR, hidS, hidA])) _, ?_⟩)|(refine ⟨_, fun _ => pc_lift (hr2) (by (simp [idsL, idsE, AV.ids, hidR, hidS, hidA])) _, ?_⟩)|(refine ⟨AV.str [], ?_⟩; refine acc_id ?_))|simp (disch := (first|exact discB|fail)) only [push_cast, ↓reduceIte, reduceIte, reduceCtorEq, Nat.reduceAdd, Nat.reduceLT, Nat.reduceEqDiff, Nat.reduceLeDiff, Int.reduceAdd, Int.reduceLT, Int.reduceLE, Nat.reduceMul, a0, hRl, h1])
    refine hgo _ ?_ ?_ ?_ ?_
    all_goals simp (disch := (first|exact discB|fail)) only [push_cast, ↓reduceIte, reduceIte, reduceCtorEq, Nat.reduceAdd, Nat.reduceLT, Nat.reduceEqDiff, Nat.reduceLeDiff, Int.reduceAdd, Int.reduceLT, Int.reduceLE, Nat.reduceMul, a0, hRl, h1]
    rw [hq]
end Go.Proofs
