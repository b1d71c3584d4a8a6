import Derived.Test.YtcoakjnmnommpaaGreatDoorA42
namespace Go.Proofs
open Go Go.V Go.RowKit
set_option linter.unusedVariables false
set_option linter.unusedSimpArgs false
set_option maxHeartbeats 0
set_option maxRecDepth 100000
def errR (a b w : Int) : Int := if 16 < a ∨ 256 < b then 3 else if w = 1 then 1 else 0
theorem errors70 (a b w : Int) : PC Tryz.prog G0 52 [.int .i64 a, .int .i64 b, .int .i64 w] (.int .i64 (errR a b w)) := by
 unfold errR
 by_cases h1 : 16 < a
 ·rw [if_pos (.inl h1)]
  refine pc_go 0 15 [.tmp 6] Tryz.func52 rfl rfl rfl (by simp) ?_
  intro s ⟨a0, a1, a2, hz⟩
  simp only [Nat.zero_add, Nat.reduceAdd] at a1 a2
  clear hz
  repeat' (first|refine nav ?_|(refine g0_ ?_; refine goD ?_)|(with_reducible refine gG ?_ ?_)|((with_reducible refine And.intro (fun h => ?_) (fun h => ?_)) <;> try (exfalso; omega))|(with_reducible refine andG ?_)|refine appG ?_|fail|simp (disch := (first|exact discB|fail)) only [push_cast, ↓reduceIte, reduceIte, reduceCtorEq, Nat.reduceAdd, Nat.reduceLT, Nat.reduceEqDiff, Nat.reduceLeDiff, Int.reduceAdd, Int.reduceLT, Int.reduceLE, Nat.reduceMul, a0, a1, a2, h1])
 ·by_cases h2 : 256 < b
  ·rw [if_pos (.inr h2)]
   refine pc_go 0 15 [.tmp 6] Tryz.func52 rfl rfl rfl (by simp) ?_
   intro s ⟨a0, a1, a2, hz⟩
   simp only [Nat.zero_add, Nat.reduceAdd] at a1 a2
   clear hz
   repeat' (first|refine nav ?_|(refine g0_ ?_; refine goD ?_)|(with_reducible refine gG ?_ ?_)|((with_reducible refine And.intro (fun h => ?_) (fun h => ?_)) <;> try (exfalso; omega))|(with_reducible refine andG ?_)|refine appG ?_|fail|simp (disch := (first|exact discB|fail)) only [push_cast, ↓reduceIte, reduceIte, reduceCtorEq, Nat.reduceAdd, Nat.reduceLT, Nat.reduceEqDiff, Nat.reduceLeDiff, Int.reduceAdd, Int.reduceLT, Int.reduceLE, Nat.reduceMul, a0, a1, a2, h1, h2])
  ·rw [if_neg (by rintro (q|q) <;> contradiction)]
   by_cases h3 : w = 1
   ·rw [if_pos h3]
    refine pc_go 0 15 [.tmp 6] Tryz.func52 rfl rfl rfl (by simp) ?_
    intro s ⟨a0, a1, a2, hz⟩
    simp only [Nat.zero_add, Nat.reduceAdd] at a1 a2
    clear hz
    repeat' (first|refine nav ?_|(refine g0_ ?_; refine goD ?_)|(with_reducible refine gG ?_ ?_)|((with_reducible refine And.intro (fun h => ?_) (fun h => ?_)) <;> try (exfalso; omega))|(with_reducible refine andG ?_)|refine appG ?_|fail|simp (disch := (first|exact discB|fail)) only [push_cast, ↓reduceIte, reduceIte, reduceCtorEq, Nat.reduceAdd, Nat.reduceLT, Nat.reduceEqDiff, Nat.reduceLeDiff, Int.reduceAdd, Int.reduceLT, Int.reduceLE, Nat.reduceMul, a0, a1, a2, h1, h2, h3])
   ·rw [if_neg h3]
    refine pc_go 0 15 [.tmp 6] Tryz.func52 rfl rfl rfl (by simp) ?_
    intro s ⟨a0, a1, a2, hz⟩
    simp only [Nat.zero_add, Nat.reduceAdd] at a1 a2
    clear hz
    repeat' (first|refine nav ?_|(refine g0_ ?_; refine goD ?_)|(with_reducible refine gG ?_ ?_)|((with_reducible refine And.intro (fun h => ?_) (fun h => ?_)) <;> try (exfalso; omega))|(with_reducible refine andG ?_)|refine appG ?_|fail|simp (disch := (first|exact discB|fail)) only [push_cast, ↓reduceIte, reduceIte, reduceCtorEq, Nat.reduceAdd, Nat.reduceLT, Nat.reduceEqDiff, Nat.reduceLeDiff, Int.reduceAdd, Int.reduceLT, Int.reduceLE, Nat.reduceMul, a0, a1, a2, h1, h2, h3])
def bI (b : Bool) : Int := if b = true then 1 else 0
theorem bI_true : bI true = 1 := rfl
theorem bI_false : bI false = 0 := rfl
def wA (sym : Int) (l : List LC) (m : Nat) : Bool := decide (sym < 1) || (decide (l.length = 0) || decide ((m : Int) ≠ l.length))
def wB (sym : Int) (l : List LC) (m s : Nat) : Bool := wA sym l m || (l.take s).any fun r => !rowOkD sym l.length r.1
def wR (w : Bool) (sym n : Int) (r : List Int) (a : Nat) : Bool := (w || decide ((r.length : Int) ≠ sym)) || (r.take a).any fun x => !toOk n x
theorem wB_zero (sym : Int) (l : List LC) (m : Nat) : wB sym l m 0 = wA sym l m := by simp [wB]
theorem wR_zero (w : Bool) (sym n : Int) (r : List Int) : wR w sym n r 0 = (w || decide ((r.length : Int) ≠ sym)) := by simp [wR]
theorem wR_succ (w : Bool) (sym n : Int) (r : List Int) (a : Nat) (h : a < r.length) : wR w sym n r (a + 1) = (wR w sym n r a || !toOk n (r.getD a 0)) := by
 rw [wR, take_succ_snoc r 0 a h, List.any_append, wR, ← Bool.or_assoc]; simp
theorem wR_all (sym : Int) (l : List LC) (m s : Nat) (h : s < l.length) : wR (wB sym l m s) sym l.length (l.getD s ([], none)).1 (l.getD s ([], none)).1.length = wB sym l m (s + 1) := by
 rw [wR, List.take_length, wB, wB, take_succ_snoc l ([], none) s h, List.any_append]
 simp only [List.any_cons, List.any_nil, Bool.or_false, rowOkD_def, Bool.not_and, Bool.or_assoc]
 congr 2
 rw [List.not_all_eq_any_not]
 simp
theorem checkD_w (sym : Int) (l : List LC) (m : Nat) (h : ¬ 256 < l.length) : errR sym l.length (bI (wB sym l m l.length)) = checkD sym (rowsD l) m := by
 unfold errR
 by_cases h1 : 16 < sym ∨ 256 < l.length
 ·rw [cD3 h1, if_pos (by omega)]
 ·rw [if_neg (by omega)]
  cases hw : wB sym l m l.length with
  | true =>
   rw [bI_true, if_pos rfl]
   unfold wB wA at hw
   rw [List.take_length] at hw
   simp only [Bool.or_eq_true, decide_eq_true_eq, List.any_eq_true, Bool.not_eq_true'] at hw
   rcases hw with hw|⟨r, hr, hw⟩
   ·rw [cD1 h1 (by omega)]
   ·obtain ⟨s, hs, rfl⟩ := List.getElem_of_mem hr
    rw [cD1r h1 hs (by rw [List.getD_eq_getElem?_getD, List.getElem?_eq_getElem hs]; exact hw)]
  | false =>
   rw [bI_false, if_neg (by omega)]
   unfold wB wA at hw
   rw [List.take_length] at hw
   simp only [Bool.or_eq_false_iff, decide_eq_false_iff_not, List.any_eq_false, Bool.not_eq_true', Bool.not_eq_false] at hw
   rw [cD0 h1 hw.1.1 (by omega) (by omega) fun s hs => by rw [List.getD_eq_getElem?_getD, List.getElem?_eq_getElem hs]; exact hw.2 _ (List.getElem_mem hs)]
theorem checkD_big (sym : Int) (l : List LC) (m : Nat) (w : Int) (h : 256 < l.length) : errR sym l.length w = checkD sym (rowsD l) m := by
 rw [errR, if_pos (by omega), cD3 (.inr h)]
theorem check51 (sym : Int) (zr : Nat) (l : List LC) (c : Option Nat) (za : Nat) (ac : List Bool) (ca : Option Nat) (hsz : SizeD zr l za ac) : PC Tryz.prog G0 19 [dA sym zr l c za ac ca] (.int .i64 (checkD sym (rowsD l) ac.length)) := by
 have hidR : ∀ p, idsE p (rowL l) = true := fun p => idsE_rowL _ _
 have hidA : ∀ p, idsE p (bools ac) = true := fun p => idsE_bools _ _
 have hRl := length_rowL l
 have hAl := length_bools ac
 have e1 := getD_rowL l
 have hl := hsz.bl
 have hacl := hsz.bac
 have hbr := hsz.br
 have hbig := checkD_big sym l ac.length
 have hW := checkD_w sym l ac.length
 have hE := fun w => errors70 sym l.length w
 have hw0 := wB_zero sym l ac.length
 have hsu := wR_all sym l ac.length
 have hzr := hsz.zl
 unfold dA at *
 generalize hRN : rowL l = RN at *
 generalize bools ac = BA at *
 generalize checkD sym (rowsD l) ac.length = R at *
 have hgo : ∀ (s1 : Nat → AV), s1 1 = .ptr 0 0 0 1 → s1 3 = .int .i64 l.length → s1 4 = .int .i64 (bI (wA sym l ac.length)) → s1 5 = .int .i64 0 →
   V.Go false Tryz.prog G0 0 78 (bodyOf Tryz.f19) [0, 1, 0, 1, 1, 1, 1] (inBlockS 0 (thenC false Tryz.prog G0 0 78 (bodyOf Tryz.f19) [1, 1, 1, 1, 1] (DoneS Tryz.prog 78 [ResultVar.tmp 2] 0 (.int .i64 R)))) True s1 [.row 3 47 [[.int .i64 sym, .sl zr RN c, .sl za BA ca]]] := by
  intro s1 r1 r3 r4 r5
  refine go_loop rfl (fun mz s' H' => ∃ s : Nat, s ≤ l.length ∧ (256 < l.length → s = 0) ∧ mz = l.length - s ∧ H' = [.row 3 47 [[.int .i64 sym, .sl zr RN c, .sl za BA ca]]] ∧ s' 1 = .ptr 0 0 0 1 ∧ s' 3 = .int .i64 l.length ∧ s' 4 = .int .i64 (bI (wB sym l ac.length s)) ∧ s' 5 = .int .i64 s) (m := l.length) (by first|exact sideB|fail) (Weak.refl _ _) ⟨0, by omega, fun _ => rfl, by omega, rfl, ?_⟩ ?_
  ·simp (disch := (first|exact discB|fail)) only [push_cast, ↓reduceIte, reduceIte, reduceCtorEq, Nat.reduceAdd, Nat.reduceLT, Nat.reduceEqDiff, Nat.reduceLeDiff, Int.reduceAdd, Int.reduceLT, Int.reduceLE, Nat.reduceMul, r1, r3, r4, r5]
   rw [hw0]
  ·rintro mz s' H' ⟨s, hs, hs0, rfl, rfl, b1, b3, b4, b5⟩
   rcases Nat.lt_or_ge s l.length with hlt|hge
   ·obtain rfl := hzr.resolve_left (by intro h; rw [h] at hlt; simp at hlt)
    by_cases hb : 256 < l.length
    ·have hR := hbig (bI (wB sym l ac.length s)) hb
     have hb' : ¬ (l.length : Int) ≤ 256 := by omega
     generalize bI (wB sym l ac.length s) = w at *
     repeat' (first|refine nav ?_|(refine g0_ ?_; refine goD ?_)|(with_reducible refine gG ?_ ?_)|((with_reducible refine And.intro (fun h => ?_) (fun h => ?_)) <;> try (exfalso; omega))|(with_reducible refine andG ?_)|refine appG ?_|(first|(refine ⟨_, _, pc_lift (hE w) (by (simp [idsL, idsE, AV.ids, Nat.add_zero])) _, ?_⟩)|(refine ⟨_, pc_lift (hE w) (by (simp [idsL, idsE, AV.ids, Nat.add_zero])) _, ?_⟩)|(refine ⟨_, fun _ => pc_lift (hE w) (by (simp [idsL, idsE, AV.ids, Nat.add_zero])) _, ?_⟩))|simp (disch := (first|exact discB|fail)) only [push_cast, ↓reduceIte, reduceIte, reduceCtorEq, Nat.reduceAdd, Nat.reduceLT, Nat.reduceEqDiff, Nat.reduceLeDiff, Int.reduceAdd, Int.reduceLT, Int.reduceLE, Nat.reduceMul, b1, b3, b4, b5, hRl, hb'])
     rw [hR]
    ·have hb' : (l.length : Int) ≤ 256 := by omega
     have e1s := e1 s hlt
     have hr3 := hbr s hlt
     have hsu := hsu s hlt
     unfold lC at e1s
     generalize (l.getD s ([], none)).2 = cr at *
     generalize (l.getD s ([], none)).1 = r at *
     have hIl := length_ints r
     have e3 := getD_ints r
     have hz0 := wR_zero (wB sym l ac.length s) sym l.length r
     have hz1 := wR_succ (wB sym l ac.length s) sym l.length r
     generalize wB sym l ac.length s = w at *
     by_cases hls : (r.length : Int) = sym
     ·have hls' : ¬ (r.length : Int) ≠ sym := by omega
      have hz0' : bI (wR w sym l.length r 0) = bI w := by rw [hz0, decide_eq_false hls', Bool.or_false]
      repeat' (first|refine nav ?_|(refine g0_ ?_; refine goD ?_)|(with_reducible refine gG ?_ ?_)|((with_reducible refine And.intro (fun h => ?_) (fun h => ?_)) <;> try (exfalso; omega))|(with_reducible refine andG ?_)|refine appG ?_|fail|simp (disch := (first|exact discB|fail)) only [push_cast, ↓reduceIte, reduceIte, reduceCtorEq, Nat.reduceAdd, Nat.reduceLT, Nat.reduceEqDiff, Nat.reduceLeDiff, Int.reduceAdd, Int.reduceLT, Int.reduceLE, Nat.reduceMul, b1, b3, b4, b5, hRl, hb', e1s, hIl, hls])
      refine go_loop rfl (fun mz s' H' => ∃ a : Nat, a ≤ r.length ∧ mz = r.length - a ∧ H' = [.row 3 47 [[.int .i64 sym, .sl 1 RN c, .sl za BA ca]]] ∧ s' 1 = .ptr 0 0 0 1 ∧ s' 3 = .int .i64 l.length ∧ s' 4 = .int .i64 (bI (wR w sym l.length r a)) ∧ s' 5 = .int .i64 s ∧ s' 6 = .int .i64 a) (m := r.length) (by first|exact sideB|fail) (Weak.refl _ _) ⟨0, by omega, by omega, rfl, ?_⟩ ?_
      ·simp (disch := (first|exact discB|fail)) only [push_cast, ↓reduceIte, reduceIte, reduceCtorEq, Nat.reduceAdd, Nat.reduceLT, Nat.reduceEqDiff, Nat.reduceLeDiff, Int.reduceAdd, Int.reduceLT, Int.reduceLE, Nat.reduceMul, b1, b3, b4, b5, hRl, hb', e1s, hIl, hls]
       rw [hz0']
      ·clear b1 b3 b4 b5
       rintro mz s' H' ⟨a, ha, rfl, rfl, b1, b3, b4, b5, b6⟩
       rcases Nat.lt_or_ge a r.length with hla|hga
       ·have e3a := e3 a hla
        have hz1 := hz1 a hla
        unfold toOk at hz1
        generalize r.getD a 0 = x at *
        by_cases c1 : x < 0
        ·have hz2 : bI (wR w sym l.length r (a + 1)) = 1 := by rw [hz1, decide_eq_false (by omega)]; simp [bI]
         repeat' (first|refine nav ?_|(refine g0_ ?_; refine goD ?_)|(with_reducible refine gG ?_ ?_)|((with_reducible refine And.intro (fun h => ?_) (fun h => ?_)) <;> try (exfalso; omega))|(with_reducible refine andG ?_)|refine appG ?_|fail|simp (disch := (first|exact discB|fail)) only [push_cast, ↓reduceIte, reduceIte, reduceCtorEq, Nat.reduceAdd, Nat.reduceLT, Nat.reduceEqDiff, Nat.reduceLeDiff, Int.reduceAdd, Int.reduceLT, Int.reduceLE, Nat.reduceMul, b1, b3, b4, b5, b6, hRl, hb', e1s, hIl, e3a, c1])
         refine out_round (r.length - (a + 1)) (by omega) (by first|exact sideB|fail) ⟨a + 1, by omega, rfl, rfl, ?_⟩
         simp (disch := (first|exact discB|fail)) only [push_cast, ↓reduceIte, reduceIte, reduceCtorEq, Nat.reduceAdd, Nat.reduceLT, Nat.reduceEqDiff, Nat.reduceLeDiff, Int.reduceAdd, Int.reduceLT, Int.reduceLE, Nat.reduceMul, b1, b3, b4, b5, b6, hRl, hb', e1s, hIl, e3a, c1]
         rw [hz2]
        ·by_cases c2 : (l.length : Int) ≤ x
         ·have hz2 : bI (wR w sym l.length r (a + 1)) = 1 := by rw [hz1, decide_eq_false (p := x < l.length) (by omega)]; simp [bI]
          repeat' (first|refine nav ?_|(refine g0_ ?_; refine goD ?_)|(with_reducible refine gG ?_ ?_)|((with_reducible refine And.intro (fun h => ?_) (fun h => ?_)) <;> try (exfalso; omega))|(with_reducible refine andG ?_)|refine appG ?_|fail|simp (disch := (first|exact discB|fail)) only [push_cast, ↓reduceIte, reduceIte, reduceCtorEq, Nat.reduceAdd, Nat.reduceLT, Nat.reduceEqDiff, Nat.reduceLeDiff, Int.reduceAdd, Int.reduceLT, Int.reduceLE, Nat.reduceMul, b1, b3, b4, b5, b6, hRl, hb', e1s, hIl, e3a, c1, c2])
          refine out_round (r.length - (a + 1)) (by omega) (by first|exact sideB|fail) ⟨a + 1, by omega, rfl, rfl, ?_⟩
          simp (disch := (first|exact discB|fail)) only [push_cast, ↓reduceIte, reduceIte, reduceCtorEq, Nat.reduceAdd, Nat.reduceLT, Nat.reduceEqDiff, Nat.reduceLeDiff, Int.reduceAdd, Int.reduceLT, Int.reduceLE, Nat.reduceMul, b1, b3, b4, b5, b6, hRl, hb', e1s, hIl, e3a, c1, c2]
          rw [hz2]
         ·have hz2 : wR w sym l.length r (a + 1) = wR w sym l.length r a := by rw [hz1, decide_eq_true (p := x < l.length) (by omega), decide_eq_true (p := 0 ≤ x) (by omega)]; simp
          repeat' (first|refine nav ?_|(refine g0_ ?_; refine goD ?_)|(with_reducible refine gG ?_ ?_)|((with_reducible refine And.intro (fun h => ?_) (fun h => ?_)) <;> try (exfalso; omega))|(with_reducible refine andG ?_)|refine appG ?_|fail|simp (disch := (first|exact discB|fail)) only [push_cast, ↓reduceIte, reduceIte, reduceCtorEq, Nat.reduceAdd, Nat.reduceLT, Nat.reduceEqDiff, Nat.reduceLeDiff, Int.reduceAdd, Int.reduceLT, Int.reduceLE, Nat.reduceMul, b1, b3, b4, b5, b6, hRl, hb', e1s, hIl, e3a, c1, c2])
          refine out_round (r.length - (a + 1)) (by omega) (by first|exact sideB|fail) ⟨a + 1, by omega, rfl, rfl, ?_⟩
          simp (disch := (first|exact discB|fail)) only [push_cast, ↓reduceIte, reduceIte, reduceCtorEq, Nat.reduceAdd, Nat.reduceLT, Nat.reduceEqDiff, Nat.reduceLeDiff, Int.reduceAdd, Int.reduceLT, Int.reduceLE, Nat.reduceMul, b1, b3, b4, b5, b6, hRl, hb', e1s, hIl, e3a, c1, c2]
          rw [hz2]
       ·obtain rfl : r.length = a := by omega
        rw [hsu] at b4
        repeat' (first|refine nav ?_|(refine g0_ ?_; refine goD ?_)|(with_reducible refine gG ?_ ?_)|((with_reducible refine And.intro (fun h => ?_) (fun h => ?_)) <;> try (exfalso; omega))|(with_reducible refine andG ?_)|refine appG ?_|fail|simp (disch := (first|exact discB|fail)) only [push_cast, ↓reduceIte, reduceIte, reduceCtorEq, Nat.reduceAdd, Nat.reduceLT, Nat.reduceEqDiff, Nat.reduceLeDiff, Int.reduceAdd, Int.reduceLT, Int.reduceLE, Nat.reduceMul, b1, b3, b4, b5, b6, hRl, hb', e1s, hIl])
        refine out_round (l.length - (s + 1)) (by omega) (by first|exact sideB|fail) ⟨s + 1, by omega, by omega, rfl, rfl, ?_⟩
        simp (disch := (first|exact discB|fail)) only [push_cast, ↓reduceIte, reduceIte, reduceCtorEq, Nat.reduceAdd, Nat.reduceLT, Nat.reduceEqDiff, Nat.reduceLeDiff, Int.reduceAdd, Int.reduceLT, Int.reduceLE, Nat.reduceMul, b1, b3, b4, b5, b6, hRl, hb', e1s, hIl]
     ·have hz0' : bI (wR w sym l.length r 0) = 1 := by rw [hz0, decide_eq_true hls, Bool.or_true]; rfl
      repeat' (first|refine nav ?_|(refine g0_ ?_; refine goD ?_)|(with_reducible refine gG ?_ ?_)|((with_reducible refine And.intro (fun h => ?_) (fun h => ?_)) <;> try (exfalso; omega))|(with_reducible refine andG ?_)|refine appG ?_|fail|simp (disch := (first|exact discB|fail)) only [push_cast, ↓reduceIte, reduceIte, reduceCtorEq, Nat.reduceAdd, Nat.reduceLT, Nat.reduceEqDiff, Nat.reduceLeDiff, Int.reduceAdd, Int.reduceLT, Int.reduceLE, Nat.reduceMul, b1, b3, b4, b5, hRl, hb', e1s, hIl, hls])
      refine go_loop rfl (fun mz s' H' => ∃ a : Nat, a ≤ r.length ∧ mz = r.length - a ∧ H' = [.row 3 47 [[.int .i64 sym, .sl 1 RN c, .sl za BA ca]]] ∧ s' 1 = .ptr 0 0 0 1 ∧ s' 3 = .int .i64 l.length ∧ s' 4 = .int .i64 (bI (wR w sym l.length r a)) ∧ s' 5 = .int .i64 s ∧ s' 6 = .int .i64 a) (m := r.length) (by first|exact sideB|fail) (Weak.refl _ _) ⟨0, by omega, by omega, rfl, ?_⟩ ?_
      ·simp (disch := (first|exact discB|fail)) only [push_cast, ↓reduceIte, reduceIte, reduceCtorEq, Nat.reduceAdd, Nat.reduceLT, Nat.reduceEqDiff, Nat.reduceLeDiff, Int.reduceAdd, Int.reduceLT, Int.reduceLE, Nat.reduceMul, b1, b3, b4, b5, hRl, hb', e1s, hIl, hls]
       rw [hz0']
      ·clear b1 b3 b4 b5
       rintro mz s' H' ⟨a, ha, rfl, rfl, b1, b3, b4, b5, b6⟩
       rcases Nat.lt_or_ge a r.length with hla|hga
       ·have e3a := e3 a hla
        have hz1 := hz1 a hla
        unfold toOk at hz1
        generalize r.getD a 0 = x at *
        by_cases c1 : x < 0
        ·have hz2 : bI (wR w sym l.length r (a + 1)) = 1 := by rw [hz1, decide_eq_false (by omega)]; simp [bI]
         repeat' (first|refine nav ?_|(refine g0_ ?_; refine goD ?_)|(with_reducible refine gG ?_ ?_)|((with_reducible refine And.intro (fun h => ?_) (fun h => ?_)) <;> try (exfalso; omega))|(with_reducible refine andG ?_)|refine appG ?_|fail|simp (disch := (first|exact discB|fail)) only [push_cast, ↓reduceIte, reduceIte, reduceCtorEq, Nat.reduceAdd, Nat.reduceLT, Nat.reduceEqDiff, Nat.reduceLeDiff, Int.reduceAdd, Int.reduceLT, Int.reduceLE, Nat.reduceMul, b1, b3, b4, b5, b6, hRl, hb', e1s, hIl, e3a, c1])
         refine out_round (r.length - (a + 1)) (by omega) (by first|exact sideB|fail) ⟨a + 1, by omega, rfl, rfl, ?_⟩
         simp (disch := (first|exact discB|fail)) only [push_cast, ↓reduceIte, reduceIte, reduceCtorEq, Nat.reduceAdd, Nat.reduceLT, Nat.reduceEqDiff, Nat.reduceLeDiff, Int.reduceAdd, Int.reduceLT, Int.reduceLE, Nat.reduceMul, b1, b3, b4, b5, b6, hRl, hb', e1s, hIl, e3a, c1]
         rw [hz2]
        ·by_cases c2 : (l.length : Int) ≤ x
         ·have hz2 : bI (wR w sym l.length r (a + 1)) = 1 := by rw [hz1, decide_eq_false (p := x < l.length) (by omega)]; simp [bI]
          repeat' (first|refine nav ?_|(refine g0_ ?_; refine goD ?_)|(with_reducible refine gG ?_ ?_)|((with_reducible refine And.intro (fun h => ?_) (fun h => ?_)) <;> try (exfalso; omega))|(with_reducible refine andG ?_)|refine appG ?_|fail|simp (disch := (first|exact discB|fail)) only [push_cast, ↓reduceIte, reduceIte, reduceCtorEq, Nat.reduceAdd, Nat.reduceLT, Nat.reduceEqDiff, Nat.reduceLeDiff, Int.reduceAdd, Int.reduceLT, Int.reduceLE, Nat.reduceMul, b1, b3, b4, b5, b6, hRl, hb', e1s, hIl, e3a, c1, c2])
          refine out_round (r.length - (a + 1)) (by omega) (by first|exact sideB|fail) ⟨a + 1, by omega, rfl, rfl, ?_⟩
          simp (disch := (first|exact discB|fail)) only [push_cast, ↓reduceIte, reduceIte, reduceCtorEq, Nat.reduceAdd, Nat.reduceLT, Nat.reduceEqDiff, Nat.reduceLeDiff, Int.reduceAdd, Int.reduceLT, Int.reduceLE, Nat.reduceMul, b1, b3, b4, b5, b6, hRl, hb', e1s, hIl, e3a, c1, c2]
          rw [hz2]
         ·have hz2 : wR w sym l.length r (a + 1) = wR w sym l.length r a := by rw [hz1, decide_eq_true (p := x < l.length) (by omega), decide_eq_true (p := 0 ≤ x) (by omega)]; simp
          repeat' (first|refine nav ?_|(refine g0_ ?_; refine goD ?_)|(with_reducible refine gG ?_ ?_)|((with_reducible refine And.intro (fun h => ?_) (fun h => ?_)) <;> try (exfalso; omega))|(with_reducible refine andG ?_)|refine appG ?_|fail|simp (disch := (first|exact discB|fail)) only [push_cast, ↓reduceIte, reduceIte, reduceCtorEq, Nat.reduceAdd, Nat.reduceLT, Nat.reduceEqDiff, Nat.reduceLeDiff, Int.reduceAdd, Int.reduceLT, Int.reduceLE, Nat.reduceMul, b1, b3, b4, b5, b6, hRl, hb', e1s, hIl, e3a, c1, c2])
          refine out_round (r.length - (a + 1)) (by omega) (by first|exact sideB|fail) ⟨a + 1, by omega, rfl, rfl, ?_⟩
          simp (disch := (first|exact discB|fail)) only [push_cast, ↓reduceIte, reduceIte, reduceCtorEq, Nat.reduceAdd, Nat.reduceLT, Nat.reduceEqDiff, Nat.reduceLeDiff, Int.reduceAdd, Int.reduceLT, Int.reduceLE, Nat.reduceMul, b1, b3, b4, b5, b6, hRl, hb', e1s, hIl, e3a, c1, c2]
          rw [hz2]
       ·obtain rfl : r.length = a := by omega
        rw [hsu] at b4
        repeat' (first|refine nav ?_|(refine g0_ ?_; refine goD ?_)|(with_reducible refine gG ?_ ?_)|((with_reducible refine And.intro (fun h => ?_) (fun h => ?_)) <;> try (exfalso; omega))|(with_reducible refine andG ?_)|refine appG ?_|fail|simp (disch := (first|exact discB|fail)) only [push_cast, ↓reduceIte, reduceIte, reduceCtorEq, Nat.reduceAdd, Nat.reduceLT, Nat.reduceEqDiff, Nat.reduceLeDiff, Int.reduceAdd, Int.reduceLT, Int.reduceLE, Nat.reduceMul, b1, b3, b4, b5, b6, hRl, hb', e1s, hIl])
        refine out_round (l.length - (s + 1)) (by omega) (by first|exact sideB|fail) ⟨s + 1, by omega, by omega, rfl, rfl, ?_⟩
        simp (disch := (first|exact discB|fail)) only [push_cast, ↓reduceIte, reduceIte, reduceCtorEq, Nat.reduceAdd, Nat.reduceLT, Nat.reduceEqDiff, Nat.reduceLeDiff, Int.reduceAdd, Int.reduceLT, Int.reduceLE, Nat.reduceMul, b1, b3, b4, b5, b6, hRl, hb', e1s, hIl]
   ·obtain rfl : l.length = s := by omega
    by_cases hb : 256 < l.length
    ·have := hs0 hb; omega
    ·have hR := hW hb
     generalize bI (wB sym l ac.length l.length) = w at *
     repeat' (first|refine nav ?_|(refine g0_ ?_; refine goD ?_)|(with_reducible refine gG ?_ ?_)|((with_reducible refine And.intro (fun h => ?_) (fun h => ?_)) <;> try (exfalso; omega))|(with_reducible refine andG ?_)|refine appG ?_|(first|(refine ⟨_, _, pc_lift (hE w) (by (simp [idsL, idsE, AV.ids, Nat.add_zero])) _, ?_⟩)|(refine ⟨_, pc_lift (hE w) (by (simp [idsL, idsE, AV.ids, Nat.add_zero])) _, ?_⟩)|(refine ⟨_, fun _ => pc_lift (hE w) (by (simp [idsL, idsE, AV.ids, Nat.add_zero])) _, ?_⟩))|simp (disch := (first|exact discB|fail)) only [push_cast, ↓reduceIte, reduceIte, reduceCtorEq, Nat.reduceAdd, Nat.reduceLT, Nat.reduceEqDiff, Nat.reduceLeDiff, Int.reduceAdd, Int.reduceLT, Int.reduceLE, Nat.reduceMul, b1, b3, b4, b5, hRl])
     rw [hR]
 by_cases h1 : sym < 1
 ·have hw : bI (wA sym l ac.length) = 1 := by simp [wA, bI, h1]
  rw [hw] at hgo
  refine pc_go 0 78 [.tmp 2] Tryz.func19 rfl rfl rfl (by simp) ?_
  intro s ⟨a0, hz⟩
  clear hz
  repeat' (first|refine nav ?_|(refine g0_ ?_; refine goD ?_)|(with_reducible refine gG ?_ ?_)|((with_reducible refine And.intro (fun h => ?_) (fun h => ?_)) <;> try (exfalso; omega))|(with_reducible refine andG ?_)|refine appG ?_|fail|simp (disch := (first|exact discB|fail)) only [push_cast, ↓reduceIte, reduceIte, reduceCtorEq, Nat.reduceAdd, Nat.reduceLT, Nat.reduceEqDiff, Nat.reduceLeDiff, Int.reduceAdd, Int.reduceLT, Int.reduceLE, Nat.reduceMul, a0, hRl, hAl, h1])
  refine hgo _ ?_ ?_ ?_ ?_
  all_goals simp (disch := (first|exact discB|fail)) only [push_cast, ↓reduceIte, reduceIte, reduceCtorEq, Nat.reduceAdd, Nat.reduceLT, Nat.reduceEqDiff, Nat.reduceLeDiff, Int.reduceAdd, Int.reduceLT, Int.reduceLE, Nat.reduceMul, a0, hRl, hAl, h1]
 ·by_cases h2 : l.length = 0
  ·have hw : bI (wA sym l ac.length) = 1 := by simp [wA, bI, h2]
   rw [hw] at hgo
   have h2' : (l.length : Int) = 0 := by omega
   refine pc_go 0 78 [.tmp 2] Tryz.func19 rfl rfl rfl (by simp) ?_
   intro s ⟨a0, hz⟩
   clear hz
   repeat' (first|refine nav ?_|(refine g0_ ?_; refine goD ?_)|(with_reducible refine gG ?_ ?_)|((with_reducible refine And.intro (fun h => ?_) (fun h => ?_)) <;> try (exfalso; omega))|(with_reducible refine andG ?_)|refine appG ?_|fail|simp (disch := (first|exact discB|fail)) only [push_cast, ↓reduceIte, reduceIte, reduceCtorEq, Nat.reduceAdd, Nat.reduceLT, Nat.reduceEqDiff, Nat.reduceLeDiff, Int.reduceAdd, Int.reduceLT, Int.reduceLE, Nat.reduceMul, a0, hRl, hAl, h1, h2'])
   refine hgo _ ?_ ?_ ?_ ?_
   all_goals simp (disch := (first|exact discB|fail)) only [push_cast, ↓reduceIte, reduceIte, reduceCtorEq, Nat.reduceAdd, Nat.reduceLT, Nat.reduceEqDiff, Nat.reduceLeDiff, Int.reduceAdd, Int.reduceLT, Int.reduceLE, Nat.reduceMul, a0, hRl, hAl, h1, h2']
  ·have h2' : ¬ (l.length : Int) = 0 := by omega
   by_cases h3 : (ac.length : Int) = l.length
   ·have hw : bI (wA sym l ac.length) = 0 := by simp [wA, bI, h1, h2, h3]
    rw [hw] at hgo
    refine pc_go 0 78 [.tmp 2] Tryz.func19 rfl rfl rfl (by simp) ?_
    intro s ⟨a0, hz⟩
    clear hz
    repeat' (first|refine nav ?_|(refine g0_ ?_; refine goD ?_)|(with_reducible refine gG ?_ ?_)|((with_reducible refine And.intro (fun h => ?_) (fun h => ?_)) <;> try (exfalso; omega))|(with_reducible refine andG ?_)|refine appG ?_|fail|simp (disch := (first|exact discB|fail)) only [push_cast, ↓reduceIte, reduceIte, reduceCtorEq, Nat.reduceAdd, Nat.reduceLT, Nat.reduceEqDiff, Nat.reduceLeDiff, Int.reduceAdd, Int.reduceLT, Int.reduceLE, Nat.reduceMul, a0, hRl, hAl, h1, h2', h3])
    refine hgo _ ?_ ?_ ?_ ?_
    all_goals simp (disch := (first|exact discB|fail)) only [push_cast, ↓reduceIte, reduceIte, reduceCtorEq, Nat.reduceAdd, Nat.reduceLT, Nat.reduceEqDiff, Nat.reduceLeDiff, Int.reduceAdd, Int.reduceLT, Int.reduceLE, Nat.reduceMul, a0, hRl, hAl, h1, h2', h3]
   ·have hw : bI (wA sym l ac.length) = 1 := by simp [wA, bI, h3]
    rw [hw] at hgo
    refine pc_go 0 78 [.tmp 2] Tryz.func19 rfl rfl rfl (by simp) ?_
    intro s ⟨a0, hz⟩
    clear hz
    repeat' (first|refine nav ?_|(refine g0_ ?_; refine goD ?_)|(with_reducible refine gG ?_ ?_)|((with_reducible refine And.intro (fun h => ?_) (fun h => ?_)) <;> try (exfalso; omega))|(with_reducible refine andG ?_)|refine appG ?_|fail|simp (disch := (first|exact discB|fail)) only [push_cast, ↓reduceIte, reduceIte, reduceCtorEq, Nat.reduceAdd, Nat.reduceLT, Nat.reduceEqDiff, Nat.reduceLeDiff, Int.reduceAdd, Int.reduceLT, Int.reduceLE, Nat.reduceMul, a0, hRl, hAl, h1, h2', h3])
    refine hgo _ ?_ ?_ ?_ ?_
    all_goals simp (disch := (first|exact discB|fail)) only [push_cast, ↓reduceIte, reduceIte, reduceCtorEq, Nat.reduceAdd, Nat.reduceLT, Nat.reduceEqDiff, Nat.reduceLeDiff, Int.reduceAdd, Int.reduceLT, Int.reduceLE, Nat.reduceMul, a0, hRl, hAl, h1, h2', h3]
end Go.Proofs
