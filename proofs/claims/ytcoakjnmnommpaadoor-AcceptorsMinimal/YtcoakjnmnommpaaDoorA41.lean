import Derived.Test.YtcoakjnmnommpaaDoorA39
import Derived.Test.YtcoakjnmnommpaaDoorA21
namespace Go.Proofs
open Go Go.V Go.RowKit
set_option linter.unusedVariables false
set_option linter.unusedSimpArgs false
set_option maxHeartbeats 0
def wan9 (l : List LC) (ac : List Bool) (s : Nat) : List (List Int × Bool) := (List.range s).map fun s => ((l.getD s ([], none)).1, ac.getD s false)
def txK (A : Int) (l : List LC) (ac : List Bool) : Nat → List UInt8
 | 0 => lnE [] zC0 [A, (l.length : Int)]
 | s + 1 => lnE (txK A l ac s) (kP0 (ac.getD s false)) (l.getD s ([], none)).1
theorem qcy9 (l : List LC) (ac : List Bool) (s : Nat) : (wan9 l ac s).length = s := by simp [wan9]
theorem kds9 (A : Int) (l : List LC) (ac : List Bool) : txK A l ac l.length = zV0 A (wan9 l ac l.length) := by
 have key : ∀ s, txK A l ac s = (qH0 zC0 [A, (l.length : Int)] :: wt0 (wan9 l ac s)).flatMap fun x => x ++ [10] := fun s => by
  induction s with
  | zero => simp [txK, lnE, wt0, wan9]
  | succ s ih =>
   have e : wt0 (wan9 l ac (s + 1)) = wt0 (wan9 l ac s) ++ [qH0 (kP0 (ac.getD s false)) (l.getD s ([], none)).1] := by simp [wt0, wan9, List.range_succ]
   rw [txK, ih, lnE, e, ← List.cons_append, List.flatMap_append, List.flatMap_singleton]
 rw [key, zV0, qcy9]
theorem zcy9 {A : Nat} {l : List LC} {ac : List Bool} (hok : OkDv A (wf0 l) ac.length) : ∀ s, s ≤ l.length → (txK A l ac s).length ≤ 100 + s * 400
 | 0, _ => by
  have h2 := hok.a2
  have h3 := hok.n
  rw [qd0] at h3
  have := kcx9 [] zC0 [(A : Int), (l.length : Int)] (fun x hx => by simp at hx; omega)
  rw [txK]
  simp only [List.length_nil, List.length_cons, zC0] at this ⊢
  omega
 | s + 1, h => by
  have ih := zcy9 hok s (by omega)
  have h2 := hok.a2
  have h3 := hok.n
  rw [qd0] at h3
  have hr := hok.row (l := l) (s := s) (by omega)
  have := kcx9 (txK A l ac s) (kP0 (ac.getD s false)) (l.getD s ([], none)).1 (fun x hx => by
   obtain ⟨a, ha, rfl⟩ := List.getElem_of_mem hx
   have := hok.at (l := l) (s := s) (a := a) (by omega) (by omega)
   rw [List.getD_eq_getElem?_getD (l := (l.getD s ([], none)).1), List.getElem?_eq_getElem ha, Option.getD_some] at this
   omega)
  have hsg : (kP0 (ac.getD s false)).length = 1 := by cases ac.getD s false <;> rfl
  rw [txK, Nat.succ_mul]
  omega
def qcV9 (sym : Int) (l : List LC) (ac : List Bool) : AV := if qi0 sym (wf0 l) ac.length ≠ 0 then .tup [.str [], .int .i64 (qi0 sym (wf0 l) ac.length)] else .tup [.str (zV0 sym (wan9 l ac l.length)), .int .i64 0]
theorem kbI9 (p : Nat → Bool) (s : List UInt8) : idsE p (byt s) = true := vr0 _ _ fun x => by simp [idsL, AV.ids]
def mpT : List (AV × AV) := updA (updA [] (.bool true) (.str [43])) (.bool false) (.str [45])
theorem mpT1 : zW0 Tryd.prog 4 [] (.bool true) = true := by kernel_rfl
theorem mpT2 : zW0 Tryd.prog 4 (updA [] (.bool true) (.str [43])) (.bool false) = true := by kernel_rfl
theorem mpT3 (b : Bool) : zW0 Tryd.prog 4 (updA (updA [] (.bool true) (.str [43])) (.bool false) (.str [45])) (.bool b) = true := by cases b <;> kernel_rfl
theorem mpT4 (z : AV) (b : Bool) : zJ0 z (updA (updA [] (.bool true) (.str [43])) (.bool false) (.str [45])) (.bool b) = .str (kP0 b) := by cases b <;> rfl
set_option maxRecDepth 100000 in
theorem wdH9 (sym : Int) (zr : Nat) (l : List LC) (c : Option Nat) (za : Nat) (ac : List Bool) (ca : Option Nat) (hsz : SizeD zr l za ac) : PC Tryd.prog G0 14 [dA sym zr l c za ac ca] (qcV9 sym l ac) := by
 have hck := hsz.check (sym := sym) (c := c) (ca := ca)
 have hidR : ∀ p, idsE p (rowL l) = true := fun p => qc0 _ _
 have hidA : ∀ p, idsE p (vb0 ac) = true := fun p => zd0 _ _
 unfold qcV9
 by_cases h0 : qi0 sym (wf0 l) ac.length = 0
 ·rw [if_neg (by simp [h0])]
  rw [h0] at hck
  obtain ⟨A, rfl, hok⟩ := wbh9 h0
  have hlen := zcy9 hok
  have hrow := fun s h => hok.row (l := l) (s := s) h
  have hat := fun s a h1 h2 => hok.at (l := l) (s := s) (a := a) h1 h2
  have hall := kds9 A l ac
  have hn := hok.n
  have hn1 := hok.n1
  have hm := hok.m
  have hA := hok.a2
  rw [qd0] at hn hn1 hm
  obtain rfl := hsz.zl.resolve_left (by intro h; rw [h] at hn1; simp at hn1)
  obtain rfl := hsz.zac.resolve_left (by intro h; rw [h] at hm; simp at hm; omega)
  have hRl := wb0 l
  have hAl := xc0 ac
  have e1 := xg0 l
  have e2 := vm0 ac
  have hB : ∃ B0, B0 = Blk.row 3 36 [[.int .i64 (A : Int), .sl 1 (rowL l) c, .sl 1 (vb0 ac) ca]] := ⟨_, rfl⟩
  obtain ⟨B0, hB0⟩ := hB
  have hW0 := zda9 zC0 [] 1 [(A : Int), (l.length : Int)] (some 2) B0 (bldB (.lit (.pointer none)) 0) [] (.inr rfl) (fun x hx => by simp at hx; omega) (by simp) (by simp [zC0]) (.inr ⟨rfl, rfl⟩)
  unfold bldB zC0 at hW0
  rw [hB0] at hW0
  unfold dA at *
  generalize rowL l = RN at *
  generalize vb0 ac = BA at *
  refine wd0 0 44 [.tmp 2, .tmp 3] Tryd.func14 rfl rfl rfl (by simp) ?_
  intro s ⟨a0, hz⟩
  clear hz
  repeat' (first|(first|(with_reducible refine wT0 (p := [0, 1, 1, 1]) ?_)|refine nav ?_|(refine g0_ ?_; first|refine goD ?_))|(with_reducible refine gG ?_ ?_)|((with_reducible refine And.intro (fun h => ?_) (fun h => ?_)) <;> try (exfalso; omega))|(with_reducible refine andG ?_)|(refine And.intro ⟨[_], rfl⟩ ?_)|(refine And.intro ⟨[], by simp only [List.append_nil]⟩ ?_)|(first|(refine ⟨_, _, pc_lift (hck) (by (simp [idsL, idsE, AV.ids, hidR, hidA])) _, ?_⟩)|(refine ⟨_, pc_lift (hck) (by (simp [idsL, idsE, AV.ids, hidR, hidA])) _, ?_⟩)|(refine ⟨_, fun _ => pc_lift (hck) (by (simp [idsL, idsE, AV.ids, hidR, hidA])) _, ?_⟩))|simp (disch := (first|exact discB|fail)) only [push_cast, ↓reduceIte, reduceCtorEq, Nat.reduceAdd, Nat.reduceLT, Nat.reduceEqDiff, Nat.reduceLeDiff, Int.reduceAdd, Int.reduceLT, Int.reduceLE, Nat.reduceMul, a0, hRl, en41])
  refine Halt.mk (vq0 (by first|exact wa0|fail) (ve0 (b := 1) (i := 0) (j := 1) (sz := 1) (ty := 5) rfl rfl rfl) ?_)
  repeat' (first|refine nav ?_|(refine g0_ ?_; refine goD ?_)|(with_reducible refine gG ?_ ?_)|((with_reducible refine And.intro (fun h => ?_) (fun h => ?_)) <;> try (exfalso; omega))|(with_reducible refine andG ?_)|(refine And.intro ⟨[_], rfl⟩ ?_)|(refine And.intro ⟨[], by simp only [List.append_nil]⟩ ?_)|(first|(refine ⟨_, _, hW0, ?_⟩)|(refine ⟨_, hW0, ?_⟩)|(refine ⟨_, fun _ => hW0, ?_⟩))|simp (disch := (first|exact discB|fail)) only [push_cast, ↓reduceIte, reduceCtorEq, Nat.reduceAdd, Nat.reduceLT, Nat.reduceEqDiff, Nat.reduceLeDiff, Int.reduceAdd, Int.reduceLT, Int.reduceLE, Nat.reduceMul, a0, hRl, en41])
  refine go_loop rfl (fun mz s' H' => ∃ s : Nat, s ≤ l.length ∧ mz = l.length - s ∧ H' = [Blk.row 3 36 [[.int .i64 A, .sl 1 RN c, .sl 1 BA ca]], .row 2 83 [[.ptr 1 0 0 1, .own 2 (txK A l ac s).length (txK A l ac s).length none]], .row 1 5 (byt (txK A l ac s))] ∧ s' 1 = .ptr 0 0 0 1 ∧ s' 5 = .ptr 1 0 0 1 ∧ s' 6 = .fn 41 [.ptr 1 0 0 1] ∧ s' 24 = .sl 1 RN c ∧ s' 25 = .int .i64 l.length ∧ s' 26 = .int .i64 s) (m := l.length) (by first|exact wa0|fail) (Weak.refl _ _) ⟨0, by omega, by omega, rfl, ?_⟩ ?_
  ·simp (disch := (first|exact discB|fail)) only [push_cast, ↓reduceIte, reduceCtorEq, Nat.reduceAdd, Nat.reduceLT, Nat.reduceEqDiff, Nat.reduceLeDiff, Int.reduceAdd, Int.reduceLT, Int.reduceLE, Nat.reduceMul, a0, hRl, en41]
  ·rintro mz s' H' ⟨s, hs, rfl, rfl, b1, b5, b6, b24, b25, b26⟩
   have hlen := hlen s hs
   rcases Nat.lt_or_ge s l.length with hlt|hge
   ·have e1s := e1 s hlt
    have e2s := e2 s (by omega)
    have hrow := hrow s hlt
    have hW := fun K => zda9 (kP0 (ac.getD s false)) (txK A l ac s) 1 (l.getD s ([], none)).1 (l.getD s ([], none)).2 B0 (bldB (.ptr 1 0 0 1) (txK A l ac s).length) K (.inr rfl) (fun x hx => by
     obtain ⟨a, ha, rfl⟩ := List.getElem_of_mem hx
     have := hat s a hlt (by omega)
     rw [List.getD_eq_getElem?_getD (l := (l.getD s ([], none)).1), List.getElem?_eq_getElem ha, Option.getD_some] at this
     omega) (by omega) (by have hsg : (kP0 (ac.getD s false)).length = 1 := (by cases ac.getD s false <;> rfl); omega) (.inl rfl)
    have hnx : txK A l ac (s + 1) = lnE (txK A l ac s) (kP0 (ac.getD s false)) (l.getD s ([], none)).1 := rfl
    rw [← hnx] at hW
    unfold bldB at hW
    rw [hB0] at hW
    unfold lC at e1s
    generalize txK A l ac s = t at *
    generalize ht2 : txK A l ac (s + 1) = t' at *
    generalize ints (l.getD s ([], none)).1 = IR at *
    generalize (l.getD s ([], none)).2 = cr at *
    cases hb : ac.getD s false with
    | true =>
     rw [hb] at hW e2s
     repeat' (first|refine nav ?_|(refine g0_ ?_; refine goD ?_)|(with_reducible refine gG ?_ ?_)|((with_reducible refine And.intro (fun h => ?_) (fun h => ?_)) <;> try (exfalso; omega))|(with_reducible refine andG ?_)|(refine And.intro ⟨[_], rfl⟩ ?_)|(refine And.intro ⟨[], by simp only [List.append_nil]⟩ ?_)|(first|(refine ⟨_, _, hW _, ?_⟩)|(refine ⟨_, hW _, ?_⟩)|(refine ⟨_, fun _ => hW _, ?_⟩))|simp (disch := (first|exact discB|fail)) only [push_cast, ↓reduceIte, reduceCtorEq, Nat.reduceAdd, Nat.reduceLT, Nat.reduceEqDiff, Nat.reduceLeDiff, Int.reduceAdd, Int.reduceLT, Int.reduceLE, Nat.reduceMul, b1, b5, b6, b24, b25, b26, e1s, e2s, hRl, hAl, en41, mpT1, mpT2, mpT3, mpT4])
     refine qs0 (l.length - (s + 1)) 3 (by omega) (by first|exact wa0|fail) (by omega) (by simp) (by simp [Blk.below, idsE, idsL, AV.ids, hidR, hidA, kbI9]) ⟨s + 1, by omega, rfl, by rw [ht2]; rfl, ?_⟩
     simp (disch := (first|exact discB|fail)) only [push_cast, ↓reduceIte, reduceCtorEq, Nat.reduceAdd, Nat.reduceLT, Nat.reduceEqDiff, Nat.reduceLeDiff, Int.reduceAdd, Int.reduceLT, Int.reduceLE, Nat.reduceMul, b1, b5, b6, b24, b25, b26, scrub, AV.ids, idsL]
     rw [if_pos (hidR _)]
    | false =>
     rw [hb] at hW e2s
     repeat' (first|refine nav ?_|(refine g0_ ?_; refine goD ?_)|(with_reducible refine gG ?_ ?_)|((with_reducible refine And.intro (fun h => ?_) (fun h => ?_)) <;> try (exfalso; omega))|(with_reducible refine andG ?_)|(refine And.intro ⟨[_], rfl⟩ ?_)|(refine And.intro ⟨[], by simp only [List.append_nil]⟩ ?_)|(first|(refine ⟨_, _, hW _, ?_⟩)|(refine ⟨_, hW _, ?_⟩)|(refine ⟨_, fun _ => hW _, ?_⟩))|simp (disch := (first|exact discB|fail)) only [push_cast, ↓reduceIte, reduceCtorEq, Nat.reduceAdd, Nat.reduceLT, Nat.reduceEqDiff, Nat.reduceLeDiff, Int.reduceAdd, Int.reduceLT, Int.reduceLE, Nat.reduceMul, b1, b5, b6, b24, b25, b26, e1s, e2s, hRl, hAl, en41, mpT1, mpT2, mpT3, mpT4])
     refine qs0 (l.length - (s + 1)) 3 (by omega) (by first|exact wa0|fail) (by omega) (by simp) (by simp [Blk.below, idsE, idsL, AV.ids, hidR, hidA, kbI9]) ⟨s + 1, by omega, rfl, by rw [ht2]; rfl, ?_⟩
     simp (disch := (first|exact discB|fail)) only [push_cast, ↓reduceIte, reduceCtorEq, Nat.reduceAdd, Nat.reduceLT, Nat.reduceEqDiff, Nat.reduceLeDiff, Int.reduceAdd, Int.reduceLT, Int.reduceLE, Nat.reduceMul, b1, b5, b6, b24, b25, b26, scrub, AV.ids, idsL]
     rw [if_pos (hidR _)]
   ·obtain rfl : l.length = s := by omega
    rw [hall] at *
    have hS := kcU9 (zV0 A (wan9 l ac l.length)) B0 (by rw [zV0, List.flatMap_cons]; simp) (by omega)
    unfold bldB at hS
    rw [hB0] at hS
    repeat' (first|refine nav ?_|(refine g0_ ?_; refine goD ?_)|(with_reducible refine gG ?_ ?_)|((with_reducible refine And.intro (fun h => ?_) (fun h => ?_)) <;> try (exfalso; omega))|(with_reducible refine andG ?_)|(refine And.intro ⟨[_], rfl⟩ ?_)|(refine And.intro ⟨[], by simp only [List.append_nil]⟩ ?_)|(first|(refine ⟨_, _, hS, ?_⟩)|(refine ⟨_, hS, ?_⟩)|(refine ⟨_, fun _ => hS, ?_⟩))|simp (disch := (first|exact discB|fail)) only [push_cast, ↓reduceIte, reduceCtorEq, Nat.reduceAdd, Nat.reduceLT, Nat.reduceEqDiff, Nat.reduceLeDiff, Int.reduceAdd, Int.reduceLT, Int.reduceLE, Nat.reduceMul, b1, b5, b6, b24, b25, b26, hRl])
 ·rw [if_pos h0]
  unfold dA at *
  generalize rowL l = RN at *
  generalize vb0 ac = BA at *
  refine wd0 0 44 [.tmp 2, .tmp 3] Tryd.func14 rfl rfl rfl (by simp) ?_
  intro s ⟨a0, hz⟩
  clear hz
  repeat' (first|refine nav ?_|(refine g0_ ?_; refine goD ?_)|(with_reducible refine gG ?_ ?_)|((with_reducible refine And.intro (fun h => ?_) (fun h => ?_)) <;> try (exfalso; omega))|(with_reducible refine andG ?_)|(refine And.intro ⟨[_], rfl⟩ ?_)|(refine And.intro ⟨[], by simp only [List.append_nil]⟩ ?_)|(first|(refine ⟨_, _, pc_lift (hck) (by (simp [idsL, idsE, AV.ids, hidR, hidA])) _, ?_⟩)|(refine ⟨_, pc_lift (hck) (by (simp [idsL, idsE, AV.ids, hidR, hidA])) _, ?_⟩)|(refine ⟨_, fun _ => pc_lift (hck) (by (simp [idsL, idsE, AV.ids, hidR, hidA])) _, ?_⟩))|simp (disch := (first|exact discB|fail)) only [push_cast, ↓reduceIte, reduceCtorEq, Nat.reduceAdd, Nat.reduceLT, Nat.reduceEqDiff, Nat.reduceLeDiff, Int.reduceAdd, Int.reduceLT, Int.reduceLE, Nat.reduceMul, a0])
end Go.Proofs
namespace Go.Proofs
open Go Go.V Go.RowKit
set_option linter.unusedVariables false
set_option linter.unusedSimpArgs false
set_option maxHeartbeats 0
end Go.Proofs
