import Derived.Test.YtcoakjnmnommpaaDoorA19
import Derived.Test.YtcoakjnmnommpaaDoorA12
namespace Go.Proofs
open Go Go.V
set_option linter.unusedVariables false
set_option linter.unusedSimpArgs false
set_option maxHeartbeats 0
def wz0 (r : List Int) (k : Nat) : List LC := (r.take k).map fun n => ([n], some 1)
def ofRC (l : List LC) (k : Nat) : List RC := (l.take k).map fun r => (wz0 r.1 r.1.length, some r.1.length)
def accK (ac : List Bool) (k : Nat) : List Nat := (List.range k).filter fun s => ac.getD s false
theorem zbW9 (r : List Int) (k : Nat) (h : k < r.length) : wz0 r (k + 1) = wz0 r k ++ [([r.getD k 0], some 1)] := km0 _ _ 0 k h
theorem qct9 (l : List LC) (k : Nat) (h : k < l.length) : ofRC l (k + 1) = ofRC l k ++ [(wz0 (l.getD k ([], none)).1 (l.getD k ([], none)).1.length, some (l.getD k ([], none)).1.length)] := km0 _ _ ([], none) k h
theorem xad9 (r : List Int) (k : Nat) (h : k ≤ r.length) : (wz0 r k).length = k := by simp [wz0]; omega
theorem kaV9 (l : List LC) (k : Nat) (h : k ≤ l.length) : (ofRC l k).length = k := by simp [ofRC]; omega
theorem zct9 (ac : List Bool) (k : Nat) : accK ac (k + 1) = if ac.getD k false = true then accK ac k ++ [k] else accK ac k := by
 rw [accK, List.range_succ, List.filter_append, ← accK]
 by_cases h : ac.getD k false = true
 ·rw [if_pos h]; congr 1; simp only [List.filter_cons, h, if_pos, List.filter_nil]
 ·rw [if_neg h]
  have h2 : ac.getD k false = false := by simpa using h
  simp only [List.filter_cons, h2, List.filter_nil]
  simp
theorem kbG9 (ac : List Bool) (k : Nat) : (accK ac k).length ≤ k := by
 have := List.length_filter_le (fun s : Nat => ac.getD s false) (List.range k)
 rwa [List.length_range] at this
def nA0 : AV := .agg [.int .i64 0, .sl 0 [] (some 0), .sl 0 [] (some 0), .sl 0 [] (some 0)]
def dA0 : AV := .agg [.int .i64 0, .sl 0 [] (some 0), .sl 0 [] (some 0)]
def ofDV (sym : Int) (l : List LC) (ac : List Bool) : AV :=
 if qi0 sym (wf0 l) ac.length ≠ 0 then .tup [nA0, .int .i64 (qi0 sym (wf0 l) ac.length)]
 else .tup [nA sym 1 (ofRC l l.length) (some l.length) 1 [0] (some 1) 1 (intN (accK ac l.length)) (some (accK ac l.length).length), .int .i64 0]
theorem ints_one (n : Int) : ints [n] = [[.int .i64 n]] := rfl
set_option maxRecDepth 100000 in
theorem wdp9 (sym : Int) (zr : Nat) (l : List LC) (c : Option Nat) (za : Nat) (ac : List Bool) (ca : Option Nat) (hsz : SizeD zr l za ac) : PC Tryd.prog G0 18 [dA sym zr l c za ac ca] (ofDV sym l ac) := by
 have hck := hsz.check (sym := sym) (c := c) (ca := ca)
 have hidR : ∀ p, idsE p (rowL l) = true := fun p => qc0 _ _
 have hidA : ∀ p, idsE p (vb0 ac) = true := fun p => zd0 _ _
 unfold ofDV
 by_cases h0 : qi0 sym (wf0 l) ac.length = 0
 ·rw [if_neg (by simp [h0])]
  rw [h0] at hck
  obtain ⟨A, rfl, hok⟩ := wbh9 h0
  have hn := hok.n
  have hn1 := hok.n1
  have hm := hok.m
  have hA := hok.a2
  rw [qd0] at hn hn1 hm
  obtain rfl := hsz.zl.resolve_left (by intro h; rw [h] at hn1; simp at hn1)
  obtain rfl := hsz.zac.resolve_left (by intro h; rw [h] at hm; simp at hm; omega)
  have hRl := wb0 l
  have hAl := xc0 ac
  have e1 := xg0 l
  have e2 := vm0 ac
  unfold dA at *
  generalize rowL l = RN at *
  generalize vb0 ac = BA at *
  refine wd0 1 69 [.cell 2 28, .tmp 3] Tryd.func18 rfl rfl rfl (by simp) ?_
  intro s ⟨a0, hz⟩
  clear hz
  repeat' (first|refine nav ?_|(refine g0_ ?_; refine goD ?_)|(with_reducible refine gG ?_ ?_)|((with_reducible refine And.intro (fun h => ?_) (fun h => ?_)) <;> try (exfalso; omega))|(with_reducible refine andG ?_)|(refine And.intro ⟨[_], rfl⟩ ?_)|(refine And.intro ⟨[], by simp only [List.append_nil]⟩ ?_)|(first|(refine ⟨_, _, pc_lift (hck) (by (simp [idsL, idsE, AV.ids, hidR, hidA])) _, ?_⟩)|(refine ⟨_, pc_lift (hck) (by (simp [idsL, idsE, AV.ids, hidR, hidA])) _, ?_⟩)|(refine ⟨_, fun _ => pc_lift (hck) (by (simp [idsL, idsE, AV.ids, hidR, hidA])) _, ?_⟩))|simp (disch := (first|exact discB|fail)) only [push_cast, ↓reduceIte, reduceCtorEq, Nat.reduceAdd, Nat.reduceLT, Nat.reduceEqDiff, Nat.reduceLeDiff, Int.reduceAdd, Int.reduceLT, Int.reduceLE, Nat.reduceMul, a0, hRl])
  refine vq0 (by first|exact wa0|fail) (ve0 (b := 2) (i := 0) (j := 1) (sz := 1) (ty := 32) rfl rfl rfl) ?_
  refine go_loop rfl (fun mz s' H' => ∃ k : Nat, k ≤ l.length ∧ mz = l.length - k ∧ H' = [.row 3 36 [[.int .i64 A, .sl 1 RN c, .sl 1 BA ca]], .row 4 28 [[.int .i64 0, .sl 0 [] (some 0), .sl 0 [] (some 0), .sl 0 [] (some 0)]], .row 4 28 [[.int .i64 A, .own 3 k k none, .sl 1 [[.int .i64 0]] (some 1), .own 4 (accK ac k).length (accK ac k).length none]], .row 1 32 (kc0 (ofRC l k)), .row 1 3 (ints (intN (accK ac k)))] ∧ s' 1 = .ptr 0 0 0 1 ∧ s' 2 = .ptr 1 0 0 1 ∧ s' 5 = .ptr 2 0 0 1 ∧ s' 22 = .sl 1 RN c ∧ s' 23 = .int .i64 l.length ∧ s' 24 = .int .i64 k) (m := l.length) (by trivial) (ve0 (b := 2) (i := 0) (j := 3) (sz := 1) (ty := 3) rfl rfl rfl) ⟨0, by omega, by omega, by simp [ofRC, accK, qbj9, intN, ints_nil], ?_⟩ ?_
  ·simp (disch := (first|exact discB|fail)) only [push_cast, ↓reduceIte, reduceCtorEq, Nat.reduceAdd, Nat.reduceLT, Nat.reduceEqDiff, Nat.reduceLeDiff, Int.reduceAdd, Int.reduceLT, Int.reduceLE, Nat.reduceMul, a0, hRl]
  ·rintro mz s' H' ⟨k, hk, rfl, rfl, b1, b2, b5, b22, b23, b24⟩
   have hal := kbG9 ac k
   have hml : (kc0 (ofRC l k)).length = k := by rw [wh0, kaV9 l k hk]
   have hml2 : (ints (intN (accK ac k))).length = (accK ac k).length := by rw [za0, intN_len]
   have et : (kc0 (ofRC l k)).take k = kc0 (ofRC l k) := List.take_of_length_le (by omega)
   have ed : (kc0 (ofRC l k)).drop (k + 1) = [] := List.drop_eq_nil_of_le (by omega)
   have et2 : (ints (intN (accK ac k))).take (accK ac k).length = ints (intN (accK ac k)) := List.take_of_length_le (by omega)
   have ed2 : (ints (intN (accK ac k))).drop ((accK ac k).length + 1) = [] := List.drop_eq_nil_of_le (by omega)
   have hidO : ∀ p, idsE p (kc0 (ofRC l k)) = true := fun p => ke0 _ _
   have hidC : ∀ p, idsE p (ints (intN (accK ac k))) = true := fun p => qb0 _ _
   rcases Nat.lt_or_ge k l.length with hlt|hge
   ·have e1k := e1 k hlt
    have e2k := e2 k (by omega)
    have hrow := hok.row hlt
    have hsu := qct9 l k hlt
    have hsa := zct9 ac k
    generalize l.getD k ([], none) = r at *
    have hrl := za0 r.1
    have hsn := qaL9 (ofRC l k) (wz0 r.1 r.1.length, some r.1.length)
    rw [← hsu] at hsn
    have e3 := wc0 r.1
    unfold lC at e1k
    repeat' (first|refine nav ?_|(refine g0_ ?_; refine goD ?_)|(with_reducible refine gG ?_ ?_)|((with_reducible refine And.intro (fun h => ?_) (fun h => ?_)) <;> try (exfalso; omega))|(with_reducible refine andG ?_)|(refine And.intro ⟨[_], rfl⟩ ?_)|(refine And.intro ⟨[], by simp only [List.append_nil]⟩ ?_)|fail|simp (disch := (first|exact discB|fail)) only [push_cast, ↓reduceIte, reduceCtorEq, Nat.reduceAdd, Nat.reduceLT, Nat.reduceEqDiff, Nat.reduceLeDiff, Int.reduceAdd, Int.reduceLT, Int.reduceLE, Nat.reduceMul, b1, b2, b5, b22, b23, b24, e1k, hRl, hrl])
    refine go_loop rfl (fun mz s' H' => ∃ a : Nat, a ≤ r.1.length ∧ mz = r.1.length - a ∧ H' = [.row 3 36 [[.int .i64 A, .sl 1 RN c, .sl 1 BA ca]], .row 4 28 [[.int .i64 0, .sl 0 [] (some 0), .sl 0 [] (some 0), .sl 0 [] (some 0)]], .row 4 28 [[.int .i64 A, .own 3 k k none, .sl 1 [[.int .i64 0]] (some 1), .own 4 (accK ac k).length (accK ac k).length none]], .row 1 32 (kc0 (ofRC l k)), .row 1 3 (ints (intN (accK ac k))), .row 1 26 (rowL (wz0 r.1 a))] ∧ s' 1 = .ptr 0 0 0 1 ∧ s' 2 = .ptr 1 0 0 1 ∧ s' 5 = .ptr 2 0 0 1 ∧ s' 6 = .int .i64 k ∧ s' 8 = .own 5 a a none ∧ s' 22 = .sl 1 RN c ∧ s' 23 = .int .i64 l.length ∧ s' 24 = .int .i64 k ∧ s' 29 = .sl 1 (ints r.1) r.2 ∧ s' 30 = .int .i64 r.1.length ∧ s' 31 = .int .i64 a) (m := r.1.length) (by first|exact wa0|fail) (xv0 (t := 8) (sz := 1) (ty := 26) rfl) ⟨0, by omega, by omega, by simp [wz0, kbF9], ?_⟩ ?_
    ·simp (disch := (first|exact discB|fail)) only [push_cast, ↓reduceIte, reduceCtorEq, Nat.reduceAdd, Nat.reduceLT, Nat.reduceEqDiff, Nat.reduceLeDiff, Int.reduceAdd, Int.reduceLT, Int.reduceLE, Nat.reduceMul, b1, b2, b5, b22, b23, b24, e1k, hRl, hrl]
    ·rintro mz s' H' ⟨a, ha, rfl, rfl, b1, b2, b5, b6, b8, b22, b23, b24, b29, b30, b31⟩
     have hml3 : (rowL (wz0 r.1 a)).length = a := by rw [wb0, xad9 r.1 a ha]
     have et3 : (rowL (wz0 r.1 a)).take a = rowL (wz0 r.1 a) := List.take_of_length_le (by omega)
     have ed3 : (rowL (wz0 r.1 a)).drop (a + 1) = [] := List.drop_eq_nil_of_le (by omega)
     have hidL : ∀ p, idsE p (rowL (wz0 r.1 a)) = true := fun p => qc0 _ _
     rcases Nat.lt_or_ge a r.1.length with hlta|hgea
     ·have hsu3 := zbW9 r.1 a hlta
      have e3a := e3 a hlta
      have hsn3 := wac9 (wz0 r.1 a) ([r.1.getD a 0], some 1)
      rw [← hsu3] at hsn3
      generalize r.1.getD a 0 = n at *
      repeat' (first|refine nav ?_|(refine g0_ ?_; refine goD ?_)|(with_reducible refine gG ?_ ?_)|((with_reducible refine And.intro (fun h => ?_) (fun h => ?_)) <;> try (exfalso; omega))|(with_reducible refine andG ?_)|(refine And.intro ⟨[_], rfl⟩ ?_)|(refine And.intro ⟨[], by simp only [List.append_nil]⟩ ?_)|fail|simp (disch := (first|exact discB|fail)) only [push_cast, ↓reduceIte, reduceCtorEq, Nat.reduceAdd, Nat.reduceLT, Nat.reduceEqDiff, Nat.reduceLeDiff, Int.reduceAdd, Int.reduceLT, Int.reduceLE, Nat.reduceMul, b1, b2, b5, b6, b8, b22, b23, b24, b29, b30, b31, e3a, hrl, hml3, et3, ed3])
      refine qa0 (r.1.length - (a + 1)) (by omega) (by first|exact wa0|fail) ⟨a + 1, by omega, rfl, by rw [← hsn3]; rfl, ?_⟩
      simp (disch := (first|exact discB|fail)) only [push_cast, ↓reduceIte, reduceCtorEq, Nat.reduceAdd, Nat.reduceLT, Nat.reduceEqDiff, Nat.reduceLeDiff, Int.reduceAdd, Int.reduceLT, Int.reduceLE, Nat.reduceMul, b1, b2, b5, b6, b8, b22, b23, b24, b29, b30, b31, e3a, hrl, hml3, et3, ed3]
     ·obtain rfl : a = r.1.length := by omega
      have hol := xad9 r.1 r.1.length (Nat.le_refl _)
      have hclip := fun H hb => zaj9 5 r.1.length r.1.length 26 (rowL (wz0 r.1 r.1.length)) none H hb hml3.symm (Nat.le_refl _)
      have hclip := hclip [.row 3 36 [[.int .i64 A, .sl 1 RN c, .sl 1 BA ca]], .row 4 28 [[.int .i64 0, .sl 0 [] (some 0), .sl 0 [] (some 0), .sl 0 [] (some 0)]], .row 4 28 [[.int .i64 A, .own 3 k k none, .sl 1 [[.int .i64 0]] (some 1), .own 4 (accK ac k).length (accK ac k).length none]], .row 1 32 (kc0 (ofRC l k)), .row 1 3 (ints (intN (accK ac k))), .row 1 26 (rowL (wz0 r.1 r.1.length))] rfl
      cases hq : ac.getD k false with
      | true =>
       rw [hq, if_pos rfl] at hsa
       rw [hq] at e2k
       have hsn2 := vk0 (intN (accK ac k)) (k : Int)
       rw [← kk0, ← hsa] at hsn2
       repeat' (first|refine nav ?_|(refine g0_ ?_; refine goD ?_)|(with_reducible refine gG ?_ ?_)|((with_reducible refine And.intro (fun h => ?_) (fun h => ?_)) <;> try (exfalso; omega))|(with_reducible refine andG ?_)|(refine And.intro ⟨[_], rfl⟩ ?_)|(refine And.intro ⟨[], by simp only [List.append_nil]⟩ ?_)|(first|(refine ⟨_, _, hclip, ?_⟩)|(refine ⟨_, hclip, ?_⟩)|(refine ⟨_, fun _ => hclip, ?_⟩))|simp (disch := (first|exact discB|fail)) only [push_cast, ↓reduceIte, reduceCtorEq, Nat.reduceAdd, Nat.reduceLT, Nat.reduceEqDiff, Nat.reduceLeDiff, Int.reduceAdd, Int.reduceLT, Int.reduceLE, Nat.reduceMul, b1, b2, b5, b6, b8, b22, b23, b24, b29, b30, b31, hrl, hml, et, ed, hml2, et2, ed2, e2k, hAl, hol])
       refine xh0 (l.length - (k + 1)) 5 (j := 5) rfl (by omega) (by first|exact wa0|fail) (by omega) (by simp [frzH]) (by simp [frzH, frzB, frz, Blk.below, idsE, idsL, AV.ids, xi0, xe0, hidR, hidA, hidO, hidC, hidL, et3, hml3]) ⟨k + 1, by omega, rfl, ?_, ?_⟩
       ·rw [← hsn, ← hsn2, hsa, List.length_append]
        simp [frzH, frzB, frz, xi0, hidR, hidA, hidO, hidC, hidL, et3, hml3, rC]
       ·simp (disch := (first|exact discB|fail)) only [push_cast, ↓reduceIte, reduceCtorEq, Nat.reduceAdd, Nat.reduceLT, Nat.reduceEqDiff, Nat.reduceLeDiff, Int.reduceAdd, Int.reduceLT, Int.reduceLE, Nat.reduceMul, b1, b2, b5, b22, b23, b24, scrub, frz, AV.ids, idsL, hidR]
      | false =>
       rw [hq, if_neg (by simp)] at hsa
       rw [hq] at e2k
       repeat' (first|refine nav ?_|(refine g0_ ?_; refine goD ?_)|(with_reducible refine gG ?_ ?_)|((with_reducible refine And.intro (fun h => ?_) (fun h => ?_)) <;> try (exfalso; omega))|(with_reducible refine andG ?_)|(refine And.intro ⟨[_], rfl⟩ ?_)|(refine And.intro ⟨[], by simp only [List.append_nil]⟩ ?_)|(first|(refine ⟨_, _, hclip, ?_⟩)|(refine ⟨_, hclip, ?_⟩)|(refine ⟨_, fun _ => hclip, ?_⟩))|simp (disch := (first|exact discB|fail)) only [push_cast, ↓reduceIte, reduceCtorEq, Nat.reduceAdd, Nat.reduceLT, Nat.reduceEqDiff, Nat.reduceLeDiff, Int.reduceAdd, Int.reduceLT, Int.reduceLE, Nat.reduceMul, b1, b2, b5, b6, b8, b22, b23, b24, b29, b30, b31, hrl, hml, et, ed, hml2, et2, ed2, e2k, hAl, hol])
       refine xh0 (l.length - (k + 1)) 5 (j := 5) rfl (by omega) (by first|exact wa0|fail) (by omega) (by simp [frzH]) (by simp [frzH, frzB, frz, Blk.below, idsE, idsL, AV.ids, xi0, xe0, hidR, hidA, hidO, hidC, hidL, et3, hml3]) ⟨k + 1, by omega, rfl, ?_, ?_⟩
       ·rw [← hsn, hsa]
        simp [frzH, frzB, frz, xi0, hidR, hidA, hidO, hidC, hidL, et3, hml3, rC]
       ·simp (disch := (first|exact discB|fail)) only [push_cast, ↓reduceIte, reduceCtorEq, Nat.reduceAdd, Nat.reduceLT, Nat.reduceEqDiff, Nat.reduceLeDiff, Int.reduceAdd, Int.reduceLT, Int.reduceLE, Nat.reduceMul, b1, b2, b5, b22, b23, b24, scrub, frz, AV.ids, idsL, hidR]
   ·obtain rfl : k = l.length := by omega
    have hoc := kaV9 l l.length (Nat.le_refl _)
    have hc1 := qbW9 3 l.length l.length 32 (kc0 (ofRC l l.length)) none [.row 3 36 [[.int .i64 A, .sl 1 RN c, .sl 1 BA ca]], .row 4 28 [[.int .i64 0, .sl 0 [] (some 0), .sl 0 [] (some 0), .sl 0 [] (some 0)]], .row 4 28 [[.int .i64 A, .own 3 l.length l.length none, .sl 1 [[.int .i64 0]] (some 1), .own 4 (accK ac l.length).length (accK ac l.length).length none]], .row 1 32 (kc0 (ofRC l l.length)), .row 1 3 (ints (intN (accK ac l.length)))] rfl hml.symm (Nat.le_refl _)
    have hc2 := xaj9 4 (accK ac l.length).length (accK ac l.length).length 3 (ints (intN (accK ac l.length))) none [.row 3 36 [[.int .i64 A, .sl 1 RN c, .sl 1 BA ca]], .row 4 28 [[.int .i64 0, .sl 0 [] (some 0), .sl 0 [] (some 0), .sl 0 [] (some 0)]], .row 4 28 [[.int .i64 A, .own 3 l.length l.length none, .sl 1 [[.int .i64 0]] (some 1), .own 4 (accK ac l.length).length (accK ac l.length).length none]], .row 1 32 (kc0 (ofRC l l.length)), .row 1 3 (ints (intN (accK ac l.length)))] rfl hml2.symm (Nat.le_refl _)
    unfold nA
    repeat' (first|refine nav ?_|(refine g0_ ?_; refine goD ?_)|(with_reducible refine gG ?_ ?_)|((with_reducible refine And.intro (fun h => ?_) (fun h => ?_)) <;> try (exfalso; omega))|(with_reducible refine andG ?_)|(refine And.intro ⟨[_], rfl⟩ ?_)|(refine And.intro ⟨[], by simp only [List.append_nil]⟩ ?_)|(first|(refine ⟨_, _, hc1, ?_⟩)|(refine ⟨_, hc1, ?_⟩)|(refine ⟨_, fun _ => hc1, ?_⟩)|(refine ⟨_, _, hc2, ?_⟩)|(refine ⟨_, hc2, ?_⟩)|(refine ⟨_, fun _ => hc2, ?_⟩))|simp (disch := (first|exact discB|fail)) only [push_cast, ↓reduceIte, reduceCtorEq, Nat.reduceAdd, Nat.reduceLT, Nat.reduceEqDiff, Nat.reduceLeDiff, Int.reduceAdd, Int.reduceLT, Int.reduceLE, Nat.reduceMul, b1, b2, b5, b22, b23, b24, hRl, hml, et, hml2, et2, ints_one, intN_len, hoc])
    done
 ·rw [if_pos h0]
  generalize qi0 sym (wf0 l) ac.length = e at *
  unfold dA nA0 at *
  generalize rowL l = RN at *
  generalize vb0 ac = BA at *
  refine wd0 0 69 [.cell 2 28, .tmp 3] Tryd.func18 rfl rfl rfl (by simp) ?_
  intro s ⟨a0, hz⟩
  clear hz
  repeat' (first|refine nav ?_|(refine g0_ ?_; refine goD ?_)|(with_reducible refine gG ?_ ?_)|((with_reducible refine And.intro (fun h => ?_) (fun h => ?_)) <;> try (exfalso; omega))|(with_reducible refine andG ?_)|(refine And.intro ⟨[_], rfl⟩ ?_)|(refine And.intro ⟨[], by simp only [List.append_nil]⟩ ?_)|(first|(refine ⟨_, _, pc_lift (hck) (by (simp [idsL, idsE, AV.ids, hidR, hidA])) _, ?_⟩)|(refine ⟨_, pc_lift (hck) (by (simp [idsL, idsE, AV.ids, hidR, hidA])) _, ?_⟩)|(refine ⟨_, fun _ => pc_lift (hck) (by (simp [idsL, idsE, AV.ids, hidR, hidA])) _, ?_⟩))|simp (disch := (first|exact discB|fail)) only [push_cast, ↓reduceIte, reduceCtorEq, Nat.reduceAdd, Nat.reduceLT, Nat.reduceEqDiff, Nat.reduceLeDiff, Int.reduceAdd, Int.reduceLT, Int.reduceLE, Nat.reduceMul, a0, h0])
end Go.Proofs
namespace Go.Proofs
open Go Go.V
set_option linter.unusedVariables false
set_option linter.unusedSimpArgs false
set_option maxHeartbeats 0
def ofRN (l : List LC) (k : Nat) : List RC := (l.take k).map fun r => (wz0 r.1 r.1.length, none)
end Go.Proofs
