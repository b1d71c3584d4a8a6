import Derived.Test.YtcoakjnmnommpaaGreatDoorA19
import Derived.Test.YtcoakjnmnommpaaGreatDoorA12
namespace Go.Proofs
open Go Go.V
set_option linter.unusedVariables false
set_option linter.unusedSimpArgs false
set_option maxHeartbeats 0
def ofRow (r : List Int) (k : Nat) : List LC := (r.take k).map fun n => ([n], some 1)
def ofRC (l : List LC) (k : Nat) : List RC := (l.take k).map fun r => (ofRow r.1 r.1.length, some r.1.length)
def accK (ac : List Bool) (k : Nat) : List Nat := (List.range k).filter fun s => ac.getD s false
theorem ofRow_succ (r : List Int) (k : Nat) (h : k < r.length) : ofRow r (k + 1) = ofRow r k ++ [([r.getD k 0], some 1)] := take_succ_map _ _ 0 k h
theorem ofRC_succ (l : List LC) (k : Nat) (h : k < l.length) : ofRC l (k + 1) = ofRC l k ++ [(ofRow (l.getD k ([], none)).1 (l.getD k ([], none)).1.length, some (l.getD k ([], none)).1.length)] := take_succ_map _ _ ([], none) k h
theorem ofRow_len (r : List Int) (k : Nat) (h : k ≤ r.length) : (ofRow r k).length = k := by simp [ofRow]; omega
theorem ofRC_len (l : List LC) (k : Nat) (h : k ≤ l.length) : (ofRC l k).length = k := by simp [ofRC]; omega
theorem accK_succ (ac : List Bool) (k : Nat) : accK ac (k + 1) = if ac.getD k false = true then accK ac k ++ [k] else accK ac k := by
 rw [accK, List.range_succ, List.filter_append, ← accK]
 by_cases h : ac.getD k false = true
 ·rw [if_pos h]; congr 1; simp only [List.filter_cons, h, if_pos, List.filter_nil]
 ·rw [if_neg h]
  have h2 : ac.getD k false = false := by simpa using h
  simp only [List.filter_cons, h2, List.filter_nil]
  simp
theorem accK_len (ac : List Bool) (k : Nat) : (accK ac k).length ≤ k := by
 have := List.length_filter_le (fun s : Nat => ac.getD s false) (List.range k)
 rwa [List.length_range] at this
def nA0 : AV := .agg [.int .i64 0, .sl 0 [] (some 0), .sl 0 [] (some 0), .sl 0 [] (some 0)]
def dA0 : AV := .agg [.int .i64 0, .sl 0 [] (some 0), .sl 0 [] (some 0)]
def ofDV (sym : Int) (l : List LC) (ac : List Bool) : AV :=
 if checkD sym (rowsD l) ac.length ≠ 0 then .tup [nA0, .int .i64 (checkD sym (rowsD l) ac.length)]
 else .tup [nA sym 1 (ofRC l l.length) (some l.length) 1 [0] (some 1) 1 (intN (accK ac l.length)) (some (accK ac l.length).length), .int .i64 0]
theorem ints_one (n : Int) : ints [n] = [[.int .i64 n]] := rfl
set_option maxRecDepth 100000 in
theorem ofDfa18 (sym : Int) (zr : Nat) (l : List LC) (c : Option Nat) (za : Nat) (ac : List Bool) (ca : Option Nat) (hsz : SizeD zr l za ac) : PC Tryz.prog G0 26 [dA sym zr l c za ac ca] (ofDV sym l ac) := by
 have hck := hsz.check (sym := sym) (c := c) (ca := ca)
 have hidR : ∀ p, idsE p (rowL l) = true := fun p => idsE_rowL _ _
 have hidA : ∀ p, idsE p (bools ac) = true := fun p => idsE_bools _ _
 unfold ofDV
 by_cases h0 : checkD sym (rowsD l) ac.length = 0
 ·rw [if_neg (by simp [h0])]
  rw [h0] at hck
  obtain ⟨A, rfl, hok⟩ := checkD_ok h0
  have hn := hok.n
  have hn1 := hok.n1
  have hm := hok.m
  have hA := hok.a2
  rw [rowsD_len] at hn hn1 hm
  obtain rfl := hsz.zl.resolve_left (by intro h; rw [h] at hn1; simp at hn1)
  obtain rfl := hsz.zac.resolve_left (by intro h; rw [h] at hm; simp at hm; omega)
  have hRl := length_rowL l
  have hAl := length_bools ac
  have e1 := getD_rowL l
  have e2 := getD_bools ac
  unfold dA at *
  generalize rowL l = RN at *
  generalize bools ac = BA at *
  refine pc_go 1 69 [.cell 2 29, .tmp 3] Tryz.func26 rfl rfl rfl (by simp) ?_
  intro s ⟨a0, hz⟩
  clear hz
  repeat' (first|refine nav ?_|(refine g0_ ?_; refine goD ?_)|(with_reducible refine gG ?_ ?_)|((with_reducible refine And.intro (fun h => ?_) (fun h => ?_)) <;> try (exfalso; omega))|(with_reducible refine andG ?_)|refine appG ?_|(first|(refine ⟨_, _, pc_lift (hck) (by (simp [idsL, idsE, AV.ids, hidR, hidA])) _, ?_⟩)|(refine ⟨_, pc_lift (hck) (by (simp [idsL, idsE, AV.ids, hidR, hidA])) _, ?_⟩)|(refine ⟨_, fun _ => pc_lift (hck) (by (simp [idsL, idsE, AV.ids, hidR, hidA])) _, ?_⟩))|simp (disch := (first|exact discB|fail)) only [push_cast, ↓reduceIte, reduceIte, reduceCtorEq, Nat.reduceAdd, Nat.reduceLT, Nat.reduceEqDiff, Nat.reduceLeDiff, Int.reduceAdd, Int.reduceLT, Int.reduceLE, Nat.reduceMul, a0, hRl])
  refine go_weak (by first|exact sideB|fail) (weak_nil_cell (b := 2) (i := 0) (j := 1) (sz := 1) (ty := 44) rfl rfl rfl) ?_
  refine go_loop rfl (fun mz s' H' => ∃ k : Nat, k ≤ l.length ∧ mz = l.length - k ∧ H' = [.row 3 47 [[.int .i64 A, .sl 1 RN c, .sl 1 BA ca]], .row 4 29 [[.int .i64 0, .sl 0 [] (some 0), .sl 0 [] (some 0), .sl 0 [] (some 0)]], .row 4 29 [[.int .i64 A, .own 3 k k none, .sl 1 [[.int .i64 0]] (some 1), .own 4 (accK ac k).length (accK ac k).length none]], .row 1 44 (rowsN (ofRC l k)), .row 1 3 (ints (intN (accK ac k)))] ∧ s' 1 = .ptr 0 0 0 1 ∧ s' 2 = .ptr 1 0 0 1 ∧ s' 5 = .ptr 2 0 0 1 ∧ s' 22 = .sl 1 RN c ∧ s' 23 = .int .i64 l.length ∧ s' 24 = .int .i64 k) (m := l.length) (by trivial) (weak_nil_cell (b := 2) (i := 0) (j := 3) (sz := 1) (ty := 3) rfl rfl rfl) ⟨0, by omega, by omega, by simp [ofRC, accK, rowsN_nil, intN, ints_nil], ?_⟩ ?_
  ·simp (disch := (first|exact discB|fail)) only [push_cast, ↓reduceIte, reduceIte, reduceCtorEq, Nat.reduceAdd, Nat.reduceLT, Nat.reduceEqDiff, Nat.reduceLeDiff, Int.reduceAdd, Int.reduceLT, Int.reduceLE, Nat.reduceMul, a0, hRl]
  ·rintro mz s' H' ⟨k, hk, rfl, rfl, b1, b2, b5, b22, b23, b24⟩
   have hal := accK_len ac k
   have hml : (rowsN (ofRC l k)).length = k := by rw [length_rowsN, ofRC_len l k hk]
   have hml2 : (ints (intN (accK ac k))).length = (accK ac k).length := by rw [length_ints, intN_len]
   have et : (rowsN (ofRC l k)).take k = rowsN (ofRC l k) := List.take_of_length_le (by omega)
   have ed : (rowsN (ofRC l k)).drop (k + 1) = [] := List.drop_eq_nil_of_le (by omega)
   have et2 : (ints (intN (accK ac k))).take (accK ac k).length = ints (intN (accK ac k)) := List.take_of_length_le (by omega)
   have ed2 : (ints (intN (accK ac k))).drop ((accK ac k).length + 1) = [] := List.drop_eq_nil_of_le (by omega)
   have hidO : ∀ p, idsE p (rowsN (ofRC l k)) = true := fun p => idsE_rowsN _ _
   have hidC : ∀ p, idsE p (ints (intN (accK ac k))) = true := fun p => idsE_ints _ _
   rcases Nat.lt_or_ge k l.length with hlt|hge
   ·have e1k := e1 k hlt
    have e2k := e2 k (by omega)
    have hrow := hok.row hlt
    have hsu := ofRC_succ l k hlt
    have hsa := accK_succ ac k
    generalize l.getD k ([], none) = r at *
    have hrl := length_ints r.1
    have hsn := rowsN_snoc (ofRC l k) (ofRow r.1 r.1.length, some r.1.length)
    rw [← hsu] at hsn
    have e3 := getD_ints r.1
    unfold lC at e1k
    repeat' (first|refine nav ?_|(refine g0_ ?_; refine goD ?_)|(with_reducible refine gG ?_ ?_)|((with_reducible refine And.intro (fun h => ?_) (fun h => ?_)) <;> try (exfalso; omega))|(with_reducible refine andG ?_)|refine appG ?_|fail|simp (disch := (first|exact discB|fail)) only [push_cast, ↓reduceIte, reduceIte, reduceCtorEq, Nat.reduceAdd, Nat.reduceLT, Nat.reduceEqDiff, Nat.reduceLeDiff, Int.reduceAdd, Int.reduceLT, Int.reduceLE, Nat.reduceMul, b1, b2, b5, b22, b23, b24, e1k, hRl, hrl])
    refine go_loop rfl (fun mz s' H' => ∃ a : Nat, a ≤ r.1.length ∧ mz = r.1.length - a ∧ H' = [.row 3 47 [[.int .i64 A, .sl 1 RN c, .sl 1 BA ca]], .row 4 29 [[.int .i64 0, .sl 0 [] (some 0), .sl 0 [] (some 0), .sl 0 [] (some 0)]], .row 4 29 [[.int .i64 A, .own 3 k k none, .sl 1 [[.int .i64 0]] (some 1), .own 4 (accK ac k).length (accK ac k).length none]], .row 1 44 (rowsN (ofRC l k)), .row 1 3 (ints (intN (accK ac k))), .row 1 27 (rowL (ofRow r.1 a))] ∧ s' 1 = .ptr 0 0 0 1 ∧ s' 2 = .ptr 1 0 0 1 ∧ s' 5 = .ptr 2 0 0 1 ∧ s' 6 = .int .i64 k ∧ s' 8 = .own 5 a a none ∧ s' 22 = .sl 1 RN c ∧ s' 23 = .int .i64 l.length ∧ s' 24 = .int .i64 k ∧ s' 29 = .sl 1 (ints r.1) r.2 ∧ s' 30 = .int .i64 r.1.length ∧ s' 31 = .int .i64 a) (m := r.1.length) (by first|exact sideB|fail) (weak_nil (t := 8) (sz := 1) (ty := 27) rfl) ⟨0, by omega, by omega, by simp [ofRow, rowL_nil], ?_⟩ ?_
    ·simp (disch := (first|exact discB|fail)) only [push_cast, ↓reduceIte, reduceIte, reduceCtorEq, Nat.reduceAdd, Nat.reduceLT, Nat.reduceEqDiff, Nat.reduceLeDiff, Int.reduceAdd, Int.reduceLT, Int.reduceLE, Nat.reduceMul, b1, b2, b5, b22, b23, b24, e1k, hRl, hrl]
    ·rintro mz s' H' ⟨a, ha, rfl, rfl, b1, b2, b5, b6, b8, b22, b23, b24, b29, b30, b31⟩
     have hml3 : (rowL (ofRow r.1 a)).length = a := by rw [length_rowL, ofRow_len r.1 a ha]
     have et3 : (rowL (ofRow r.1 a)).take a = rowL (ofRow r.1 a) := List.take_of_length_le (by omega)
     have ed3 : (rowL (ofRow r.1 a)).drop (a + 1) = [] := List.drop_eq_nil_of_le (by omega)
     have hidL : ∀ p, idsE p (rowL (ofRow r.1 a)) = true := fun p => idsE_rowL _ _
     rcases Nat.lt_or_ge a r.1.length with hlta|hgea
     ·have hsu3 := ofRow_succ r.1 a hlta
      have e3a := e3 a hlta
      have hsn3 := rowL_snoc (ofRow r.1 a) ([r.1.getD a 0], some 1)
      rw [← hsu3] at hsn3
      generalize r.1.getD a 0 = n at *
      repeat' (first|refine nav ?_|(refine g0_ ?_; refine goD ?_)|(with_reducible refine gG ?_ ?_)|((with_reducible refine And.intro (fun h => ?_) (fun h => ?_)) <;> try (exfalso; omega))|(with_reducible refine andG ?_)|refine appG ?_|fail|simp (disch := (first|exact discB|fail)) only [push_cast, ↓reduceIte, reduceIte, reduceCtorEq, Nat.reduceAdd, Nat.reduceLT, Nat.reduceEqDiff, Nat.reduceLeDiff, Int.reduceAdd, Int.reduceLT, Int.reduceLE, Nat.reduceMul, b1, b2, b5, b6, b8, b22, b23, b24, b29, b30, b31, e3a, hrl, hml3, et3, ed3])
      refine out_round (r.1.length - (a + 1)) (by omega) (by first|exact sideB|fail) ⟨a + 1, by omega, rfl, by rw [← hsn3]; rfl, ?_⟩
      simp (disch := (first|exact discB|fail)) only [push_cast, ↓reduceIte, reduceIte, reduceCtorEq, Nat.reduceAdd, Nat.reduceLT, Nat.reduceEqDiff, Nat.reduceLeDiff, Int.reduceAdd, Int.reduceLT, Int.reduceLE, Nat.reduceMul, b1, b2, b5, b6, b8, b22, b23, b24, b29, b30, b31, e3a, hrl, hml3, et3, ed3]
     ·obtain rfl : a = r.1.length := by omega
      have hol := ofRow_len r.1 r.1.length (Nat.le_refl _)
      have hclip := fun H hb => clip35_own 5 r.1.length r.1.length 27 (rowL (ofRow r.1 r.1.length)) none H hb hml3.symm (Nat.le_refl _)
      have hclip := hclip [.row 3 47 [[.int .i64 A, .sl 1 RN c, .sl 1 BA ca]], .row 4 29 [[.int .i64 0, .sl 0 [] (some 0), .sl 0 [] (some 0), .sl 0 [] (some 0)]], .row 4 29 [[.int .i64 A, .own 3 k k none, .sl 1 [[.int .i64 0]] (some 1), .own 4 (accK ac k).length (accK ac k).length none]], .row 1 44 (rowsN (ofRC l k)), .row 1 3 (ints (intN (accK ac k))), .row 1 27 (rowL (ofRow r.1 r.1.length))] rfl
      cases hq : ac.getD k false with
      | true =>
       rw [hq, if_pos rfl] at hsa
       rw [hq] at e2k
       have hsn2 := ints_snoc (intN (accK ac k)) (k : Int)
       rw [← intN_snoc, ← hsa] at hsn2
       repeat' (first|refine nav ?_|(refine g0_ ?_; refine goD ?_)|(with_reducible refine gG ?_ ?_)|((with_reducible refine And.intro (fun h => ?_) (fun h => ?_)) <;> try (exfalso; omega))|(with_reducible refine andG ?_)|refine appG ?_|(first|(refine ⟨_, _, hclip, ?_⟩)|(refine ⟨_, hclip, ?_⟩)|(refine ⟨_, fun _ => hclip, ?_⟩))|simp (disch := (first|exact discB|fail)) only [push_cast, ↓reduceIte, reduceIte, reduceCtorEq, Nat.reduceAdd, Nat.reduceLT, Nat.reduceEqDiff, Nat.reduceLeDiff, Int.reduceAdd, Int.reduceLT, Int.reduceLE, Nat.reduceMul, b1, b2, b5, b6, b8, b22, b23, b24, b29, b30, b31, hrl, hml, et, ed, hml2, et2, ed2, e2k, hAl, hol])
       refine out_round_frz (l.length - (k + 1)) 5 (j := 5) rfl (by omega) (by first|exact sideB|fail) (by omega) (by simp [frzH]) (by simp [frzH, frzB, frz, Blk.below, idsE, idsL, AV.ids, map_frz, deadRow, hidR, hidA, hidO, hidC, hidL, et3, hml3]) ⟨k + 1, by omega, rfl, ?_, ?_⟩
       ·rw [← hsn, ← hsn2, hsa, List.length_append]
        simp [frzH, frzB, frz, map_frz, hidR, hidA, hidO, hidC, hidL, et3, hml3, rC]
       ·simp (disch := (first|exact discB|fail)) only [push_cast, ↓reduceIte, reduceIte, reduceCtorEq, Nat.reduceAdd, Nat.reduceLT, Nat.reduceEqDiff, Nat.reduceLeDiff, Int.reduceAdd, Int.reduceLT, Int.reduceLE, Nat.reduceMul, b1, b2, b5, b22, b23, b24, scrub, frz, AV.ids, idsL, hidR]
      | false =>
       rw [hq, if_neg (by simp)] at hsa
       rw [hq] at e2k
       repeat' (first|refine nav ?_|(refine g0_ ?_; refine goD ?_)|(with_reducible refine gG ?_ ?_)|((with_reducible refine And.intro (fun h => ?_) (fun h => ?_)) <;> try (exfalso; omega))|(with_reducible refine andG ?_)|refine appG ?_|(first|(refine ⟨_, _, hclip, ?_⟩)|(refine ⟨_, hclip, ?_⟩)|(refine ⟨_, fun _ => hclip, ?_⟩))|simp (disch := (first|exact discB|fail)) only [push_cast, ↓reduceIte, reduceIte, reduceCtorEq, Nat.reduceAdd, Nat.reduceLT, Nat.reduceEqDiff, Nat.reduceLeDiff, Int.reduceAdd, Int.reduceLT, Int.reduceLE, Nat.reduceMul, b1, b2, b5, b6, b8, b22, b23, b24, b29, b30, b31, hrl, hml, et, ed, hml2, et2, ed2, e2k, hAl, hol])
       refine out_round_frz (l.length - (k + 1)) 5 (j := 5) rfl (by omega) (by first|exact sideB|fail) (by omega) (by simp [frzH]) (by simp [frzH, frzB, frz, Blk.below, idsE, idsL, AV.ids, map_frz, deadRow, hidR, hidA, hidO, hidC, hidL, et3, hml3]) ⟨k + 1, by omega, rfl, ?_, ?_⟩
       ·rw [← hsn, hsa]
        simp [frzH, frzB, frz, map_frz, hidR, hidA, hidO, hidC, hidL, et3, hml3, rC]
       ·simp (disch := (first|exact discB|fail)) only [push_cast, ↓reduceIte, reduceIte, reduceCtorEq, Nat.reduceAdd, Nat.reduceLT, Nat.reduceEqDiff, Nat.reduceLeDiff, Int.reduceAdd, Int.reduceLT, Int.reduceLE, Nat.reduceMul, b1, b2, b5, b22, b23, b24, scrub, frz, AV.ids, idsL, hidR]
   ·obtain rfl : k = l.length := by omega
    have hoc := ofRC_len l l.length (Nat.le_refl _)
    have hc1 := clip52_own 3 l.length l.length 44 (rowsN (ofRC l l.length)) none [.row 3 47 [[.int .i64 A, .sl 1 RN c, .sl 1 BA ca]], .row 4 29 [[.int .i64 0, .sl 0 [] (some 0), .sl 0 [] (some 0), .sl 0 [] (some 0)]], .row 4 29 [[.int .i64 A, .own 3 l.length l.length none, .sl 1 [[.int .i64 0]] (some 1), .own 4 (accK ac l.length).length (accK ac l.length).length none]], .row 1 44 (rowsN (ofRC l l.length)), .row 1 3 (ints (intN (accK ac l.length)))] rfl hml.symm (Nat.le_refl _)
    have hc2 := clip53_own 4 (accK ac l.length).length (accK ac l.length).length 3 (ints (intN (accK ac l.length))) none [.row 3 47 [[.int .i64 A, .sl 1 RN c, .sl 1 BA ca]], .row 4 29 [[.int .i64 0, .sl 0 [] (some 0), .sl 0 [] (some 0), .sl 0 [] (some 0)]], .row 4 29 [[.int .i64 A, .own 3 l.length l.length none, .sl 1 [[.int .i64 0]] (some 1), .own 4 (accK ac l.length).length (accK ac l.length).length none]], .row 1 44 (rowsN (ofRC l l.length)), .row 1 3 (ints (intN (accK ac l.length)))] rfl hml2.symm (Nat.le_refl _)
    unfold nA
    repeat' (first|refine nav ?_|(refine g0_ ?_; refine goD ?_)|(with_reducible refine gG ?_ ?_)|((with_reducible refine And.intro (fun h => ?_) (fun h => ?_)) <;> try (exfalso; omega))|(with_reducible refine andG ?_)|refine appG ?_|(first|(refine ⟨_, _, hc1, ?_⟩)|(refine ⟨_, hc1, ?_⟩)|(refine ⟨_, fun _ => hc1, ?_⟩)|(refine ⟨_, _, hc2, ?_⟩)|(refine ⟨_, hc2, ?_⟩)|(refine ⟨_, fun _ => hc2, ?_⟩))|simp (disch := (first|exact discB|fail)) only [push_cast, ↓reduceIte, reduceIte, reduceCtorEq, Nat.reduceAdd, Nat.reduceLT, Nat.reduceEqDiff, Nat.reduceLeDiff, Int.reduceAdd, Int.reduceLT, Int.reduceLE, Nat.reduceMul, b1, b2, b5, b22, b23, b24, hRl, hml, et, hml2, et2, ints_one, intN_len, hoc])
    done
 ·rw [if_pos h0]
  generalize checkD sym (rowsD l) ac.length = e at *
  unfold dA nA0 at *
  generalize rowL l = RN at *
  generalize bools ac = BA at *
  refine pc_go 0 69 [.cell 2 29, .tmp 3] Tryz.func26 rfl rfl rfl (by simp) ?_
  intro s ⟨a0, hz⟩
  clear hz
  repeat' (first|refine nav ?_|(refine g0_ ?_; refine goD ?_)|(with_reducible refine gG ?_ ?_)|((with_reducible refine And.intro (fun h => ?_) (fun h => ?_)) <;> try (exfalso; omega))|(with_reducible refine andG ?_)|refine appG ?_|(first|(refine ⟨_, _, pc_lift (hck) (by (simp [idsL, idsE, AV.ids, hidR, hidA])) _, ?_⟩)|(refine ⟨_, pc_lift (hck) (by (simp [idsL, idsE, AV.ids, hidR, hidA])) _, ?_⟩)|(refine ⟨_, fun _ => pc_lift (hck) (by (simp [idsL, idsE, AV.ids, hidR, hidA])) _, ?_⟩))|simp (disch := (first|exact discB|fail)) only [push_cast, ↓reduceIte, reduceIte, reduceCtorEq, Nat.reduceAdd, Nat.reduceLT, Nat.reduceEqDiff, Nat.reduceLeDiff, Int.reduceAdd, Int.reduceLT, Int.reduceLE, Nat.reduceMul, a0, h0])
end Go.Proofs
