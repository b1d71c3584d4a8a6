import Derived.Test.YtcoakjnmnommpaaDoorA47
namespace Go.Proofs
open Go Go.V Go.RowKit
set_option linter.unusedVariables false
set_option linter.unusedSimpArgs false
set_option maxHeartbeats 0
theorem splitC_end {tx : Bs} (h : tx.getLast? = some 10) : splitC 10 tx = splitC 10 tx.dropLast ++ [[]] := by
 rcases List.eq_nil_or_concat tx with e|⟨t, b, e⟩
 ·rw [e] at h; cases h
 ·rw [List.concat_eq_append] at e
  subst e
  rw [List.getLast?_append] at h
  simp at h
  subst h
  rw [List.dropLast_concat]
  exact splitC_snoc 10 t
theorem parse_no {tx : Bs} {m : Nat} (hm : (splitC 10 tx).length = m + 1) (h : ¬ (splitC 10 tx).getD m [] = []) : parseA tx = none := by
 rw [parseA, if_neg]
 intro q
 have e := splitC_end q
 rw [e] at h hm
 rw [List.length_append, List.length_singleton, Nat.add_right_cancel_iff] at hm
 subst hm
 apply h
 simp
theorem parse_one {tx : Bs} (hm : (splitC 10 tx).length = 1) : parseA tx = none := by
 rw [parseA, if_neg]
 intro q
 rw [splitC_end q] at hm
 have := splitC_ne 10 tx.dropLast
 rw [List.length_append, List.length_singleton] at hm
 exact this (List.eq_nil_of_length_eq_zero (by omega))
theorem parse_more {tx : Bs} {m : Nat} (hm : (splitC 10 tx).length = m + 2) (h : (splitC 10 tx).getD (m + 1) [] = []) : ∃ L : List Bs, L.length = m + 1 ∧ splitC 10 tx = L ++ [[]] ∧ parseA tx = linesP L := by
 have hl : (splitC 10 tx).getLast (splitC_ne 10 tx) = [] := by
  rw [List.getLast_eq_getElem]
  rw [List.getD_eq_getElem?_getD, List.getElem?_eq_getElem (by omega), Option.getD_some] at h
  simp only [hm]
  exact h
 rcases splitC_last 10 tx hl with e|⟨t, e⟩
 ·rw [e] at hm; simp [splitC] at hm
 ·subst e
  have e := splitC_snoc 10 t
  refine ⟨splitC 10 t, ?_, e, ?_⟩
  ·rw [e, List.length_append, List.length_singleton] at hm; omega
  ·rw [parseA, if_pos (by simp), List.dropLast_concat]
def lcN (rows : List (List Int × Bool)) : List LC := rows.map fun r => (r.1, none)
theorem lcN_len (rows : List (List Int × Bool)) : (lcN rows).length = rows.length := by simp [lcN]
theorem lcN_get (rows : List (List Int × Bool)) (s : Nat) (h : s < rows.length) : (lcN rows).getD s ([], none) = ((rows.getD s ([], false)).1, none) := by simp [lcN, h]
theorem lcN_snoc (rows : List (List Int × Bool)) (r : List Int × Bool) : rowL (lcN rows) ++ [[.sl 1 (ints r.1) none]] = rowL (lcN (rows ++ [r])) := by simp [rowL, lcN, lC]
theorem lcN_D (rows : List (List Int × Bool)) : rowsD (lcN rows) = rowsD (lcP rows) := by simp [rowsD, lcN, lcP]
def parRO (o : Option (Int × List (List Int × Bool))) : AV := match o with
 | none => .tup [dA0, .int .i64 4]
 | some (A, rows) => if checkD A (rowsD (lcP rows)) rows.length ≠ 0 then .tup [dA0, .int .i64 (checkD A (rowsD (lcP rows)) rows.length)] else .tup [dA A 1 (lcN rows) none 1 (acP rows) none, .int .i64 0]
theorem intR_some {f : Bs} (h : 0 ≤ intR f) : int4 f = some (intR f) := by
 cases q : int4 f with
 | none => rw [intR_none q] at h; omega
 | some v => rw [intR, q]; rfl
theorem intR_lt {f : Bs} (h : intR f < 0) : int4 f = none := by
 cases q : int4 f with
 | none => rfl
 | some v =>
  have := int4_bd q
  rw [intR, q] at h; simp at h; omega
theorem intR_of {f : Bs} {v : Int} (q : int4 f = some v) : intR f = v := by rw [intR, q]; rfl
theorem intR_bd (f : Bs) : -1 ≤ intR f ∧ intR f ≤ 9999 := by
 cases q : int4 f with
 | none => rw [intR_none q]; omega
 | some v =>
  have := int4_bd q
  rw [intR_of q]; omega
theorem check51_own {H : List Blk} {n : Nat} {rows : List (List Int × Bool)} (h2 : H[2]? = some (.row 1 26 (rowL (lcN rows)))) (h3 : H[3]? = some (.row 1 4 (bools (acP rows)))) (A : Int) (hn : rows.length = n) (hb : n ≤ 65536) (hr : ∀ r ∈ rows, r.1.length ≤ 65536) :
  ACalls Tryd.prog G0 51 [.agg [.int .i64 A, .own 2 n n none, .own 3 n n none]] H (.int .i64 (checkD A (rowsD (lcP rows)) rows.length)) H := by
 subst hn
 have hc := check51 A 1 (lcN rows) none 1 (acP rows) none ⟨.inr rfl, .inr rfl, by rw [lcN_len]; omega, by rw [acP_len]; omega, fun s hs => by
  rw [lcN_len] at hs
  rw [lcN_get _ _ hs]
  have := hr _ (getD_mem (d := ([], false)) hs)
  simp only; omega⟩
 rw [acP_len, lcN_D] at hc
 have hl1 : (rowL (lcN rows)).length = rows.length := by rw [length_rowL, lcN_len]
 have hl2 : (bools (acP rows)).length = rows.length := by rw [length_bools, acP_len]
 have o1 : okC H 1 (.own 2 rows.length rows.length none) = true := own_ok (c := none) h2 hl1.symm hl1.symm (idsE_rowL _ _)
 have o2 : okC H 1 (.own 3 rows.length rows.length none) = true := own_ok (c := none) h3 hl2.symm hl2.symm (idsE_bools _ _)
 have q1 : closeC H 1 (.own 2 rows.length rows.length none) = .sl 1 (rowL (lcN rows)) none := own_close h2 hl1.symm hl1.symm
 have q2 : closeC H 1 (.own 3 rows.length rows.length none) = .sl 1 (bools (acP rows)) none := own_close h3 hl2.symm hl2.symm
 refine ac_lend 1 ?_ ?_ hc rfl
 ·simp only [List.all_cons, List.all_nil, okA, o1, o2, Bool.and_true]; rfl
 ·simp only [List.map_cons, List.map_nil, closeA, q1, q2]; rfl
set_option maxRecDepth 100000 in
theorem refParse17 (tx : Bs) (hs : tx.length ≤ 1000) : PC Tryd.prog G0 17 [.str tx] (parRO (parseA tx)) := by
 have hsp1 := refSplit49 tx 10 (by omega)
 have e10 : (((10 : UInt8).toNat : Nat) : Int) = 10 := rfl
 have e32 : (((32 : UInt8).toNat : Nat) : Int) = 32 := rfl
 rw [e10] at hsp1
 have hno := @parse_no tx
 have hone := @parse_one tx
 have hmore := @parse_more tx
 have hLl := splitC_len 10 tx
 have hLp := splitC_part 10 tx
 have hLe := splitC_ne 10 tx
 generalize splitC 10 tx = LL at *
 obtain ⟨m, hm⟩ : ∃ m, LL.length = m + 1 := ⟨LL.length - 1, by have := List.length_pos_iff.2 hLe; omega⟩
 have hno := hno hm
 have hS1 := length_strs LL
 rw [hm] at hS1
 have hidL : ∀ p, idsE p (strs LL) = true := fun p => idsE_strs _ _
 have hgL := getD_strs LL
 rw [hm] at hgL
 have hsub1 : IntKind.i64.wrap ((m : Int) + 1 - 1) = m := by
  rw [Int.add_sub_cancel, wrap64 _ (by omega) (by omega)]
 have eN := hgL m (by omega)
 have e0 := hgL 0 (by omega)
 have hf0 : (LL.getD 0 []).length ≤ 1000 := by have := hLp _ (getD_mem (d := []) (i := 0) (by omega)); omega
 by_cases c1 : LL.getD m [] = []
 ·rw [c1] at eN
  clear hno
  have hsp2 := refSplit49 (LL.getD 0 []) 32 (by omega)
  rw [e32] at hsp2
  by_cases c2 : m = 0
  ·subst c2
   rw [hone hm]
   unfold parRO dA0
   generalize LL.getD 0 [] = f0 at *
   subst c1
   refine pc_go 1 128 [.cell 2 36, .tmp 3] Tryd.func17 rfl rfl rfl (by simp) ?_
   intro s ⟨a0, hz⟩
   clear hz
   repeat' (first|(first|refine nav ?_|(refine g0_ ?_; first|refine go_drawN (dr := allQ) (p := [1, 1, 1, 1, 0, 0, 1, 0, 0, 1, 0, 1, 1, 1, 1, 1, 1, 1]) [(111, 7), (112, 111), (114, 113), (115, 114), (119, 7), (117, 116)] [(110, some 107), (118, some 112), (107, some 110), (112, some 118)] [] rfl rfl mixed (by kernel_rfl) ?_|refine go_draw (dr := allQ) rfl rfl mixed (by first|assumption|kernel_rfl) ?_))|(with_reducible refine And.intro (at_go ?_) (at_go ?_))|((with_reducible refine And.intro (fun h => ?_) (fun h => ?_)) <;> try (exfalso; omega))|(with_reducible refine andG ?_)|(refine And.intro ⟨[_], rfl⟩ ?_)|(refine And.intro ⟨[], by simp only [List.append_nil]⟩ ?_)|(first|(refine ⟨_, _, pc_lift (hsp1) (by (simp [idsL, idsE, AV.ids, hidL])) _, ?_⟩)|(refine ⟨_, pc_lift (hsp1) (by (simp [idsL, idsE, AV.ids, hidL])) _, ?_⟩)|(refine ⟨_, fun _ => pc_lift (hsp1) (by (simp [idsL, idsE, AV.ids, hidL])) _, ?_⟩)|(refine ⟨_, _, pc_lift (hsp2) (by (simp [idsL, idsE, AV.ids, hidL])) _, ?_⟩)|(refine ⟨_, pc_lift (hsp2) (by (simp [idsL, idsE, AV.ids, hidL])) _, ?_⟩)|(refine ⟨_, fun _ => pc_lift (hsp2) (by (simp [idsL, idsE, AV.ids, hidL])) _, ?_⟩)|(refine ⟨AV.str [], ?_⟩; refine acc_id ?_))|simp (disch := (first|exact discB|fail)) only [push_cast, ↓reduceIte, reduceIte, reduceCtorEq, Nat.reduceAdd, Nat.reduceLT, Nat.reduceEqDiff, Nat.reduceLeDiff, Int.reduceAdd, Int.reduceLT, Int.reduceLE, Nat.reduceMul, a0, hS1, hsub1, eN, e0, Int.sub_self, Int.toNat_zero])
  ·obtain ⟨k, rfl⟩ : ∃ k, m = k + 1 := ⟨m - 1, by omega⟩
   obtain ⟨L, hL1, hL2, hL3⟩ := hmore hm c1
   rw [hL3]
   obtain ⟨f0, Lr, rfl⟩ := List.exists_cons_of_ne_nil (show L ≠ [] by rintro rfl; simp at hL1)
   have hL1' : Lr.length = k := by simpa using hL1
   subst hL1'
   have hLe0 : LL.getD 0 [] = f0 := by rw [hL2]; rfl
   have hLk : ∀ j, j < Lr.length → LL.getD (j + 1) [] = Lr.getD j [] := fun j hj => by
    rw [hL2, List.getD_eq_getElem?_getD, List.getElem?_append_left (by simp; omega), List.getElem?_cons_succ, ← List.getD_eq_getElem?_getD]
   rw [hLe0] at hsp2 e0 hf0
   have hLn : Lr.length + 2 ≤ 1001 := by omega
   have hsub2 : IntKind.i64.wrap ((Lr.length : Int) + 1 + 1 - 2) = Lr.length := by
    rw [show (Lr.length : Int) + 1 + 1 - 2 = Lr.length by omega, wrap64 _ (by omega) (by omega)]
   have hsub1 : IntKind.i64.wrap ((Lr.length : Int) + 1 + 1 - 1) = Lr.length + 1 := by
    rw [Int.add_sub_cancel, wrap64 _ (by omega) (by omega)]
   have htn2 : Int.toNat 2 = 2 := rfl
   have htn : ((Lr.length : Int) + 1).toNat = Lr.length + 1 := by omega
   have hFl := splitC_len 32 f0
   have hFp := splitC_part 32 f0
   have hno := @linesP_no (f0 :: Lr)
   have hyes := @linesP_yes (f0 :: Lr)
   simp only [List.headD_cons, List.tail_cons, List.length_cons, Nat.add_sub_cancel] at hno hyes
   clear hL3 hmore hone
   generalize hF : splitC 32 f0 = F at *
   have hS2 := length_strs F
   have hgF := getD_strs F
   have hidF : ∀ p, idsE p (strs F) = true := fun p => idsE_strs _ _
   have hc2 : ¬ ((Lr.length : Int) + 1 + 1 < 2) := by omega
   by_cases c3 : F.length = 3
   ·obtain ⟨w0, w1, w2, rfl⟩ : ∃ w0 w1 w2, F = [w0, w1, w2] := by
     match F, c3 with
     | [a, b, c], _ => exact ⟨a, b, c, rfl⟩
    have hw1 := hFp w1 (by simp)
    have hw2 := hFp w2 (by simp)
    have hI1 := refInteger50 w1 (by omega)
    have hI2 := refInteger50 w2 (by omega)
    have hF3 : strs [w0, w1, w2] = [[.str w0], [.str w1], [.str w2]] := rfl
    rw [hF3] at hsp2
    clear hF3
    simp only [List.headD_cons, List.tail_cons] at hno hyes
    clear hgF hS2
    have hb1 := intR_bd w1
    have hb2 := intR_bd w2
    by_cases c4 : w0 = headA
    ·by_cases c5 : intR w1 < 0
     ·rw [hno (by
       rintro ⟨A, n, h, _⟩
       rw [ints4, intR_lt c5] at h; cases h)]
      unfold headA at c4
      subst c4
      unfold parRO dA0
      refine pc_go 1 128 [.cell 2 36, .tmp 3] Tryd.func17 rfl rfl rfl (by simp) ?_
      intro s ⟨a0, hz⟩
      clear hz
      repeat' (first|(first|refine nav ?_|(refine g0_ ?_; first|refine go_drawN (dr := allQ) (p := [1, 1, 1, 1, 0, 0, 1, 0, 0, 1, 0, 1, 1, 1, 1, 1, 1, 1]) [(111, 7), (112, 111), (114, 113), (115, 114), (119, 7), (117, 116)] [(110, some 107), (118, some 112), (107, some 110), (112, some 118)] [] rfl rfl mixed (by kernel_rfl) ?_|refine go_draw (dr := allQ) rfl rfl mixed (by first|assumption|kernel_rfl) ?_))|(with_reducible refine And.intro (at_go ?_) (at_go ?_))|((with_reducible refine And.intro (fun h => ?_) (fun h => ?_)) <;> try (exfalso; omega))|(with_reducible refine andG ?_)|(refine And.intro ⟨[_], rfl⟩ ?_)|(refine And.intro ⟨[], by simp only [List.append_nil]⟩ ?_)|(first|(refine ⟨_, _, pc_lift (hsp1) (by (simp [idsL, idsE, AV.ids, hidL])) _, ?_⟩)|(refine ⟨_, pc_lift (hsp1) (by (simp [idsL, idsE, AV.ids, hidL])) _, ?_⟩)|(refine ⟨_, fun _ => pc_lift (hsp1) (by (simp [idsL, idsE, AV.ids, hidL])) _, ?_⟩)|(refine ⟨_, _, pc_lift (hsp2) (by (simp [idsL, idsE, AV.ids, hidL])) _, ?_⟩)|(refine ⟨_, pc_lift (hsp2) (by (simp [idsL, idsE, AV.ids, hidL])) _, ?_⟩)|(refine ⟨_, fun _ => pc_lift (hsp2) (by (simp [idsL, idsE, AV.ids, hidL])) _, ?_⟩)|(refine ⟨_, _, pc_lift (hI1) (by (simp [idsL, idsE, AV.ids, hidL])) _, ?_⟩)|(refine ⟨_, pc_lift (hI1) (by (simp [idsL, idsE, AV.ids, hidL])) _, ?_⟩)|(refine ⟨_, fun _ => pc_lift (hI1) (by (simp [idsL, idsE, AV.ids, hidL])) _, ?_⟩)|(refine ⟨AV.str [], ?_⟩; refine acc_id ?_))|simp (disch := (first|exact discB|fail)) only [push_cast, ↓reduceIte, reduceIte, reduceCtorEq, Nat.reduceAdd, Nat.reduceLT, Nat.reduceEqDiff, Nat.reduceLeDiff, Int.reduceAdd, Int.reduceLT, Int.reduceLE, Nat.reduceMul, a0, hS1, hsub1, hsub2, htn, htn2, eN, e0, hc2, c5])
     ·by_cases c6 : intR w2 = (Lr.length : Int)
      ·have hi1 := intR_some (f := w1) (by omega)
       have hi2 := intR_some (f := w2) (by omega)
       rw [hyes (A := intR w1) (n := intR w2) (by rw [ints4, hi1, ints4, hi2]; rfl) c4 c6]
       clear hno hyes
       generalize intR w1 = A0 at *
       generalize intR w2 = n0 at *
       subst c6
       have hRn : rowsP Lr = none → parRO (match rowsP Lr with|none => none|some rows => some (A0, rows)) = .tup [.agg [.int .i64 0, .sl 0 [] (some 0), .sl 0 [] (some 0)], .int .i64 4] := fun h => by rw [h]; rfl
       have hRs : ∀ rows, rowsP Lr = some rows → parRO (match rowsP Lr with|none => none|some rows => some (A0, rows)) = parRO (some (A0, rows)) := fun rows h => by rw [h]
       generalize parRO (match rowsP Lr with|none => none|some rows => some (A0, rows)) = R at *
       have hnx := fun k rows hk h => rowsP_next (l := Lr) (k := k) (xs := rows) hk h
       have hLp' : ∀ f ∈ Lr, f.length ≤ 1000 := fun f hf => by
        have := hLp f (by rw [hL2]; simp [hf])
        omega
       clear hL2 hLp
       unfold headA at c4
       subst c4
       refine pc_go 1 128 [.cell 2 36, .tmp 3] Tryd.func17 rfl rfl rfl (by simp) ?_
       intro s ⟨a0, hz⟩
       clear hz
       repeat' (first|(first|refine nav ?_|(refine g0_ ?_; first|refine go_drawN (dr := allQ) (p := [1, 1, 1, 1, 0, 0, 1, 0, 0, 1, 0, 1, 1, 1, 1, 1, 1, 1]) [(111, 7), (112, 111), (114, 113), (115, 114), (119, 7), (117, 116)] [(110, some 107), (118, some 112), (107, some 110), (112, some 118)] [] rfl rfl mixed (by kernel_rfl) ?_|refine go_draw (dr := allQ) rfl rfl mixed (by first|assumption|kernel_rfl) ?_))|(with_reducible refine And.intro (at_go ?_) (at_go ?_))|((with_reducible refine And.intro (fun h => ?_) (fun h => ?_)) <;> try (exfalso; omega))|(with_reducible refine andG ?_)|(refine And.intro ⟨[_], rfl⟩ ?_)|(refine And.intro ⟨[], by simp only [List.append_nil]⟩ ?_)|(first|(refine ⟨_, _, pc_lift (hsp1) (by (simp [idsL, idsE, AV.ids, hidL])) _, ?_⟩)|(refine ⟨_, pc_lift (hsp1) (by (simp [idsL, idsE, AV.ids, hidL])) _, ?_⟩)|(refine ⟨_, fun _ => pc_lift (hsp1) (by (simp [idsL, idsE, AV.ids, hidL])) _, ?_⟩)|(refine ⟨_, _, pc_lift (hsp2) (by (simp [idsL, idsE, AV.ids, hidL])) _, ?_⟩)|(refine ⟨_, pc_lift (hsp2) (by (simp [idsL, idsE, AV.ids, hidL])) _, ?_⟩)|(refine ⟨_, fun _ => pc_lift (hsp2) (by (simp [idsL, idsE, AV.ids, hidL])) _, ?_⟩)|(refine ⟨_, _, pc_lift (hI1) (by (simp [idsL, idsE, AV.ids, hidL])) _, ?_⟩)|(refine ⟨_, pc_lift (hI1) (by (simp [idsL, idsE, AV.ids, hidL])) _, ?_⟩)|(refine ⟨_, fun _ => pc_lift (hI1) (by (simp [idsL, idsE, AV.ids, hidL])) _, ?_⟩)|(refine ⟨_, _, pc_lift (hI2) (by (simp [idsL, idsE, AV.ids, hidL])) _, ?_⟩)|(refine ⟨_, pc_lift (hI2) (by (simp [idsL, idsE, AV.ids, hidL])) _, ?_⟩)|(refine ⟨_, fun _ => pc_lift (hI2) (by (simp [idsL, idsE, AV.ids, hidL])) _, ?_⟩))|simp (disch := (first|exact discB|fail)) only [push_cast, ↓reduceIte, reduceIte, reduceCtorEq, Nat.reduceAdd, Nat.reduceLT, Nat.reduceEqDiff, Nat.reduceLeDiff, Int.reduceAdd, Int.reduceLT, Int.reduceLE, Nat.reduceMul, a0, hS1, hsub1, hsub2, htn, htn2, eN, e0, hc2, c5])
       refine go_weak (by first|exact sideB|fail) (weak_nil_cell (b := 1) (i := 0) (j := 1) (sz := 1) (ty := 26) rfl rfl rfl) ?_
       refine go_weak (by trivial) (weak_nil_cell (b := 1) (i := 0) (j := 2) (sz := 1) (ty := 4) rfl rfl rfl) ?_
       repeat' (first|(first|refine nav ?_|(refine g0_ ?_; first|refine go_drawN (dr := allQ) (p := [1, 1, 1, 1, 0, 0, 1, 0, 0, 1, 0, 1, 1, 1, 1, 1, 1, 1]) [(111, 7), (112, 111), (114, 113), (115, 114), (119, 7), (117, 116)] [(110, some 107), (118, some 112), (107, some 110), (112, some 118)] [] rfl rfl mixed (by kernel_rfl) ?_|refine go_draw (dr := allQ) rfl rfl mixed (by first|assumption|kernel_rfl) ?_))|(with_reducible refine And.intro (at_go ?_) (at_go ?_))|((with_reducible refine And.intro (fun h => ?_) (fun h => ?_)) <;> try (exfalso; omega))|(with_reducible refine andG ?_)|(refine And.intro ⟨[_], rfl⟩ ?_)|(refine And.intro ⟨[], by simp only [List.append_nil]⟩ ?_)|fail|simp (disch := (first|exact discB|fail)) only [push_cast, ↓reduceIte, reduceIte, reduceCtorEq, Nat.reduceAdd, Nat.reduceLT, Nat.reduceEqDiff, Nat.reduceLeDiff, Int.reduceAdd, Int.reduceLT, Int.reduceLE, Nat.reduceMul, a0, hS1, hsub1, hsub2, htn, htn2, eN, e0, hc2, c5])
       have hLl1 : LL.length = Lr.length + 1 + 1 := hm
       refine go_loop rfl (fun mz s' H' => ∃ (k : Nat) (rows : List (List Int × Bool)), k ≤ Lr.length ∧ mz = Lr.length - k ∧ rowsP (Lr.take k) = some rows ∧ H' = [.row 3 36 [[.int .i64 0, .sl 0 [] (some 0), .sl 0 [] (some 0)]], .row 3 36 [[.int .i64 A0, .own 2 k k none, .own 3 k k none]], .row 1 26 (rowL (lcN rows)), .row 1 4 (bools (acP rows))] ∧ s' 2 = .ptr 0 0 0 1 ∧ s' 4 = .sl 1 (strs LL) none ∧ s' 5 = .int .i64 ((Lr.length : Int) + 1 + 1) ∧ s' 7 = .ptr 1 0 0 1 ∧ s' 8 = .int .i64 ((k : Int) + 1)) (m := Lr.length) (by first|exact sideB|fail) (Weak.refl _ _) ⟨0, [], by omega, by omega, rfl, rfl, ?_⟩ ?_
       ·simp (disch := (first|exact discB|fail)) only [push_cast, ↓reduceIte, reduceIte, reduceCtorEq, Nat.reduceAdd, Nat.reduceLT, Nat.reduceEqDiff, Nat.reduceLeDiff, Int.reduceAdd, Int.reduceLT, Int.reduceLE, Nat.reduceMul, a0, hS1, hsub1, hsub2, htn, htn2, eN, e0, hc2, c5]
       ·rintro mz s' H' ⟨k, rows, hk, rfl, hrw, rfl, b2, b4, b5, b7, b8⟩
        have hrl := rowsP_len hrw
        rw [List.length_take, Nat.min_eq_left hk] at hrl
        have hl1 : (rowL (lcN rows)).length = k := by rw [length_rowL, lcN_len, hrl]
        have hl2 : (bools (acP rows)).length = k := by rw [length_bools, acP_len, hrl]
        have hidl1 : ∀ p, idsE p (rowL (lcN rows)) = true := fun p => idsE_rowL _ _
        have hidl2 : ∀ p, idsE p (bools (acP rows)) = true := fun p => idsE_bools _ _
        have et1 : (rowL (lcN rows)).take k = rowL (lcN rows) := List.take_of_length_le (by omega)
        have et2 : (bools (acP rows)).take k = bools (acP rows) := List.take_of_length_le (by omega)
        have ed1 : (rowL (lcN rows)).drop (k + 1) = [] := List.drop_eq_nil_of_le (by omega)
        have ed2 : (bools (acP rows)).drop (k + 1) = [] := List.drop_eq_nil_of_le (by omega)
        rcases Nat.lt_or_ge k Lr.length with hlt|hge
        ·have e1 := hgL (k + 1) (by omega)
         rw [hLk k hlt] at e1
         have htk : ((k : Int) + 1).toNat = k + 1 := by omega
         have hkl : (k : Int) + 1 < Lr.length + 1 := by omega
         have hnx := hnx k rows hlt hrw
         have hfp := hLp' _ (getD_mem (d := []) hlt)
         generalize Lr.getD k [] = line at *
         have hQl := splitC_len 32 line
         have hQp := splitC_part 32 line
         have hsp3 := refSplit49 line 32 (by omega)
         rw [e32] at hsp3
         have hlp : lineP line = match ints4 (splitC 32 line).tail with|none => none|some row => if (splitC 32 line).headD [] = [43] then some (row, true) else if (splitC 32 line).headD [] = [45] then some (row, false) else none := rfl
         generalize hQ : splitC 32 line = Qs at *
         obtain ⟨w, ws, rfl⟩ := List.exists_cons_of_ne_nil (show Qs ≠ [] from hQ ▸ splitC_ne 32 line)
         simp only [List.headD_cons, List.tail_cons] at hlp
         rw [strs_cons] at hsp3
         have hS3 := length_strs ws
         have hidw : ∀ p, idsE p (strs ws) = true := fun p => idsE_strs _ _
         have hgw := getD_strs ws
         have hwsl : ws.length ≤ 1000 := by simp only [List.length_cons] at hQl; omega
         by_cases d1 : w = [43]
         ·subst d1
          replace hlp : lineP line = match ints4 ws with|none => none|some row => some (row, true) := by rw [hlp]; cases ints4 ws <;> rfl
          repeat' (first|(first|refine nav ?_|(refine g0_ ?_; first|refine go_drawN (dr := allQ) (p := [1, 1, 1, 1, 0, 0, 1, 0, 0, 1, 0, 1, 1, 1, 1, 1, 1, 1]) [(111, 7), (112, 111), (114, 113), (115, 114), (119, 7), (117, 116)] [(110, some 107), (118, some 112), (107, some 110), (112, some 118)] [] rfl rfl mixed (by kernel_rfl) ?_|refine go_draw (dr := allQ) rfl rfl mixed (by first|assumption|kernel_rfl) ?_))|(with_reducible refine And.intro (at_go ?_) (at_go ?_))|((with_reducible refine And.intro (fun h => ?_) (fun h => ?_)) <;> try (exfalso; omega))|(with_reducible refine andG ?_)|(refine And.intro ⟨[_], rfl⟩ ?_)|(refine And.intro ⟨[], by simp only [List.append_nil]⟩ ?_)|(first|(refine ⟨_, _, pc_lift (hsp3) (by (simp [idsL, idsE, AV.ids, hidw, hidl1, hidl2])) _, ?_⟩)|(refine ⟨_, pc_lift (hsp3) (by (simp [idsL, idsE, AV.ids, hidw, hidl1, hidl2])) _, ?_⟩)|(refine ⟨_, fun _ => pc_lift (hsp3) (by (simp [idsL, idsE, AV.ids, hidw, hidl1, hidl2])) _, ?_⟩))|simp (disch := (first|exact discB|fail)) only [push_cast, ↓reduceIte, reduceIte, reduceCtorEq, Nat.reduceAdd, Nat.reduceLT, Nat.reduceEqDiff, Nat.reduceLeDiff, Int.reduceAdd, Int.reduceLT, Int.reduceLE, Nat.reduceMul, b2, b4, b5, b7, b8, hsub1, hkl, htk, e1, hl1, hl2, hS3])
          refine go_loop rfl (fun mz s' H' => ∃ (j : Nat) (xs : List Int), j ≤ ws.length ∧ mz = ws.length - j ∧ ints4 (ws.take j) = some xs ∧ H' = [.row 3 36 [[.int .i64 0, .sl 0 [] (some 0), .sl 0 [] (some 0)]], .row 3 36 [[.int .i64 A0, .own 2 k k none, .own 3 k k none]], .row 1 26 (rowL (lcN rows)), .row 1 4 (bools (acP rows)), .row 1 3 (ints xs)] ∧ s' 2 = .ptr 0 0 0 1 ∧ s' 4 = .sl 1 (strs LL) none ∧ s' 5 = .int .i64 ((Lr.length : Int) + 1 + 1) ∧ s' 7 = .ptr 1 0 0 1 ∧ s' 8 = .int .i64 ((k : Int) + 1) ∧ s' 9 = .sl 1 ([.str (signA true)] :: strs ws) none ∧ s' 10 = .own 4 j j none ∧ s' 11 = .int .i64 ((j : Int) + 1)) (m := ws.length) (by first|exact sideB|fail) (weak_nil (t := 10) (sz := 1) (ty := 3) rfl) ⟨0, [], by omega, by omega, rfl, rfl, ?_⟩ ?_
          ·unfold signA
           simp (disch := (first|exact discB|fail)) only [push_cast, ↓reduceIte, reduceIte, reduceCtorEq, Nat.reduceAdd, Nat.reduceLT, Nat.reduceEqDiff, Nat.reduceLeDiff, Int.reduceAdd, Int.reduceLT, Int.reduceLE, Nat.reduceMul, b2, b4, b5, b7, b8, hsub1, hkl, htk, e1, hl1, hl2, hS3]
          ·rintro mz s' H' ⟨j, xs, hj, rfl, hxs, rfl, b2, b4, b5, b7, b8, b9, b10, b11⟩
           have hxl := ints4_len hxs
           rw [List.length_take, Nat.min_eq_left hj] at hxl
           have hil := length_ints xs
           have hidx : ∀ p, idsE p (ints xs) = true := fun p => idsE_ints _ _
           unfold signA at b9
           rcases Nat.lt_or_ge j ws.length with hlj|hgj
           ·have e3 := hgw j hlj
            have htj : ((j : Int) + 1).toNat = j + 1 := by omega
            have hjl : (j : Int) + 1 < ws.length + 1 := by omega
            have hI := refInteger50 (ws.getD j []) (by have := hQp _ (List.mem_cons_of_mem _ (getD_mem (d := []) hlj)); omega)
            have hin := ints4_next hlj hxs
            have hbd := intR_bd (ws.getD j [])
            have hlt0 := @intR_lt (ws.getD j [])
            have hge0 := @intR_some (ws.getD j [])
            generalize ws.getD j [] = f at *
            by_cases c8 : intR f < 0
            ·rw [hin.2 (hlt0 c8)] at hlp
             obtain rfl := hRn (hnx.2 hlp)
             repeat' (first|(first|refine nav ?_|(refine g0_ ?_; first|refine go_drawN (dr := allQ) (p := [1, 1, 1, 1, 0, 0, 1, 0, 0, 1, 0, 1, 1, 1, 1, 1, 1, 1]) [(111, 7), (112, 111), (114, 113), (115, 114), (119, 7), (117, 116)] [(110, some 107), (118, some 112), (107, some 110), (112, some 118)] [] rfl rfl mixed (by kernel_rfl) ?_|refine go_draw (dr := allQ) rfl rfl mixed (by first|assumption|kernel_rfl) ?_))|(with_reducible refine And.intro (at_go ?_) (at_go ?_))|((with_reducible refine And.intro (fun h => ?_) (fun h => ?_)) <;> try (exfalso; omega))|(with_reducible refine andG ?_)|(refine And.intro ⟨[_], rfl⟩ ?_)|(refine And.intro ⟨[], by simp only [List.append_nil]⟩ ?_)|(first|(refine ⟨_, _, pc_lift (hI) (by (simp [idsL, idsE, AV.ids, hidw, hidl1, hidl2, hidx])) _, ?_⟩)|(refine ⟨_, pc_lift (hI) (by (simp [idsL, idsE, AV.ids, hidw, hidl1, hidl2, hidx])) _, ?_⟩)|(refine ⟨_, fun _ => pc_lift (hI) (by (simp [idsL, idsE, AV.ids, hidw, hidl1, hidl2, hidx])) _, ?_⟩))|simp (disch := (first|exact discB|fail)) only [push_cast, ↓reduceIte, reduceIte, reduceCtorEq, Nat.reduceAdd, Nat.reduceLT, Nat.reduceEqDiff, Nat.reduceLeDiff, Int.reduceAdd, Int.reduceLT, Int.reduceLE, Nat.reduceMul, b2, b4, b5, b7, b8, b9, b10, b11, hsub1, htj, hjl, e3, hS3, c8])
            ·have hxs2 := hin.1 _ (hge0 (by omega))
             have hsx := ints_snoc xs (intR f)
             have eti : (ints xs).take j = ints xs := List.take_of_length_le (by omega)
             have edi : (ints xs).drop (j + 1) = [] := List.drop_eq_nil_of_le (by omega)
             generalize intR f = v at *
             repeat' (first|(first|refine nav ?_|(refine g0_ ?_; first|refine go_drawN (dr := allQ) (p := [1, 1, 1, 1, 0, 0, 1, 0, 0, 1, 0, 1, 1, 1, 1, 1, 1, 1]) [(111, 7), (112, 111), (114, 113), (115, 114), (119, 7), (117, 116)] [(110, some 107), (118, some 112), (107, some 110), (112, some 118)] [] rfl rfl mixed (by kernel_rfl) ?_|refine go_draw (dr := allQ) rfl rfl mixed (by first|assumption|kernel_rfl) ?_))|(with_reducible refine And.intro (at_go ?_) (at_go ?_))|((with_reducible refine And.intro (fun h => ?_) (fun h => ?_)) <;> try (exfalso; omega))|(with_reducible refine andG ?_)|(refine And.intro ⟨[_], rfl⟩ ?_)|(refine And.intro ⟨[], by simp only [List.append_nil]⟩ ?_)|(first|(refine ⟨_, _, pc_lift (hI) (by (simp [idsL, idsE, AV.ids, hidw, hidl1, hidl2, hidx])) _, ?_⟩)|(refine ⟨_, pc_lift (hI) (by (simp [idsL, idsE, AV.ids, hidw, hidl1, hidl2, hidx])) _, ?_⟩)|(refine ⟨_, fun _ => pc_lift (hI) (by (simp [idsL, idsE, AV.ids, hidw, hidl1, hidl2, hidx])) _, ?_⟩))|simp (disch := (first|exact discB|fail)) only [push_cast, ↓reduceIte, reduceIte, reduceCtorEq, Nat.reduceAdd, Nat.reduceLT, Nat.reduceEqDiff, Nat.reduceLeDiff, Int.reduceAdd, Int.reduceLT, Int.reduceLE, Nat.reduceMul, b2, b4, b5, b7, b8, b9, b10, b11, hsub1, htj, hjl, e3, hS3, c8, hil, hxl, eti, edi])
             refine out_round (ws.length - (j + 1)) (by omega) (by first|exact sideB|fail) ⟨j + 1, _, by omega, rfl, hxs2, by rw [← hsx], ?_⟩
             unfold signA
             simp (disch := (first|exact discB|fail)) only [push_cast, ↓reduceIte, reduceIte, reduceCtorEq, Nat.reduceAdd, Nat.reduceLT, Nat.reduceEqDiff, Nat.reduceLeDiff, Int.reduceAdd, Int.reduceLT, Int.reduceLE, Nat.reduceMul, b2, b4, b5, b7, b8, b9, b10, b11, hsub1, htj, hjl, e3, hS3, c8, hil, hxl, eti, edi]
           ·obtain rfl : ws.length = j := by omega
            rw [List.take_length] at hxs
            have hjl : ¬ ((ws.length : Int) + 1 < ws.length + 1) := by omega
            rw [hxs] at hlp
            have hn1 := hnx.1 _ hlp
            have hs1 := lcN_snoc rows (xs, true)
            have hs2 := acP_snoc rows (xs, true)
            have hel : (ints xs).length = ws.length := by omega
            have hex : (ints xs).take ws.length = ints xs := List.take_of_length_le (by omega)
            repeat' (first|(first|refine nav ?_|(refine g0_ ?_; first|refine go_drawN (dr := allQ) (p := [1, 1, 1, 1, 0, 0, 1, 0, 0, 1, 0, 1, 1, 1, 1, 1, 1, 1]) [(111, 7), (112, 111), (114, 113), (115, 114), (119, 7), (117, 116)] [(110, some 107), (118, some 112), (107, some 110), (112, some 118)] [] rfl rfl mixed (by kernel_rfl) ?_|refine go_draw (dr := allQ) rfl rfl mixed (by first|assumption|kernel_rfl) ?_))|(with_reducible refine And.intro (at_go ?_) (at_go ?_))|((with_reducible refine And.intro (fun h => ?_) (fun h => ?_)) <;> try (exfalso; omega))|(with_reducible refine andG ?_)|(refine And.intro ⟨[_], rfl⟩ ?_)|(refine And.intro ⟨[], by simp only [List.append_nil]⟩ ?_)|fail|simp (disch := (first|exact discB|fail)) only [push_cast, ↓reduceIte, reduceIte, reduceCtorEq, Nat.reduceAdd, Nat.reduceLT, Nat.reduceEqDiff, Nat.reduceLeDiff, Int.reduceAdd, Int.reduceLT, Int.reduceLE, Nat.reduceMul, b2, b4, b5, b7, b8, b9, b10, b11, hsub1, hjl, hS3, hil, hxl, hl1, hl2, et1, et2, ed1, ed2])
            refine out_round_frz (Lr.length - (k + 1)) 4 (j := 4) rfl (by omega) (by first|exact sideB|fail) (by omega) (by simp [frzH]) (by simp [frzH, frzB, frz, Blk.below, idsE, idsL, AV.ids, map_frz, deadRow, hidl1, hidl2, hidx, hel, hex]) ⟨k + 1, _, by omega, rfl, hn1, ?_, ?_⟩
            ·rw [← hs1, ← hs2]
             simp [frzH, frzB, frz, map_frz, hidl1, hidl2, hidx, hel, hex]
            ·skip
             simp (disch := (first|exact discB|fail)) only [push_cast, ↓reduceIte, reduceIte, reduceCtorEq, Nat.reduceAdd, Nat.reduceLT, Nat.reduceEqDiff, Nat.reduceLeDiff, Int.reduceAdd, Int.reduceLT, Int.reduceLE, Nat.reduceMul, b2, b4, b5, b7, b8, scrub, frz, AV.ids, idsL]
             rw [if_pos (hidL _)]
         ·by_cases d2 : w = [45]
          ·have hne : ¬ ([45] : List UInt8) = [43] := by decide
           subst d2
           replace hlp : lineP line = match ints4 ws with|none => none|some row => some (row, false) := by rw [hlp]; cases ints4 ws <;> rfl
           repeat' (first|(first|refine nav ?_|(refine g0_ ?_; first|refine go_drawN (dr := allQ) (p := [1, 1, 1, 1, 0, 0, 1, 0, 0, 1, 0, 1, 1, 1, 1, 1, 1, 1]) [(111, 7), (112, 111), (114, 113), (115, 114), (119, 7), (117, 116)] [(110, some 107), (118, some 112), (107, some 110), (112, some 118)] [] rfl rfl mixed (by kernel_rfl) ?_|refine go_draw (dr := allQ) rfl rfl mixed (by first|assumption|kernel_rfl) ?_))|(with_reducible refine And.intro (at_go ?_) (at_go ?_))|((with_reducible refine And.intro (fun h => ?_) (fun h => ?_)) <;> try (exfalso; omega))|(with_reducible refine andG ?_)|(refine And.intro ⟨[_], rfl⟩ ?_)|(refine And.intro ⟨[], by simp only [List.append_nil]⟩ ?_)|(first|(refine ⟨_, _, pc_lift (hsp3) (by (simp [idsL, idsE, AV.ids, hidw, hidl1, hidl2])) _, ?_⟩)|(refine ⟨_, pc_lift (hsp3) (by (simp [idsL, idsE, AV.ids, hidw, hidl1, hidl2])) _, ?_⟩)|(refine ⟨_, fun _ => pc_lift (hsp3) (by (simp [idsL, idsE, AV.ids, hidw, hidl1, hidl2])) _, ?_⟩))|simp (disch := (first|exact discB|fail)) only [push_cast, ↓reduceIte, reduceIte, reduceCtorEq, Nat.reduceAdd, Nat.reduceLT, Nat.reduceEqDiff, Nat.reduceLeDiff, Int.reduceAdd, Int.reduceLT, Int.reduceLE, Nat.reduceMul, b2, b4, b5, b7, b8, hsub1, hkl, htk, e1, hl1, hl2, hS3, hne])
           refine go_loop rfl (fun mz s' H' => ∃ (j : Nat) (xs : List Int), j ≤ ws.length ∧ mz = ws.length - j ∧ ints4 (ws.take j) = some xs ∧ H' = [.row 3 36 [[.int .i64 0, .sl 0 [] (some 0), .sl 0 [] (some 0)]], .row 3 36 [[.int .i64 A0, .own 2 k k none, .own 3 k k none]], .row 1 26 (rowL (lcN rows)), .row 1 4 (bools (acP rows)), .row 1 3 (ints xs)] ∧ s' 2 = .ptr 0 0 0 1 ∧ s' 4 = .sl 1 (strs LL) none ∧ s' 5 = .int .i64 ((Lr.length : Int) + 1 + 1) ∧ s' 7 = .ptr 1 0 0 1 ∧ s' 8 = .int .i64 ((k : Int) + 1) ∧ s' 9 = .sl 1 ([.str (signA false)] :: strs ws) none ∧ s' 10 = .own 4 j j none ∧ s' 11 = .int .i64 ((j : Int) + 1)) (m := ws.length) (by first|exact sideB|fail) (weak_nil (t := 10) (sz := 1) (ty := 3) rfl) ⟨0, [], by omega, by omega, rfl, rfl, ?_⟩ ?_
           ·unfold signA
            simp (disch := (first|exact discB|fail)) only [push_cast, ↓reduceIte, reduceIte, reduceCtorEq, Nat.reduceAdd, Nat.reduceLT, Nat.reduceEqDiff, Nat.reduceLeDiff, Int.reduceAdd, Int.reduceLT, Int.reduceLE, Nat.reduceMul, b2, b4, b5, b7, b8, hsub1, hkl, htk, e1, hl1, hl2, hS3, hne]
           ·rintro mz s' H' ⟨j, xs, hj, rfl, hxs, rfl, b2, b4, b5, b7, b8, b9, b10, b11⟩
            have hxl := ints4_len hxs
            rw [List.length_take, Nat.min_eq_left hj] at hxl
            have hil := length_ints xs
            have hidx : ∀ p, idsE p (ints xs) = true := fun p => idsE_ints _ _
            unfold signA at b9
            rcases Nat.lt_or_ge j ws.length with hlj|hgj
            ·have e3 := hgw j hlj
             have htj : ((j : Int) + 1).toNat = j + 1 := by omega
             have hjl : (j : Int) + 1 < ws.length + 1 := by omega
             have hI := refInteger50 (ws.getD j []) (by have := hQp _ (List.mem_cons_of_mem _ (getD_mem (d := []) hlj)); omega)
             have hin := ints4_next hlj hxs
             have hbd := intR_bd (ws.getD j [])
             have hlt0 := @intR_lt (ws.getD j [])
             have hge0 := @intR_some (ws.getD j [])
             generalize ws.getD j [] = f at *
             by_cases c8 : intR f < 0
             ·rw [hin.2 (hlt0 c8)] at hlp
              obtain rfl := hRn (hnx.2 hlp)
              repeat' (first|(first|refine nav ?_|(refine g0_ ?_; first|refine go_drawN (dr := allQ) (p := [1, 1, 1, 1, 0, 0, 1, 0, 0, 1, 0, 1, 1, 1, 1, 1, 1, 1]) [(111, 7), (112, 111), (114, 113), (115, 114), (119, 7), (117, 116)] [(110, some 107), (118, some 112), (107, some 110), (112, some 118)] [] rfl rfl mixed (by kernel_rfl) ?_|refine go_draw (dr := allQ) rfl rfl mixed (by first|assumption|kernel_rfl) ?_))|(with_reducible refine And.intro (at_go ?_) (at_go ?_))|((with_reducible refine And.intro (fun h => ?_) (fun h => ?_)) <;> try (exfalso; omega))|(with_reducible refine andG ?_)|(refine And.intro ⟨[_], rfl⟩ ?_)|(refine And.intro ⟨[], by simp only [List.append_nil]⟩ ?_)|(first|(refine ⟨_, _, pc_lift (hI) (by (simp [idsL, idsE, AV.ids, hidw, hidl1, hidl2, hidx])) _, ?_⟩)|(refine ⟨_, pc_lift (hI) (by (simp [idsL, idsE, AV.ids, hidw, hidl1, hidl2, hidx])) _, ?_⟩)|(refine ⟨_, fun _ => pc_lift (hI) (by (simp [idsL, idsE, AV.ids, hidw, hidl1, hidl2, hidx])) _, ?_⟩))|simp (disch := (first|exact discB|fail)) only [push_cast, ↓reduceIte, reduceIte, reduceCtorEq, Nat.reduceAdd, Nat.reduceLT, Nat.reduceEqDiff, Nat.reduceLeDiff, Int.reduceAdd, Int.reduceLT, Int.reduceLE, Nat.reduceMul, b2, b4, b5, b7, b8, b9, b10, b11, hsub1, htj, hjl, e3, hS3, c8])
             ·have hxs2 := hin.1 _ (hge0 (by omega))
              have hsx := ints_snoc xs (intR f)
              have eti : (ints xs).take j = ints xs := List.take_of_length_le (by omega)
              have edi : (ints xs).drop (j + 1) = [] := List.drop_eq_nil_of_le (by omega)
              generalize intR f = v at *
              repeat' (first|(first|refine nav ?_|(refine g0_ ?_; first|refine go_drawN (dr := allQ) (p := [1, 1, 1, 1, 0, 0, 1, 0, 0, 1, 0, 1, 1, 1, 1, 1, 1, 1]) [(111, 7), (112, 111), (114, 113), (115, 114), (119, 7), (117, 116)] [(110, some 107), (118, some 112), (107, some 110), (112, some 118)] [] rfl rfl mixed (by kernel_rfl) ?_|refine go_draw (dr := allQ) rfl rfl mixed (by first|assumption|kernel_rfl) ?_))|(with_reducible refine And.intro (at_go ?_) (at_go ?_))|((with_reducible refine And.intro (fun h => ?_) (fun h => ?_)) <;> try (exfalso; omega))|(with_reducible refine andG ?_)|(refine And.intro ⟨[_], rfl⟩ ?_)|(refine And.intro ⟨[], by simp only [List.append_nil]⟩ ?_)|(first|(refine ⟨_, _, pc_lift (hI) (by (simp [idsL, idsE, AV.ids, hidw, hidl1, hidl2, hidx])) _, ?_⟩)|(refine ⟨_, pc_lift (hI) (by (simp [idsL, idsE, AV.ids, hidw, hidl1, hidl2, hidx])) _, ?_⟩)|(refine ⟨_, fun _ => pc_lift (hI) (by (simp [idsL, idsE, AV.ids, hidw, hidl1, hidl2, hidx])) _, ?_⟩))|simp (disch := (first|exact discB|fail)) only [push_cast, ↓reduceIte, reduceIte, reduceCtorEq, Nat.reduceAdd, Nat.reduceLT, Nat.reduceEqDiff, Nat.reduceLeDiff, Int.reduceAdd, Int.reduceLT, Int.reduceLE, Nat.reduceMul, b2, b4, b5, b7, b8, b9, b10, b11, hsub1, htj, hjl, e3, hS3, c8, hil, hxl, eti, edi])
              refine out_round (ws.length - (j + 1)) (by omega) (by first|exact sideB|fail) ⟨j + 1, _, by omega, rfl, hxs2, by rw [← hsx], ?_⟩
              unfold signA
              simp (disch := (first|exact discB|fail)) only [push_cast, ↓reduceIte, reduceIte, reduceCtorEq, Nat.reduceAdd, Nat.reduceLT, Nat.reduceEqDiff, Nat.reduceLeDiff, Int.reduceAdd, Int.reduceLT, Int.reduceLE, Nat.reduceMul, b2, b4, b5, b7, b8, b9, b10, b11, hsub1, htj, hjl, e3, hS3, c8, hil, hxl, eti, edi]
            ·obtain rfl : ws.length = j := by omega
             rw [List.take_length] at hxs
             have hjl : ¬ ((ws.length : Int) + 1 < ws.length + 1) := by omega
             rw [hxs] at hlp
             have hn1 := hnx.1 _ hlp
             have hs1 := lcN_snoc rows (xs, false)
             have hs2 := acP_snoc rows (xs, false)
             have hel : (ints xs).length = ws.length := by omega
             have hex : (ints xs).take ws.length = ints xs := List.take_of_length_le (by omega)
             repeat' (first|(first|refine nav ?_|(refine g0_ ?_; first|refine go_drawN (dr := allQ) (p := [1, 1, 1, 1, 0, 0, 1, 0, 0, 1, 0, 1, 1, 1, 1, 1, 1, 1]) [(111, 7), (112, 111), (114, 113), (115, 114), (119, 7), (117, 116)] [(110, some 107), (118, some 112), (107, some 110), (112, some 118)] [] rfl rfl mixed (by kernel_rfl) ?_|refine go_draw (dr := allQ) rfl rfl mixed (by first|assumption|kernel_rfl) ?_))|(with_reducible refine And.intro (at_go ?_) (at_go ?_))|((with_reducible refine And.intro (fun h => ?_) (fun h => ?_)) <;> try (exfalso; omega))|(with_reducible refine andG ?_)|(refine And.intro ⟨[_], rfl⟩ ?_)|(refine And.intro ⟨[], by simp only [List.append_nil]⟩ ?_)|fail|simp (disch := (first|exact discB|fail)) only [push_cast, ↓reduceIte, reduceIte, reduceCtorEq, Nat.reduceAdd, Nat.reduceLT, Nat.reduceEqDiff, Nat.reduceLeDiff, Int.reduceAdd, Int.reduceLT, Int.reduceLE, Nat.reduceMul, b2, b4, b5, b7, b8, b9, b10, b11, hsub1, hjl, hS3, hil, hxl, hl1, hl2, et1, et2, ed1, ed2, hne])
             refine out_round_frz (Lr.length - (k + 1)) 4 (j := 4) rfl (by omega) (by first|exact sideB|fail) (by omega) (by simp [frzH]) (by simp [frzH, frzB, frz, Blk.below, idsE, idsL, AV.ids, map_frz, deadRow, hidl1, hidl2, hidx, hel, hex]) ⟨k + 1, _, by omega, rfl, hn1, ?_, ?_⟩
             ·rw [← hs1, ← hs2]
              simp [frzH, frzB, frz, map_frz, hidl1, hidl2, hidx, hel, hex]
             ·skip
              simp (disch := (first|exact discB|fail)) only [push_cast, ↓reduceIte, reduceIte, reduceCtorEq, Nat.reduceAdd, Nat.reduceLT, Nat.reduceEqDiff, Nat.reduceLeDiff, Int.reduceAdd, Int.reduceLT, Int.reduceLE, Nat.reduceMul, b2, b4, b5, b7, b8, scrub, frz, AV.ids, idsL]
              rw [if_pos (hidL _)]
          ·have hlp : lineP line = none := by rw [hlp]; cases ints4 ws <;> simp [d1, d2]
           obtain rfl := hRn (hnx.2 hlp)
           repeat' (first|(first|refine nav ?_|(refine g0_ ?_; first|refine go_drawN (dr := allQ) (p := [1, 1, 1, 1, 0, 0, 1, 0, 0, 1, 0, 1, 1, 1, 1, 1, 1, 1]) [(111, 7), (112, 111), (114, 113), (115, 114), (119, 7), (117, 116)] [(110, some 107), (118, some 112), (107, some 110), (112, some 118)] [] rfl rfl mixed (by kernel_rfl) ?_|refine go_draw (dr := allQ) rfl rfl mixed (by first|assumption|kernel_rfl) ?_))|(with_reducible refine And.intro (at_go ?_) (at_go ?_))|((with_reducible refine And.intro (fun h => ?_) (fun h => ?_)) <;> try (exfalso; omega))|(with_reducible refine andG ?_)|(refine And.intro ⟨[_], rfl⟩ ?_)|(refine And.intro ⟨[], by simp only [List.append_nil]⟩ ?_)|(first|(refine ⟨_, _, pc_lift (hsp3) (by (simp [idsL, idsE, AV.ids, hidw, hidl1, hidl2])) _, ?_⟩)|(refine ⟨_, pc_lift (hsp3) (by (simp [idsL, idsE, AV.ids, hidw, hidl1, hidl2])) _, ?_⟩)|(refine ⟨_, fun _ => pc_lift (hsp3) (by (simp [idsL, idsE, AV.ids, hidw, hidl1, hidl2])) _, ?_⟩))|simp (disch := (first|exact discB|fail)) only [push_cast, ↓reduceIte, reduceIte, reduceCtorEq, Nat.reduceAdd, Nat.reduceLT, Nat.reduceEqDiff, Nat.reduceLeDiff, Int.reduceAdd, Int.reduceLT, Int.reduceLE, Nat.reduceMul, b2, b4, b5, b7, b8, hsub1, hkl, htk, e1, hS3, d1, d2])
        ·obtain rfl : Lr.length = k := by omega
         rw [List.take_length] at hrw
         obtain rfl := hRs rows hrw
         have hkl : ¬ ((Lr.length : Int) + 1 < Lr.length + 1) := by omega
         have hck := check51_own (H := [.row 3 36 [[.int .i64 0, .sl 0 [] (some 0), .sl 0 [] (some 0)]], .row 3 36 [[.int .i64 A0, .own 2 Lr.length Lr.length none, .own 3 Lr.length Lr.length none]], .row 1 26 (rowL (lcN rows)), .row 1 4 (bools (acP rows))]) rfl rfl A0 hrl (by omega) (rowsP_bd hrw fun f hf => by have := hLp' f hf; omega)
         by_cases hc0 : checkD A0 (rowsD (lcP rows)) rows.length = 0
         ·rw [hc0] at hck
          have hR : parRO (some (A0, rows)) = .tup [dA A0 1 (lcN rows) none 1 (acP rows) none, .int .i64 0] := by rw [parRO, if_neg (by rw [hc0]; simp)]
          rw [hR]
          unfold dA
          repeat' (first|(first|refine nav ?_|(refine g0_ ?_; first|refine go_drawN (dr := allQ) (p := [1, 1, 1, 1, 0, 0, 1, 0, 0, 1, 0, 1, 1, 1, 1, 1, 1, 1]) [(111, 7), (112, 111), (114, 113), (115, 114), (119, 7), (117, 116)] [(110, some 107), (118, some 112), (107, some 110), (112, some 118)] [] rfl rfl mixed (by kernel_rfl) ?_|refine go_draw (dr := allQ) rfl rfl mixed (by first|assumption|kernel_rfl) ?_))|(with_reducible refine And.intro (at_go ?_) (at_go ?_))|((with_reducible refine And.intro (fun h => ?_) (fun h => ?_)) <;> try (exfalso; omega))|(with_reducible refine andG ?_)|(refine And.intro ⟨[_], rfl⟩ ?_)|(refine And.intro ⟨[], by simp only [List.append_nil]⟩ ?_)|(first|(refine ⟨_, _, hck, ?_⟩)|(refine ⟨_, hck, ?_⟩)|(refine ⟨_, fun _ => hck, ?_⟩))|simp (disch := (first|exact discB|fail)) only [push_cast, ↓reduceIte, reduceIte, reduceCtorEq, Nat.reduceAdd, Nat.reduceLT, Nat.reduceEqDiff, Nat.reduceLeDiff, Int.reduceAdd, Int.reduceLT, Int.reduceLE, Nat.reduceMul, b2, b4, b5, b7, b8, hsub1, hkl, hl1, hl2, et1, et2])
         ·have hR : parRO (some (A0, rows)) = .tup [dA0, .int .i64 (checkD A0 (rowsD (lcP rows)) rows.length)] := by rw [parRO, if_pos hc0]
          rw [hR]
          unfold dA0
          generalize checkD A0 (rowsD (lcP rows)) rows.length = e at *
          repeat' (first|(first|refine nav ?_|(refine g0_ ?_; first|refine go_drawN (dr := allQ) (p := [1, 1, 1, 1, 0, 0, 1, 0, 0, 1, 0, 1, 1, 1, 1, 1, 1, 1]) [(111, 7), (112, 111), (114, 113), (115, 114), (119, 7), (117, 116)] [(110, some 107), (118, some 112), (107, some 110), (112, some 118)] [] rfl rfl mixed (by kernel_rfl) ?_|refine go_draw (dr := allQ) rfl rfl mixed (by first|assumption|kernel_rfl) ?_))|(with_reducible refine And.intro (at_go ?_) (at_go ?_))|((with_reducible refine And.intro (fun h => ?_) (fun h => ?_)) <;> try (exfalso; omega))|(with_reducible refine andG ?_)|(refine And.intro ⟨[_], rfl⟩ ?_)|(refine And.intro ⟨[], by simp only [List.append_nil]⟩ ?_)|(first|(refine ⟨_, _, hck, ?_⟩)|(refine ⟨_, hck, ?_⟩)|(refine ⟨_, fun _ => hck, ?_⟩))|simp (disch := (first|exact discB|fail)) only [push_cast, ↓reduceIte, reduceIte, reduceCtorEq, Nat.reduceAdd, Nat.reduceLT, Nat.reduceEqDiff, Nat.reduceLeDiff, Int.reduceAdd, Int.reduceLT, Int.reduceLE, Nat.reduceMul, b2, b4, b5, b7, b8, hsub1, hkl, hl1, hl2, et1, et2, hc0])
      ·rw [hno (by
        rintro ⟨A, n, h, _, h3⟩
        rw [ints4, ints4] at h
        cases q1 : int4 w1 with
        | none => rw [q1] at h; cases h
        | some v1 =>
         cases q2 : int4 w2 with
         | none => rw [q1, q2] at h; cases h
         | some v2 =>
          rw [q1, q2] at h
          simp only [ints4, Option.some.injEq, List.cons.injEq, and_true] at h
          rw [intR_of q2] at c6
          omega)]
       unfold headA at c4
       subst c4
       unfold parRO dA0
       refine pc_go 1 128 [.cell 2 36, .tmp 3] Tryd.func17 rfl rfl rfl (by simp) ?_
       intro s ⟨a0, hz⟩
       clear hz
       repeat' (first|(first|refine nav ?_|(refine g0_ ?_; first|refine go_drawN (dr := allQ) (p := [1, 1, 1, 1, 0, 0, 1, 0, 0, 1, 0, 1, 1, 1, 1, 1, 1, 1]) [(111, 7), (112, 111), (114, 113), (115, 114), (119, 7), (117, 116)] [(110, some 107), (118, some 112), (107, some 110), (112, some 118)] [] rfl rfl mixed (by kernel_rfl) ?_|refine go_draw (dr := allQ) rfl rfl mixed (by first|assumption|kernel_rfl) ?_))|(with_reducible refine And.intro (at_go ?_) (at_go ?_))|((with_reducible refine And.intro (fun h => ?_) (fun h => ?_)) <;> try (exfalso; omega))|(with_reducible refine andG ?_)|(refine And.intro ⟨[_], rfl⟩ ?_)|(refine And.intro ⟨[], by simp only [List.append_nil]⟩ ?_)|(first|(refine ⟨_, _, pc_lift (hsp1) (by (simp [idsL, idsE, AV.ids, hidL])) _, ?_⟩)|(refine ⟨_, pc_lift (hsp1) (by (simp [idsL, idsE, AV.ids, hidL])) _, ?_⟩)|(refine ⟨_, fun _ => pc_lift (hsp1) (by (simp [idsL, idsE, AV.ids, hidL])) _, ?_⟩)|(refine ⟨_, _, pc_lift (hsp2) (by (simp [idsL, idsE, AV.ids, hidL])) _, ?_⟩)|(refine ⟨_, pc_lift (hsp2) (by (simp [idsL, idsE, AV.ids, hidL])) _, ?_⟩)|(refine ⟨_, fun _ => pc_lift (hsp2) (by (simp [idsL, idsE, AV.ids, hidL])) _, ?_⟩)|(refine ⟨_, _, pc_lift (hI1) (by (simp [idsL, idsE, AV.ids, hidL])) _, ?_⟩)|(refine ⟨_, pc_lift (hI1) (by (simp [idsL, idsE, AV.ids, hidL])) _, ?_⟩)|(refine ⟨_, fun _ => pc_lift (hI1) (by (simp [idsL, idsE, AV.ids, hidL])) _, ?_⟩)|(refine ⟨_, _, pc_lift (hI2) (by (simp [idsL, idsE, AV.ids, hidL])) _, ?_⟩)|(refine ⟨_, pc_lift (hI2) (by (simp [idsL, idsE, AV.ids, hidL])) _, ?_⟩)|(refine ⟨_, fun _ => pc_lift (hI2) (by (simp [idsL, idsE, AV.ids, hidL])) _, ?_⟩))|simp (disch := (first|exact discB|fail)) only [push_cast, ↓reduceIte, reduceIte, reduceCtorEq, Nat.reduceAdd, Nat.reduceLT, Nat.reduceEqDiff, Nat.reduceLeDiff, Int.reduceAdd, Int.reduceLT, Int.reduceLE, Nat.reduceMul, a0, hS1, hsub1, hsub2, htn, htn2, eN, e0, hc2, c5, c6])
    ·rw [hno (by rintro ⟨A, n, _, h, _⟩; exact c4 h)]
     unfold headA at c4
     unfold parRO dA0
     refine pc_go 1 128 [.cell 2 36, .tmp 3] Tryd.func17 rfl rfl rfl (by simp) ?_
     intro s ⟨a0, hz⟩
     clear hz
     repeat' (first|(first|refine nav ?_|(refine g0_ ?_; first|refine go_drawN (dr := allQ) (p := [1, 1, 1, 1, 0, 0, 1, 0, 0, 1, 0, 1, 1, 1, 1, 1, 1, 1]) [(111, 7), (112, 111), (114, 113), (115, 114), (119, 7), (117, 116)] [(110, some 107), (118, some 112), (107, some 110), (112, some 118)] [] rfl rfl mixed (by kernel_rfl) ?_|refine go_draw (dr := allQ) rfl rfl mixed (by first|assumption|kernel_rfl) ?_))|(with_reducible refine And.intro (at_go ?_) (at_go ?_))|((with_reducible refine And.intro (fun h => ?_) (fun h => ?_)) <;> try (exfalso; omega))|(with_reducible refine andG ?_)|(refine And.intro ⟨[_], rfl⟩ ?_)|(refine And.intro ⟨[], by simp only [List.append_nil]⟩ ?_)|(first|(refine ⟨_, _, pc_lift (hsp1) (by (simp [idsL, idsE, AV.ids, hidL])) _, ?_⟩)|(refine ⟨_, pc_lift (hsp1) (by (simp [idsL, idsE, AV.ids, hidL])) _, ?_⟩)|(refine ⟨_, fun _ => pc_lift (hsp1) (by (simp [idsL, idsE, AV.ids, hidL])) _, ?_⟩)|(refine ⟨_, _, pc_lift (hsp2) (by (simp [idsL, idsE, AV.ids, hidL])) _, ?_⟩)|(refine ⟨_, pc_lift (hsp2) (by (simp [idsL, idsE, AV.ids, hidL])) _, ?_⟩)|(refine ⟨_, fun _ => pc_lift (hsp2) (by (simp [idsL, idsE, AV.ids, hidL])) _, ?_⟩)|(refine ⟨AV.str [], ?_⟩; refine acc_id ?_))|simp (disch := (first|exact discB|fail)) only [push_cast, ↓reduceIte, reduceIte, reduceCtorEq, Nat.reduceAdd, Nat.reduceLT, Nat.reduceEqDiff, Nat.reduceLeDiff, Int.reduceAdd, Int.reduceLT, Int.reduceLE, Nat.reduceMul, a0, hS1, hsub1, hsub2, htn, htn2, eN, e0, hc2, c4])
   ·rw [hno (by
     rintro ⟨A, n, h, _⟩
     have := ints4_len h
     have hF0 := splitC_ne 32 f0
     rw [hF] at hF0
     rw [List.length_tail] at this
     simp at this
     omega)]
    have c3' : ¬ (F.length : Int) = 3 := by omega
    unfold parRO dA0
    refine pc_go 1 128 [.cell 2 36, .tmp 3] Tryd.func17 rfl rfl rfl (by simp) ?_
    intro s ⟨a0, hz⟩
    clear hz
    repeat' (first|(first|refine nav ?_|(refine g0_ ?_; first|refine go_drawN (dr := allQ) (p := [1, 1, 1, 1, 0, 0, 1, 0, 0, 1, 0, 1, 1, 1, 1, 1, 1, 1]) [(111, 7), (112, 111), (114, 113), (115, 114), (119, 7), (117, 116)] [(110, some 107), (118, some 112), (107, some 110), (112, some 118)] [] rfl rfl mixed (by kernel_rfl) ?_|refine go_draw (dr := allQ) rfl rfl mixed (by first|assumption|kernel_rfl) ?_))|(with_reducible refine And.intro (at_go ?_) (at_go ?_))|((with_reducible refine And.intro (fun h => ?_) (fun h => ?_)) <;> try (exfalso; omega))|(with_reducible refine andG ?_)|(refine And.intro ⟨[_], rfl⟩ ?_)|(refine And.intro ⟨[], by simp only [List.append_nil]⟩ ?_)|(first|(refine ⟨_, _, pc_lift (hsp1) (by (simp [idsL, idsE, AV.ids, hidL, hidF])) _, ?_⟩)|(refine ⟨_, pc_lift (hsp1) (by (simp [idsL, idsE, AV.ids, hidL, hidF])) _, ?_⟩)|(refine ⟨_, fun _ => pc_lift (hsp1) (by (simp [idsL, idsE, AV.ids, hidL, hidF])) _, ?_⟩)|(refine ⟨_, _, pc_lift (hsp2) (by (simp [idsL, idsE, AV.ids, hidL, hidF])) _, ?_⟩)|(refine ⟨_, pc_lift (hsp2) (by (simp [idsL, idsE, AV.ids, hidL, hidF])) _, ?_⟩)|(refine ⟨_, fun _ => pc_lift (hsp2) (by (simp [idsL, idsE, AV.ids, hidL, hidF])) _, ?_⟩)|(refine ⟨AV.str [], ?_⟩; refine acc_id ?_))|simp (disch := (first|exact discB|fail)) only [push_cast, ↓reduceIte, reduceIte, reduceCtorEq, Nat.reduceAdd, Nat.reduceLT, Nat.reduceEqDiff, Nat.reduceLeDiff, Int.reduceAdd, Int.reduceLT, Int.reduceLE, Nat.reduceMul, a0, hS1, hsub1, hsub2, htn, htn2, eN, e0, hc2, hS2, c3'])
 ·rw [hno c1]
  unfold parRO dA0
  generalize LL.getD m [] = l0 at *
  refine pc_go 1 128 [.cell 2 36, .tmp 3] Tryd.func17 rfl rfl rfl (by simp) ?_
  intro s ⟨a0, hz⟩
  clear hz
  repeat' (first|(first|refine nav ?_|(refine g0_ ?_; first|refine go_drawN (dr := allQ) (p := [1, 1, 1, 1, 0, 0, 1, 0, 0, 1, 0, 1, 1, 1, 1, 1, 1, 1]) [(111, 7), (112, 111), (114, 113), (115, 114), (119, 7), (117, 116)] [(110, some 107), (118, some 112), (107, some 110), (112, some 118)] [] rfl rfl mixed (by kernel_rfl) ?_|refine go_draw (dr := allQ) rfl rfl mixed (by first|assumption|kernel_rfl) ?_))|(with_reducible refine And.intro (at_go ?_) (at_go ?_))|((with_reducible refine And.intro (fun h => ?_) (fun h => ?_)) <;> try (exfalso; omega))|(with_reducible refine andG ?_)|(refine And.intro ⟨[_], rfl⟩ ?_)|(refine And.intro ⟨[], by simp only [List.append_nil]⟩ ?_)|(first|(refine ⟨_, _, pc_lift (hsp1) (by (simp [idsL, idsE, AV.ids, hidL])) _, ?_⟩)|(refine ⟨_, pc_lift (hsp1) (by (simp [idsL, idsE, AV.ids, hidL])) _, ?_⟩)|(refine ⟨_, fun _ => pc_lift (hsp1) (by (simp [idsL, idsE, AV.ids, hidL])) _, ?_⟩))|simp (disch := (first|exact discB|fail)) only [push_cast, ↓reduceIte, reduceIte, reduceCtorEq, Nat.reduceAdd, Nat.reduceLT, Nat.reduceEqDiff, Nat.reduceLeDiff, Int.reduceAdd, Int.reduceLT, Int.reduceLE, Nat.reduceMul, a0, hS1, hsub1, eN, c1])
end Go.Proofs
