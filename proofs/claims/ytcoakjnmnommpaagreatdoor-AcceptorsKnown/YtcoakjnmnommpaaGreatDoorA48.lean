import Derived.Test.YtcoakjnmnommpaaGreatDoorA47
namespace Go.Proofs
open Go Go.V Go.RowKit
set_option linter.unusedVariables false
set_option linter.unusedSimpArgs false
set_option maxHeartbeats 0
theorem vbb9 {tx : Bs} (h : tx.getLast? = some 10) : splitC 10 tx = splitC 10 tx.dropLast ++ [[]] := by
 rcases n'N tx with e|⟨t, b, e⟩
 ·rw [e] at h; cases h
 ·rw [n'O] at e;subst e;rw [List.getLast?_append] at h;simp at h;subst h;rw [List.dropLast_concat];exact vaf9 10 t
theorem qdu9 {tx : Bs} {m : Nat} (hm : (splitC 10 tx).length = m + 1) (h : ¬ (splitC 10 tx).getD m [] = []) : qr0 tx = none := by
 rw [qr0, if_neg];intro q;have e := vbb9 q;rw [e] at h hm;rw [l'v, List.length_singleton, Nat.add_right_cancel_iff] at hm;subst hm;apply h;simp
theorem qcV9 {tx : Bs} (hm : (splitC 10 tx).length = 1) : qr0 tx = none := by
 rw [qr0, if_neg];intro q;rw [vbb9 q] at hm;have := xh0 10 tx.dropLast;rw [l'v, List.length_singleton] at hm;exact this (l'F (by omega))
theorem kcp9 {tx : Bs} {m : Nat} (hm : (splitC 10 tx).length = m + 2) (h : (splitC 10 tx).getD (m + 1) [] = []) : ∃ L : List Bs, L.length = m + 1 ∧ splitC 10 tx = L ++ [[]] ∧ qr0 tx = kQ0 L := by
 have hl : (splitC 10 tx).getLast (xh0 10 tx) = [] := by
  rw [List.getLast_eq_getElem];rw [l'b, l'e (by omega), Option.getD_some] at h;simp only [hm];exact h
 rcases kbJ9 10 tx hl with e|⟨t, e⟩
 ·rw [e] at hm; simp [splitC] at hm
 ·subst e;have e := vaf9 10 t;refine ⟨splitC 10 t, ?_, e, ?_⟩
  ·rw [e, l'v, List.length_singleton] at hm; omega
  ·rw [qr0, if_pos (by simp), List.dropLast_concat]
def lcN (rows : List (List Int × Bool)) : List LC := rows.map fun r => (r.1, none)
theorem qau9 (rows : List (List Int × Bool)) : (lcN rows).length = rows.length := by simp [lcN]
theorem qdW9 (rows : List (List Int × Bool)) (s : Nat) (h : s < rows.length) : (lcN rows).getD s ([], none) = ((rows.getD s ([], false)).1, none) := by simp [lcN, h]
theorem wca9 (rows : List (List Int × Bool)) (r : List Int × Bool) : rowL (lcN rows) ++ [[.sl 1 (ints r.1) none]] = rowL (lcN (rows ++ [r])) := by simp [rowL, lcN, lC]
theorem weo9 (rows : List (List Int × Bool)) : kd0 (lcN rows) = kd0 (lcP rows) := by simp [kd0, lcN, lcP]
def wW0 (o : Option (Int × List (List Int × Bool))) : AV := match o with
 | none => .tup [dA0, .int .i64 4]
 | some (A, rows) => if vd0 A (kd0 (lcP rows)) rows.length ≠ 0 then .tup [dA0, .int .i64 (vd0 A (kd0 (lcP rows)) rows.length)] else .tup [dA A 1 (lcN rows) none 1 (acP rows) none, .int .i64 0]
theorem xao9 {f : Bs} (h : 0 ≤ intR f) : int4 f = some (intR f) := by
 cases q : int4 f with
 | none => rw [zM0 q] at h; omega
 | some v => rw [intR, q]; rfl
theorem xbN9 {f : Bs} (h : intR f < 0) : int4 f = none := by
 cases q : int4 f with
 | none => rfl
 | some v =>
  have := qW0 q;rw [intR, q] at h; simp at h; omega
theorem zcV9 {f : Bs} {v : Int} (q : int4 f = some v) : intR f = v := by rw [intR, q]; rfl
theorem wbl9 (f : Bs) : -1 ≤ intR f ∧ intR f ≤ 9999 := by
 cases q : int4 f with
 | none => rw [zM0 q]; omega
 | some v =>
  have := qW0 q;rw [zcV9 q]; omega
theorem wbN9 {H : List Blk} {n : Nat} {rows : List (List Int × Bool)} (h2 : H[2]? = some (.row 1 27 (rowL (lcN rows)))) (h3 : H[3]? = some (.row 1 4 (qb0 (acP rows)))) (A : Int) (hn : rows.length = n) (hb : n ≤ 65536) (hr : ∀ r ∈ rows, r.1.length ≤ 65536) :
  wd0 Tryz.prog G0 19 [.agg [.int .i64 A, .own 2 n n none, .own 3 n n none]] H (.int .i64 (vd0 A (kd0 (lcP rows)) rows.length)) H := by
 subst hn;have hc := kcS9 A 1 (lcN rows) none 1 (acP rows) none ⟨.inr rfl, .inr rfl, by rw [qau9]; omega, by rw [xw0]; omega, fun s hs => by
  rw [qau9] at hs;rw [qdW9 _ _ hs];have := hr _ (wc0 (d := ([], false)) hs);simp only; omega⟩
 rw [xw0, weo9] at hc;have hl1 : (rowL (lcN rows)).length = rows.length := by rw [zb0, qau9]
 have hl2 : (qb0 (acP rows)).length = rows.length := by rw [zc0, xw0]
 have o1 : okC H 1 (.own 2 rows.length rows.length none) = true := zaV9 (c := none) h2 hl1.symm hl1.symm (vc0 _ _);have o2 : okC H 1 (.own 3 rows.length rows.length none) = true := zaV9 (c := none) h3 hl2.symm hl2.symm (zd0 _ _);have q1 : zh0 H 1 (.own 2 rows.length rows.length none) = .sl 1 (rowL (lcN rows)) none := vJ0 h2 hl1.symm hl1.symm;have q2 : zh0 H 1 (.own 3 rows.length rows.length none) = .sl 1 (qb0 (acP rows)) none := vJ0 h3 hl2.symm hl2.symm;refine kbF9 1 ?_ ?_ hc rfl
 ·simp only [List.all_cons, List.all_nil, okA, o1, o2, n'W]; rfl
 ·simp only [List.map_cons, List.map_nil, xq0, q1, q2]; rfl
set_option maxRecDepth 100000 in
theorem qcq9 (tx : Bs) (hs : tx.length ≤ 1000) : PC Tryz.prog G0 64 [.str tx] (wW0 (qr0 tx)) := by
 have hsp1 := kat9 tx 10 (by omega);have e10 : (((10 : UInt8).toNat : Nat) : Int) = 10 := rfl;have e32 : (((32 : UInt8).toNat : Nat) : Int) = 32 := rfl;rw [e10] at hsp1;have hno := @qdu9 tx;have hone := @qcV9 tx;have hmore := @kcp9 tx;have hLl := zq0 10 tx;have hLp := qp0 10 tx;have hLe := xh0 10 tx;generalize splitC 10 tx = LL at *;obtain ⟨m, hm⟩ : ∃ m, LL.length = m + 1 := ⟨LL.length - 1, by have := List.length_pos_iff.2 hLe; omega⟩;have hno := hno hm;have hS1 := ko0 LL;rw [hm] at hS1;have hidL : ∀ p, idsE p (strs LL) = true := fun p => vu0 _ _;have hgL := kV0 LL;rw [hm] at hgL;have hsub1 : IntKind.i64.wrap ((m : Int) + 1 - 1) = m := by
  rw [Int.add_sub_cancel, qR0 _ (by omega) (by omega)]
 have eN := hgL m (by omega);have e0 := hgL 0 (by omega);have hf0 : (LL.getD 0 []).length ≤ 1000 := by have := hLp _ (wc0 (d := []) (i := 0) (by omega)); omega
 by_cases c1 : LL.getD m [] = []
 ·rw [c1] at eN;clear hno;have hsp2 := kat9 (LL.getD 0 []) 32 (by omega);rw [e32] at hsp2;by_cases c2 : m = 0
  ·subst c2;rw [hone hm];unfold wW0 dA0;generalize LL.getD 0 [] = f0 at *;subst c1;refine qc0 1 128 [.cell 2 47, .tmp 3] Tryz.func64 rfl rfl rfl (by simp) ?_;intro s ⟨a0, hz⟩;clear hz;repeat' (first|(first|refine nav ?_|(refine g0_ ?_; first|refine dN (p := [1, 1, 1, 1, 0, 0, 1, 0, 0, 1, 0, 1, 1, 1, 1, 1, 1, 1]) [(111, 7), (112, 111), (114, 113), (115, 114), (119, 7), (117, 116)] [(110, some 107), (118, some 112), (107, some 110), (112, some 118)] [] ?_|refine goD ?_))|(with_reducible first|refine gG ?_ ?_|refine ⟨fun h => ?_, fun h => ?_⟩ <;> try omega|refine andG ?_)|refine cp_ hsp1 ?_ (hi := by (simp [idsL, idsE, AV.ids, hidL]))|refine cp_ hsp2 ?_ (hi := by (simp [idsL, idsE, AV.ids, hidL]))|(refine ⟨AV.str [], ?_⟩; refine wC0 ?_)|simp (disch := try exact qa0) only [push_cast, simprocAttr, a0, hS1, hsub1, eN, e0, Int.sub_self, Int.toNat_zero])
  ·obtain ⟨k, rfl⟩ : ∃ k, m = k + 1 := ⟨m - 1, by omega⟩;obtain ⟨L, hL1, hL2, hL3⟩ := hmore hm c1;rw [hL3];obtain ⟨f0, Lr, rfl⟩ := l'K (show L ≠ [] by rintro rfl; simp at hL1);have hL1' : Lr.length = k := by simpa using hL1
   subst hL1';have hLe0 : LL.getD 0 [] = f0 := by rw [hL2]; rfl
   have hLk : ∀ j, j < Lr.length → LL.getD (j + 1) [] = Lr.getD j [] := fun j hj => by
    rw [hL2, l'b, l'd (by simp; omega), List.getElem?_cons_succ, ← l'b]
   rw [hLe0] at hsp2 e0 hf0;have hLn : Lr.length + 2 ≤ 1001 := by omega
   have hsub2 : IntKind.i64.wrap ((Lr.length : Int) + 1 + 1 - 2) = Lr.length := by
    rw [show (Lr.length : Int) + 1 + 1 - 2 = Lr.length by omega, qR0 _ (by omega) (by omega)]
   have hsub1 : IntKind.i64.wrap ((Lr.length : Int) + 1 + 1 - 1) = Lr.length + 1 := by
    rw [Int.add_sub_cancel, qR0 _ (by omega) (by omega)]
   have htn2 : Int.toNat 2 = 2 := rfl;have htn : ((Lr.length : Int) + 1).toNat = Lr.length + 1 := by omega
   have hFl := zq0 32 f0;have hFp := qp0 32 f0;have hno := @kaN9 (f0 :: Lr);have hyes := @wbb9 (f0 :: Lr);simp only [List.headD_cons, List.tail_cons, List.length_cons, z'x] at hno hyes;clear hL3 hmore hone;generalize hF : splitC 32 f0 = F at *;have hS2 := ko0 F;have hgF := kV0 F;have hidF : ∀ p, idsE p (strs F) = true := fun p => vu0 _ _;have hc2 : ¬ ((Lr.length : Int) + 1 + 1 < 2) := by omega
   by_cases c3 : F.length = 3
   ·obtain ⟨w0, w1, w2, rfl⟩ : ∃ w0 w1 w2, F = [w0, w1, w2] := by
     match F, c3 with
     | [a, b, c], _ => exact ⟨a, b, c, rfl⟩
    have hw1 := hFp w1 (by simp);have hw2 := hFp w2 (by simp);have hI1 := vH0 w1 (by omega);have hI2 := vH0 w2 (by omega);have hF3 : strs [w0, w1, w2] = [[.str w0], [.str w1], [.str w2]] := rfl;rw [hF3] at hsp2;clear hF3;simp only [List.headD_cons, List.tail_cons] at hno hyes;clear hgF hS2;have hb1 := wbl9 w1;have hb2 := wbl9 w2;by_cases c4 : w0 = qy0
    ·by_cases c5 : intR w1 < 0
     ·rw [hno (by
       rintro ⟨A, n, h, _⟩;rw [wi0, xbN9 c5] at h; cases h)]
      unfold qy0 at c4;subst c4;unfold wW0 dA0;refine qc0 1 128 [.cell 2 47, .tmp 3] Tryz.func64 rfl rfl rfl (by simp) ?_;intro s ⟨a0, hz⟩;clear hz;repeat' (first|(first|refine nav ?_|(refine g0_ ?_; first|refine dN (p := [1, 1, 1, 1, 0, 0, 1, 0, 0, 1, 0, 1, 1, 1, 1, 1, 1, 1]) [(111, 7), (112, 111), (114, 113), (115, 114), (119, 7), (117, 116)] [(110, some 107), (118, some 112), (107, some 110), (112, some 118)] [] ?_|refine goD ?_))|(with_reducible first|refine gG ?_ ?_|refine ⟨fun h => ?_, fun h => ?_⟩ <;> try omega|refine andG ?_)|refine cp_ hsp1 ?_ (hi := by (simp [idsL, idsE, AV.ids, hidL]))|refine cp_ hsp2 ?_ (hi := by (simp [idsL, idsE, AV.ids, hidL]))|refine cp_ hI1 ?_ (hi := by (simp [idsL, idsE, AV.ids, hidL]))|(refine ⟨AV.str [], ?_⟩; refine wC0 ?_)|simp (disch := try exact qa0) only [push_cast, simprocAttr, a0, hS1, hsub1, hsub2, htn, htn2, eN, e0, hc2, c5])
     ·by_cases c6 : intR w2 = (Lr.length : Int)
      ·have hi1 := xao9 (f := w1) (by omega);have hi2 := xao9 (f := w2) (by omega);rw [hyes (A := intR w1) (n := intR w2) (by rw [wi0, hi1, wi0, hi2]; rfl) c4 c6];clear hno hyes;generalize intR w1 = A0 at *;generalize intR w2 = n0 at *;subst c6;have hRn : vm0 Lr = none → wW0 (match vm0 Lr with|none => none|some rows => some (A0, rows)) = .tup [.agg [.int .i64 0, .sl 0 [] (some 0), .sl 0 [] (some 0)], .int .i64 4] := fun h => by rw [h]; rfl
       have hRs : ∀ rows, vm0 Lr = some rows → wW0 (match vm0 Lr with|none => none|some rows => some (A0, rows)) = wW0 (some (A0, rows)) := fun rows h => by rw [h]
       generalize wW0 (match vm0 Lr with|none => none|some rows => some (A0, rows)) = R at *;have hnx := fun k rows hk h => xbb9 (l := Lr) (k := k) (xs := rows) hk h;have hLp' : ∀ f ∈ Lr, f.length ≤ 1000 := fun f hf => by
        have := hLp f (by rw [hL2]; simp [hf]);omega
       clear hL2 hLp;unfold qy0 at c4;subst c4;refine qc0 1 128 [.cell 2 47, .tmp 3] Tryz.func64 rfl rfl rfl (by simp) ?_;intro s ⟨a0, hz⟩;clear hz;repeat' (first|(first|refine nav ?_|(refine g0_ ?_; first|refine dN (p := [1, 1, 1, 1, 0, 0, 1, 0, 0, 1, 0, 1, 1, 1, 1, 1, 1, 1]) [(111, 7), (112, 111), (114, 113), (115, 114), (119, 7), (117, 116)] [(110, some 107), (118, some 112), (107, some 110), (112, some 118)] [] ?_|refine goD ?_))|(with_reducible first|refine gG ?_ ?_|refine ⟨fun h => ?_, fun h => ?_⟩ <;> try omega|refine andG ?_)|refine cp_ hsp1 ?_ (hi := by (simp [idsL, idsE, AV.ids, hidL]))|refine cp_ hsp2 ?_ (hi := by (simp [idsL, idsE, AV.ids, hidL]))|refine cp_ hI1 ?_ (hi := by (simp [idsL, idsE, AV.ids, hidL]))|refine cp_ hI2 ?_ (hi := by (simp [idsL, idsE, AV.ids, hidL]))|simp (disch := try exact qa0) only [push_cast, simprocAttr, a0, hS1, hsub1, hsub2, htn, htn2, eN, e0, hc2, c5])
       refine vv0 (by first|exact va0|fail) (wg0 (b := 1) (i := 0) (j := 1) (sz := 1) (ty := 27) rfl rfl rfl) ?_;refine vv0 (by trivial) (wg0 (b := 1) (i := 0) (j := 2) (sz := 1) (ty := 4) rfl rfl rfl) ?_;repeat' (first|(first|refine nav ?_|(refine g0_ ?_; first|refine dN (p := [1, 1, 1, 1, 0, 0, 1, 0, 0, 1, 0, 1, 1, 1, 1, 1, 1, 1]) [(111, 7), (112, 111), (114, 113), (115, 114), (119, 7), (117, 116)] [(110, some 107), (118, some 112), (107, some 110), (112, some 118)] [] ?_|refine goD ?_))|(with_reducible first|refine gG ?_ ?_|refine ⟨fun h => ?_, fun h => ?_⟩ <;> try omega|refine andG ?_)|simp (disch := try exact qa0) only [push_cast, simprocAttr, a0, hS1, hsub1, hsub2, htn, htn2, eN, e0, hc2, c5])
       have hLl1 : LL.length = Lr.length + 1 + 1 := hm;refine go_loop rfl (fun mz s' H' => ∃ (k : Nat) (rows : List (List Int × Bool)), k ≤ Lr.length ∧ mz = Lr.length - k ∧ vm0 (Lr.take k) = some rows ∧ H' = [.row 3 47 [[.int .i64 0, .sl 0 [] (some 0), .sl 0 [] (some 0)]], .row 3 47 [[.int .i64 A0, .own 2 k k none, .own 3 k k none]], .row 1 27 (rowL (lcN rows)), .row 1 4 (qb0 (acP rows))] ∧ s' 2 = .ptr 0 0 0 1 ∧ s' 4 = .sl 1 (strs LL) none ∧ s' 5 = .int .i64 ((Lr.length : Int) + 1 + 1) ∧ s' 7 = .ptr 1 0 0 1 ∧ s' 8 = .int .i64 ((k : Int) + 1)) (m := Lr.length) (by first|exact va0|fail) (Weak.refl _ _) ⟨0, [], by omega, by omega, rfl, rfl, ?_⟩ ?_
       ·simp (disch := try exact qa0) only [push_cast, simprocAttr, a0, hS1, hsub1, hsub2, htn, htn2, eN, e0, hc2, c5]
       ·rintro mz s' H' ⟨k, rows, hk, rfl, hrw, rfl, b2, b4, b5, b7, b8⟩;have hrl := zao9 hrw;rw [n't, n'E hk] at hrl;have hl1 : (rowL (lcN rows)).length = k := by rw [zb0, qau9, hrl]
        have hl2 : (qb0 (acP rows)).length = k := by rw [zc0, xw0, hrl]
        have hidl1 : ∀ p, idsE p (rowL (lcN rows)) = true := fun p => vc0 _ _;have hidl2 : ∀ p, idsE p (qb0 (acP rows)) = true := fun p => zd0 _ _;have et1 : (rowL (lcN rows)).take k = rowL (lcN rows) := l'k (by omega);have et2 : (qb0 (acP rows)).take k = qb0 (acP rows) := l'k (by omega);have ed1 : (rowL (lcN rows)).drop (k + 1) = [] := l'z (by omega);have ed2 : (qb0 (acP rows)).drop (k + 1) = [] := l'z (by omega);rcases l'i k Lr.length with hlt|hge
        ·have e1 := hgL (k + 1) (by omega);rw [hLk k hlt] at e1;have htk : ((k : Int) + 1).toNat = k + 1 := by omega
         have hkl : (k : Int) + 1 < Lr.length + 1 := by omega
         have hnx := hnx k rows hlt hrw;have hfp := hLp' _ (wc0 (d := []) hlt);generalize Lr.getD k [] = line at *;have hQl := zq0 32 line;have hQp := qp0 32 line;have hsp3 := kat9 line 32 (by omega);rw [e32] at hsp3;have hlp : xP0 line = match wi0 (splitC 32 line).tail with|none => none|some row => if (splitC 32 line).headD [] = [43] then some (row, true) else if (splitC 32 line).headD [] = [45] then some (row, false) else none := rfl
         generalize hQ : splitC 32 line = Qs at *;obtain ⟨w, ws, rfl⟩ := l'K (show Qs ≠ [] from hQ ▸ xh0 32 line);simp only [List.headD_cons, List.tail_cons] at hlp;rw [qaO9] at hsp3;have hS3 := ko0 ws;have hidw : ∀ p, idsE p (strs ws) = true := fun p => vu0 _ _;have hgw := kV0 ws;have hwsl : ws.length ≤ 1000 := by simp only [List.length_cons] at hQl; omega
         by_cases d1 : w = [43]
         ·subst d1;replace hlp : xP0 line = match wi0 ws with|none => none|some row => some (row, true) := by rw [hlp]; cases wi0 ws <;> rfl
          repeat' (first|(first|refine nav ?_|(refine g0_ ?_; first|refine dN (p := [1, 1, 1, 1, 0, 0, 1, 0, 0, 1, 0, 1, 1, 1, 1, 1, 1, 1]) [(111, 7), (112, 111), (114, 113), (115, 114), (119, 7), (117, 116)] [(110, some 107), (118, some 112), (107, some 110), (112, some 118)] [] ?_|refine goD ?_))|(with_reducible first|refine gG ?_ ?_|refine ⟨fun h => ?_, fun h => ?_⟩ <;> try omega|refine andG ?_)|refine cp_ hsp3 ?_ (hi := by (simp [idsL, idsE, AV.ids, hidw, hidl1, hidl2]))|simp (disch := try exact qa0) only [push_cast, simprocAttr, b2, b4, b5, b7, b8, hsub1, hkl, htk, e1, hl1, hl2, hS3])
          refine go_loop rfl (fun mz s' H' => ∃ (j : Nat) (xs : List Int), j ≤ ws.length ∧ mz = ws.length - j ∧ wi0 (ws.take j) = some xs ∧ H' = [.row 3 47 [[.int .i64 0, .sl 0 [] (some 0), .sl 0 [] (some 0)]], .row 3 47 [[.int .i64 A0, .own 2 k k none, .own 3 k k none]], .row 1 27 (rowL (lcN rows)), .row 1 4 (qb0 (acP rows)), .row 1 3 (ints xs)] ∧ s' 2 = .ptr 0 0 0 1 ∧ s' 4 = .sl 1 (strs LL) none ∧ s' 5 = .int .i64 ((Lr.length : Int) + 1 + 1) ∧ s' 7 = .ptr 1 0 0 1 ∧ s' 8 = .int .i64 ((k : Int) + 1) ∧ s' 9 = .sl 1 ([.str (kA0 true)] :: strs ws) none ∧ s' 10 = .own 4 j j none ∧ s' 11 = .int .i64 ((j : Int) + 1)) (m := ws.length) (by first|exact va0|fail) (zN0 (t := 10) (sz := 1) (ty := 3) rfl) ⟨0, [], by omega, by omega, rfl, rfl, ?_⟩ ?_
          ·unfold kA0;simp (disch := try exact qa0) only [push_cast, simprocAttr, b2, b4, b5, b7, b8, hsub1, hkl, htk, e1, hl1, hl2, hS3]
          ·rintro mz s' H' ⟨j, xs, hj, rfl, hxs, rfl, b2, b4, b5, b7, b8, b9, b10, b11⟩;have hxl := zW0 hxs;rw [n't, n'E hj] at hxl;have hil := xa0 xs;have hidx : ∀ p, idsE p (ints xs) = true := fun p => wa0 _ _;unfold kA0 at b9;rcases l'i j ws.length with hlj|hgj
           ·have e3 := hgw j hlj;have htj : ((j : Int) + 1).toNat = j + 1 := by omega
            have hjl : (j : Int) + 1 < ws.length + 1 := by omega
            have hI := vH0 (ws.getD j []) (by have := hQp _ (l'g _ (wc0 (d := []) hlj)); omega);have hin := wat9 hlj hxs;have hbd := wbl9 (ws.getD j []);have hlt0 := @xbN9 (ws.getD j []);have hge0 := @xao9 (ws.getD j []);generalize ws.getD j [] = f at *;by_cases c8 : intR f < 0
            ·rw [hin.2 (hlt0 c8)] at hlp;obtain rfl := hRn (hnx.2 hlp);repeat' (first|(first|refine nav ?_|(refine g0_ ?_; first|refine dN (p := [1, 1, 1, 1, 0, 0, 1, 0, 0, 1, 0, 1, 1, 1, 1, 1, 1, 1]) [(111, 7), (112, 111), (114, 113), (115, 114), (119, 7), (117, 116)] [(110, some 107), (118, some 112), (107, some 110), (112, some 118)] [] ?_|refine goD ?_))|(with_reducible first|refine gG ?_ ?_|refine ⟨fun h => ?_, fun h => ?_⟩ <;> try omega|refine andG ?_)|refine cp_ hI ?_ (hi := by (simp [idsL, idsE, AV.ids, hidw, hidl1, hidl2, hidx]))|simp (disch := try exact qa0) only [push_cast, simprocAttr, b2, b4, b5, b7, b8, b9, b10, b11, hsub1, htj, hjl, e3, hS3, c8])
            ·have hxs2 := hin.1 _ (hge0 (by omega));have hsx := zy0 xs (intR f);have eti : (ints xs).take j = ints xs := l'k (by omega);have edi : (ints xs).drop (j + 1) = [] := l'z (by omega);generalize intR f = v at *;repeat' (first|(first|refine nav ?_|(refine g0_ ?_; first|refine dN (p := [1, 1, 1, 1, 0, 0, 1, 0, 0, 1, 0, 1, 1, 1, 1, 1, 1, 1]) [(111, 7), (112, 111), (114, 113), (115, 114), (119, 7), (117, 116)] [(110, some 107), (118, some 112), (107, some 110), (112, some 118)] [] ?_|refine goD ?_))|(with_reducible first|refine gG ?_ ?_|refine ⟨fun h => ?_, fun h => ?_⟩ <;> try omega|refine andG ?_)|refine cp_ hI ?_ (hi := by (simp [idsL, idsE, AV.ids, hidw, hidl1, hidl2, hidx]))|simp (disch := try exact qa0) only [push_cast, simprocAttr, b2, b4, b5, b7, b8, b9, b10, b11, hsub1, htj, hjl, e3, hS3, c8, hil, hxl, eti, edi])
             refine za0 (ws.length - (j + 1)) (by omega) (by first|exact va0|fail) ⟨j + 1, _, by omega, rfl, hxs2, by rw [← hsx], ?_⟩;unfold kA0;simp (disch := try exact qa0) only [push_cast, simprocAttr, b2, b4, b5, b7, b8, b9, b10, b11, hsub1, htj, hjl, e3, hS3, c8, hil, hxl, eti, edi]
           ·obtain rfl : ws.length = j := by omega
            rw [l'x] at hxs;have hjl : ¬ ((ws.length : Int) + 1 < ws.length + 1) := by omega
            rw [hxs] at hlp;have hn1 := hnx.1 _ hlp;have hs1 := wca9 rows (xs, true);have hs2 := vaA9 rows (xs, true);have hel : (ints xs).length = ws.length := by omega
            have hex : (ints xs).take ws.length = ints xs := l'k (by omega);repeat' (first|(first|refine nav ?_|(refine g0_ ?_; first|refine dN (p := [1, 1, 1, 1, 0, 0, 1, 0, 0, 1, 0, 1, 1, 1, 1, 1, 1, 1]) [(111, 7), (112, 111), (114, 113), (115, 114), (119, 7), (117, 116)] [(110, some 107), (118, some 112), (107, some 110), (112, some 118)] [] ?_|refine goD ?_))|(with_reducible first|refine gG ?_ ?_|refine ⟨fun h => ?_, fun h => ?_⟩ <;> try omega|refine andG ?_)|simp (disch := try exact qa0) only [push_cast, simprocAttr, b2, b4, b5, b7, b8, b9, b10, b11, hsub1, hjl, hS3, hil, hxl, hl1, hl2, et1, et2, ed1, ed2])
            refine zm0 (Lr.length - (k + 1)) 4 (j := 4) rfl (by omega) (by first|exact va0|fail) (by omega) (by simp [frzH]) (by simp [frzH, frzB, frz, Blk.below, idsE, idsL, AV.ids, xn0, qg0, hidl1, hidl2, hidx, hel, hex]) ⟨k + 1, _, by omega, rfl, hn1, ?_, ?_⟩
            ·rw [← hs1, ← hs2];simp [frzH, frzB, frz, xn0, hidl1, hidl2, hidx, hel, hex]
            ·skip
             simp (disch := try exact qa0) only [push_cast, simprocAttr, b2, b4, b5, b7, b8, ki0, frz, AV.ids, idsL];rw [if_pos (hidL _)]
         ·by_cases d2 : w = [45]
          ·have hne : ¬ ([45] : List UInt8) = [43] := by decide
           subst d2;replace hlp : xP0 line = match wi0 ws with|none => none|some row => some (row, false) := by rw [hlp]; cases wi0 ws <;> rfl
           repeat' (first|(first|refine nav ?_|(refine g0_ ?_; first|refine dN (p := [1, 1, 1, 1, 0, 0, 1, 0, 0, 1, 0, 1, 1, 1, 1, 1, 1, 1]) [(111, 7), (112, 111), (114, 113), (115, 114), (119, 7), (117, 116)] [(110, some 107), (118, some 112), (107, some 110), (112, some 118)] [] ?_|refine goD ?_))|(with_reducible first|refine gG ?_ ?_|refine ⟨fun h => ?_, fun h => ?_⟩ <;> try omega|refine andG ?_)|refine cp_ hsp3 ?_ (hi := by (simp [idsL, idsE, AV.ids, hidw, hidl1, hidl2]))|simp (disch := try exact qa0) only [push_cast, simprocAttr, b2, b4, b5, b7, b8, hsub1, hkl, htk, e1, hl1, hl2, hS3, hne])
           refine go_loop rfl (fun mz s' H' => ∃ (j : Nat) (xs : List Int), j ≤ ws.length ∧ mz = ws.length - j ∧ wi0 (ws.take j) = some xs ∧ H' = [.row 3 47 [[.int .i64 0, .sl 0 [] (some 0), .sl 0 [] (some 0)]], .row 3 47 [[.int .i64 A0, .own 2 k k none, .own 3 k k none]], .row 1 27 (rowL (lcN rows)), .row 1 4 (qb0 (acP rows)), .row 1 3 (ints xs)] ∧ s' 2 = .ptr 0 0 0 1 ∧ s' 4 = .sl 1 (strs LL) none ∧ s' 5 = .int .i64 ((Lr.length : Int) + 1 + 1) ∧ s' 7 = .ptr 1 0 0 1 ∧ s' 8 = .int .i64 ((k : Int) + 1) ∧ s' 9 = .sl 1 ([.str (kA0 false)] :: strs ws) none ∧ s' 10 = .own 4 j j none ∧ s' 11 = .int .i64 ((j : Int) + 1)) (m := ws.length) (by first|exact va0|fail) (zN0 (t := 10) (sz := 1) (ty := 3) rfl) ⟨0, [], by omega, by omega, rfl, rfl, ?_⟩ ?_
           ·unfold kA0;simp (disch := try exact qa0) only [push_cast, simprocAttr, b2, b4, b5, b7, b8, hsub1, hkl, htk, e1, hl1, hl2, hS3, hne]
           ·rintro mz s' H' ⟨j, xs, hj, rfl, hxs, rfl, b2, b4, b5, b7, b8, b9, b10, b11⟩;have hxl := zW0 hxs;rw [n't, n'E hj] at hxl;have hil := xa0 xs;have hidx : ∀ p, idsE p (ints xs) = true := fun p => wa0 _ _;unfold kA0 at b9;rcases l'i j ws.length with hlj|hgj
            ·have e3 := hgw j hlj;have htj : ((j : Int) + 1).toNat = j + 1 := by omega
             have hjl : (j : Int) + 1 < ws.length + 1 := by omega
             have hI := vH0 (ws.getD j []) (by have := hQp _ (l'g _ (wc0 (d := []) hlj)); omega);have hin := wat9 hlj hxs;have hbd := wbl9 (ws.getD j []);have hlt0 := @xbN9 (ws.getD j []);have hge0 := @xao9 (ws.getD j []);generalize ws.getD j [] = f at *;by_cases c8 : intR f < 0
             ·rw [hin.2 (hlt0 c8)] at hlp;obtain rfl := hRn (hnx.2 hlp);repeat' (first|(first|refine nav ?_|(refine g0_ ?_; first|refine dN (p := [1, 1, 1, 1, 0, 0, 1, 0, 0, 1, 0, 1, 1, 1, 1, 1, 1, 1]) [(111, 7), (112, 111), (114, 113), (115, 114), (119, 7), (117, 116)] [(110, some 107), (118, some 112), (107, some 110), (112, some 118)] [] ?_|refine goD ?_))|(with_reducible first|refine gG ?_ ?_|refine ⟨fun h => ?_, fun h => ?_⟩ <;> try omega|refine andG ?_)|refine cp_ hI ?_ (hi := by (simp [idsL, idsE, AV.ids, hidw, hidl1, hidl2, hidx]))|simp (disch := try exact qa0) only [push_cast, simprocAttr, b2, b4, b5, b7, b8, b9, b10, b11, hsub1, htj, hjl, e3, hS3, c8])
             ·have hxs2 := hin.1 _ (hge0 (by omega));have hsx := zy0 xs (intR f);have eti : (ints xs).take j = ints xs := l'k (by omega);have edi : (ints xs).drop (j + 1) = [] := l'z (by omega);generalize intR f = v at *;repeat' (first|(first|refine nav ?_|(refine g0_ ?_; first|refine dN (p := [1, 1, 1, 1, 0, 0, 1, 0, 0, 1, 0, 1, 1, 1, 1, 1, 1, 1]) [(111, 7), (112, 111), (114, 113), (115, 114), (119, 7), (117, 116)] [(110, some 107), (118, some 112), (107, some 110), (112, some 118)] [] ?_|refine goD ?_))|(with_reducible first|refine gG ?_ ?_|refine ⟨fun h => ?_, fun h => ?_⟩ <;> try omega|refine andG ?_)|refine cp_ hI ?_ (hi := by (simp [idsL, idsE, AV.ids, hidw, hidl1, hidl2, hidx]))|simp (disch := try exact qa0) only [push_cast, simprocAttr, b2, b4, b5, b7, b8, b9, b10, b11, hsub1, htj, hjl, e3, hS3, c8, hil, hxl, eti, edi])
              refine za0 (ws.length - (j + 1)) (by omega) (by first|exact va0|fail) ⟨j + 1, _, by omega, rfl, hxs2, by rw [← hsx], ?_⟩;unfold kA0;simp (disch := try exact qa0) only [push_cast, simprocAttr, b2, b4, b5, b7, b8, b9, b10, b11, hsub1, htj, hjl, e3, hS3, c8, hil, hxl, eti, edi]
            ·obtain rfl : ws.length = j := by omega
             rw [l'x] at hxs;have hjl : ¬ ((ws.length : Int) + 1 < ws.length + 1) := by omega
             rw [hxs] at hlp;have hn1 := hnx.1 _ hlp;have hs1 := wca9 rows (xs, false);have hs2 := vaA9 rows (xs, false);have hel : (ints xs).length = ws.length := by omega
             have hex : (ints xs).take ws.length = ints xs := l'k (by omega);repeat' (first|(first|refine nav ?_|(refine g0_ ?_; first|refine dN (p := [1, 1, 1, 1, 0, 0, 1, 0, 0, 1, 0, 1, 1, 1, 1, 1, 1, 1]) [(111, 7), (112, 111), (114, 113), (115, 114), (119, 7), (117, 116)] [(110, some 107), (118, some 112), (107, some 110), (112, some 118)] [] ?_|refine goD ?_))|(with_reducible first|refine gG ?_ ?_|refine ⟨fun h => ?_, fun h => ?_⟩ <;> try omega|refine andG ?_)|simp (disch := try exact qa0) only [push_cast, simprocAttr, b2, b4, b5, b7, b8, b9, b10, b11, hsub1, hjl, hS3, hil, hxl, hl1, hl2, et1, et2, ed1, ed2, hne])
             refine zm0 (Lr.length - (k + 1)) 4 (j := 4) rfl (by omega) (by first|exact va0|fail) (by omega) (by simp [frzH]) (by simp [frzH, frzB, frz, Blk.below, idsE, idsL, AV.ids, xn0, qg0, hidl1, hidl2, hidx, hel, hex]) ⟨k + 1, _, by omega, rfl, hn1, ?_, ?_⟩
             ·rw [← hs1, ← hs2];simp [frzH, frzB, frz, xn0, hidl1, hidl2, hidx, hel, hex]
             ·skip
              simp (disch := try exact qa0) only [push_cast, simprocAttr, b2, b4, b5, b7, b8, ki0, frz, AV.ids, idsL];rw [if_pos (hidL _)]
          ·have hlp : xP0 line = none := by rw [hlp]; cases wi0 ws <;> simp [d1, d2]
           obtain rfl := hRn (hnx.2 hlp);repeat' (first|(first|refine nav ?_|(refine g0_ ?_; first|refine dN (p := [1, 1, 1, 1, 0, 0, 1, 0, 0, 1, 0, 1, 1, 1, 1, 1, 1, 1]) [(111, 7), (112, 111), (114, 113), (115, 114), (119, 7), (117, 116)] [(110, some 107), (118, some 112), (107, some 110), (112, some 118)] [] ?_|refine goD ?_))|(with_reducible first|refine gG ?_ ?_|refine ⟨fun h => ?_, fun h => ?_⟩ <;> try omega|refine andG ?_)|refine cp_ hsp3 ?_ (hi := by (simp [idsL, idsE, AV.ids, hidw, hidl1, hidl2]))|simp (disch := try exact qa0) only [push_cast, simprocAttr, b2, b4, b5, b7, b8, hsub1, hkl, htk, e1, hS3, d1, d2])
        ·obtain rfl : Lr.length = k := by omega
         rw [l'x] at hrw;obtain rfl := hRs rows hrw;have hkl : ¬ ((Lr.length : Int) + 1 < Lr.length + 1) := by omega
         have hck := wbN9 (H := [.row 3 47 [[.int .i64 0, .sl 0 [] (some 0), .sl 0 [] (some 0)]], .row 3 47 [[.int .i64 A0, .own 2 Lr.length Lr.length none, .own 3 Lr.length Lr.length none]], .row 1 27 (rowL (lcN rows)), .row 1 4 (qb0 (acP rows))]) rfl rfl A0 hrl (by omega) (kaA9 hrw fun f hf => by have := hLp' f hf; omega);by_cases hc0 : vd0 A0 (kd0 (lcP rows)) rows.length = 0
         ·rw [hc0] at hck;have hR : wW0 (some (A0, rows)) = .tup [dA A0 1 (lcN rows) none 1 (acP rows) none, .int .i64 0] := by rw [wW0, if_neg (by rw [hc0]; simp)]
          rw [hR];unfold dA;repeat' (first|(first|refine nav ?_|(refine g0_ ?_; first|refine dN (p := [1, 1, 1, 1, 0, 0, 1, 0, 0, 1, 0, 1, 1, 1, 1, 1, 1, 1]) [(111, 7), (112, 111), (114, 113), (115, 114), (119, 7), (117, 116)] [(110, some 107), (118, some 112), (107, some 110), (112, some 118)] [] ?_|refine goD ?_))|(with_reducible first|refine gG ?_ ?_|refine ⟨fun h => ?_, fun h => ?_⟩ <;> try omega|refine andG ?_)|refine cl_ hck ?_|simp (disch := try exact qa0) only [push_cast, simprocAttr, b2, b4, b5, b7, b8, hsub1, hkl, hl1, hl2, et1, et2])
         ·have hR : wW0 (some (A0, rows)) = .tup [dA0, .int .i64 (vd0 A0 (kd0 (lcP rows)) rows.length)] := by rw [wW0, if_pos hc0]
          rw [hR];unfold dA0;generalize vd0 A0 (kd0 (lcP rows)) rows.length = e at *;repeat' (first|(first|refine nav ?_|(refine g0_ ?_; first|refine dN (p := [1, 1, 1, 1, 0, 0, 1, 0, 0, 1, 0, 1, 1, 1, 1, 1, 1, 1]) [(111, 7), (112, 111), (114, 113), (115, 114), (119, 7), (117, 116)] [(110, some 107), (118, some 112), (107, some 110), (112, some 118)] [] ?_|refine goD ?_))|(with_reducible first|refine gG ?_ ?_|refine ⟨fun h => ?_, fun h => ?_⟩ <;> try omega|refine andG ?_)|refine cl_ hck ?_|simp (disch := try exact qa0) only [push_cast, simprocAttr, b2, b4, b5, b7, b8, hsub1, hkl, hl1, hl2, et1, et2, hc0])
      ·rw [hno (by
        rintro ⟨A, n, h, _, h3⟩;rw [wi0, wi0] at h;cases q1 : int4 w1 with
        | none => rw [q1] at h; cases h
        | some v1 =>
         cases q2 : int4 w2 with
         | none => rw [q1, q2] at h; cases h
         | some v2 =>
          rw [q1, q2] at h;simp only [wi0, Option.some.injEq, List.cons.injEq, and_true] at h;rw [zcV9 q2] at c6;omega)]
       unfold qy0 at c4;subst c4;unfold wW0 dA0;refine qc0 1 128 [.cell 2 47, .tmp 3] Tryz.func64 rfl rfl rfl (by simp) ?_;intro s ⟨a0, hz⟩;clear hz;repeat' (first|(first|refine nav ?_|(refine g0_ ?_; first|refine dN (p := [1, 1, 1, 1, 0, 0, 1, 0, 0, 1, 0, 1, 1, 1, 1, 1, 1, 1]) [(111, 7), (112, 111), (114, 113), (115, 114), (119, 7), (117, 116)] [(110, some 107), (118, some 112), (107, some 110), (112, some 118)] [] ?_|refine goD ?_))|(with_reducible first|refine gG ?_ ?_|refine ⟨fun h => ?_, fun h => ?_⟩ <;> try omega|refine andG ?_)|refine cp_ hsp1 ?_ (hi := by (simp [idsL, idsE, AV.ids, hidL]))|refine cp_ hsp2 ?_ (hi := by (simp [idsL, idsE, AV.ids, hidL]))|refine cp_ hI1 ?_ (hi := by (simp [idsL, idsE, AV.ids, hidL]))|refine cp_ hI2 ?_ (hi := by (simp [idsL, idsE, AV.ids, hidL]))|simp (disch := try exact qa0) only [push_cast, simprocAttr, a0, hS1, hsub1, hsub2, htn, htn2, eN, e0, hc2, c5, c6])
    ·rw [hno (by rintro ⟨A, n, _, h, _⟩; exact c4 h)];unfold qy0 at c4;unfold wW0 dA0;refine qc0 1 128 [.cell 2 47, .tmp 3] Tryz.func64 rfl rfl rfl (by simp) ?_;intro s ⟨a0, hz⟩;clear hz;repeat' (first|(first|refine nav ?_|(refine g0_ ?_; first|refine dN (p := [1, 1, 1, 1, 0, 0, 1, 0, 0, 1, 0, 1, 1, 1, 1, 1, 1, 1]) [(111, 7), (112, 111), (114, 113), (115, 114), (119, 7), (117, 116)] [(110, some 107), (118, some 112), (107, some 110), (112, some 118)] [] ?_|refine goD ?_))|(with_reducible first|refine gG ?_ ?_|refine ⟨fun h => ?_, fun h => ?_⟩ <;> try omega|refine andG ?_)|refine cp_ hsp1 ?_ (hi := by (simp [idsL, idsE, AV.ids, hidL]))|refine cp_ hsp2 ?_ (hi := by (simp [idsL, idsE, AV.ids, hidL]))|(refine ⟨AV.str [], ?_⟩; refine wC0 ?_)|simp (disch := try exact qa0) only [push_cast, simprocAttr, a0, hS1, hsub1, hsub2, htn, htn2, eN, e0, hc2, c4])
   ·rw [hno (by
     rintro ⟨A, n, h, _⟩;have := zW0 h;have hF0 := xh0 32 f0;rw [hF] at hF0;rw [List.length_tail] at this;simp at this;omega)]
    have c3' : ¬ (F.length : Int) = 3 := by omega
    unfold wW0 dA0;refine qc0 1 128 [.cell 2 47, .tmp 3] Tryz.func64 rfl rfl rfl (by simp) ?_;intro s ⟨a0, hz⟩;clear hz;repeat' (first|(first|refine nav ?_|(refine g0_ ?_; first|refine dN (p := [1, 1, 1, 1, 0, 0, 1, 0, 0, 1, 0, 1, 1, 1, 1, 1, 1, 1]) [(111, 7), (112, 111), (114, 113), (115, 114), (119, 7), (117, 116)] [(110, some 107), (118, some 112), (107, some 110), (112, some 118)] [] ?_|refine goD ?_))|(with_reducible first|refine gG ?_ ?_|refine ⟨fun h => ?_, fun h => ?_⟩ <;> try omega|refine andG ?_)|refine cp_ hsp1 ?_ (hi := by (simp [idsL, idsE, AV.ids, hidL, hidF]))|refine cp_ hsp2 ?_ (hi := by (simp [idsL, idsE, AV.ids, hidL, hidF]))|(refine ⟨AV.str [], ?_⟩; refine wC0 ?_)|simp (disch := try exact qa0) only [push_cast, simprocAttr, a0, hS1, hsub1, hsub2, htn, htn2, eN, e0, hc2, hS2, c3'])
 ·rw [hno c1];unfold wW0 dA0;generalize LL.getD m [] = l0 at *;refine qc0 1 128 [.cell 2 47, .tmp 3] Tryz.func64 rfl rfl rfl (by simp) ?_;intro s ⟨a0, hz⟩;clear hz;repeat' (first|(first|refine nav ?_|(refine g0_ ?_; first|refine dN (p := [1, 1, 1, 1, 0, 0, 1, 0, 0, 1, 0, 1, 1, 1, 1, 1, 1, 1]) [(111, 7), (112, 111), (114, 113), (115, 114), (119, 7), (117, 116)] [(110, some 107), (118, some 112), (107, some 110), (112, some 118)] [] ?_|refine goD ?_))|(with_reducible first|refine gG ?_ ?_|refine ⟨fun h => ?_, fun h => ?_⟩ <;> try omega|refine andG ?_)|refine cp_ hsp1 ?_ (hi := by (simp [idsL, idsE, AV.ids, hidL]))|simp (disch := try exact qa0) only [push_cast, simprocAttr, a0, hS1, hsub1, eN, c1])
end Go.Proofs
