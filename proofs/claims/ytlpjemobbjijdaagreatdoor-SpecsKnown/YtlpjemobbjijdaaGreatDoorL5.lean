import Derived.Test.YtlpjemobbjijdaaGreatDoorL3
namespace Go.Proofs
open Go Go.V
set_option linter.unusedVariables false
set_option linter.unusedSimpArgs false
set_option maxHeartbeats 0
set_option maxRecDepth 100000 in
theorem zbU9 (i o : Int) (l : List Row) (z : Nat) (c : Option Nat) (hz : l = [] ∨ z = 1) (hl : l.length ≤ 1000000) (hr : ∀ j, j < l.length → (l.getD j ([], none)).1.length ≤ 1000000) : PC Tryz.prog G0 33 [.agg [.int .i64 i, .int .i64 o, .sl z (kb0 l) c]] (.int .i64 (zk0 i o l)) := by
 refine wb0 1 95 [.tmp 2] Tryz.func33 rfl rfl rfl (by simp) ?_;intro s ⟨a0, hz⟩;clear hz;repeat' (first|refine nv ?_|(with_reducible first|refine gG ?_ ?_|refine ⟨fun h => ?_, fun h => ?_⟩ <;> try omega|refine andG ?_)|simp (disch := try exact discB) only [push_cast, simprocAttr, a0])
 ·congr 1
  rw [zk0, if_pos (by omega)]
 ·congr 1
  rw [zk0, if_neg (by omega), if_pos (by omega)]
 ·rename_i h1;obtain rfl : z = 1 := by
   rcases hz with q|q
   ·rw [q] at h; simp at h
   ·exact q
  refine go_loop rfl (fun mz s' H' => ∃ k : Nat, k ≤ l.length ∧ mz = l.length - k ∧ H' = [.row 3 24 [[.int .i64 i, .int .i64 o, .sl 1 (kb0 l) c]]] ∧ s' 1 = .ptr 0 0 0 1 ∧ s' 3 = .int .i64 k ∧ ∀ j, j < k → waj9 i o l.length (l.getD j ([], none)).1 = true) (m := l.length) (by first|exact va0|fail) (Weak.refl _ _) ⟨0, by omega, by omega, rfl, ?_⟩ ?_
  ·simp (disch := try exact discB) only [push_cast, simprocAttr, a0];all_goals exact fun j hj => by omega
  ·rintro mz s' H' ⟨k, hk, rfl, rfl, b1, b3, ik⟩;rcases l'h k l.length with hlt|hge
   ·have e1 := vo0 l k hlt;have hq := hr k hlt;have hs := wE0 (P := fun j => waj9 i o l.length (l.getD j ([], none)).1 = true) (k := k) ik;have hno : waj9 i o l.length (l.getD k ([], none)).1 = false → zk0 i o l = 1 := fun h => by
     rw [zk0, if_neg (by omega), if_neg (by omega), if_neg];intro hh;rw [hh k hlt] at h; cases h
    simp only [waj9] at hs hno;generalize (l.getD k ([], none)).2 = cc at *;generalize (l.getD k ([], none)).1 = r at *;repeat' (first|refine nv ?_|(with_reducible first|refine gG ?_ ?_|refine ⟨fun h => ?_, fun h => ?_⟩ <;> try omega|refine andG ?_)|simp (disch := try exact discB) only [push_cast, simprocAttr, b1, b3, e1])
    ·congr 1
     refine (hno ?_).symm;simp [h]
    ·rename_i hlen;refine go_loop rfl (fun mz s' H' => ∃ m : Nat, m ≤ r.length ∧ mz = r.length - m ∧ H' = [.row 3 24 [[.int .i64 i, .int .i64 o, .sl 1 (kb0 l) c]]] ∧ s' 1 = .ptr 0 0 0 1 ∧ s' 3 = .int .i64 k ∧ s' 4 = .int .i64 m ∧ ∀ j, j < m → fitE o l.length (r.getD j (0, 0)) = true) (m := r.length) (by first|exact va0|fail) (Weak.refl _ _) ⟨0, by omega, by omega, rfl, ?_⟩ ?_
     ·simp (disch := try exact discB) only [push_cast, simprocAttr, b1, b3, e1];all_goals exact fun j hj => by omega
     ·rintro mz s' H' ⟨m, hm, rfl, rfl, b1, b3, b4, im⟩;rcases l'h m r.length with hlt3|hge3
      ·have e3 := wn0 r m hlt3;have hs3 := wE0 (P := fun j => fitE o l.length (r.getD j (0, 0)) = true) (k := m) im;have hno3 : fitE o l.length (r.getD m (0, 0)) = false → zk0 i o l = 1 := fun h => hno (by
        rw [Bool.and_eq_false_iff]; right;rw [l'L];intro hh;rw [l'j] at hh;have := hh (r.getD m (0, 0)) (by rw [l'b, l'e hlt3]; exact n'z _);rw [h] at this; cases this)
       generalize r.getD m (0, 0) = x at *;obtain ⟨x1, x2⟩ := x;simp only [eA] at e3;have hfd : fitE o l.length (x1, x2) = ((decide (x1 = -1) && decide (x2 = -1)) || (decide (0 ≤ x1) && decide (x1 < l.length) && decide (0 ≤ x2) && decide (x2 < o))) := rfl;rw [hfd] at hs3 hno3;repeat' (first|refine nv ?_|(with_reducible first|refine gG ?_ ?_|refine ⟨fun h => ?_, fun h => ?_⟩ <;> try omega|refine andG ?_)|simp (disch := try exact discB) only [push_cast, simprocAttr, b1, b3, b4, e1, e3])
       ·refine qe0 (r.length - (m + 1)) 1 (by omega) (by first|exact va0|fail) (by omega) (by simp) (by simp [Blk.below, idsE, idsL, AV.ids]) ⟨m + 1, by omega, rfl, rfl, ?_⟩;simp (disch := try exact discB) only [push_cast, simprocAttr, b1, b3, b4, e1, e3, xi0, AV.ids, idsL, we0];refine hs3 ?_;simp [h.1, h.2]
       ·congr 1
        refine (hno3 ?_).symm;simp only [n't, Bool.and_eq_false_iff, decide_eq_false_iff_not];omega
       ·refine qe0 (r.length - (m + 1)) 1 (by omega) (by first|exact va0|fail) (by omega) (by simp) (by simp [Blk.below, idsE, idsL, AV.ids]) ⟨m + 1, by omega, rfl, rfl, ?_⟩;simp (disch := try exact discB) only [push_cast, simprocAttr, b1, b3, b4, e1, e3, xi0, AV.ids, idsL, we0];refine hs3 ?_;simp only [l's, l'a, decide_eq_true_eq];omega
      ·obtain rfl : m = r.length := by omega
       repeat' (first|refine nv ?_|(with_reducible first|refine gG ?_ ?_|refine ⟨fun h => ?_, fun h => ?_⟩ <;> try omega|refine andG ?_)|simp (disch := try exact discB) only [push_cast, simprocAttr, b1, b3, b4, e1])
       refine wa0 (l.length - (k + 1)) (by omega) (by first|exact va0|fail) ⟨k + 1, by omega, rfl, rfl, ?_⟩;simp (disch := try exact discB) only [push_cast, simprocAttr, b1, b3, b4, e1];refine hs ?_;rw [l'a, decide_eq_true_eq, l'j];refine ⟨by omega, fun e he => ?_⟩;obtain ⟨j, hj, rfl⟩ := n'F he;have := im j hj
       rwa [l'b, l'e hj] at this
   ·obtain rfl : k = l.length := by omega
    repeat' (first|refine nv ?_|(with_reducible first|refine gG ?_ ?_|refine ⟨fun h => ?_, fun h => ?_⟩ <;> try omega|refine andG ?_)|simp (disch := try exact discB) only [push_cast, simprocAttr, b1, b3])
    congr 1
    rw [zk0, if_neg (by omega), if_neg (by omega), if_pos ik]
set_option maxRecDepth 100000
theorem qbv9 : ∀ (w : Bs) (l c B : Int), 0 ≤ l → l ≤ B → 0 ≤ c → c ≤ B → 1 ≤ B → 0 ≤ (posT l c w).1 ∧ (posT l c w).1 ≤ B + w.length ∧ 0 ≤ (posT l c w).2 ∧ (posT l c w).2 ≤ B + w.length
 | [], l, c, B, h1, h2, h3, h4, h5 => by simp [posT]; omega
 | b :: r, l, c, B, h1, h2, h3, h4, h5 => by
  rw [posT];simp only [List.length_cons, Int.natCast_add, Int.natCast_one];split
  ·have := qbv9 r (l + 1) 1 (B + 1) (by omega) (by omega) (by omega) (by omega) (by omega); omega
  ·have := qbv9 r l (c + 1) (B + 1) (by omega) (by omega) (by omega) (by omega) (by omega); omega
theorem kdc9 (t : Bs) (l c : Int) (K : List Blk) (ht : t.length ≤ 1000000) (hl : 0 ≤ l ∧ l ≤ 1000000) (hc : 0 ≤ c ∧ c ≤ 1000000) :
  qb0 Tryz.prog G0 97 [.str t, .ptr 0 0 0 1, .ptr 1 0 0 1] (.row 1 3 [[.int .i64 l]] :: .row 1 3 [[.int .i64 c]] :: K) (.tup []) (.row 1 3 [[.int .i64 (posT l c t).1]] :: .row 1 3 [[.int .i64 (posT l c t).2]] :: K) := by
 have h1 := fun H => xej9 H t;have h2 := fun H => kdJ9 H t ht;have hs := kaF9 t 10;have p1 := qbu9 t l c;have p2 := xco9 t l c;have hcl : t.count 10 ≤ t.length := List.count_le_length;have e10 : (((10 : UInt8).toNat : Nat) : Int) = 10 := rfl;rw [e10] at hs;generalize Lib.lastIndexByte ⟨t.toArray⟩ 10 = ix at *;rcases hs with ⟨rfl, hn⟩|⟨i, hi, rfl, h3, h4⟩
 ·have hz : t.count 10 = 0 := List.count_eq_zero.mpr fun q => by
   obtain ⟨j, hj, e⟩ := n'F q;exact hn j (by rw [l'e hj, e])
  rw [p1 hn];rw [hz] at h1;refine zp0 21 [] Tryz.func97 rfl rfl rfl (by simp) ?_;intro s ⟨a0, a1, a2, hz⟩;simp only [l'g, Nat.reduceAdd] at a1 a2;clear hz;repeat' (first|refine nv ?_|(with_reducible first|refine gG ?_ ?_|refine ⟨fun h => ?_, fun h => ?_⟩ <;> try omega|refine andG ?_)|refine cl (h1 _) ?_|refine cl (h2 _) ?_|simp (disch := try exact discB) only [push_cast, simprocAttr, a0, a1, a2])
  rw [Int.add_zero]
 ·rw [p2 i h3 h4];have e1 : ((i : Int) + 1).toNat = i + 1 := by omega
  have e2 : (t.drop (i + 1)).length ≤ 1000000 := by rw [l'z]; omega
  generalize hu : t.drop (i + 1) = u at *;refine zp0 21 [] Tryz.func97 rfl rfl rfl (by simp) ?_;intro s ⟨a0, a1, a2, hz⟩;simp only [l'g, Nat.reduceAdd] at a1 a2;clear hz;repeat' (first|refine nv ?_|(with_reducible first|refine gG ?_ ?_|refine ⟨fun h => ?_, fun h => ?_⟩ <;> try omega|refine andG ?_)|refine cl (h1 _) ?_|refine cl (h2 _) ?_|simp (disch := try exact discB) only [push_cast, simprocAttr, a0, a1, a2, e1, hu])
  all_goals first|omega|rfl
def ofR : LexR → List Tk × Int × Int × Int
 | .ok l => (l, 0, 0, 0)
 | .err l c e => ([], l, c, e)
def ofS (s0 : Bs) : List Tk × Int × Int × Int := if 65536 < s0.length then ([], 0, 0, 3) else ofR (lexR s0 1 1)
def ofA (s0 : Bs) : AV := .tup [.sl 4 (tks (ofS s0).1) (some (ofS s0).1.length), .int .i64 (ofS s0).2.1, .int .i64 (ofS s0).2.2.1, .int .i64 (ofS s0).2.2.2]
theorem xbU9 (b n h : Nat) (t : TypeId) (es : List (List AV)) (c : Option Nat) (H : List Blk) (hb : H[b]? = some (.row 4 t es)) (hh : h = es.length) : qb0 Tryz.prog G0 101 [.own b n h c] H (.own b n h (some n)) H := by
 subst hh;refine zp0 9 [.tmp 2] Tryz.func101 rfl rfl rfl (by simp) ?_;intro s ⟨a0, hz⟩;clear hz;repeat' (first|refine nv ?_|(with_reducible first|refine gG ?_ ?_|refine ⟨fun h => ?_, fun h => ?_⟩ <;> try omega|refine andG ?_)|refine cl (h1 _) ?_|refine cl (h2 _) ?_|simp (disch := try exact discB) only [push_cast, simprocAttr, a0, hb])
theorem of9 (s0 : Bs) (hs : s0.length ≤ 1000000) : PC Tryz.prog G0 63 [.str s0] (ofA s0) := by
 unfold ofA;by_cases hbig : 65536 < s0.length
 ·rw [show ofS s0 = ([], 0, 0, 3) by rw [ofS, if_pos hbig]];have hb' : (65536 : Int) < s0.length := by omega
  refine wb0 1 65 [.tmp 2, .cell 3 3, .cell 4 3, .tmp 5] Tryz.func63 rfl rfl rfl (by simp) ?_;intro s ⟨a0, hz⟩;clear hz;repeat' (first|(first|refine nav ?_|(refine g0_ ?_; first|refine dN (p := [0, 0, 1, 0, 1, 1, 1, 1, 1, 0, 0, 0, 1, 1, 1, 1, 1]) [(46, 4)] [(3, some 3)] [] ?_|refine dN (p := [0, 1, 1, 1, 1, 1, 1, 0, 0, 0, 1, 1, 1, 1, 1]) [(49, 4)] [(50, some 50)] [] ?_|refine goD ?_))|(with_reducible first|refine gG ?_ ?_|refine ⟨fun h => ?_, fun h => ?_⟩ <;> try omega|refine andG ?_)|simp (disch := try exact discB) only [push_cast, simprocAttr, a0, hb', kaU9])
 ·have hR : ofS s0 = ofR (lexR s0 1 1) := by rw [ofS, if_neg hbig]
  have hb' : ¬ (65536 : Int) < s0.length := by omega
  generalize ofS s0 = R at *;refine wb0 1 65 [.tmp 2, .cell 3 3, .cell 4 3, .tmp 5] Tryz.func63 rfl rfl rfl (by simp) ?_;intro s ⟨a0, hz⟩;clear hz;repeat' (first|(first|refine nav ?_|(refine g0_ ?_; first|refine dN (p := [0, 0, 1, 0, 1, 1, 1, 1, 1, 0, 0, 0, 1, 1, 1, 1, 1]) [(46, 4)] [(3, some 3)] [] ?_|refine dN (p := [0, 1, 1, 1, 1, 1, 1, 0, 0, 0, 1, 1, 1, 1, 1]) [(49, 4)] [(50, some 50)] [] ?_|refine goD ?_))|(with_reducible first|refine gG ?_ ?_|refine ⟨fun h => ?_, fun h => ?_⟩ <;> try omega|refine andG ?_)|simp (disch := try exact discB) only [push_cast, simprocAttr, a0, hb'])
  refine kq0 (by first|exact va0|fail) (qr0 (t := 2) (sz := 4) (ty := 115) rfl) ?_;refine go_loop rfl (fun mz s' H' => ∃ (a : Nat) (ts : List Tk) (l c : Int), a ≤ s0.length ∧ ts.length ≤ a ∧ (0 ≤ l ∧ l ≤ a + 1) ∧ (0 ≤ c ∧ c ≤ a + 1) ∧ lexR s0 1 1 = (lexR (s0.drop a) l c).app ts ∧ mz = s0.length - a ∧ H' = [.row 1 3 [[.int .i64 l]], .row 1 3 [[.int .i64 c]], .row 4 115 (tks ts)] ∧ s' 0 = .str s0 ∧ s' 2 = .own 2 ts.length ts.length none ∧ s' 3 = .ptr 0 0 0 1 ∧ s' 4 = .ptr 1 0 0 1 ∧ s' 6 = .fn 97 [.ptr 0 0 0 1, .ptr 1 0 0 1] ∧ s' 7 = .int .i64 a) (m := s0.length) (by first|exact va0|fail) (Weak.refl _ _) ⟨0, [], 1, 1, by omega, by simp, by omega, by omega, ?_, by omega, rfl, ?_⟩ ?_
  ·rw [List.drop_zero, LexR.app_nil]
  ·simp (disch := try exact discB) only [push_cast, simprocAttr, a0, hb']
  ·rintro mz s' H' ⟨a, ts, l, c, ha, hts, hl, hc, ik, rfl, rfl, b0, b2, b3, b4, b6, b7⟩;have hg := vai9 false (s0.drop a);rw [l'z] at hg;have h1 := wej9 (s0.drop a) (by rw [l'z]; omega);have h2 := fun H => kdc9 ((s0.drop a).take (gapS false (s0.drop a))) l c H (by rw [l'x, l'z]; omega) (by omega) (by omega);have hge := zcn9 (s0.drop a) false l c;have hbd := qbv9 ((s0.drop a).take (gapS false (s0.drop a))) l c (a + 1) (by omega) (by omega) (by omega) (by omega) (by omega);have hgl : ((s0.drop a).take (gapS false (s0.drop a))).length = gapS false (s0.drop a) := by rw [l'x, l'z]; omega
   rw [hgl] at hbd;have hlx : lexX false (s0.drop a) l c = lexR (s0.drop a) l c := rfl;rw [hlx, n'p] at hge;generalize hP : posT l c ((s0.drop a).take (gapS false (s0.drop a))) = P at *;obtain ⟨l2, c2⟩ := P;simp only at h2 hge hbd;generalize gapS false (s0.drop a) = g at *;have hsl : ((a : Int) + (g : Int)).toNat = a + g := by omega
   have hsub : List.drop a (List.take (a + g) s0) = (s0.drop a).take g := by rw [z'k]; congr 1; omega
   generalize hX : (s0.drop a).take g = X at *;rcases hge with ⟨hd, hz⟩|⟨b, r, hd, hrem, n2, n1, n3, hz⟩
   ·have hag : a + g = s0.length := by have := congrArg List.length hd; rw [l'z, List.length_nil] at this; omega
    rw [hz] at ik;have hR2 : R = (ts, 0, 0, 0) := by rw [hR, ik]; simp [LexR.app, ofR]
    have hsub2 : s0.drop a = X := by rw [← hX, l'y (by rw [l'z]; omega)]
    rw [hsub2] at h1;have et : (tks ts).take ts.length = tks ts := l'y (by rw [wd0]; omega);repeat' (first|(first|refine nav ?_|(refine g0_ ?_; first|refine dN (p := [0, 0, 1, 0, 1, 1, 1, 1, 1, 0, 0, 0, 1, 1, 1, 1, 1]) [(46, 4)] [(3, some 3)] [] ?_|refine dN (p := [0, 1, 1, 1, 1, 1, 1, 0, 0, 0, 1, 1, 1, 1, 1]) [(49, 4)] [(50, some 50)] [] ?_|refine goD ?_))|(with_reducible first|refine gG ?_ ?_|refine ⟨fun h => ?_, fun h => ?_⟩ <;> try omega|refine andG ?_)|refine cp h1 ?_|refine cl (h2 _) ?_|refine cl (xbU9 2 _ _ 115 (tks ts) none _ rfl (by rw [wd0])) ?_|simp (disch := try exact discB) only [push_cast, simprocAttr, b0, b2, b3, b4, b6, b7, hsl, hsub, hsub2, et, zbu9])
    subst hR2;first|done|rfl|simp
   ·rw [hz] at ik;have h3 := qcr9 (s0.drop (a + g)) (by rw [l'z]; omega);have hdl := congrArg List.length hd;rw [l'z, List.length_cons] at hdl;rw [xe0, if_neg n1, if_neg n2, if_neg n3, ← hd] at ik;have hby := zO0 (s0.drop (a + g));have htl := qaj9 (s0.drop (a + g));rw [l'z] at htl;have hpos := @wG0 b r;rw [← hd] at hpos;generalize tokS (s0.drop (a + g)) = T at *;obtain ⟨k, n, e⟩ := T;simp only at ik h3 hby hpos htl;have hfl := xbi9 ((s0.drop (a + g)).take n) l2 c2 hby;have hnl : ((s0.drop (a + g)).take n).length = n := by rw [l'x, l'z]; omega
    by_cases he : e = 0
    ·subst he;rw [if_neg (by simp), LexR.app_snoc, n'p] at ik;have h4 := fun H => kdc9 ((s0.drop (a + g)).take n) l2 c2 H (by omega) (by omega) (by omega);rw [hfl, hnl] at h4;generalize (s0.drop (a + g)).take n = w at *;repeat' (first|(first|refine nav ?_|(refine g0_ ?_; first|refine dN (p := [0, 0, 1, 0, 1, 1, 1, 1, 1, 0, 0, 0, 1, 1, 1, 1, 1]) [(46, 4)] [(3, some 3)] [] ?_|refine dN (p := [0, 1, 1, 1, 1, 1, 1, 0, 0, 0, 1, 1, 1, 1, 1]) [(49, 4)] [(50, some 50)] [] ?_|refine goD ?_))|(with_reducible first|refine gG ?_ ?_|refine ⟨fun h => ?_, fun h => ?_⟩ <;> try omega|refine andG ?_)|refine cp h1 ?_|refine cl (h2 _) ?_|refine cp h3 ?_|refine cl (h4 _) ?_|simp (disch := try exact discB) only [push_cast, simprocAttr, b0, b2, b3, b4, b6, b7, hsl, hsub])
     refine qe0 (s0.length - (a + g + n)) 3 (by omega) (by first|exact va0|fail) (by omega) (by simp) (by simp [Blk.below, idsL, idsE, AV.ids, zaB9]) ⟨a + g + n, ts ++ [⟨k, w, l2, c2⟩], l2, c2 + n, by omega, by simp; omega, by omega, by omega, ik, rfl, by rw [← vO0]; rfl, ?_⟩;simp (disch := try exact discB) only [push_cast, simprocAttr, b0, b2, b3, b4, b6, b7, xi0, AV.ids, idsL];first|done|rw [hnl]
    ·rw [if_pos he] at ik;have hR2 : R = ([], l2, c2, e) := by rw [hR, ik]; simp [LexR.app, ofR]
     repeat' (first|(first|refine nav ?_|(refine g0_ ?_; first|refine dN (p := [0, 0, 1, 0, 1, 1, 1, 1, 1, 0, 0, 0, 1, 1, 1, 1, 1]) [(46, 4)] [(3, some 3)] [] ?_|refine dN (p := [0, 1, 1, 1, 1, 1, 1, 0, 0, 0, 1, 1, 1, 1, 1]) [(49, 4)] [(50, some 50)] [] ?_|refine goD ?_))|(with_reducible first|refine gG ?_ ?_|refine ⟨fun h => ?_, fun h => ?_⟩ <;> try omega|refine andG ?_)|refine cp h1 ?_|refine cl (h2 _) ?_|refine cp h3 ?_|simp (disch := try exact discB) only [push_cast, simprocAttr, b0, b2, b3, b4, b6, b7, hsl, hsub, he])
     subst hR2;simp [tks]
theorem wcR9 {w : Bs} {k : Nat} (hk : k < w.length) : (w.take (k + 1)).all digB = ((w.take k).all digB && digB (w.getD k 0)) := by
 rw [kaA9 w 0 k hk, List.all_append]; simp
theorem zcr9 (w : Bs) (hw : w ≠ []) (hs : w.length ≤ 1000000) : PC Tryz.prog G0 110 [.str w] (.tup [.int .u8 (zB0 w).1, .int .i64 (zB0 w).2]) := by
 have h0 := xaM9 w;have h1 := xbG9 (w.getD 0 0);have hl : 0 < w.length := n'm.2 hw;have ka := qan9 w;have kr := qcp9 w;rw [h0] at ka kr;have e48 : (((w.getD 0 0).toNat : Int) = 48) = (w.getD 0 0 = 48) := by
  apply propext;rw [← l'Y];show _ ↔ (w.getD 0 0).toNat = 48;omega
 cases hc : letB (w.getD 0 0) with
 | true =>
  rw [hc] at h1;rw [ka hc];generalize hcc : w.getD 0 0 = c at *;refine wb0 0 36 [.tmp 2, .tmp 3] Tryz.func110 rfl rfl rfl (by simp) ?_;intro s ⟨a0, hz⟩;clear hz;repeat' (first|refine nv ?_|(with_reducible first|refine gG ?_ ?_|refine ⟨fun h => ?_, fun h => ?_⟩ <;> try omega|refine andG ?_)|refine cp h1 ?_|simp (disch := try exact discB) only [push_cast, simprocAttr, a0, bI, Int.reduceEq, hcc])
  ·rw [if_neg (by omega)]; exact ⟨rfl, rfl⟩
  ·rw [if_pos (by omega)]; exact ⟨rfl, rfl⟩
 | false =>
  rw [hc] at h1;have kr := kr (by rw [hc]; decide);generalize hcc : w.getD 0 0 = c at *;refine wb0 0 36 [.tmp 2, .tmp 3] Tryz.func110 rfl rfl rfl (by simp) ?_;intro s ⟨a0, hz⟩;clear hz;repeat' (first|refine nv ?_|(with_reducible first|refine gG ?_ ?_|refine ⟨fun h => ?_, fun h => ?_⟩ <;> try omega|refine andG ?_)|refine cp h1 ?_|simp (disch := try exact discB) only [push_cast, simprocAttr, a0, bI, Int.reduceEq, hcc])
  refine go_loop rfl (fun mz s' H' => ∃ k : Nat, k ≤ w.length ∧ mz = w.length - k ∧ H' = [] ∧ s' 0 = .str w ∧ s' 4 = .int .i64 k ∧ (w.take k).all digB = true) (m := w.length) (by first|exact va0|fail) (Weak.refl _ _) ⟨0, by omega, by omega, rfl, ?_⟩ ?_
  ·simp (disch := try exact discB) only [push_cast, simprocAttr, a0, bI, Int.reduceEq, hcc]
  ·rintro mz s' H' ⟨k, hk, rfl, rfl, b0, b4, ik⟩;rcases l'h k w.length with hlt|hge
   ·have e1 := wcR9 hlt;rw [ik, n'k] at e1;have h2 := kcp9 (w.getD k 0);have hfalse : digB (w.getD k 0) = false → w.all digB = false := fun q => by
     rw [l'L];intro h;have := l'j.1 h _ (ze0 0 hlt);rw [q] at this; cases this
    generalize hdd : w.getD k 0 = d at *;cases hd : digB d with
    | true =>
     rw [hd] at h2 e1;repeat' (first|refine nv ?_|(with_reducible first|refine gG ?_ ?_|refine ⟨fun h => ?_, fun h => ?_⟩ <;> try omega|refine andG ?_)|refine cp h2 ?_|simp (disch := try exact discB) only [push_cast, simprocAttr, b0, b4, bI, Int.reduceEq, hdd])
     refine wa0 (w.length - (k + 1)) (by omega) (by first|exact va0|fail) ⟨k + 1, by omega, rfl, rfl, ?_⟩;simp (disch := try exact discB) only [push_cast, simprocAttr, b0, b4, bI, Int.reduceEq, hdd];exact e1
    | false =>
     rw [hd] at h2;rw [hfalse hd, if_neg (by decide)] at kr;rw [kr];repeat' (first|refine nv ?_|(with_reducible first|refine gG ?_ ?_|refine ⟨fun h => ?_, fun h => ?_⟩ <;> try omega|refine andG ?_)|refine cp h2 ?_|simp (disch := try exact discB) only [push_cast, simprocAttr, b0, b4, bI, Int.reduceEq, hdd])
   ·obtain rfl : k = w.length := by omega
    rw [l'E] at ik;rw [if_pos ik] at kr;rw [kr];repeat' (first|refine nv ?_|(with_reducible first|refine gG ?_ ?_|refine ⟨fun h => ?_, fun h => ?_⟩ <;> try omega|refine andG ?_)|simp (disch := try exact discB) only [push_cast, simprocAttr, b0, b4, hcc, e48])
    ·rw [if_pos (h.elim (fun q => .inl (by omega)) fun q => .inr ⟨by omega, q.2⟩)]; exact ⟨rfl, rfl⟩
    ·rw [if_neg (fun q => q.elim (fun q => h.1 (by omega)) fun q => h.2.elim (fun w => w (by omega)) fun w => w q.2)]; exact ⟨rfl, rfl⟩
def veo9 (a b : List Tk) : Bool := decide (kts a = kts b)
end Go.Proofs
