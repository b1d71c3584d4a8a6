import Derived.Test.YtlpjemobbjijdaaGreatDoorL5
import Derived.Test.YtlpjemobbjijdaaGreatDoorAP9
import Derived.Test.YtlpjemobbjijdaaGreatDoorNUM
namespace Go.Proofs
open Go Go.V
set_option linter.unusedVariables false
set_option linter.unusedSimpArgs false
set_option maxHeartbeats 0
set_option maxRecDepth 100000
def refC (s : Bs) : Option Nat := if (ofS s).2.2.2 = 0 then none else some 0
def refA (s : Bs) : AV := .tup [.sl 4 (tks (ofS s).1) (refC s), .int .i64 (ofS s).2.1, .int .i64 (ofS s).2.2.1, .int .i64 (ofS s).2.2.2]
theorem qdL9 (x : Bool) : (bI x = 1) = (x = true) := by cases x <;> simp [bI]
theorem xcr9 (s0 : Bs) (a : Nat) (h : a < s0.length) : (a + 1 < s0.length → vx0 (s0.drop a) = wI0 (s0.getD a 0) (s0.getD (a + 1) 0)) ∧ (¬ a + 1 < s0.length → vx0 (s0.drop a) = false) ∧
  zm0 (s0.drop a) = if vx0 (s0.drop a) = true then 2 else if sngB (s0.getD a 0) = true then 1 else 0 := by
 have hd := qaB9 s0 0 a h;refine ⟨fun h1 => ?_, fun h1 => ?_, ?_⟩
 ·rw [hd, qaB9 s0 0 (a + 1) h1]; rfl
 ·rw [hd, l'M (by omega)]; rfl
 ·cases hp : vx0 (s0.drop a)
  ·have : (s0.drop a).getD 0 0 = s0.getD a 0 := by rw [hd]; rfl
   rw [wbG9 _ hp, if_neg (show ¬ s0.drop a = [] by rw [hd]; simp), this, if_neg (show ¬ false = true by decide)]
  ·unfold zm0; rw [if_pos hp, if_pos rfl]
theorem wcr9 (s0 : Bs) (a : Nat) (b : UInt8) (hb : s0[a]? = some b) : toNl (s0.drop a) = if b = 10 then s0.drop a else toNl (s0.drop (a + 1)) := by
 have hlt : a < s0.length := (l'c.1 hb).1;have e : s0.drop a = b :: s0.drop (a + 1) := by
  rw [l'K hlt];rw [l'e hlt] at hb;rw [Option.some.inj hb]
 rw [e, toNl, n'd];by_cases h : b = 10
 ·simp [h]
 ·simp [h, toNl]
theorem vcr9 (s0 : Bs) (a : Nat) (h : a < s0.length) (hne : wordS (s0.drop a) = []) : (vx0 (s0.drop a) = true → tokS (s0.drop a) = (3, 2, 0)) ∧
  (vx0 (s0.drop a) = false → sngB (s0.getD a 0) = true → tokS (s0.drop a) = (3, 1, 0)) ∧ (vx0 (s0.drop a) = false → sngB (s0.getD a 0) = false → tokS (s0.drop a) = (0, 0, 4)) := by
 have htk := xaA9 (s0.drop a) hne;have m3 := (xcr9 s0 a h).2.2;generalize sngB (s0.getD a 0) = y at *;generalize vx0 (s0.drop a) = x at *;rw [m3] at htk;refine ⟨fun q => ?_, fun q1 q2 => ?_, fun q1 q2 => ?_⟩
 ·subst q; exact htk
 ·subst q1 q2; exact htk
 ·subst q1 q2; exact htk
theorem kcr9 (s0 : Bs) (hs : s0.length ≤ 1000000) : PC Tryz.prog G0 70 [.str s0] (refA s0) := by
 unfold refA refC;by_cases hbig : 65536 < s0.length
 ·rw [show ofS s0 = ([], 0, 0, 3) by rw [ofS, if_pos hbig]];have hb' : (65536 : Int) < s0.length := by omega
  refine wb0 1 134 [.tmp 2, .tmp 3, .tmp 4, .tmp 5] Tryz.func70 rfl rfl rfl (by simp) ?_;intro s ⟨a0, hz⟩;clear hz;repeat' (first|refine nv ?_|(with_reducible first|refine gG ?_ ?_|refine ⟨fun h => ?_, fun h => ?_⟩ <;> try omega|refine andG ?_)|simp (disch := try exact discB) only [push_cast, simprocAttr, a0, hb', kaU9])
  all_goals simp
 ·have hR : ofS s0 = ofR (lexR s0 1 1) := by rw [ofS, if_neg hbig]
  have hb' : ¬ (65536 : Int) < s0.length := by omega
  generalize ofS s0 = R at *;refine wb0 1 134 [.tmp 2, .tmp 3, .tmp 4, .tmp 5] Tryz.func70 rfl rfl rfl (by simp) ?_;intro s ⟨a0, hz⟩;clear hz;repeat' (first|refine nv ?_|(with_reducible first|refine gG ?_ ?_|refine ⟨fun h => ?_, fun h => ?_⟩ <;> try omega|refine andG ?_)|simp (disch := try exact discB) only [push_cast, simprocAttr, a0, hb'])
  refine kq0 (by first|exact va0|fail) (qr0 (t := 6) (sz := 4) (ty := 115) rfl) ?_;refine go_loop rfl (fun mz s' H' => ∃ (a : Nat) (ts : List Tk) (l c : Int), a ≤ s0.length ∧ ts.length ≤ a ∧ (0 ≤ l ∧ l ≤ a + 1) ∧ (0 ≤ c ∧ c ≤ a + 1) ∧ lexR s0 1 1 = (lexR (s0.drop a) l c).app ts ∧ mz = s0.length - a ∧ H' = [.row 4 115 (tks ts)] ∧ s' 0 = .str s0 ∧ s' 6 = .own 0 ts.length ts.length none ∧ s' 7 = .int .i64 l ∧ s' 8 = .int .i64 c ∧ s' 9 = .int .i64 a) (m := s0.length) (by first|exact va0|fail) (Weak.refl _ _) ⟨0, [], 1, 1, by omega, by simp, by omega, by omega, ?_, by omega, rfl, ?_⟩ ?_
  ·rw [List.drop_zero, LexR.app_nil]
  ·simp (disch := try exact discB) only [push_cast, simprocAttr, a0, hb']
  ·rintro mz s' H' ⟨a, ts, l, c, ha, hts, hl, hc, ik, rfl, rfl, b0, b6, b7, b8, b9⟩;rcases l'h a s0.length with hlt|hge
   ·have eb := getD_some hlt;have hd : s0.drop a = s0.getD a 0 :: s0.drop (a + 1) := qaB9 s0 0 a hlt;rw [hd, xe0, ← hd] at ik;have v10 : s0.getD a 0 = 10 ↔ ((s0.getD a 0).toNat : Int) = 10 := by rw [← l'Y]; show (s0.getD a 0).toNat = 10 ↔ _; omega
    have v35 : s0.getD a 0 = 35 ↔ ((s0.getD a 0).toNat : Int) = 35 := by rw [← l'Y]; show (s0.getD a 0).toNat = 35 ↔ _; omega
    have vbl : blkB (s0.getD a 0) = true ↔ ((s0.getD a 0).toNat : Int) = 32 ∨ ((s0.getD a 0).toNat : Int) = 9 ∨ ((s0.getD a 0).toNat : Int) = 13 := by
     simp only [blkB, l's, decide_eq_true_eq, ← l'Y, or_assoc];show ((s0.getD a 0).toNat = 32 ∨ (s0.getD a 0).toNat = 9 ∨ (s0.getD a 0).toNat = 13) ↔ _;omega
    by_cases c10 : s0.getD a 0 = 10
    ·rw [if_pos c10] at ik;have q := v10.1 c10;repeat' (first|refine nv ?_|(with_reducible first|refine gG ?_ ?_|refine ⟨fun h => ?_, fun h => ?_⟩ <;> try omega|refine andG ?_)|simp (disch := try exact discB) only [push_cast, simprocAttr, b0, b6, b7, b8, b9, q])
     refine wa0 (s0.length - (a + 1)) (by omega) (by first|exact va0|fail) ⟨a + 1, ts, l + 1, 1, by omega, by omega, by omega, by omega, ik, rfl, rfl, ?_⟩;simp (disch := try exact discB) only [push_cast, simprocAttr, b0, b6, b7, b8, b9, q]
    ·rw [if_neg c10] at ik;rw [v10] at c10;by_cases cbl : blkB (s0.getD a 0) = true
     ·rw [if_pos cbl] at ik;have q := vbl.1 cbl;have q2 : (decide (((s0.getD a 0).toNat : Int) = 32) || decide (((s0.getD a 0).toNat : Int) = 9) || decide (((s0.getD a 0).toNat : Int) = 13)) = true := by
       simp only [l's, decide_eq_true_eq, or_assoc]; exact q
      repeat' (first|refine nv ?_|(with_reducible first|refine gG ?_ ?_|refine ⟨fun h => ?_, fun h => ?_⟩ <;> try omega|refine andG ?_)|simp (disch := try exact discB) only [push_cast, simprocAttr, b0, b6, b7, b8, b9, c10, q2])
      all_goals (
       refine wa0 (s0.length - (a + 1)) (by omega) (by first|exact va0|fail) ⟨a + 1, ts, l, c + 1, by omega, by omega, by omega, by omega, ik, rfl, rfl, ?_⟩;simp (disch := try exact discB) only [push_cast, simprocAttr, b0, b6, b7, b8, b9, c10, q2])
     ·rw [if_neg cbl] at ik;rw [vbl] at cbl;have q2 : (decide (((s0.getD a 0).toNat : Int) = 32) || decide (((s0.getD a 0).toNat : Int) = 9) || decide (((s0.getD a 0).toNat : Int) = 13)) = false := by
       simp only [n't, decide_eq_false_iff_not]; omega
      by_cases c35 : s0.getD a 0 = 35
      ·rw [if_pos c35] at ik;have q := v35.1 c35;repeat' (first|refine nv ?_|(with_reducible first|refine gG ?_ ?_|refine ⟨fun h => ?_, fun h => ?_⟩ <;> try omega|refine andG ?_)|simp (disch := try exact discB) only [push_cast, simprocAttr, b0, b6, b7, b8, b9, c10, q2, q])
       refine go_loop rfl (fun mz s' H' => ∃ (j : Nat), a ≤ j ∧ j ≤ s0.length ∧ (a < j ∨ (a = j)) ∧ toNl (s0.drop (a + 1)) = toNl (s0.drop (max j (a + 1))) ∧ mz = s0.length - j ∧ H' = [.row 4 115 (tks ts)] ∧ s' 0 = .str s0 ∧ s' 6 = .own 0 ts.length ts.length none ∧ s' 7 = .int .i64 l ∧ s' 8 = .int .i64 c ∧ s' 9 = .int .i64 j) (m := s0.length - a) (by first|exact va0|fail) (Weak.refl _ _) ⟨a, by omega, by omega, by omega, by rw [show max a (a + 1) = a + 1 by omega], by omega, rfl, ?_⟩ ?_
       ·simp (disch := try exact discB) only [push_cast, simprocAttr, b0, b6, b7, b8, b9, c10, q2, q]
       ·rintro mz s' H' ⟨j, haj, hjl, _, hnl, rfl, rfl, b0, b6, b7, b8, b9⟩;rcases l'h j s0.length with hlt2|hge2
        ·have ej := getD_some hlt2;have hdj := wcr9 s0 j _ ej;have w10 : s0.getD j 0 = 10 ↔ ((s0.getD j 0).toNat : Int) = 10 := by rw [← l'Y]; show (s0.getD j 0).toNat = 10 ↔ _; omega
         by_cases d10 : s0.getD j 0 = 10
         ·have haj2 : a < j := by
           rcases l'h a j with h|h
           ·exact h
           ·obtain rfl : j = a := by omega
            exact absurd (w10.1 d10) c10
          rw [if_pos d10] at hdj;rw [show max j (a + 1) = j by omega, hdj] at hnl;rw [hnl] at ik;have q3 := w10.1 d10;repeat' (first|refine nv ?_|(with_reducible first|refine gG ?_ ?_|refine ⟨fun h => ?_, fun h => ?_⟩ <;> try omega|refine andG ?_)|simp (disch := try exact discB) only [push_cast, simprocAttr, b0, b6, b7, b8, b9, q3])
          refine wa0 (s0.length - j) (by omega) (by first|exact va0|fail) ⟨j, ts, l, c, by omega, by omega, by omega, by omega, ik, rfl, rfl, ?_⟩;simp (disch := try exact discB) only [push_cast, simprocAttr, b0, b6, b7, b8, b9, q3]
         ·rw [if_neg d10] at hdj;have hnl2 : toNl (s0.drop (a + 1)) = toNl (s0.drop (max (j + 1) (a + 1))) := by
           rcases l'h a j with h|h
           ·rw [hnl, show max j (a + 1) = j by omega, hdj, show max (j + 1) (a + 1) = j + 1 by omega]
           ·obtain rfl : j = a := by omega
            rw [show max (j + 1) (j + 1) = j + 1 by omega]
          rw [w10] at d10;repeat' (first|refine nv ?_|(with_reducible first|refine gG ?_ ?_|refine ⟨fun h => ?_, fun h => ?_⟩ <;> try omega|refine andG ?_)|simp (disch := try exact discB) only [push_cast, simprocAttr, b0, b6, b7, b8, b9, d10])
          refine wa0 (s0.length - (j + 1)) (by omega) (by first|exact va0|fail) ⟨j + 1, by omega, by omega, by omega, hnl2, rfl, rfl, ?_⟩;simp (disch := try exact discB) only [push_cast, simprocAttr, b0, b6, b7, b8, b9, d10]
        ·obtain rfl : j = s0.length := by omega
         rw [show max s0.length (a + 1) = s0.length by omega, n'Y] at hnl;have hz : lexR (toNl (s0.drop (a + 1))) l c = .ok [] := by rw [hnl]; rfl
         rw [hz] at ik;repeat' (first|refine nv ?_|(with_reducible first|refine gG ?_ ?_|refine ⟨fun h => ?_, fun h => ?_⟩ <;> try omega|refine andG ?_)|simp (disch := try exact discB) only [push_cast, simprocAttr, b0, b6, b7, b8, b9])
         refine wa0 (s0.length - s0.length) (by omega) (by first|exact va0|fail) ⟨s0.length, ts, l, c, by omega, by omega, by omega, by omega, by rw [n'Y, vG0]; exact ik, by omega, rfl, ?_⟩;simp (disch := try exact discB) only [push_cast, simprocAttr, b0, b6, b7, b8, b9]
      ·rw [if_neg c35] at ik;rw [v35] at c35;have hw28 := qcq9 (s0.getD a 0);have hbd := wbF9 (s0.drop a);rw [l'z] at hbd;have hpos := @wG0 (s0.getD a 0) (s0.drop (a + 1));rw [← hd] at hpos;have htl := qaj9 (s0.drop a);rw [l'z] at htl;have hhd : (s0.drop a).headD 0 = s0.getD a 0 := by rw [hd]; rfl
       by_cases cw : wrdB (s0.getD a 0) = true
       ·have hne : wordS (s0.drop a) ≠ [] := fun q => by
         rw [vab9, hhd, cw] at q; cases q
        have htk := vbi9 (s0.drop a) hne;have hwt := wo0 (s0.drop a);have hwat := xbF9 (s0.drop a);have hwend := zaA9 (s0.drop a);have h29 := zcr9 (wordS (s0.drop a)) hne (by omega);rw [cw] at hw28;rw [htk] at ik hpos htl;simp only at ik hpos htl;rw [n'p] at ik;generalize hW : wordS (s0.drop a) = w at *;generalize zB0 w = K at *;obtain ⟨k, e⟩ := K;simp only at ik hpos h29;rw [hwt] at ik;repeat' (first|refine nv ?_|(with_reducible first|refine gG ?_ ?_|refine ⟨fun h => ?_, fun h => ?_⟩ <;> try omega|refine andG ?_)|refine cp hw28 ?_|simp (disch := try exact discB) only [push_cast, simprocAttr, b0, b6, b7, b8, b9, c10, q2, c35, bI, Int.reduceEq])
        refine go_loop rfl (fun mz s' H' => ∃ (j : Nat), j ≤ w.length ∧ mz = w.length - j ∧ H' = [.row 4 115 (tks ts)] ∧ s' 0 = .str s0 ∧ s' 6 = .own 0 ts.length ts.length none ∧ s' 7 = .int .i64 l ∧ s' 8 = .int .i64 c ∧ s' 9 = .int .i64 a ∧ s' 11 = .int .i64 j) (m := w.length) (by first|exact va0|fail) (Weak.refl _ _) ⟨0, by omega, by omega, rfl, ?_⟩ ?_
        ·simp (disch := try exact discB) only [push_cast, simprocAttr, b0, b6, b7, b8, b9, c10, q2, c35, bI, Int.reduceEq]
        ·rintro mz s' H' ⟨j, hj, rfl, rfl, b0, b6, b7, b8, b9, b11⟩;have hN : ((a : Int) + (j : Int)).toNat = a + j := by omega
         have hgd : s0.getD (a + j) 0 = (s0.drop a).getD j 0 := by simp [l'b]
         have hw2 := qcq9 (s0.getD (a + j) 0);rcases l'h j w.length with hlt2|hge2
         ·obtain ⟨d, hd1, hd2⟩ := hwat j hlt2;rw [hgd, l'b, hd1, Option.getD_some, hd2] at hw2;have hgd2 : s0.getD (a + j) 0 = d := by rw [hgd, l'b, hd1]; rfl
          repeat' (first|refine nv ?_|(with_reducible first|refine gG ?_ ?_|refine ⟨fun h => ?_, fun h => ?_⟩ <;> try omega|refine andG ?_)|refine cp hw2 ?_|simp (disch := try exact discB) only [push_cast, simprocAttr, b0, b6, b7, b8, b9, b11, hN, hgd2, bI, Int.reduceEq])
          refine wa0 (w.length - (j + 1)) (by omega) (by first|exact va0|fail) ⟨j + 1, by omega, rfl, rfl, ?_⟩;simp (disch := try exact discB) only [push_cast, simprocAttr, b0, b6, b7, b8, b9, b11, hN, hgd2, bI, Int.reduceEq]
         ·obtain rfl : j = w.length := by omega
          by_cases hal : a + w.length < s0.length
          ·have hw3 : wrdB (s0.getD (a + w.length) 0) = false := by
            rw [hgd];rcases hwend with q|⟨d, hd1, hd2⟩
            ·rw [n'L, l'z] at q; omega
            ·rw [l'b, hd1, Option.getD_some, hd2]
           rw [hw3] at hw2;have hsub : List.drop a (List.take (a + w.length) s0) = w := by rw [z'k]; rw [show a + w.length - a = w.length by omega, hwt]
           by_cases he : e = 0
           ·subst he;rw [if_neg (by simp), LexR.app_snoc] at ik;repeat' (first|refine nv ?_|(with_reducible first|refine gG ?_ ?_|refine ⟨fun h => ?_, fun h => ?_⟩ <;> try omega|refine andG ?_)|refine cp hw2 ?_|refine cp h29 ?_|simp (disch := try exact discB) only [push_cast, simprocAttr, b0, b6, b7, b8, b9, b11, hN, hsub, bI, Int.reduceEq])
            refine wa0 (s0.length - (a + w.length)) (by omega) (by first|exact va0|fail) ⟨a + w.length, ts ++ [⟨k, w, l, c⟩], l, c + w.length, by omega, by simp; omega, by omega, by omega, ik, rfl, by rw [← vO0]; rfl, ?_⟩;simp (disch := try exact discB) only [push_cast, simprocAttr, b0, b6, b7, b8, b9, b11, hN, hsub, bI, Int.reduceEq];try simp
           ·rw [if_pos he] at ik;have hR2 : R = ([], l, c, e) := by rw [hR, ik]; simp [LexR.app, ofR]
            repeat' (first|refine nv ?_|(with_reducible first|refine gG ?_ ?_|refine ⟨fun h => ?_, fun h => ?_⟩ <;> try omega|refine andG ?_)|refine cp hw2 ?_|refine cp h29 ?_|simp (disch := try exact discB) only [push_cast, simprocAttr, b0, b6, b7, b8, b9, b11, hN, hsub, bI, Int.reduceEq, he])
            subst hR2;simp [tks, he]
          ·have hsub : s0.drop a = w := by rw [← hwt, l'y (by rw [l'z]; omega)]
           have hal2 : ¬ ((a : Int) + (w.length : Int) < (s0.length : Int)) := by omega
           by_cases he : e = 0
           ·subst he;rw [if_neg (by simp), LexR.app_snoc] at ik;repeat' (first|refine nv ?_|(with_reducible first|refine gG ?_ ?_|refine ⟨fun h => ?_, fun h => ?_⟩ <;> try omega|refine andG ?_)|refine cp h29 ?_|(refine ⟨AV.str [], ?_⟩; refine kY0 ?_)|simp (disch := try exact discB) only [push_cast, simprocAttr, b0, b6, b7, b8, b9, b11, hN, hsub, hal2, bI, Int.reduceEq])
            refine wa0 (s0.length - (a + w.length)) (by omega) (by first|exact va0|fail) ⟨a + w.length, ts ++ [⟨k, w, l, c⟩], l, c + w.length, by omega, by simp; omega, by omega, by omega, ik, rfl, by rw [← vO0]; rfl, ?_⟩;simp (disch := try exact discB) only [push_cast, simprocAttr, b0, b6, b7, b8, b9, b11, hN, hsub, hal2, bI, Int.reduceEq];try simp
           ·rw [if_pos he] at ik;have hR2 : R = ([], l, c, e) := by rw [hR, ik]; simp [LexR.app, ofR]
            repeat' (first|refine nv ?_|(with_reducible first|refine gG ?_ ?_|refine ⟨fun h => ?_, fun h => ?_⟩ <;> try omega|refine andG ?_)|refine cp h29 ?_|(refine ⟨AV.str [], ?_⟩; refine kY0 ?_)|simp (disch := try exact discB) only [push_cast, simprocAttr, b0, b6, b7, b8, b9, b11, hN, hsub, hal2, bI, Int.reduceEq, he])
            subst hR2;simp [tks, he]
       ·have hne : wordS (s0.drop a) = [] := by
         rw [vab9, hhd, l'L]; exact cw
        have htk := xaA9 (s0.drop a) hne;obtain ⟨m1, m2, m3⟩ := xcr9 s0 a hlt;have h31 := kcQ9 (s0.getD a 0);have e1 := qdL9;rw [Bool.not_eq_true] at cw;rw [cw] at hw28;obtain ⟨k1, k2, k3⟩ := vcr9 s0 a hlt hne;have t1 : List.drop a (List.take (a + 1) s0) = (s0.drop a).take 1 := by rw [z'k]; congr 1; omega
        have t2 : List.drop a (List.take (a + 2) s0) = (s0.drop a).take 2 := by rw [z'k]; congr 1; omega
        have n0 : ((a : Int) + 1).toNat = a + 1 := by omega
        have n00 : ((a : Int) + 2).toNat = a + 2 := by omega
        clear m3 hpos htl;generalize tokS (s0.drop a) = T at *;by_cases ha1 : a + 1 < s0.length
        ·have h30 := zdK9 (s0.getD a 0) (s0.getD (a + 1) 0);have m1 := m1 ha1;have ha3 : (a : Int) + 1 < (s0.length : Int) := by omega
         rw [m1] at k1 k2 k3;generalize wI0 (s0.getD a 0) (s0.getD (a + 1) 0) = x at *;generalize sngB (s0.getD a 0) = y at *;repeat' (first|refine nv ?_|(with_reducible first|refine gG ?_ ?_|refine ⟨fun h => ?_, fun h => ?_⟩ <;> try omega|refine andG ?_)|refine cp hw28 ?_|refine cp h30 ?_|refine cp h31 ?_|simp (disch := try exact discB) only [push_cast, simprocAttr, b0, b6, b7, b8, b9, c10, q2, c35, n0, n00, e1, Int.reduceEq, t1, t2, ha3])
         ·have kk := k1 h;rw [kk] at ik;simp only at ik;rw [if_neg (by simp), LexR.app_snoc, n'p] at ik;refine wa0 (s0.length - (a + 2)) (by omega) (by first|exact va0|fail) ⟨a + 2, ts ++ [⟨3, (s0.drop a).take 2, l, c⟩], l, c + 2, by omega, by simp; omega, by omega, by omega, ik, rfl, by rw [← vO0]; rfl, ?_⟩;simp (disch := try exact discB) only [push_cast, simprocAttr, b0, b6, b7, b8, b9, c10, q2, c35, n0, n00, e1, Int.reduceEq, t1, t2, ha3];all_goals first|done|(simp; done)|omega|(simp; omega)
         ·have kk := k2 (by first|assumption|(rw [l'L]; assumption)) h;rw [kk] at ik;simp only at ik;rw [if_neg (by simp), LexR.app_snoc, n'p] at ik;refine wa0 (s0.length - (a + 1)) (by omega) (by first|exact va0|fail) ⟨a + 1, ts ++ [⟨3, (s0.drop a).take 1, l, c⟩], l, c + 1, by omega, by simp; omega, by omega, by omega, ik, rfl, by rw [← vO0]; rfl, ?_⟩;simp (disch := try exact discB) only [push_cast, simprocAttr, b0, b6, b7, b8, b9, c10, q2, c35, n0, n00, e1, Int.reduceEq, t1, t2, ha3];all_goals first|done|(simp; done)|omega|(simp; omega)
         ·have kk := k3 (by first|assumption|(rw [l'L]; assumption)) (by simpa using h);rw [kk] at ik;simp only at ik;rw [if_pos (by decide)] at ik;have hR2 : R = ([], l, c, 4) := by rw [hR, ik]; simp [LexR.app, ofR]
          subst hR2;simp [tks]
        ·have m2 := m2 ha1;rw [m2] at k2 k3;have ha2 : ¬ ((a : Int) + 1 < (s0.length : Int)) := by omega
         have hd1 : (s0.drop a).take 1 = s0.drop a := l'y (by rw [l'z]; omega);rw [hd1] at t1;generalize sngB (s0.getD a 0) = y at *;repeat' (first|refine nv ?_|(with_reducible first|refine gG ?_ ?_|refine ⟨fun h => ?_, fun h => ?_⟩ <;> try omega|refine andG ?_)|refine cp hw28 ?_|refine cp h31 ?_|(refine ⟨AV.str [], ?_⟩; refine kY0 ?_)|simp (disch := try exact discB) only [push_cast, simprocAttr, b0, b6, b7, b8, b9, c10, q2, c35, n0, n00, e1, Int.reduceEq, t1, ha2])
         ·have kk := k2 rfl h;rw [kk] at ik;simp only at ik;rw [if_neg (by simp), hd1, LexR.app_snoc, n'p] at ik;refine wa0 (s0.length - (a + 1)) (by omega) (by first|exact va0|fail) ⟨a + 1, ts ++ [⟨3, s0.drop a, l, c⟩], l, c + 1, by omega, by simp; omega, by omega, by omega, ik, rfl, by rw [← vO0]; rfl, ?_⟩;simp (disch := try exact discB) only [push_cast, simprocAttr, b0, b6, b7, b8, b9, c10, q2, c35, n0, n00, e1, Int.reduceEq, t1, ha2];all_goals first|done|(simp; done)|omega|(simp; omega)
         ·have kk := k3 rfl (by simpa using h);rw [kk] at ik;simp only at ik;rw [if_pos (by decide)] at ik;have hR2 : R = ([], l, c, 4) := by rw [hR, ik]; simp [LexR.app, ofR]
          subst hR2;simp [tks]
   ·obtain rfl : a = s0.length := by omega
    rw [n'Y, vG0] at ik;have hR2 : R = (ts, 0, 0, 0) := by rw [hR, ik]; simp [LexR.app, ofR]
    have et : (tks ts).take ts.length = tks ts := l'y (by rw [wd0]; omega);repeat' (first|refine nv ?_|(with_reducible first|refine gG ?_ ?_|refine ⟨fun h => ?_, fun h => ?_⟩ <;> try omega|refine andG ?_)|simp (disch := try exact discB) only [push_cast, simprocAttr, b0, b6, b7, b8, b9, et, zbu9])
    rw [hR2];simp
theorem wds9 (t : Tk) (hs : t.t.length ≤ 1000000) : PC Tryz.prog G0 84 [.agg (tkA t)] (.int .i64 (chkT t.k t.t)) := by
 obtain ⟨k, w, l, c⟩ := t;simp only at hs;have h1 := qcr9 w hs;by_cases hw : w = []
 ·rw [hw, vbF9];refine wb0 0 30 [.tmp 2] Tryz.func84 rfl rfl rfl (by simp) ?_;intro s ⟨a0, hz⟩;clear hz;repeat' (first|refine nv ?_|(with_reducible first|refine gG ?_ ?_|refine ⟨fun h => ?_, fun h => ?_⟩ <;> try omega|refine andG ?_)|simp (disch := try exact discB) only [push_cast, simprocAttr, a0, tkA])
 ·have p1 := zcp9 k w;have p2 := wdr9 k w hw;simp only [tkA];generalize w.take (tokS w).2.1 = x at *;generalize tokS w = T at *;obtain ⟨tk, n, e⟩ := T;simp only at *;by_cases h : e ≠ 0 ∨ x ≠ w ∨ tk ≠ k
  ·rw [p1 h];have hq : (decide (e = 0) && decide (x = w) && decide (tk = k)) = false := by
    rw [l'L]; simp only [l'a, decide_eq_true_eq, ne_eq]; rintro ⟨⟨a, b⟩, d⟩; rcases h with h|h|h <;> contradiction
   by_cases c1 : e = 0
   ·by_cases c2 : x = w
    ·have c3 : ¬ tk = k := by rcases h with h|h|h; exact absurd c1 h; exact absurd c2 h; exact h
     refine wb0 0 30 [.tmp 2] Tryz.func84 rfl rfl rfl (by simp) ?_;intro s ⟨a0, hz⟩;clear hz;repeat' (first|refine nv ?_|(with_reducible first|refine gG ?_ ?_|refine ⟨fun h => ?_, fun h => ?_⟩ <;> try omega|refine andG ?_)|refine cp h1 ?_|simp (disch := try exact discB) only [push_cast, simprocAttr, a0, hw, c1, c2, c3])
    ·refine wb0 0 30 [.tmp 2] Tryz.func84 rfl rfl rfl (by simp) ?_;intro s ⟨a0, hz⟩;clear hz;repeat' (first|refine nv ?_|(with_reducible first|refine gG ?_ ?_|refine ⟨fun h => ?_, fun h => ?_⟩ <;> try omega|refine andG ?_)|refine cp h1 ?_|simp (disch := try exact discB) only [push_cast, simprocAttr, a0, hw, c1, c2])
   ·refine wb0 0 30 [.tmp 2] Tryz.func84 rfl rfl rfl (by simp) ?_;intro s ⟨a0, hz⟩;clear hz;repeat' (first|refine nv ?_|(with_reducible first|refine gG ?_ ?_|refine ⟨fun h => ?_, fun h => ?_⟩ <;> try omega|refine andG ?_)|refine cp h1 ?_|simp (disch := try exact discB) only [push_cast, simprocAttr, a0, hw, c1])
  ·have c1 : e = 0 := Decidable.not_not.1 fun q => h (.inl q);have c2 : x = w := Decidable.not_not.1 fun q => h (.inr (.inl q));have c3 : tk = k := Decidable.not_not.1 fun q => h (.inr (.inr q));rw [p2 c1 c2 c3];subst c1 c2 c3;refine wb0 0 30 [.tmp 2] Tryz.func84 rfl rfl rfl (by simp) ?_;intro s ⟨a0, hz⟩;clear hz;repeat' (first|refine nv ?_|(with_reducible first|refine gG ?_ ?_|refine ⟨fun h => ?_, fun h => ?_⟩ <;> try omega|refine andG ?_)|refine cp h1 ?_|simp (disch := try exact discB) only [push_cast, simprocAttr, a0, hw])
def keo9 (a b : List Tk) : Bool := decide (a = b)
theorem xac9 : ∀ (f : Nat) (s : Bs) (l c l' c' e : Int), lexG f s l c = .err l' c' e → e ≠ 0
 | 0, _, _, _, _, _, _, h => by cases h
 | f + 1, [], _, _, _, _, _, h => by cases h
 | f + 1, b :: r, l, c, l', c', e, h => by
  rw [lexG] at h;split at h
  ·exact xac9 f _ _ _ _ _ _ h
  ·split at h
   ·exact xac9 f _ _ _ _ _ _ h
   ·split at h
    ·exact xac9 f _ _ _ _ _ _ h
    ·split at h
     ·rename_i q;injection h with _ _ h3
      rw [← h3]; exact q
     ·cases q : lexG f ((b :: r).drop (tokS (b :: r)).2.1) l (c + (tokS (b :: r)).2.1) with
      | ok m => rw [q] at h; cases h
      | err x y z =>
       rw [q] at h;injection h with _ _ h3
       rw [← h3]; exact xac9 f _ _ _ _ _ _ q
theorem vcR9 {k : Int} {w : Bs} (q : qk0 k w) : chkT k w = 0 := (qL0 k w).2 q
theorem vaB9 {k : Int} {w : Bs} (q : ¬ qk0 k w) : chkT k w = 1 := by unfold chkT; exact if_neg q
theorem vds9 (t : Tk) (hs : t.t.length ≤ 60000) : PC Tryz.prog G0 79 [.agg (tkA t)] (.int .i64 (1 - chkT t.k t.t)) := by
 obtain ⟨k, w, l, c⟩ := t;simp only at hs;by_cases hw : w = []
 ·rw [hw, vbF9];refine wb0 0 43 [.tmp 2] Tryz.func79 rfl rfl rfl (by simp) ?_;intro s ⟨a0, hz⟩;clear hz;repeat' (first|refine nv ?_|(with_reducible first|refine gG ?_ ?_|refine ⟨fun h => ?_, fun h => ?_⟩ <;> try omega|refine andG ?_)|simp (disch := try exact discB) only [push_cast, simprocAttr, a0, tkA])
  all_goals rfl
 ·have h10 := kcr9 w (by omega);have hv := zco9 k w hw;have hR : ofS w = ofR (lexR w 1 1) := by rw [ofS, if_neg (by omega)]
  unfold refA refC at h10;rw [hR] at h10;have hE := xac9 (w.length + 1) w 1 1;have hLR : lexG (w.length + 1) w 1 1 = lexR w 1 1 := rfl;rw [hLR] at hE;show PC Tryz.prog G0 79 _ (.int .i64 (1 - chkT k w));generalize lexR w 1 1 = R at *;cases R with
  | err l' c' e =>
   have he := hE l' c' e rfl;have hn : ¬ qk0 k w := fun q => by
    obtain ⟨_, _, h⟩ := hv.2 q;cases h
   rw [vaB9 hn];simp only [ofR, kaU9] at h10;refine wb0 0 43 [.tmp 2] Tryz.func79 rfl rfl rfl (by simp) ?_;intro s ⟨a0, hz⟩;clear hz;repeat' (first|refine nv ?_|(with_reducible first|refine gG ?_ ?_|refine ⟨fun h => ?_, fun h => ?_⟩ <;> try omega|refine andG ?_)|refine cp h10 ?_|(refine ⟨AV.str [], ?_⟩; refine kY0 ?_)|simp (disch := try exact discB) only [push_cast, simprocAttr, a0, tkA, hw, he, Int.reduceSub])
  | ok ls =>
   simp only [ofR, if_true] at h10;match ls, h10, hv with
   | [], h10, hv =>
    have hn : ¬ qk0 k w := fun q => by
     obtain ⟨_, _, h⟩ := hv.2 q;cases h
    rw [vaB9 hn];simp only [kaU9] at h10;refine wb0 0 43 [.tmp 2] Tryz.func79 rfl rfl rfl (by simp) ?_;intro s ⟨a0, hz⟩;clear hz;repeat' (first|refine nv ?_|(with_reducible first|refine gG ?_ ?_|refine ⟨fun h => ?_, fun h => ?_⟩ <;> try omega|refine andG ?_)|refine cp h10 ?_|simp (disch := try exact discB) only [push_cast, simprocAttr, a0, tkA, hw, Int.reduceSub, Int.reduceEq])
   | t :: u :: r, h10, hv =>
    have hn : ¬ qk0 k w := fun q => by
     obtain ⟨_, _, h⟩ := hv.2 q;cases h
    rw [vaB9 hn];have hlen : ¬ (((t :: u :: r).length : Nat) : Int) = 1 := by simp; omega
    generalize t :: u :: r = L at *;refine wb0 0 43 [.tmp 2] Tryz.func79 rfl rfl rfl (by simp) ?_;intro s ⟨a0, hz⟩;clear hz;repeat' (first|refine nv ?_|(with_reducible first|refine gG ?_ ?_|refine ⟨fun h => ?_, fun h => ?_⟩ <;> try omega|refine andG ?_)|refine cp h10 ?_|simp (disch := try exact discB) only [push_cast, simprocAttr, a0, tkA, hw, hlen, Int.reduceSub, Int.reduceEq])
   | [t], h10, hv =>
    obtain ⟨tk, tw, tl, tc⟩ := t;have h10 : PC Tryz.prog G0 70 [.str w] (.tup [.sl 4 [tkA ⟨tk, tw, tl, tc⟩] none, .int .i64 0, .int .i64 0, .int .i64 0]) := h10;by_cases q1 : tk = k
    ·by_cases q2 : tw = w
     ·rw [vcR9 (hv.1 ⟨tl, tc, by rw [q1, q2]⟩)];subst q1 q2;refine wb0 0 43 [.tmp 2] Tryz.func79 rfl rfl rfl (by simp) ?_;intro s ⟨a0, hz⟩;clear hz;repeat' (first|refine nv ?_|(with_reducible first|refine gG ?_ ?_|refine ⟨fun h => ?_, fun h => ?_⟩ <;> try omega|refine andG ?_)|refine cp h10 ?_|simp (disch := try exact discB) only [push_cast, simprocAttr, a0, tkA, hw, Int.reduceSub, Int.reduceEq])
     ·have hn : ¬ qk0 k w := fun q => by
       obtain ⟨_, _, h⟩ := hv.2 q;simp only [LexR.ok.injEq, List.cons.injEq, Tk.mk.injEq] at h;exact q2 h.1.2.1
      rw [vaB9 hn];refine wb0 0 43 [.tmp 2] Tryz.func79 rfl rfl rfl (by simp) ?_;intro s ⟨a0, hz⟩;clear hz;repeat' (first|refine nv ?_|(with_reducible first|refine gG ?_ ?_|refine ⟨fun h => ?_, fun h => ?_⟩ <;> try omega|refine andG ?_)|refine cp h10 ?_|simp (disch := try exact discB) only [push_cast, simprocAttr, a0, tkA, hw, q1, q2, Int.reduceSub, Int.reduceEq])
    ·have hn : ¬ qk0 k w := fun q => by
      obtain ⟨_, _, h⟩ := hv.2 q;simp only [LexR.ok.injEq, List.cons.injEq, Tk.mk.injEq] at h;exact q1 h.1.1
     rw [vaB9 hn];refine wb0 0 43 [.tmp 2] Tryz.func79 rfl rfl rfl (by simp) ?_;intro s ⟨a0, hz⟩;clear hz;repeat' (first|refine nv ?_|(with_reducible first|refine gG ?_ ?_|refine ⟨fun h => ?_, fun h => ?_⟩ <;> try omega|refine andG ?_)|refine cp h10 ?_|simp (disch := try exact discB) only [push_cast, simprocAttr, a0, tkA, hw, q1, Int.reduceSub, Int.reduceEq])
def valM (k : Int) (w : Bs) : Int × Int := if chkT k w = 0 ∧ k = 2 then ((wdn9 w).1, 0) else (0, 1)
end Go.Proofs
