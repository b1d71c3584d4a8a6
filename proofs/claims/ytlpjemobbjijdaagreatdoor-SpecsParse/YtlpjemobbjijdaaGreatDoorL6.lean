import Derived.Test.YtlpjemobbjijdaaGreatDoorL5
namespace Go.Proofs
open Go Go.V
set_option linter.unusedVariables false
set_option linter.unusedSimpArgs false
set_option maxHeartbeats 0
set_option maxRecDepth 100000
def refC (s : Bs) : Option Nat := if (ofS s).2.2.2 = 0 then none else some 0
def refA (s : Bs) : AV := .tup [.sl 4 (tks (ofS s).1) (refC s), .int .i64 (ofS s).2.1, .int .i64 (ofS s).2.2.1, .int .i64 (ofS s).2.2.2]
theorem vdl9 (x : Bool) : (bI x = 1) = (x = true) := by cases x <;> simp [bI]
theorem zca9 (s0 : Bs) (a : Nat) (h : a < s0.length) : (a + 1 < s0.length → xA0 (s0.drop a) = vah9 (s0.getD a 0) (s0.getD (a + 1) 0)) ∧ (¬ a + 1 < s0.length → xA0 (s0.drop a) = false) ∧
  qp0 (s0.drop a) = if xA0 (s0.drop a) = true then 2 else if sngB (s0.getD a 0) = true then 1 else 0 := by
 have hd := vat9 s0 0 a h
 refine ⟨fun h1 => ?_, fun h1 => ?_, ?_⟩
 ·rw [hd, vat9 s0 0 (a + 1) h1]; rfl
 ·rw [hd, List.drop_eq_nil_of_le (by omega)]; rfl
 ·cases hp : xA0 (s0.drop a)
  ·have : (s0.drop a).getD 0 0 = s0.getD a 0 := by rw [hd]; rfl
   rw [vbs9 _ hp, if_neg (show ¬ s0.drop a = [] by rw [hd]; simp), this, if_neg (show ¬ false = true by decide)]
  ·unfold qp0; rw [if_pos hp, if_pos rfl]
theorem xca9 (s0 : Bs) (a : Nat) (b : UInt8) (hb : s0[a]? = some b) : toNl (s0.drop a) = if b = 10 then s0.drop a else toNl (s0.drop (a + 1)) := by
 have hlt : a < s0.length := (List.getElem?_eq_some_iff.1 hb).1
 have e : s0.drop a = b :: s0.drop (a + 1) := by
  rw [List.drop_eq_getElem_cons hlt]
  rw [List.getElem?_eq_getElem hlt] at hb
  rw [Option.some.inj hb]
 rw [e, toNl, List.dropWhile_cons]
 by_cases h : b = 10
 ·simp [h]
 ·simp [h, toNl]
theorem wca9 (s0 : Bs) (a : Nat) (h : a < s0.length) (hne : wordS (s0.drop a) = []) : (xA0 (s0.drop a) = true → tokS (s0.drop a) = (3, 2, 0)) ∧
  (xA0 (s0.drop a) = false → sngB (s0.getD a 0) = true → tokS (s0.drop a) = (3, 1, 0)) ∧ (xA0 (s0.drop a) = false → sngB (s0.getD a 0) = false → tokS (s0.drop a) = (0, 0, 4)) := by
 have htk := zat9 (s0.drop a) hne
 have m3 := (zca9 s0 a h).2.2
 generalize sngB (s0.getD a 0) = y at *
 generalize xA0 (s0.drop a) = x at *
 rw [m3] at htk
 refine ⟨fun q => ?_, fun q1 q2 => ?_, fun q1 q2 => ?_⟩
 ·subst q; exact htk
 ·subst q1 q2; exact htk
 ·subst q1 q2; exact htk
theorem vca9 (s0 : Bs) (hs : s0.length ≤ 1000000) : PC Tryz.prog G0 70 [.str s0] (refA s0) := by
 unfold refA refC
 by_cases hbig : 65536 < s0.length
 ·rw [show ofS s0 = ([], 0, 0, 3) by rw [ofS, if_pos hbig]]
  have hb' : (65536 : Int) < s0.length := by omega
  refine vb0 1 134 [.tmp 2, .tmp 3, .tmp 4, .tmp 5] Tryz.func70 rfl rfl rfl (by simp) ?_
  intro s ⟨a0, hz⟩
  clear hz
  repeat' (first|refine nav ?_|(refine g0_ ?_; refine goD ?_)|with_reducible refine gG ?_ ?_|((with_reducible refine And.intro (fun h => ?_) (fun h => ?_)) <;> try (exfalso; omega))|with_reducible refine andG ?_|simp (disch := try exact discB) only [push_cast, simprocAttr, a0, hb', vaL9])
  all_goals simp
 ·have hR : ofS s0 = ofR (lexR s0 1 1) := by rw [ofS, if_neg hbig]
  have hb' : ¬ (65536 : Int) < s0.length := by omega
  generalize ofS s0 = R at *
  refine vb0 1 134 [.tmp 2, .tmp 3, .tmp 4, .tmp 5] Tryz.func70 rfl rfl rfl (by simp) ?_
  intro s ⟨a0, hz⟩
  clear hz
  repeat' (first|refine nav ?_|(refine g0_ ?_; refine goD ?_)|with_reducible refine gG ?_ ?_|((with_reducible refine And.intro (fun h => ?_) (fun h => ?_)) <;> try (exfalso; omega))|with_reducible refine andG ?_|simp (disch := try exact discB) only [push_cast, simprocAttr, a0, hb'])
  refine vaa9 (by first|exact xb0|fail) (kB0 (t := 6) (sz := 4) (ty := 115) rfl) ?_
  refine go_loop rfl (fun mz s' H' => ∃ (a : Nat) (ts : List Tk) (l c : Int), a ≤ s0.length ∧ ts.length ≤ a ∧ (0 ≤ l ∧ l ≤ a + 1) ∧ (0 ≤ c ∧ c ≤ a + 1) ∧ lexR s0 1 1 = (lexR (s0.drop a) l c).app ts ∧ mz = s0.length - a ∧ H' = [.row 4 115 (tks ts)] ∧ s' 0 = .str s0 ∧ s' 6 = .own 0 ts.length ts.length none ∧ s' 7 = .int .i64 l ∧ s' 8 = .int .i64 c ∧ s' 9 = .int .i64 a) (m := s0.length) (by first|exact xb0|fail) (Weak.refl _ _) ⟨0, [], 1, 1, by omega, by simp, by omega, by omega, ?_, by omega, rfl, ?_⟩ ?_
  ·rw [List.drop_zero, LexR.app_nil]
  ·simp (disch := try exact discB) only [push_cast, simprocAttr, a0, hb']
  ·rintro mz s' H' ⟨a, ts, l, c, ha, hts, hl, hc, ik, rfl, rfl, b0, b6, b7, b8, b9⟩
   rcases Nat.lt_or_ge a s0.length with hlt|hge
   ·have eb := getD_some hlt
    have hd : s0.drop a = s0.getD a 0 :: s0.drop (a + 1) := vat9 s0 0 a hlt
    rw [hd, wo0, ← hd] at ik
    have v10 : s0.getD a 0 = 10 ↔ ((s0.getD a 0).toNat : Int) = 10 := by rw [← UInt8.toNat_inj]; show (s0.getD a 0).toNat = 10 ↔ _; omega
    have v35 : s0.getD a 0 = 35 ↔ ((s0.getD a 0).toNat : Int) = 35 := by rw [← UInt8.toNat_inj]; show (s0.getD a 0).toNat = 35 ↔ _; omega
    have vbl : blkB (s0.getD a 0) = true ↔ ((s0.getD a 0).toNat : Int) = 32 ∨ ((s0.getD a 0).toNat : Int) = 9 ∨ ((s0.getD a 0).toNat : Int) = 13 := by
     simp only [blkB, Bool.or_eq_true, decide_eq_true_eq, ← UInt8.toNat_inj, or_assoc]
     show ((s0.getD a 0).toNat = 32 ∨ (s0.getD a 0).toNat = 9 ∨ (s0.getD a 0).toNat = 13) ↔ _
     omega
    by_cases c10 : s0.getD a 0 = 10
    ·rw [if_pos c10] at ik
     have q := v10.1 c10
     repeat' (first|refine nav ?_|(refine g0_ ?_; refine goD ?_)|with_reducible refine gG ?_ ?_|((with_reducible refine And.intro (fun h => ?_) (fun h => ?_)) <;> try (exfalso; omega))|with_reducible refine andG ?_|simp (disch := try exact discB) only [push_cast, simprocAttr, b0, b6, b7, b8, b9, q])
     refine wa0 (s0.length - (a + 1)) (by omega) (by first|exact xb0|fail) ⟨a + 1, ts, l + 1, 1, by omega, by omega, by omega, by omega, ik, rfl, rfl, ?_⟩
     simp (disch := try exact discB) only [push_cast, simprocAttr, b0, b6, b7, b8, b9, q]
    ·rw [if_neg c10] at ik
     rw [v10] at c10
     by_cases cbl : blkB (s0.getD a 0) = true
     ·rw [if_pos cbl] at ik
      have q := vbl.1 cbl
      have q2 : (decide (((s0.getD a 0).toNat : Int) = 32) || decide (((s0.getD a 0).toNat : Int) = 9) || decide (((s0.getD a 0).toNat : Int) = 13)) = true := by
       simp only [Bool.or_eq_true, decide_eq_true_eq, or_assoc]; exact q
      repeat' (first|refine nav ?_|(refine g0_ ?_; refine goD ?_)|with_reducible refine gG ?_ ?_|((with_reducible refine And.intro (fun h => ?_) (fun h => ?_)) <;> try (exfalso; omega))|with_reducible refine andG ?_|simp (disch := try exact discB) only [push_cast, simprocAttr, b0, b6, b7, b8, b9, c10, q2])
      all_goals (
       refine wa0 (s0.length - (a + 1)) (by omega) (by first|exact xb0|fail) ⟨a + 1, ts, l, c + 1, by omega, by omega, by omega, by omega, ik, rfl, rfl, ?_⟩
       simp (disch := try exact discB) only [push_cast, simprocAttr, b0, b6, b7, b8, b9, c10, q2])
     ·rw [if_neg cbl] at ik
      rw [vbl] at cbl
      have q2 : (decide (((s0.getD a 0).toNat : Int) = 32) || decide (((s0.getD a 0).toNat : Int) = 9) || decide (((s0.getD a 0).toNat : Int) = 13)) = false := by
       simp only [Bool.or_eq_false_iff, decide_eq_false_iff_not]; omega
      by_cases c35 : s0.getD a 0 = 35
      ·rw [if_pos c35] at ik
       have q := v35.1 c35
       repeat' (first|refine nav ?_|(refine g0_ ?_; refine goD ?_)|with_reducible refine gG ?_ ?_|((with_reducible refine And.intro (fun h => ?_) (fun h => ?_)) <;> try (exfalso; omega))|with_reducible refine andG ?_|simp (disch := try exact discB) only [push_cast, simprocAttr, b0, b6, b7, b8, b9, c10, q2, q])
       refine go_loop rfl (fun mz s' H' => ∃ (j : Nat), a ≤ j ∧ j ≤ s0.length ∧ (a < j ∨ (a = j)) ∧ toNl (s0.drop (a + 1)) = toNl (s0.drop (max j (a + 1))) ∧ mz = s0.length - j ∧ H' = [.row 4 115 (tks ts)] ∧ s' 0 = .str s0 ∧ s' 6 = .own 0 ts.length ts.length none ∧ s' 7 = .int .i64 l ∧ s' 8 = .int .i64 c ∧ s' 9 = .int .i64 j) (m := s0.length - a) (by first|exact xb0|fail) (Weak.refl _ _) ⟨a, by omega, by omega, by omega, by rw [show max a (a + 1) = a + 1 by omega], by omega, rfl, ?_⟩ ?_
       ·simp (disch := try exact discB) only [push_cast, simprocAttr, b0, b6, b7, b8, b9, c10, q2, q]
       ·rintro mz s' H' ⟨j, haj, hjl, _, hnl, rfl, rfl, b0, b6, b7, b8, b9⟩
        rcases Nat.lt_or_ge j s0.length with hlt2|hge2
        ·have ej := getD_some hlt2
         have hdj := xca9 s0 j _ ej
         have w10 : s0.getD j 0 = 10 ↔ ((s0.getD j 0).toNat : Int) = 10 := by rw [← UInt8.toNat_inj]; show (s0.getD j 0).toNat = 10 ↔ _; omega
         by_cases d10 : s0.getD j 0 = 10
         ·have haj2 : a < j := by
           rcases Nat.lt_or_ge a j with h|h
           ·exact h
           ·obtain rfl : j = a := by omega
            exact absurd (w10.1 d10) c10
          rw [if_pos d10] at hdj
          rw [show max j (a + 1) = j by omega, hdj] at hnl
          rw [hnl] at ik
          have q3 := w10.1 d10
          repeat' (first|refine nav ?_|(refine g0_ ?_; refine goD ?_)|with_reducible refine gG ?_ ?_|((with_reducible refine And.intro (fun h => ?_) (fun h => ?_)) <;> try (exfalso; omega))|with_reducible refine andG ?_|simp (disch := try exact discB) only [push_cast, simprocAttr, b0, b6, b7, b8, b9, q3])
          refine wa0 (s0.length - j) (by omega) (by first|exact xb0|fail) ⟨j, ts, l, c, by omega, by omega, by omega, by omega, ik, rfl, rfl, ?_⟩
          simp (disch := try exact discB) only [push_cast, simprocAttr, b0, b6, b7, b8, b9, q3]
         ·rw [if_neg d10] at hdj
          have hnl2 : toNl (s0.drop (a + 1)) = toNl (s0.drop (max (j + 1) (a + 1))) := by
           rcases Nat.lt_or_ge a j with h|h
           ·rw [hnl, show max j (a + 1) = j by omega, hdj, show max (j + 1) (a + 1) = j + 1 by omega]
           ·obtain rfl : j = a := by omega
            rw [show max (j + 1) (j + 1) = j + 1 by omega]
          rw [w10] at d10
          repeat' (first|refine nav ?_|(refine g0_ ?_; refine goD ?_)|with_reducible refine gG ?_ ?_|((with_reducible refine And.intro (fun h => ?_) (fun h => ?_)) <;> try (exfalso; omega))|with_reducible refine andG ?_|simp (disch := try exact discB) only [push_cast, simprocAttr, b0, b6, b7, b8, b9, d10])
          refine wa0 (s0.length - (j + 1)) (by omega) (by first|exact xb0|fail) ⟨j + 1, by omega, by omega, by omega, hnl2, rfl, rfl, ?_⟩
          simp (disch := try exact discB) only [push_cast, simprocAttr, b0, b6, b7, b8, b9, d10]
        ·obtain rfl : j = s0.length := by omega
         rw [show max s0.length (a + 1) = s0.length by omega, List.drop_length] at hnl
         have hz : lexR (toNl (s0.drop (a + 1))) l c = .ok [] := by rw [hnl]; rfl
         rw [hz] at ik
         repeat' (first|refine nav ?_|(refine g0_ ?_; refine goD ?_)|with_reducible refine gG ?_ ?_|((with_reducible refine And.intro (fun h => ?_) (fun h => ?_)) <;> try (exfalso; omega))|with_reducible refine andG ?_|simp (disch := try exact discB) only [push_cast, simprocAttr, b0, b6, b7, b8, b9])
         refine wa0 (s0.length - s0.length) (by omega) (by first|exact xb0|fail) ⟨s0.length, ts, l, c, by omega, by omega, by omega, by omega, by rw [List.drop_length, zak9]; exact ik, by omega, rfl, ?_⟩
         simp (disch := try exact discB) only [push_cast, simprocAttr, b0, b6, b7, b8, b9]
      ·rw [if_neg c35] at ik
       rw [v35] at c35
       have hw28 := zbZ9 (s0.getD a 0)
       have hbd := kbr9 (s0.drop a)
       rw [List.length_drop] at hbd
       have hpos := @kI0 (s0.getD a 0) (s0.drop (a + 1))
       rw [← hd] at hpos
       have htl := kas9 (s0.drop a)
       rw [List.length_drop] at htl
       have hhd : (s0.drop a).headD 0 = s0.getD a 0 := by rw [hd]; rfl
       by_cases cw : wrdB (s0.getD a 0) = true
       ·have hne : wordS (s0.drop a) ≠ [] := fun q => by
         rw [wV0, hhd, cw] at q; cases q
        have htk := waY9 (s0.drop a) hne
        have hwt := kn0 (s0.drop a)
        have hwat := vbr9 (s0.drop a)
        have hwend := qat9 (s0.drop a)
        have h29 := qca9 (wordS (s0.drop a)) hne (by omega)
        rw [cw] at hw28
        rw [htk] at ik hpos htl
        simp only at ik hpos htl
        rw [List.drop_drop] at ik
        generalize hW : wordS (s0.drop a) = w at *
        generalize wx0 w = K at *
        obtain ⟨k, e⟩ := K
        simp only at ik hpos h29
        rw [hwt] at ik
        repeat' (first|refine nav ?_|(refine g0_ ?_; refine goD ?_)|with_reducible refine gG ?_ ?_|((with_reducible refine And.intro (fun h => ?_) (fun h => ?_)) <;> try (exfalso; omega))|with_reducible refine andG ?_|(first|(refine ⟨_, _, pc_lift hw28 (by simp [idsL, idsE, AV.ids]) _, ?_⟩)|(refine ⟨_, pc_lift hw28 (by simp [idsL, idsE, AV.ids]) _, ?_⟩)|(refine ⟨_, fun _ => pc_lift hw28 (by simp [idsL, idsE, AV.ids]) _, ?_⟩))|simp (disch := try exact discB) only [push_cast, simprocAttr, b0, b6, b7, b8, b9, c10, q2, c35, bI, Int.reduceEq])
        refine go_loop rfl (fun mz s' H' => ∃ (j : Nat), j ≤ w.length ∧ mz = w.length - j ∧ H' = [.row 4 115 (tks ts)] ∧ s' 0 = .str s0 ∧ s' 6 = .own 0 ts.length ts.length none ∧ s' 7 = .int .i64 l ∧ s' 8 = .int .i64 c ∧ s' 9 = .int .i64 a ∧ s' 11 = .int .i64 j) (m := w.length) (by first|exact xb0|fail) (Weak.refl _ _) ⟨0, by omega, by omega, rfl, ?_⟩ ?_
        ·simp (disch := try exact discB) only [push_cast, simprocAttr, b0, b6, b7, b8, b9, c10, q2, c35, bI, Int.reduceEq]
        ·rintro mz s' H' ⟨j, hj, rfl, rfl, b0, b6, b7, b8, b9, b11⟩
         have hN : ((a : Int) + (j : Int)).toNat = a + j := by omega
         have hgd : s0.getD (a + j) 0 = (s0.drop a).getD j 0 := by simp [List.getD_eq_getElem?_getD]
         have hw2 := zbZ9 (s0.getD (a + j) 0)
         rcases Nat.lt_or_ge j w.length with hlt2|hge2
         ·obtain ⟨d, hd1, hd2⟩ := hwat j hlt2
          rw [hgd, List.getD_eq_getElem?_getD, hd1, Option.getD_some, hd2] at hw2
          have hgd2 : s0.getD (a + j) 0 = d := by rw [hgd, List.getD_eq_getElem?_getD, hd1]; rfl
          repeat' (first|refine nav ?_|(refine g0_ ?_; refine goD ?_)|with_reducible refine gG ?_ ?_|((with_reducible refine And.intro (fun h => ?_) (fun h => ?_)) <;> try (exfalso; omega))|with_reducible refine andG ?_|(first|(refine ⟨_, _, pc_lift hw2 (by simp [idsL, idsE, AV.ids]) _, ?_⟩)|(refine ⟨_, pc_lift hw2 (by simp [idsL, idsE, AV.ids]) _, ?_⟩)|(refine ⟨_, fun _ => pc_lift hw2 (by simp [idsL, idsE, AV.ids]) _, ?_⟩))|simp (disch := try exact discB) only [push_cast, simprocAttr, b0, b6, b7, b8, b9, b11, hN, hgd2, bI, Int.reduceEq])
          refine wa0 (w.length - (j + 1)) (by omega) (by first|exact xb0|fail) ⟨j + 1, by omega, rfl, rfl, ?_⟩
          simp (disch := try exact discB) only [push_cast, simprocAttr, b0, b6, b7, b8, b9, b11, hN, hgd2, bI, Int.reduceEq]
         ·obtain rfl : j = w.length := by omega
          by_cases hal : a + w.length < s0.length
          ·have hw3 : wrdB (s0.getD (a + w.length) 0) = false := by
            rw [hgd]
            rcases hwend with q|⟨d, hd1, hd2⟩
            ·rw [List.getElem?_eq_none_iff, List.length_drop] at q; omega
            ·rw [List.getD_eq_getElem?_getD, hd1, Option.getD_some, hd2]
           rw [hw3] at hw2
           have hsub : List.drop a (List.take (a + w.length) s0) = w := by rw [List.drop_take]; rw [show a + w.length - a = w.length by omega, hwt]
           by_cases he : e = 0
           ·subst he
            rw [if_neg (by simp), LexR.app_snoc] at ik
            repeat' (first|refine nav ?_|(refine g0_ ?_; refine goD ?_)|with_reducible refine gG ?_ ?_|((with_reducible refine And.intro (fun h => ?_) (fun h => ?_)) <;> try (exfalso; omega))|with_reducible refine andG ?_|(first|(refine ⟨_, _, pc_lift hw2 (by simp [idsL, idsE, AV.ids]) _, ?_⟩)|(refine ⟨_, pc_lift hw2 (by simp [idsL, idsE, AV.ids]) _, ?_⟩)|(refine ⟨_, fun _ => pc_lift hw2 (by simp [idsL, idsE, AV.ids]) _, ?_⟩)|(refine ⟨_, _, pc_lift h29 (by simp [idsL, idsE, AV.ids]) _, ?_⟩)|(refine ⟨_, pc_lift h29 (by simp [idsL, idsE, AV.ids]) _, ?_⟩)|(refine ⟨_, fun _ => pc_lift h29 (by simp [idsL, idsE, AV.ids]) _, ?_⟩))|simp (disch := try exact discB) only [push_cast, simprocAttr, b0, b6, b7, b8, b9, b11, hN, hsub, bI, Int.reduceEq])
            refine wa0 (s0.length - (a + w.length)) (by omega) (by first|exact xb0|fail) ⟨a + w.length, ts ++ [⟨k, w, l, c⟩], l, c + w.length, by omega, by simp; omega, by omega, by omega, ik, rfl, by rw [← zJ0]; rfl, ?_⟩
            simp (disch := try exact discB) only [push_cast, simprocAttr, b0, b6, b7, b8, b9, b11, hN, hsub, bI, Int.reduceEq]
            try simp
           ·rw [if_pos he] at ik
            have hR2 : R = ([], l, c, e) := by rw [hR, ik]; simp [LexR.app, ofR]
            repeat' (first|refine nav ?_|(refine g0_ ?_; refine goD ?_)|with_reducible refine gG ?_ ?_|((with_reducible refine And.intro (fun h => ?_) (fun h => ?_)) <;> try (exfalso; omega))|with_reducible refine andG ?_|(first|(refine ⟨_, _, pc_lift hw2 (by simp [idsL, idsE, AV.ids]) _, ?_⟩)|(refine ⟨_, pc_lift hw2 (by simp [idsL, idsE, AV.ids]) _, ?_⟩)|(refine ⟨_, fun _ => pc_lift hw2 (by simp [idsL, idsE, AV.ids]) _, ?_⟩)|(refine ⟨_, _, pc_lift h29 (by simp [idsL, idsE, AV.ids]) _, ?_⟩)|(refine ⟨_, pc_lift h29 (by simp [idsL, idsE, AV.ids]) _, ?_⟩)|(refine ⟨_, fun _ => pc_lift h29 (by simp [idsL, idsE, AV.ids]) _, ?_⟩))|simp (disch := try exact discB) only [push_cast, simprocAttr, b0, b6, b7, b8, b9, b11, hN, hsub, bI, Int.reduceEq, he])
            subst hR2
            simp [tks, he]
          ·have hsub : s0.drop a = w := by rw [← hwt, List.take_of_length_le (by rw [List.length_drop]; omega)]
           have hal2 : ¬ ((a : Int) + (w.length : Int) < (s0.length : Int)) := by omega
           by_cases he : e = 0
           ·subst he
            rw [if_neg (by simp), LexR.app_snoc] at ik
            repeat' (first|refine nav ?_|(refine g0_ ?_; refine goD ?_)|with_reducible refine gG ?_ ?_|((with_reducible refine And.intro (fun h => ?_) (fun h => ?_)) <;> try (exfalso; omega))|with_reducible refine andG ?_|(first|(refine ⟨_, _, pc_lift h29 (by simp [idsL, idsE, AV.ids]) _, ?_⟩)|(refine ⟨_, pc_lift h29 (by simp [idsL, idsE, AV.ids]) _, ?_⟩)|(refine ⟨_, fun _ => pc_lift h29 (by simp [idsL, idsE, AV.ids]) _, ?_⟩)|(refine ⟨AV.str [], ?_⟩; refine qT0 ?_))|simp (disch := try exact discB) only [push_cast, simprocAttr, b0, b6, b7, b8, b9, b11, hN, hsub, hal2, bI, Int.reduceEq])
            refine wa0 (s0.length - (a + w.length)) (by omega) (by first|exact xb0|fail) ⟨a + w.length, ts ++ [⟨k, w, l, c⟩], l, c + w.length, by omega, by simp; omega, by omega, by omega, ik, rfl, by rw [← zJ0]; rfl, ?_⟩
            simp (disch := try exact discB) only [push_cast, simprocAttr, b0, b6, b7, b8, b9, b11, hN, hsub, hal2, bI, Int.reduceEq]
            try simp
           ·rw [if_pos he] at ik
            have hR2 : R = ([], l, c, e) := by rw [hR, ik]; simp [LexR.app, ofR]
            repeat' (first|refine nav ?_|(refine g0_ ?_; refine goD ?_)|with_reducible refine gG ?_ ?_|((with_reducible refine And.intro (fun h => ?_) (fun h => ?_)) <;> try (exfalso; omega))|with_reducible refine andG ?_|(first|(refine ⟨_, _, pc_lift h29 (by simp [idsL, idsE, AV.ids]) _, ?_⟩)|(refine ⟨_, pc_lift h29 (by simp [idsL, idsE, AV.ids]) _, ?_⟩)|(refine ⟨_, fun _ => pc_lift h29 (by simp [idsL, idsE, AV.ids]) _, ?_⟩)|(refine ⟨AV.str [], ?_⟩; refine qT0 ?_))|simp (disch := try exact discB) only [push_cast, simprocAttr, b0, b6, b7, b8, b9, b11, hN, hsub, hal2, bI, Int.reduceEq, he])
            subst hR2
            simp [tks, he]
       ·have hne : wordS (s0.drop a) = [] := by
         rw [wV0, hhd, Bool.eq_false_iff]; exact cw
        have htk := zat9 (s0.drop a) hne
        obtain ⟨m1, m2, m3⟩ := zca9 s0 a hlt
        have h31 := wcw9 (s0.getD a 0)
        have e1 := vdl9
        rw [Bool.not_eq_true] at cw
        rw [cw] at hw28
        obtain ⟨k1, k2, k3⟩ := wca9 s0 a hlt hne
        have t1 : List.drop a (List.take (a + 1) s0) = (s0.drop a).take 1 := by rw [List.drop_take]; congr 1; omega
        have t2 : List.drop a (List.take (a + 2) s0) = (s0.drop a).take 2 := by rw [List.drop_take]; congr 1; omega
        have n0 : ((a : Int) + 1).toNat = a + 1 := by omega
        have n00 : ((a : Int) + 2).toNat = a + 2 := by omega
        clear m3 hpos htl
        generalize tokS (s0.drop a) = T at *
        by_cases ha1 : a + 1 < s0.length
        ·have h30 := kdk9 (s0.getD a 0) (s0.getD (a + 1) 0)
         have m1 := m1 ha1
         have ha3 : (a : Int) + 1 < (s0.length : Int) := by omega
         rw [m1] at k1 k2 k3
         generalize vah9 (s0.getD a 0) (s0.getD (a + 1) 0) = x at *
         generalize sngB (s0.getD a 0) = y at *
         repeat' (first|refine nav ?_|(refine g0_ ?_; refine goD ?_)|with_reducible refine gG ?_ ?_|((with_reducible refine And.intro (fun h => ?_) (fun h => ?_)) <;> try (exfalso; omega))|with_reducible refine andG ?_|(first|(refine ⟨_, _, pc_lift hw28 (by simp [idsL, idsE, AV.ids]) _, ?_⟩)|(refine ⟨_, pc_lift hw28 (by simp [idsL, idsE, AV.ids]) _, ?_⟩)|(refine ⟨_, fun _ => pc_lift hw28 (by simp [idsL, idsE, AV.ids]) _, ?_⟩)|(refine ⟨_, _, pc_lift h30 (by simp [idsL, idsE, AV.ids]) _, ?_⟩)|(refine ⟨_, pc_lift h30 (by simp [idsL, idsE, AV.ids]) _, ?_⟩)|(refine ⟨_, fun _ => pc_lift h30 (by simp [idsL, idsE, AV.ids]) _, ?_⟩)|(refine ⟨_, _, pc_lift h31 (by simp [idsL, idsE, AV.ids]) _, ?_⟩)|(refine ⟨_, pc_lift h31 (by simp [idsL, idsE, AV.ids]) _, ?_⟩)|(refine ⟨_, fun _ => pc_lift h31 (by simp [idsL, idsE, AV.ids]) _, ?_⟩))|simp (disch := try exact discB) only [push_cast, simprocAttr, b0, b6, b7, b8, b9, c10, q2, c35, n0, n00, e1, Int.reduceEq, t1, t2, ha3])
         ·have kk := k1 h
          rw [kk] at ik
          simp only at ik
          rw [if_neg (by simp), LexR.app_snoc, List.drop_drop] at ik
          refine wa0 (s0.length - (a + 2)) (by omega) (by first|exact xb0|fail) ⟨a + 2, ts ++ [⟨3, (s0.drop a).take 2, l, c⟩], l, c + 2, by omega, by simp; omega, by omega, by omega, ik, rfl, by rw [← zJ0]; rfl, ?_⟩
          simp (disch := try exact discB) only [push_cast, simprocAttr, b0, b6, b7, b8, b9, c10, q2, c35, n0, n00, e1, Int.reduceEq, t1, t2, ha3]
          all_goals first|done|(simp; done)|omega|(simp; omega)
         ·have kk := k2 (by first|assumption|(rw [Bool.eq_false_iff]; assumption)) h
          rw [kk] at ik
          simp only at ik
          rw [if_neg (by simp), LexR.app_snoc, List.drop_drop] at ik
          refine wa0 (s0.length - (a + 1)) (by omega) (by first|exact xb0|fail) ⟨a + 1, ts ++ [⟨3, (s0.drop a).take 1, l, c⟩], l, c + 1, by omega, by simp; omega, by omega, by omega, ik, rfl, by rw [← zJ0]; rfl, ?_⟩
          simp (disch := try exact discB) only [push_cast, simprocAttr, b0, b6, b7, b8, b9, c10, q2, c35, n0, n00, e1, Int.reduceEq, t1, t2, ha3]
          all_goals first|done|(simp; done)|omega|(simp; omega)
         ·have kk := k3 (by first|assumption|(rw [Bool.eq_false_iff]; assumption)) (by simpa using h)
          rw [kk] at ik
          simp only at ik
          rw [if_pos (by decide)] at ik
          have hR2 : R = ([], l, c, 4) := by rw [hR, ik]; simp [LexR.app, ofR]
          subst hR2
          simp [tks]
        ·have m2 := m2 ha1
         rw [m2] at k2 k3
         have ha2 : ¬ ((a : Int) + 1 < (s0.length : Int)) := by omega
         have hd1 : (s0.drop a).take 1 = s0.drop a := List.take_of_length_le (by rw [List.length_drop]; omega)
         rw [hd1] at t1
         generalize sngB (s0.getD a 0) = y at *
         repeat' (first|refine nav ?_|(refine g0_ ?_; refine goD ?_)|with_reducible refine gG ?_ ?_|((with_reducible refine And.intro (fun h => ?_) (fun h => ?_)) <;> try (exfalso; omega))|with_reducible refine andG ?_|(first|(refine ⟨_, _, pc_lift hw28 (by simp [idsL, idsE, AV.ids]) _, ?_⟩)|(refine ⟨_, pc_lift hw28 (by simp [idsL, idsE, AV.ids]) _, ?_⟩)|(refine ⟨_, fun _ => pc_lift hw28 (by simp [idsL, idsE, AV.ids]) _, ?_⟩)|(refine ⟨_, _, pc_lift h31 (by simp [idsL, idsE, AV.ids]) _, ?_⟩)|(refine ⟨_, pc_lift h31 (by simp [idsL, idsE, AV.ids]) _, ?_⟩)|(refine ⟨_, fun _ => pc_lift h31 (by simp [idsL, idsE, AV.ids]) _, ?_⟩)|(refine ⟨AV.str [], ?_⟩; refine qT0 ?_))|simp (disch := try exact discB) only [push_cast, simprocAttr, b0, b6, b7, b8, b9, c10, q2, c35, n0, n00, e1, Int.reduceEq, t1, ha2])
         ·have kk := k2 rfl h
          rw [kk] at ik
          simp only at ik
          rw [if_neg (by simp), hd1, LexR.app_snoc, List.drop_drop] at ik
          refine wa0 (s0.length - (a + 1)) (by omega) (by first|exact xb0|fail) ⟨a + 1, ts ++ [⟨3, s0.drop a, l, c⟩], l, c + 1, by omega, by simp; omega, by omega, by omega, ik, rfl, by rw [← zJ0]; rfl, ?_⟩
          simp (disch := try exact discB) only [push_cast, simprocAttr, b0, b6, b7, b8, b9, c10, q2, c35, n0, n00, e1, Int.reduceEq, t1, ha2]
          all_goals first|done|(simp; done)|omega|(simp; omega)
         ·have kk := k3 rfl (by simpa using h)
          rw [kk] at ik
          simp only at ik
          rw [if_pos (by decide)] at ik
          have hR2 : R = ([], l, c, 4) := by rw [hR, ik]; simp [LexR.app, ofR]
          subst hR2
          simp [tks]
   ·obtain rfl : a = s0.length := by omega
    rw [List.drop_length, zak9] at ik
    have hR2 : R = (ts, 0, 0, 0) := by rw [hR, ik]; simp [LexR.app, ofR]
    have et : (tks ts).take ts.length = tks ts := List.take_of_length_le (by rw [vc0]; omega)
    repeat' (first|refine nav ?_|(refine g0_ ?_; refine goD ?_)|with_reducible refine gG ?_ ?_|((with_reducible refine And.intro (fun h => ?_) (fun h => ?_)) <;> try (exfalso; omega))|with_reducible refine andG ?_|simp (disch := try exact discB) only [push_cast, simprocAttr, b0, b6, b7, b8, b9, et, qbj9])
    rw [hR2]
    simp
end Go.Proofs
