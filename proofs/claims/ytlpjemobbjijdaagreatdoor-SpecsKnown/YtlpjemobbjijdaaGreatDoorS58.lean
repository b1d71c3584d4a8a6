import Derived.Test.YtlpjemobbjijdaaGreatDoorS53
import Derived.Test.YtlpjemobbjijdaaGreatDoorS56
namespace Go.Proofs
open Go Go.V
set_option linter.unusedVariables false
set_option linter.unusedSimpArgs false
set_option maxHeartbeats 0
set_option maxRecDepth 100000
def grV : List AV := [.str [109], .int .i64 16, .int .i64 16, .sl 1 (kb0 (grL 64)) none, .sl 1 (strs (letL 16)) none, .sl 1 (strs (letL 16)) none, .sl 1 (strs (letL 64)) none]
theorem zcB9 (n : Nat) : (grL n).length = n := by simp [grL]
theorem kcZ9 (n : Nat) : kb0 (grL (n + 1)) = kb0 (grL n) ++ [[.sl 2 (rowA (grR n 16)) none]] := by simp [grL, kb0, n'j]
theorem vdA9 (s n : Nat) : (rowA (grR s n)).length = n := by simp [grR, rowA]
theorem qda9 (s n : Nat) : rowA (grR s (n + 1)) = rowA (grR s n) ++ [[.int .i64 s, .int .i64 n]] := by simp [grR, rowA, eA, n'j]
theorem xcB9 (a b : Nat) (h : a < 256) : IntKind.u8.wrap ((a : Int).tdiv b) = ((a / b : Nat) : Int) := by
 have h1 : a / b ≤ a := Nat.div_le_self a b;rw [show ((a : Int).tdiv b) = ((a / b : Nat) : Int) from rfl];generalize a / b = r at *;rw [IntKind.wrap_u8]; omega
theorem law9 : PC Tryz.prog G0 9 [] (.bool true) := by
 have hlv := vaV9;have l16 : PC Tryz.prog G0 32 [.int .i64 16] (.sl 1 (strs (letL 16)) none) := wbm9 16 (by omega);have l64 : PC Tryz.prog G0 32 [.int .i64 64] (.sl 1 (strs (letL 64)) none) := wbm9 64 (by omega);have h14 := vcu9 grG qdQ9;have h12 := vV0 grG qdQ9;unfold wcu9 at h14;rw [if_pos qdf9, if_pos kdP9] at h14;rw [qdf9] at h12;rw [show grG.A = grV from rfl] at h14 h12;unfold grV at h14 h12;have hi1 := fun p => xa0 p (letL 16);have hi2 := fun p => xa0 p (letL 64);have hi3 := fun p => we0 p;have hit := fun p => xa0 p tokL;have htl := za0 tokL;rw [kcY9] at htl;refine wb0 0 172 [.tmp 0] Tryz.func9 rfl rfl rfl (by simp) ?_;intro s hz;clear hz;repeat' (first|refine nv ?_|(with_reducible first|refine gG ?_ ?_|refine ⟨fun h => ?_, fun h => ?_⟩ <;> try omega|refine andG ?_)|simp (disch := try exact discB) only [push_cast, simprocAttr, Nat.add_zero])
 refine go_loop rfl (fun mz s' H' => ∃ k : Nat, k ≤ 34 ∧ mz = 34 - k ∧ H' = [] ∧ s' 1 = .sl 1 (strs tokL) (some 34) ∧ s' 2 = .int .i64 k) (m := 34) (by first|exact va0|fail) (Weak.refl _ _) ⟨0, by omega, by omega, rfl, ?_⟩ ?_
 ·simp (disch := try exact discB) only [push_cast, simprocAttr, Nat.add_zero];rfl
 ·rintro mz s' H' ⟨k, hk, rfl, rfl, b1, b2⟩;rcases l'h k 34 with hlt|hge
  ·obtain ⟨pl, pc, hcut⟩ := qcZ9 hlt;have hcl := vbz9 k (by omega);have h22 := xD0 (cutT k) (by omega) (by have := (vH0 (cutT k)).1; omega);rw [hcut] at h22;unfold zSpecA at h22;have k5c := law5 (cutT k) (by show _ ≤ 9223372036854775807; omega);repeat' (first|refine nv ?_|(with_reducible first|refine gG ?_ ?_|refine ⟨fun h => ?_, fun h => ?_⟩ <;> try omega|refine andG ?_)|simp (disch := try exact discB) only [push_cast, simprocAttr, b1, b2, htl])
   refine go_loop rfl (fun mz s2 H2 => ∃ (i : Nat) (m l : Bs), i ≤ 34 ∧ m.length ≤ 100 * i ∧ l.length ≤ 100 * i ∧ mz = 34 - i ∧ H2 = [] ∧ s2 1 = .sl 1 (strs tokL) (some 34) ∧ s2 2 = .int .i64 k ∧ s2 3 = .str l ∧ s2 4 = .str m ∧ s2 5 = .str (cutT (min i k)) ∧ s2 6 = .int .i64 i) (m := 34) (by first|exact va0|fail) (Weak.refl _ _) ⟨0, [], [], by omega, by simp, by simp, by omega, rfl, ?_⟩ ?_
   ·rw [Nat.zero_min, show cutT 0 = [] from rfl];simp (disch := try exact discB) only [push_cast, simprocAttr, b1, b2, htl]
   ·clear b1 b2;rintro mz s2 H2 ⟨i, m, l, hi, hm, hl, rfl, rfl, b1, b2, b3, b4, b5, b6⟩;rcases l'h i 34 with hi34|hi34
    ·have e1 := vc0 tokL i hi34;have hwl := kde9 i;have hcs := qbm9 i hi34;have hcl := vbz9 (min i k) (by omega);generalize tokL.getD i [] = w at *;rcases z'i i k with hik|rfl|hik
     ·have hne : ¬ i = k := by omega
      rw [show min i k = i by omega] at b5 hcl;repeat' (first|refine nv ?_|(with_reducible first|refine gG ?_ ?_|refine ⟨fun h => ?_, fun h => ?_⟩ <;> try omega|refine andG ?_)|simp (disch := try exact discB) only [push_cast, simprocAttr, b1, b2, b3, b4, b5, b6, htl, e1, hne])
      refine wa0 (34 - (i + 1)) (by omega) (by first|exact va0|fail) ⟨i + 1, m ++ (w ++ [10]), l ++ (w ++ [32]), by omega, by simp; omega, by simp; omega, rfl, rfl, ?_⟩;rw [show min (i + 1) k = i + 1 by omega, hcs];simp (disch := try exact discB) only [push_cast, simprocAttr, b1, b2, b3, b4, b5, b6, htl, e1, hne]
     ·rw [Nat.min_self] at b5 hcl;repeat' (first|refine nv ?_|(with_reducible first|refine gG ?_ ?_|refine ⟨fun h => ?_, fun h => ?_⟩ <;> try omega|refine andG ?_)|simp (disch := try exact discB) only [push_cast, simprocAttr, b1, b2, b3, b4, b5, b6, htl, e1])
      refine wa0 (34 - (i + 1)) (by omega) (by first|exact va0|fail) ⟨i + 1, m ++ (w ++ [10]) ++ (w ++ [32]), l, by omega, by simp; omega, by omega, rfl, rfl, ?_⟩;rw [show min (i + 1) i = i by omega];simp (disch := try exact discB) only [push_cast, simprocAttr, b1, b2, b3, b4, b5, b6, htl, e1]
     ·have hne : ¬ i = k := by omega
      rw [show min i k = k by omega] at b5 hcl;repeat' (first|refine nv ?_|(with_reducible first|refine gG ?_ ?_|refine ⟨fun h => ?_, fun h => ?_⟩ <;> try omega|refine andG ?_)|simp (disch := try exact discB) only [push_cast, simprocAttr, b1, b2, b3, b4, b5, b6, htl, e1, hne])
      refine wa0 (34 - (i + 1)) (by omega) (by first|exact va0|fail) ⟨i + 1, m ++ (w ++ [10]), l ++ (w ++ [32]), by omega, by simp; omega, by simp; omega, rfl, rfl, ?_⟩;rw [show min (i + 1) k = k by omega];simp (disch := try exact discB) only [push_cast, simprocAttr, b1, b2, b3, b4, b5, b6, htl, e1, hne]
    ·obtain rfl : i = 34 := by omega
     rw [show min 34 k = k by omega] at b5;have k5m := law5 m (by show _ ≤ 9223372036854775807; omega);have k5l := law5 l (by show _ ≤ 9223372036854775807; omega);repeat' (first|refine nv ?_|(with_reducible first|refine gG ?_ ?_|refine ⟨fun h => ?_, fun h => ?_⟩ <;> try omega|refine andG ?_)|refine cp h22 ?_ (hi := by (simp [idsL, idsE, AV.ids, hi1, hi2, hi3, hit]))|refine cp k5c ?_ (hi := by (simp [idsL, idsE, AV.ids, hi1, hi2, hi3, hit]))|refine cp k5m ?_ (hi := by (simp [idsL, idsE, AV.ids, hi1, hi2, hi3, hit]))|refine cp k5l ?_ (hi := by (simp [idsL, idsE, AV.ids, hi1, hi2, hi3, hit]))|simp (disch := try exact discB) only [push_cast, simprocAttr, b1, b2, b3, b4, b5, b6, htl])
     refine qe0 (34 - (k + 1)) 0 (by omega) (by first|exact va0|fail) (by omega) (by simp) (by simp [Blk.below]) ⟨k + 1, by omega, rfl, rfl, ?_⟩;simp (disch := try exact discB) only [push_cast, simprocAttr, b1, b2, b3, b4, b5, b6, htl];simp [xi0, AV.ids, idsL, hit]
  ·obtain rfl : k = 34 := by omega
   repeat' (first|refine nv ?_|(with_reducible first|refine gG ?_ ?_|refine ⟨fun h => ?_, fun h => ?_⟩ <;> try omega|refine andG ?_)|refine cp l16 ?_ (hi := by (simp [idsL, idsE, AV.ids, hi1, hi2, hi3, hit]))|refine cp l64 ?_ (hi := by (simp [idsL, idsE, AV.ids, hi1, hi2, hi3, hit]))|simp (disch := try exact discB) only [push_cast, simprocAttr, b1, b2, htl])
   refine go_loop rfl (fun mz s' H' => ∃ q : Nat, q ≤ 64 ∧ mz = 64 - q ∧ H' = [.row 7 27 [[.str [109], .int .i64 16, .int .i64 16, .own 1 q q none, .sl 1 (strs (letL 16)) none, .sl 1 (strs (letL 16)) none, .sl 1 (strs (letL 64)) none]], .row 1 50 (kb0 (grL q))] ∧ s' 11 = .ptr 0 0 0 1 ∧ s' 12 = .int .i64 q) (m := 64) (by first|exact va0|fail) (zj0 (b := 0) (i := 0) (j := 3) (sz := 1) (ty := 50) rfl rfl rfl) ⟨0, by omega, by omega, rfl, ?_⟩ ?_
   ·simp (disch := try exact discB) only [push_cast, simprocAttr, b1, b2, htl]
   ·clear b1 b2;rintro mz s' H' ⟨q, hq, rfl, rfl, b11, b12⟩;have hgl : (kb0 (grL q)).length = q := by rw [xn0, zcB9]
    rcases l'h q 64 with hq64|hq64
    ·have hq64' : (q : Int) < 64 := by omega
     repeat' (first|refine nv ?_|(with_reducible first|refine gG ?_ ?_|refine ⟨fun h => ?_, fun h => ?_⟩ <;> try omega|refine andG ?_)|simp (disch := try exact discB) only [push_cast, simprocAttr, b11, b12, hq64'])
     refine kq0 (by first|exact va0|fail) (qr0 (t := 13) (z := 0) (sz := 2) (ty := 70) rfl) ?_;refine go_loop rfl (fun mz s' H' => ∃ i : Nat, i ≤ 16 ∧ mz = 16 - i ∧ H' = [.row 7 27 [[.str [109], .int .i64 16, .int .i64 16, .own 1 q q none, .sl 1 (strs (letL 16)) none, .sl 1 (strs (letL 16)) none, .sl 1 (strs (letL 64)) none]], .row 1 50 (kb0 (grL q)), .row 2 70 (rowA (grR q i))] ∧ s' 11 = .ptr 0 0 0 1 ∧ s' 12 = .int .i64 q ∧ s' 13 = .own 2 i i none ∧ s' 14 = .int .i64 i) (m := 16) (by first|exact va0|fail) (Weak.refl _ _) ⟨0, by omega, by omega, rfl, ?_⟩ ?_
     ·simp (disch := try exact discB) only [push_cast, simprocAttr, b11, b12, hq64']
     ·clear b11 b12;rintro mz s' H' ⟨i, hi, rfl, rfl, b11, b12, b13, b14⟩;have hrl := vdA9 q i;rcases l'h i 16 with hi|hi
      ·have hi' : (i : Int) < 16 := by omega
       repeat' (first|refine nv ?_|(with_reducible first|refine gG ?_ ?_|refine ⟨fun h => ?_, fun h => ?_⟩ <;> try omega|refine andG ?_)|simp (disch := try exact discB) only [push_cast, simprocAttr, b11, b12, b13, b14, hrl, hi'])
       rw [← qda9];refine wa0 (16 - (i + 1)) (by omega) (by first|exact va0|fail) ⟨i + 1, by omega, rfl, rfl, ?_⟩;simp (disch := try exact discB) only [push_cast, simprocAttr, b11, b12, b13, b14, hrl, hi']
      ·obtain rfl : i = 16 := by omega
       have htk : (rowA (grR q 16)).take 16 = rowA (grR q 16) := l'y (by omega);repeat' (first|refine nv ?_|(with_reducible first|refine gG ?_ ?_|refine ⟨fun h => ?_, fun h => ?_⟩ <;> try omega|refine andG ?_)|simp (disch := try exact discB) only [push_cast, simprocAttr, b11, b12, b13, b14, hrl, hgl])
       refine xo0 (64 - (q + 1)) 2 (j := 2) rfl (by omega) (by first|exact va0|fail) (by omega) (by simp [frzH]) (by simp [frzH, frzB, frz, qp0, Blk.below, idsE, idsL, AV.ids, zc0, hi1, hi2, hi3, hrl, htk]) ⟨q + 1, by omega, rfl, by rw [kcZ9]; simp [frzH, frzB, frz, qp0, Blk.below, idsE, idsL, AV.ids, zc0, hi1, hi2, hi3, hrl, htk, zcB9], ?_⟩;simp (disch := try exact discB) only [push_cast, simprocAttr, b11, b12, b13, b14, hrl, hgl, htk, xi0, frz, AV.ids, idsL, hi3]
    ·obtain rfl : q = 64 := by omega
     have hH : (frzH 1 1 (kb0 (grL 64)) [.row 7 27 [[.str [109], .int .i64 16, .int .i64 16, .own 1 64 64 none, .sl 1 (strs (letL 16)) none, .sl 1 (strs (letL 16)) none, .sl 1 (strs (letL 64)) none]], .row 1 50 (kb0 (grL 64))]).take 1 = [.row 7 27 [[.str [109], .int .i64 16, .int .i64 16, .sl 1 (kb0 (grL 64)) none, .sl 1 (strs (letL 16)) none, .sl 1 (strs (letL 16)) none, .sl 1 (strs (letL 64)) none]]] := by
      have : (kb0 (grL 64)).take 64 = kb0 (grL 64) := l'y (by omega);simp [frzH, frzB, frz, qp0, Blk.below, idsE, idsL, AV.ids, zc0, hi1, hi2, hi3, hgl, this]
     repeat' (first|(first|(with_reducible refine vb0 (p := [0, 1, 1, 1, 1, 1]) ?_)|refine nav ?_|(refine g0_ ?_; first|refine goD ?_))|(with_reducible first|refine gG ?_ ?_|refine ⟨fun h => ?_, fun h => ?_⟩ <;> try omega|refine andG ?_)|simp (disch := try exact discB) only [push_cast, simprocAttr, b11, b12])
     refine Halt.mk ?_;refine kq0 (by first|exact va0|fail) (vck9 (k := 1) (j := 1) (es := kb0 (grL 64)) rfl (by omega) (by simp) (by rw [hH]; simp [frzH, frzB, frz, qp0, Blk.below, idsE, idsL, AV.ids, zc0, hi1, hi2, hi3])) ?_;rw [hH];repeat' (first|refine nv ?_|(with_reducible first|refine gG ?_ ?_|refine ⟨fun h => ?_, fun h => ?_⟩ <;> try omega|refine andG ?_)|refine cp h14 ?_ (hi := by (simp [idsL, idsE, AV.ids, hi1, hi2, hi3, hit]))|refine cp h12 ?_ (hi := by (simp [idsL, idsE, AV.ids, hi1, hi2, hi3, hit]))|simp (disch := try exact discB) only [push_cast, simprocAttr, b11, b12, xi0, frz, AV.ids, idsL, hi3])
     refine go_loop rfl (fun mz s' H' => ∃ n : Nat, n ≤ 81 ∧ mz = 81 - n ∧ H' = [] ∧ s' 17 = .int .u8 n) (m := 81) (by first|exact va0|fail) (xai9 (m := 0) (by omega) (by simp) (by simp)) ⟨0, by omega, by omega, by simp, ?_⟩ ?_
     ·simp (disch := try exact discB) only [push_cast, simprocAttr, b11, b12, xi0, frz, AV.ids, idsL, hi3]
     ·clear b11 b12;rintro mz s' H' ⟨n, hn, rfl, rfl, b17⟩;rcases l'h n 81 with hn81|hn81
      ·have hc : (n : Int) < 81 := by omega
       have f3 : IntKind.u8.wrap ((n : Int).tdiv 3) = ((n / 3 : Nat) : Int) := xcB9 n 3 (by omega);have f5 : IntKind.u8.wrap ((n : Int).tdiv 5) = ((n / 5 : Nat) : Int) := xcB9 n 5 (by omega);have f2 : IntKind.u8.wrap ((n : Int).tdiv 2) = ((n / 2 : Nat) : Int) := xcB9 n 2 (by omega);have fw : IntKind.u16.wrap (n : Int) = n := by rw [IntKind.wrap_u16]; omega
       have f7 : IntKind.u16.wrap ((n : Int) * 7) = ((n * 7 : Nat) : Int) := by rw [IntKind.wrap_u16]; omega
       have f31 : IntKind.u16.wrap ((n : Int) * 31) = ((n * 31 : Nat) : Int) := by rw [IntKind.wrap_u16]; omega
       have fn1 : IntKind.u8.wrap ((n : Int) + 1) = (n : Int) + 1 := by rw [IntKind.wrap_u8]; omega
       have q7 : n * 7 < 65536 := by omega
       have q31 : n * 31 < 65536 := by omega
       have q3 : n / 3 < 256 := by omega
       have q5 : n / 5 < 256 := by omega
       have q2 : n / 2 < 256 := by omega
       obtain ⟨p, hp⟩ : ∃ p : Bool, decide ((n : Int).tmod 2 = 0) = p := ⟨_, rfl⟩;generalize n * 7 = a7 at *;generalize n * 31 = a31 at *;generalize n / 3 = n3 at *;generalize n / 5 = n5 at *;generalize n / 2 = n2 at *;have hok : (⟨n, n3, n5, p, [a7, n, 3, 8, a31, 17, 44, 3]⟩ : MD).Ok := ⟨by show n < 256; omega, q3, q5, fun e he => by
        simp only [l'w, l'J, or_false] at he;omega⟩
       have h4 := law4 ⟨⟨n, n3, n5, p, [a7, n, 3, 8, a31, 17, 44, 3]⟩, n⟩ 1 (some 8) ⟨⟨n, n3, n5, p, [a7, n, 3, 8, a31, 17, 44, 3]⟩, n2⟩ 1 (some 8) hok (by show n < 256; omega) (.inr rfl) hok q2 (.inr rfl);have h6 := law6 ⟨⟨n, n3, n5, p, [a7, n, 3, 8, a31, 17, 44, 3]⟩, n⟩ 1 (some 8) [n, n2, 3] 1 (some 3) n hok (by show n < 256; omega) (.inr rfl) (fun y hy => by
        simp only [l'w, l'J, or_false] at hy;omega) (by simp) (.inr rfl) (by omega)
       simp only [ndC, mdC, u16s, u8s, List.map_cons, List.map_nil, List.cons_append, List.nil_append, Int.cast_ofNat_Int] at h4 h6;repeat' (first|(refine nv ?_ <;> (try simp (disch := try exact discB) only [push_cast, simprocAttr, b17, hc, f3, f5, f2, fw, f7, f31, hp]))|(with_reducible first|refine gG ?_ ?_|refine ⟨fun h => ?_, fun h => ?_⟩ <;> try omega|refine andG ?_)|refine cp h4 ?_ (hi := by (simp [idsL, idsE, AV.ids, hi1, hi2, hi3, hit]))|refine cp h6 ?_ (hi := by (simp [idsL, idsE, AV.ids, hi1, hi2, hi3, hit]))|simp (disch := try exact discB) only [push_cast, simprocAttr, b17, hc, f3, f5, f2, fw, f7, f31, hp])
       refine qe0 (81 - (n + 1)) 0 (by omega) (by first|exact va0|fail) (by omega) (by simp) (by simp [Blk.below]) ⟨n + 1, by omega, rfl, rfl, ?_⟩;simp (disch := try exact discB) only [push_cast, simprocAttr, b17, hc, f3, f5, f2, fw, f7, f31, hp, fn1, xi0, AV.ids, idsL]
      ·obtain rfl : n = 81 := by omega
       repeat' (first|refine nv ?_|(with_reducible first|refine gG ?_ ?_|refine ⟨fun h => ?_, fun h => ?_⟩ <;> try omega|refine andG ?_)|refine cp hlv ?_ (hi := by (simp [idsL, idsE, AV.ids, hi1, hi2, hi3, hit]))|simp (disch := try exact discB) only [push_cast, simprocAttr, b17])
end Go.Proofs
