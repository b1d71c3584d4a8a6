import Derived.Test.YtlpjemobbjijdaaGreatDoorL2
import Derived.Test.YtlpjemobbjijdaaGreatDoorM2
namespace Go.Proofs
open Go Go.V
set_option linter.unusedVariables false
set_option linter.unusedSimpArgs false
set_option maxHeartbeats 0
set_option maxRecDepth 100000
def digs10 : Bs := [48, 49, 50, 51, 52, 53, 54, 55, 56, 57]
theorem kcw9 (b : UInt8) : digs10.contains b = digB b := by
 have key : ∀ n : Nat, n < 256 → digs10.contains (UInt8.ofNat n) = digB (UInt8.ofNat n) := by decide +kernel
 have := key b.toNat (UInt8.toNat_lt b)
 rwa [UInt8.ofNat_toNat] at this
theorem qcx9 (w : Bs) : (Lib.trimLeftS w digs10 = []) = (w.all digB = true) := by
 apply propext
 unfold Lib.trimLeftS
 induction w with
 | nil => simp
 | cons a r ih =>
  rw [List.dropWhile_cons, List.all_cons]
  simp only [kcw9] at ih ⊢
  cases digB a
  ·simp
  ·simpa using ih
theorem wdl9 (w : Bs) (hw : w ≠ []) : PC Tryz.prog G0 127 [.str w] (.tup [.int .u8 (wx0 w).1, .int .i64 (wx0 w).2]) := by
 have h0 := kaD9 w
 have h1 := xbs9 (w.getD 0 0)
 have h2 := fun H => vdk9 H w
 have h3 := qcx9 w
 have hl : 0 < w.length := List.length_pos_iff.2 hw
 have ka := kaf9 w
 have kb := kbX9 w
 have kn := qbY9 w
 have kz : w = [48] → wx0 w = (2, 0) := fun q => by rw [q]; exact xbD9
 rw [h0] at ka kb kn
 have e48 : (((w.getD 0 0).toNat : Int) = 48) = (w.getD 0 0 = 48) := by
  apply propext
  rw [← UInt8.toNat_inj]
  show _ ↔ (w.getD 0 0).toNat = 48
  omega
 unfold digs10 at h3
 generalize Lib.trimLeftS w [48, 49, 50, 51, 52, 53, 54, 55, 56, 57] = T at *
 generalize hcc : w.getD 0 0 = c at *
 cases hc : letB c with
 | true =>
  rw [hc] at h1
  rw [ka hc]
  refine vb0 0 27 [.tmp 2, .tmp 3] Tryz.func127 rfl rfl rfl (by simp) ?_
  intro s ⟨a0, hz⟩
  clear hz
  repeat' (first|refine nav ?_|(refine g0_ ?_; refine goD ?_)|with_reducible refine gG ?_ ?_|((with_reducible refine And.intro (fun h => ?_) (fun h => ?_)) <;> try (exfalso; omega))|with_reducible refine andG ?_|(first|(refine ⟨_, _, pc_lift h1 (by simp [idsL, idsE, AV.ids]) _, ?_⟩)|(refine ⟨_, pc_lift h1 (by simp [idsL, idsE, AV.ids]) _, ?_⟩)|(refine ⟨_, fun _ => pc_lift h1 (by simp [idsL, idsE, AV.ids]) _, ?_⟩))|simp (disch := try exact discB) only [push_cast, simprocAttr, a0, hcc])
  ·rw [if_pos (by omega)]; exact ⟨rfl, rfl⟩
  ·rw [if_neg (by omega)]; exact ⟨rfl, rfl⟩
 | false =>
  rw [hc] at h1
  have kb := kb (by rw [hc]; decide)
  have kn := kn (by rw [hc]; decide)
  refine vb0 0 27 [.tmp 2, .tmp 3] Tryz.func127 rfl rfl rfl (by simp) ?_
  intro s ⟨a0, hz⟩
  clear hz
  repeat' (first|refine nav ?_|(refine g0_ ?_; refine goD ?_)|with_reducible refine gG ?_ ?_|((with_reducible refine And.intro (fun h => ?_) (fun h => ?_)) <;> try (exfalso; omega))|with_reducible refine andG ?_|(first|(refine ⟨_, _, pc_lift h1 (by simp [idsL, idsE, AV.ids]) _, ?_⟩)|(refine ⟨_, pc_lift h1 (by simp [idsL, idsE, AV.ids]) _, ?_⟩)|(refine ⟨_, fun _ => pc_lift h1 (by simp [idsL, idsE, AV.ids]) _, ?_⟩)|(refine ⟨_, _, h2 _, ?_⟩)|(refine ⟨_, h2 _, ?_⟩)|(refine ⟨_, fun _ => h2 _, ?_⟩))|simp (disch := try exact discB) only [push_cast, simprocAttr, a0, hcc, e48, h3])
  ·rw [kz h]; exact ⟨rfl, rfl⟩
  ·rename_i q; rw [kb q hw (h.elim .inl fun h => .inr (.inl (by omega)))]; exact ⟨rfl, rfl⟩
  ·rename_i q1 q2; rw [kb q1 hw (.inr (.inr h))]; exact ⟨rfl, rfl⟩
  ·rename_i q1 q2; rw [kn q2.1 (by omega) h]; exact ⟨rfl, rfl⟩
theorem kbZ9 (s0 : Bs) (hs : s0.length ≤ 1000000) : PC Tryz.prog G0 102 [.str s0] (.tup [.agg [.int .u8 (tokS s0).1, .str (s0.take (tokS s0).2.1), .int .i64 0, .int .i64 0], .int .i64 (tokS s0).2.2]) := by
 have h1 := qdl9 s0 hs
 have h2 := wdl9 (wordS s0)
 have h3 := xdl9 s0
 have t1 := waY9 s0
 have t2 := zat9 s0
 have t3 := kn0 s0
 have hm := zbr9 s0
 by_cases hw : wordS s0 = []
 ·rw [hw] at h1
  rw [t2 hw]
  by_cases h0 : qp0 s0 = 0
  ·rw [if_pos h0]
   rw [h0] at h3
   refine vb0 0 28 [.cell 2 115, .tmp 3] Tryz.func102 rfl rfl rfl (by simp) ?_
   intro s ⟨a0, hz⟩
   clear hz
   repeat' (first|refine nav ?_|(refine g0_ ?_; refine goD ?_)|with_reducible refine gG ?_ ?_|((with_reducible refine And.intro (fun h => ?_) (fun h => ?_)) <;> try (exfalso; omega))|with_reducible refine andG ?_|(first|(refine ⟨_, _, pc_lift h1 (by simp [idsL, idsE, AV.ids]) _, ?_⟩)|(refine ⟨_, pc_lift h1 (by simp [idsL, idsE, AV.ids]) _, ?_⟩)|(refine ⟨_, fun _ => pc_lift h1 (by simp [idsL, idsE, AV.ids]) _, ?_⟩)|(refine ⟨_, _, pc_lift h3 (by simp [idsL, idsE, AV.ids]) _, ?_⟩)|(refine ⟨_, pc_lift h3 (by simp [idsL, idsE, AV.ids]) _, ?_⟩)|(refine ⟨_, fun _ => pc_lift h3 (by simp [idsL, idsE, AV.ids]) _, ?_⟩))|simp (disch := try exact discB) only [push_cast, simprocAttr, a0])
  ·rw [if_neg h0]
   have hne : s0.take (qp0 s0) ≠ [] := by
    intro q
    have := congrArg List.length q
    rw [List.length_take, List.length_nil] at this
    omega
   simp only
   generalize s0.take (qp0 s0) = M at *
   refine vb0 0 28 [.cell 2 115, .tmp 3] Tryz.func102 rfl rfl rfl (by simp) ?_
   intro s ⟨a0, hz⟩
   clear hz
   repeat' (first|refine nav ?_|(refine g0_ ?_; refine goD ?_)|with_reducible refine gG ?_ ?_|((with_reducible refine And.intro (fun h => ?_) (fun h => ?_)) <;> try (exfalso; omega))|with_reducible refine andG ?_|(first|(refine ⟨_, _, pc_lift h1 (by simp [idsL, idsE, AV.ids]) _, ?_⟩)|(refine ⟨_, pc_lift h1 (by simp [idsL, idsE, AV.ids]) _, ?_⟩)|(refine ⟨_, fun _ => pc_lift h1 (by simp [idsL, idsE, AV.ids]) _, ?_⟩)|(refine ⟨_, _, pc_lift h3 (by simp [idsL, idsE, AV.ids]) _, ?_⟩)|(refine ⟨_, pc_lift h3 (by simp [idsL, idsE, AV.ids]) _, ?_⟩)|(refine ⟨_, fun _ => pc_lift h3 (by simp [idsL, idsE, AV.ids]) _, ?_⟩))|simp (disch := try exact discB) only [push_cast, simprocAttr, a0, hne])
 ·have h2 := h2 hw
  rw [t1 hw]
  simp only [t3]
  generalize wordS s0 = W at *
  generalize wx0 W = K at *
  refine vb0 0 28 [.cell 2 115, .tmp 3] Tryz.func102 rfl rfl rfl (by simp) ?_
  intro s ⟨a0, hz⟩
  clear hz
  repeat' (first|refine nav ?_|(refine g0_ ?_; refine goD ?_)|with_reducible refine gG ?_ ?_|((with_reducible refine And.intro (fun h => ?_) (fun h => ?_)) <;> try (exfalso; omega))|with_reducible refine andG ?_|(first|(refine ⟨_, _, pc_lift h1 (by simp [idsL, idsE, AV.ids]) _, ?_⟩)|(refine ⟨_, pc_lift h1 (by simp [idsL, idsE, AV.ids]) _, ?_⟩)|(refine ⟨_, fun _ => pc_lift h1 (by simp [idsL, idsE, AV.ids]) _, ?_⟩)|(refine ⟨_, _, pc_lift h2 (by simp [idsL, idsE, AV.ids]) _, ?_⟩)|(refine ⟨_, pc_lift h2 (by simp [idsL, idsE, AV.ids]) _, ?_⟩)|(refine ⟨_, fun _ => pc_lift h2 (by simp [idsL, idsE, AV.ids]) _, ?_⟩))|simp (disch := try exact discB) only [push_cast, simprocAttr, a0, hw])
  try rfl
theorem qdJ9 (s0 : Bs) (hs : s0.length ≤ 1000000) : PC Tryz.prog G0 100 [.str s0] (.int .i64 (gapS false s0 : Nat)) := by
 have hg := kab9 false s0
 refine vb0 0 34 [.tmp 2] Tryz.func100 rfl rfl rfl (by simp) ?_
 intro s ⟨a0, hz⟩
 clear hz
 repeat' (first|refine nav ?_|(refine g0_ ?_; refine goD ?_)|with_reducible refine gG ?_ ?_|((with_reducible refine And.intro (fun h => ?_) (fun h => ?_)) <;> try (exfalso; omega))|with_reducible refine andG ?_|simp (disch := try exact discB) only [push_cast, simprocAttr, a0])
 refine go_loop rfl (fun mz s' H' => ∃ n : Nat, n ≤ s0.length ∧ mz = s0.length - n ∧ H' = [] ∧ s' 0 = .str s0 ∧ s' 3 = .int .i64 n ∧ gapS false s0 = n + gapS false (s0.drop n)) (m := s0.length) (by first|exact xb0|fail) (Weak.refl _ _) ⟨0, by omega, by omega, rfl, ?_⟩ ?_
 ·simp (disch := try exact discB) only [push_cast, simprocAttr, a0]
 ·rintro mz s' H' ⟨n, hn, rfl, rfl, b0, b3, ik⟩
  rcases Nat.lt_or_ge n s0.length with hlt|hge
  ·have eb := getD_some hlt
   have g1 := vbX9 s0 n (s0.getD n 0) eb
   have g2 := qcT9 s0 n
   have g3 := xcv9 s0 n (s0.getD n 0) eb
   have hix := fun H => xdk9 H (s0.drop n) 10 10 rfl
   have hne := @Lib.indexByte_none (s0.drop n) 10
   have hso := @Lib.indexByte_some (s0.drop n) 10
   have hge := Lib.indexByte_ge (s0.drop n) 10
   have hbl : blkB (s0.getD n 0) = true ↔ ((s0.getD n 0).toNat : Int) = 32 ∨ ((s0.getD n 0).toNat : Int) = 9 ∨ ((s0.getD n 0).toNat : Int) = 13 := by
    simp only [blkB, Bool.or_eq_true, decide_eq_true_eq, ← UInt8.toNat_inj, or_assoc]
    show ((s0.getD n 0).toNat = 32 ∨ (s0.getD n 0).toNat = 9 ∨ (s0.getD n 0).toNat = 13) ↔ _
    omega
   have h10 : s0.getD n 0 = 10 ↔ ((s0.getD n 0).toNat : Int) = 10 := by
    rw [← UInt8.toNat_inj]; show (s0.getD n 0).toNat = 10 ↔ _; omega
   have h35 : s0.getD n 0 = 35 ↔ ((s0.getD n 0).toNat : Int) = 35 := by
    rw [← UInt8.toNat_inj]; show (s0.getD n 0).toNat = 35 ↔ _; omega
   have g2 : s0.getD n 0 = 35 → _ := fun q => g2 (by rw [eb, q]) ik
   generalize Lib.indexByte (s0.drop n) 10 = ix at *
   generalize hbb : s0.getD n 0 = b at *
   have g1 := fun q => g1 q ik
   have g3 := fun p q r => g3 p q r ik
   rw [hbl, h10] at g1
   rw [hbl, h10, h35] at g3
   rw [h35] at g2
   generalize hvv : (b.toNat : Int) = v at *
   repeat' (first|refine nav ?_|(refine g0_ ?_; refine goD ?_)|with_reducible refine gG ?_ ?_|((with_reducible refine And.intro (fun h => ?_) (fun h => ?_)) <;> try (exfalso; omega))|with_reducible refine andG ?_|(first|(refine ⟨_, _, hix _, ?_⟩)|(refine ⟨_, hix _, ?_⟩)|(refine ⟨_, fun _ => hix _, ?_⟩))|simp (disch := try exact discB) only [push_cast, simprocAttr, b0, b3, hbb, hvv])
   ·refine wa0 (s0.length - (n + 1)) (by omega) (by first|exact xb0|fail) ⟨n + 1, by omega, rfl, rfl, ?_⟩
    simp (disch := try exact discB) only [push_cast, simprocAttr, b0, b3, hbb, hvv]
    exact g1 (by simp [h])
   ·refine wa0 (s0.length - (n + 1)) (by omega) (by first|exact xb0|fail) ⟨n + 1, by omega, rfl, rfl, ?_⟩
    simp (disch := try exact discB) only [push_cast, simprocAttr, b0, b3, hbb, hvv]
    exact g1 (by simp [h])
   ·refine wa0 (s0.length - (n + 1)) (by omega) (by first|exact xb0|fail) ⟨n + 1, by omega, rfl, rfl, ?_⟩
    simp (disch := try exact discB) only [push_cast, simprocAttr, b0, b3, hbb, hvv]
    exact g1 (by simp [h])
   ·refine wa0 (s0.length - (n + 1)) (by omega) (by first|exact xb0|fail) ⟨n + 1, by omega, rfl, rfl, ?_⟩
    simp (disch := try exact discB) only [push_cast, simprocAttr, b0, b3, hbb, hvv]
    exact g1 (by simp [h])
   ·rw [(g2 (by assumption)).1 (hne (by omega))]
   ·obtain ⟨o, rfl⟩ : ∃ o : Nat, ix = o := ⟨ix.toNat, by omega⟩
    rename_i hv35 _
    obtain ⟨k1, k2⟩ := hso rfl
    have ho : 0 < o := by
     rcases Nat.eq_zero_or_pos o with q|q
     ·subst q
      rw [List.getElem?_drop, Nat.add_zero, eb, Option.some.injEq, h10] at k1
      omega
     ·exact q
    have hon : n + o ≤ s0.length := by
     have := (List.getElem?_eq_some_iff.1 k1).1
     rw [List.length_drop] at this
     omega
    have hg2 := (g2 (by assumption)).2 o k1 k2
    refine wa0 (s0.length - (n + o)) (by omega) (by first|exact xb0|fail) ⟨n + o, by omega, rfl, rfl, ?_⟩
    simp (disch := try exact discB) only [push_cast, simprocAttr, b0, b3, hbb, hvv]
    exact hg2
   ·rw [g3 (by omega) (by omega) (by omega)]
  ·obtain rfl : n = s0.length := by omega
   rw [List.drop_length] at ik
   repeat' (first|refine nav ?_|(refine g0_ ?_; refine goD ?_)|with_reducible refine gG ?_ ?_|((with_reducible refine And.intro (fun h => ?_) (fun h => ?_)) <;> try (exfalso; omega))|with_reducible refine andG ?_|simp (disch := try exact discB) only [push_cast, simprocAttr, b0, b3])
   rw [ik]; rfl
end Go.Proofs
namespace Go.Proofs
open Go Go.V
set_option linter.unusedVariables false
set_option linter.unusedSimpArgs false
set_option maxHeartbeats 0
set_option maxRecDepth 100000 in
theorem zbE9 (i o : Int) (l : List Row) (z : Nat) (c : Option Nat) (hz : l = [] ∨ z = 1) (hl : l.length ≤ 1000000) (hr : ∀ j, j < l.length → (l.getD j ([], none)).1.length ≤ 1000000) : PC Tryz.prog G0 33 [.agg [.int .i64 i, .int .i64 o, .sl z (vd0 l) c]] (.int .i64 (xi0 i o l)) := by
 refine vb0 1 95 [.tmp 2] Tryz.func33 rfl rfl rfl (by simp) ?_
 intro s ⟨a0, hz⟩
 clear hz
 repeat' (first|refine nav ?_|(refine g0_ ?_; refine goD ?_)|with_reducible refine gG ?_ ?_|((with_reducible refine And.intro (fun h => ?_) (fun h => ?_)) <;> try (exfalso; omega))|with_reducible refine andG ?_|simp (disch := try exact discB) only [push_cast, simprocAttr, a0])
 ·congr 1
  rw [xi0, if_pos (by omega)]
 ·congr 1
  rw [xi0, if_neg (by omega), if_pos (by omega)]
 ·rename_i h1
  obtain rfl : z = 1 := by
   rcases hz with q|q
   ·rw [q] at h; simp at h
   ·exact q
  refine go_loop rfl (fun mz s' H' => ∃ k : Nat, k ≤ l.length ∧ mz = l.length - k ∧ H' = [.row 3 24 [[.int .i64 i, .int .i64 o, .sl 1 (vd0 l) c]]] ∧ s' 1 = .ptr 0 0 0 1 ∧ s' 3 = .int .i64 k ∧ ∀ j, j < k → xac9 i o l.length (l.getD j ([], none)).1 = true) (m := l.length) (by first|exact xb0|fail) (Weak.refl _ _) ⟨0, by omega, by omega, rfl, ?_⟩ ?_
  ·simp (disch := try exact discB) only [push_cast, simprocAttr, a0]
   all_goals exact fun j hj => by omega
  ·rintro mz s' H' ⟨k, hk, rfl, rfl, b1, b3, ik⟩
   rcases Nat.lt_or_ge k l.length with hlt|hge
   ·have e1 := vq0 l k hlt
    have hq := hr k hlt
    have hs := kA0 (P := fun j => xac9 i o l.length (l.getD j ([], none)).1 = true) (k := k) ik
    have hno : xac9 i o l.length (l.getD k ([], none)).1 = false → xi0 i o l = 1 := fun h => by
     rw [xi0, if_neg (by omega), if_neg (by omega), if_neg]
     intro hh
     rw [hh k hlt] at h; cases h
    simp only [xac9] at hs hno
    generalize (l.getD k ([], none)).2 = cc at *
    generalize (l.getD k ([], none)).1 = r at *
    repeat' (first|refine nav ?_|(refine g0_ ?_; refine goD ?_)|with_reducible refine gG ?_ ?_|((with_reducible refine And.intro (fun h => ?_) (fun h => ?_)) <;> try (exfalso; omega))|with_reducible refine andG ?_|simp (disch := try exact discB) only [push_cast, simprocAttr, b1, b3, e1])
    ·congr 1
     refine (hno ?_).symm
     simp [h]
    ·rename_i hlen
     refine go_loop rfl (fun mz s' H' => ∃ m : Nat, m ≤ r.length ∧ mz = r.length - m ∧ H' = [.row 3 24 [[.int .i64 i, .int .i64 o, .sl 1 (vd0 l) c]]] ∧ s' 1 = .ptr 0 0 0 1 ∧ s' 3 = .int .i64 k ∧ s' 4 = .int .i64 m ∧ ∀ j, j < m → fitE o l.length (r.getD j (0, 0)) = true) (m := r.length) (by first|exact xb0|fail) (Weak.refl _ _) ⟨0, by omega, by omega, rfl, ?_⟩ ?_
     ·simp (disch := try exact discB) only [push_cast, simprocAttr, b1, b3, e1]
      all_goals exact fun j hj => by omega
     ·rintro mz s' H' ⟨m, hm, rfl, rfl, b1, b3, b4, im⟩
      rcases Nat.lt_or_ge m r.length with hlt3|hge3
      ·have e3 := kl0 r m hlt3
       have hs3 := kA0 (P := fun j => fitE o l.length (r.getD j (0, 0)) = true) (k := m) im
       have hno3 : fitE o l.length (r.getD m (0, 0)) = false → xi0 i o l = 1 := fun h => hno (by
        rw [Bool.and_eq_false_iff]; right
        rw [Bool.eq_false_iff]
        intro hh
        rw [List.all_eq_true] at hh
        have := hh (r.getD m (0, 0)) (by rw [List.getD_eq_getElem?_getD, List.getElem?_eq_getElem hlt3]; exact List.getElem_mem _)
        rw [h] at this; cases this)
       generalize r.getD m (0, 0) = x at *
       obtain ⟨x1, x2⟩ := x
       simp only [eA] at e3
       have hfd : fitE o l.length (x1, x2) = ((decide (x1 = -1) && decide (x2 = -1)) || (decide (0 ≤ x1) && decide (x1 < l.length) && decide (0 ≤ x2) && decide (x2 < o))) := rfl
       rw [hfd] at hs3 hno3
       repeat' (first|refine nav ?_|(refine g0_ ?_; refine goD ?_)|with_reducible refine gG ?_ ?_|((with_reducible refine And.intro (fun h => ?_) (fun h => ?_)) <;> try (exfalso; omega))|with_reducible refine andG ?_|simp (disch := try exact discB) only [push_cast, simprocAttr, b1, b3, b4, e1, e3])
       ·refine wg0 (r.length - (m + 1)) 1 (by omega) (by first|exact xb0|fail) (by omega) (by simp) (by simp [Blk.below, idsE, idsL, AV.ids]) ⟨m + 1, by omega, rfl, rfl, ?_⟩
        simp (disch := try exact discB) only [push_cast, simprocAttr, b1, b3, b4, e1, e3, ko0, AV.ids, idsL, zf0]
        refine hs3 ?_
        simp [h.1, h.2]
       ·congr 1
        refine (hno3 ?_).symm
        simp only [Bool.or_eq_false_iff, Bool.and_eq_false_iff, decide_eq_false_iff_not]
        omega
       ·refine wg0 (r.length - (m + 1)) 1 (by omega) (by first|exact xb0|fail) (by omega) (by simp) (by simp [Blk.below, idsE, idsL, AV.ids]) ⟨m + 1, by omega, rfl, rfl, ?_⟩
        simp (disch := try exact discB) only [push_cast, simprocAttr, b1, b3, b4, e1, e3, ko0, AV.ids, idsL, zf0]
        refine hs3 ?_
        simp only [Bool.or_eq_true, Bool.and_eq_true, decide_eq_true_eq]
        omega
      ·obtain rfl : m = r.length := by omega
       repeat' (first|refine nav ?_|(refine g0_ ?_; refine goD ?_)|with_reducible refine gG ?_ ?_|((with_reducible refine And.intro (fun h => ?_) (fun h => ?_)) <;> try (exfalso; omega))|with_reducible refine andG ?_|simp (disch := try exact discB) only [push_cast, simprocAttr, b1, b3, b4, e1])
       refine wa0 (l.length - (k + 1)) (by omega) (by first|exact xb0|fail) ⟨k + 1, by omega, rfl, rfl, ?_⟩
       simp (disch := try exact discB) only [push_cast, simprocAttr, b1, b3, b4, e1]
       refine hs ?_
       rw [Bool.and_eq_true, decide_eq_true_eq, List.all_eq_true]
       refine ⟨by omega, fun e he => ?_⟩
       obtain ⟨j, hj, rfl⟩ := List.getElem_of_mem he
       have := im j hj
       rwa [List.getD_eq_getElem?_getD, List.getElem?_eq_getElem hj] at this
   ·obtain rfl : k = l.length := by omega
    repeat' (first|refine nav ?_|(refine g0_ ?_; refine goD ?_)|with_reducible refine gG ?_ ?_|((with_reducible refine And.intro (fun h => ?_) (fun h => ?_)) <;> try (exfalso; omega))|with_reducible refine andG ?_|simp (disch := try exact discB) only [push_cast, simprocAttr, b1, b3])
    congr 1
    rw [xi0, if_neg (by omega), if_neg (by omega), if_pos ik]
end Go.Proofs
