import Derived.Test.YtlpjemobbjijdaaGreatDoorL2
import Derived.Test.YtlpjemobbjijdaaGreatDoorM2
namespace Go.Proofs
open Go Go.V
set_option linter.unusedVariables false
set_option linter.unusedSimpArgs false
set_option maxHeartbeats 0
set_option maxRecDepth 100000
def digs10 : Bs := [48, 49, 50, 51, 52, 53, 54, 55, 56, 57]
theorem xcm9 (b : UInt8) : digs10.contains b = digB b := by
 have key : ∀ n : Nat, n < 256 → digs10.contains (UInt8.ofNat n) = digB (UInt8.ofNat n) := by decide +kernel
 have := key b.toNat (UInt8.toNat_lt b)
 rwa [UInt8.ofNat_toNat] at this
theorem wcm9 (w : Bs) : (Lib.trimLeftS w digs10 = []) = (w.all digB = true) := by
 apply propext
 unfold Lib.trimLeftS
 induction w with
 | nil => simp
 | cons a r ih =>
  rw [List.dropWhile_cons, List.all_cons]
  simp only [xcm9] at ih ⊢
  cases digB a
  ·simp
  ·simpa using ih
theorem qcZ9 (w : Bs) (hw : w ≠ []) : PC Tryz.prog G0 127 [.str w] (.tup [.int .u8 (wH0 w).1, .int .i64 (wH0 w).2]) := by
 have h0 := xbw9 w
 have h1 := qbk9 (w.getD 0 0)
 have h2 := fun H => xcY9 H w
 have h3 := wcm9 w
 have hl : 0 < w.length := List.length_pos_iff.2 hw
 have ka := kaP9 w
 have kb := zbP9 w
 have kn := xbP9 w
 have kz : w = [48] → wH0 w = (2, 0) := fun q => by rw [q]; exact kbv9
 rw [h0] at ka kb kn
 have e48 : (((w.getD 0 0).toNat : Int) = 48) = (w.getD 0 0 = 48) := by
  apply propext
  rw [← UInt8.toNat_inj]
  show _ ↔ (w.getD 0 0).toNat = 48
  omega
 unfold digs10 at h3
 generalize Lib.trimLeftS w [48, 49, 50, 51, 52, 53, 54, 55, 56, 57] = T at *
 generalize hcc : w.getD 0 0 = c at *
 cases hc : letB c with
 | true =>
  rw [hc] at h1
  rw [ka hc]
  refine qd0 0 27 [.tmp 2, .tmp 3] Tryz.func127 rfl rfl rfl (by simp) ?_
  intro s ⟨a0, hz⟩
  clear hz
  repeat' (first|refine nav ?_|(refine g0_ ?_; refine goD ?_)|(with_reducible refine gG ?_ ?_)|((with_reducible refine And.intro (fun h => ?_) (fun h => ?_)) <;> try (exfalso; omega))|(with_reducible refine andG ?_)|(first|(refine ⟨_, _, qa0 (h1) (by (simp [idsL, idsE, AV.ids, Nat.add_zero])) _, ?_⟩)|(refine ⟨_, qa0 (h1) (by (simp [idsL, idsE, AV.ids, Nat.add_zero])) _, ?_⟩)|(refine ⟨_, fun _ => qa0 (h1) (by (simp [idsL, idsE, AV.ids, Nat.add_zero])) _, ?_⟩))|simp (disch := (first|exact discB|fail)) only [push_cast, simprocAttr, a0, hcc])
  ·rw [if_pos (by omega)]; exact ⟨rfl, rfl⟩
  ·rw [if_neg (by omega)]; exact ⟨rfl, rfl⟩
 | false =>
  rw [hc] at h1
  have kb := kb (by rw [hc]; decide)
  have kn := kn (by rw [hc]; decide)
  refine qd0 0 27 [.tmp 2, .tmp 3] Tryz.func127 rfl rfl rfl (by simp) ?_
  intro s ⟨a0, hz⟩
  clear hz
  repeat' (first|refine nav ?_|(refine g0_ ?_; refine goD ?_)|(with_reducible refine gG ?_ ?_)|((with_reducible refine And.intro (fun h => ?_) (fun h => ?_)) <;> try (exfalso; omega))|(with_reducible refine andG ?_)|(first|(refine ⟨_, _, qa0 (h1) (by (simp [idsL, idsE, AV.ids, Nat.add_zero])) _, ?_⟩)|(refine ⟨_, qa0 (h1) (by (simp [idsL, idsE, AV.ids, Nat.add_zero])) _, ?_⟩)|(refine ⟨_, fun _ => qa0 (h1) (by (simp [idsL, idsE, AV.ids, Nat.add_zero])) _, ?_⟩)|(refine ⟨_, _, h2 _, ?_⟩)|(refine ⟨_, h2 _, ?_⟩)|(refine ⟨_, fun _ => h2 _, ?_⟩))|simp (disch := (first|exact discB|fail)) only [push_cast, simprocAttr, a0, hcc, e48, h3])
  ·rw [kz h]; exact ⟨rfl, rfl⟩
  ·rename_i q; rw [kb q hw (h.elim .inl fun h => .inr (.inl (by omega)))]; exact ⟨rfl, rfl⟩
  ·rename_i q1 q2; rw [kb q1 hw (.inr (.inr h))]; exact ⟨rfl, rfl⟩
  ·rename_i q1 q2; rw [kn q2.1 (by omega) h]; exact ⟨rfl, rfl⟩
theorem wbR9 (s0 : Bs) (hs : s0.length ≤ 1000000) : PC Tryz.prog G0 102 [.str s0] (.tup [.agg [.int .u8 (tokS s0).1, .str (s0.take (tokS s0).2.1), .int .i64 0, .int .i64 0], .int .i64 (tokS s0).2.2]) := by
 have h1 := wcY9 s0 hs
 have h2 := qcZ9 (wordS s0)
 have h3 := kcY9 s0
 have t1 := wbP9 s0
 have t2 := vbP9 s0
 have t3 := qu0 s0
 have hm := qbj9 s0
 by_cases hw : wordS s0 = []
 ·rw [hw] at h1
  rw [t2 hw]
  by_cases h0 : vD0 s0 = 0
  ·rw [if_pos h0]
   rw [h0] at h3
   refine qd0 0 28 [.cell 2 115, .tmp 3] Tryz.func102 rfl rfl rfl (by simp) ?_
   intro s ⟨a0, hz⟩
   clear hz
   repeat' (first|refine nav ?_|(refine g0_ ?_; refine goD ?_)|(with_reducible refine gG ?_ ?_)|((with_reducible refine And.intro (fun h => ?_) (fun h => ?_)) <;> try (exfalso; omega))|(with_reducible refine andG ?_)|(first|(refine ⟨_, _, qa0 (h1) (by (simp [idsL, idsE, AV.ids, Nat.add_zero])) _, ?_⟩)|(refine ⟨_, qa0 (h1) (by (simp [idsL, idsE, AV.ids, Nat.add_zero])) _, ?_⟩)|(refine ⟨_, fun _ => qa0 (h1) (by (simp [idsL, idsE, AV.ids, Nat.add_zero])) _, ?_⟩)|(refine ⟨_, _, qa0 (h3) (by (simp [idsL, idsE, AV.ids, Nat.add_zero])) _, ?_⟩)|(refine ⟨_, qa0 (h3) (by (simp [idsL, idsE, AV.ids, Nat.add_zero])) _, ?_⟩)|(refine ⟨_, fun _ => qa0 (h3) (by (simp [idsL, idsE, AV.ids, Nat.add_zero])) _, ?_⟩))|simp (disch := (first|exact discB|fail)) only [push_cast, simprocAttr, a0])
  ·rw [if_neg h0]
   have hne : s0.take (vD0 s0) ≠ [] := by
    intro q
    have := congrArg List.length q
    rw [List.length_take, List.length_nil] at this
    omega
   simp only
   generalize s0.take (vD0 s0) = M at *
   refine qd0 0 28 [.cell 2 115, .tmp 3] Tryz.func102 rfl rfl rfl (by simp) ?_
   intro s ⟨a0, hz⟩
   clear hz
   repeat' (first|refine nav ?_|(refine g0_ ?_; refine goD ?_)|(with_reducible refine gG ?_ ?_)|((with_reducible refine And.intro (fun h => ?_) (fun h => ?_)) <;> try (exfalso; omega))|(with_reducible refine andG ?_)|(first|(refine ⟨_, _, qa0 (h1) (by (simp [idsL, idsE, AV.ids, Nat.add_zero])) _, ?_⟩)|(refine ⟨_, qa0 (h1) (by (simp [idsL, idsE, AV.ids, Nat.add_zero])) _, ?_⟩)|(refine ⟨_, fun _ => qa0 (h1) (by (simp [idsL, idsE, AV.ids, Nat.add_zero])) _, ?_⟩)|(refine ⟨_, _, qa0 (h3) (by (simp [idsL, idsE, AV.ids, Nat.add_zero])) _, ?_⟩)|(refine ⟨_, qa0 (h3) (by (simp [idsL, idsE, AV.ids, Nat.add_zero])) _, ?_⟩)|(refine ⟨_, fun _ => qa0 (h3) (by (simp [idsL, idsE, AV.ids, Nat.add_zero])) _, ?_⟩))|simp (disch := (first|exact discB|fail)) only [push_cast, simprocAttr, a0, hne])
 ·have h2 := h2 hw
  rw [t1 hw]
  simp only [t3]
  generalize wordS s0 = W at *
  generalize wH0 W = K at *
  refine qd0 0 28 [.cell 2 115, .tmp 3] Tryz.func102 rfl rfl rfl (by simp) ?_
  intro s ⟨a0, hz⟩
  clear hz
  repeat' (first|refine nav ?_|(refine g0_ ?_; refine goD ?_)|(with_reducible refine gG ?_ ?_)|((with_reducible refine And.intro (fun h => ?_) (fun h => ?_)) <;> try (exfalso; omega))|(with_reducible refine andG ?_)|(first|(refine ⟨_, _, qa0 (h1) (by (simp [idsL, idsE, AV.ids, Nat.add_zero])) _, ?_⟩)|(refine ⟨_, qa0 (h1) (by (simp [idsL, idsE, AV.ids, Nat.add_zero])) _, ?_⟩)|(refine ⟨_, fun _ => qa0 (h1) (by (simp [idsL, idsE, AV.ids, Nat.add_zero])) _, ?_⟩)|(refine ⟨_, _, qa0 (h2) (by (simp [idsL, idsE, AV.ids, Nat.add_zero])) _, ?_⟩)|(refine ⟨_, qa0 (h2) (by (simp [idsL, idsE, AV.ids, Nat.add_zero])) _, ?_⟩)|(refine ⟨_, fun _ => qa0 (h2) (by (simp [idsL, idsE, AV.ids, Nat.add_zero])) _, ?_⟩))|simp (disch := (first|exact discB|fail)) only [push_cast, simprocAttr, a0, hw])
  try rfl
theorem xdw9 (s0 : Bs) (hs : s0.length ≤ 1000000) : PC Tryz.prog G0 100 [.str s0] (.int .i64 (gapS false s0 : Nat)) := by
 have hg := wX0 false s0
 refine qd0 0 34 [.tmp 2] Tryz.func100 rfl rfl rfl (by simp) ?_
 intro s ⟨a0, hz⟩
 clear hz
 repeat' (first|refine nav ?_|(refine g0_ ?_; refine goD ?_)|(with_reducible refine gG ?_ ?_)|((with_reducible refine And.intro (fun h => ?_) (fun h => ?_)) <;> try (exfalso; omega))|(with_reducible refine andG ?_)|fail|simp (disch := (first|exact discB|fail)) only [push_cast, simprocAttr, a0])
 refine go_loop rfl (fun mz s' H' => ∃ n : Nat, n ≤ s0.length ∧ mz = s0.length - n ∧ H' = [] ∧ s' 0 = .str s0 ∧ s' 3 = .int .i64 n ∧ gapS false s0 = n + gapS false (s0.drop n)) (m := s0.length) (by first|exact kb0|fail) (Weak.refl _ _) ⟨0, by omega, by omega, rfl, ?_⟩ ?_
 ·simp (disch := (first|exact discB|fail)) only [push_cast, simprocAttr, a0]
 ·rintro mz s' H' ⟨n, hn, rfl, rfl, b0, b3, ik⟩
  rcases Nat.lt_or_ge n s0.length with hlt|hge
  ·have eb := getD_some hlt
   have g1 := qbP9 s0 n (s0.getD n 0) eb
   have g2 := wcG9 s0 n
   have g3 := wck9 s0 n (s0.getD n 0) eb
   have hix := fun H => qcY9 H (s0.drop n) 10 10 rfl
   have hne := @Lib.indexByte_none (s0.drop n) 10
   have hso := @Lib.indexByte_some (s0.drop n) 10
   have hge := Lib.indexByte_ge (s0.drop n) 10
   have hbl : blkB (s0.getD n 0) = true ↔ ((s0.getD n 0).toNat : Int) = 32 ∨ ((s0.getD n 0).toNat : Int) = 9 ∨ ((s0.getD n 0).toNat : Int) = 13 := by
    simp only [blkB, Bool.or_eq_true, decide_eq_true_eq, ← UInt8.toNat_inj, or_assoc]
    show ((s0.getD n 0).toNat = 32 ∨ (s0.getD n 0).toNat = 9 ∨ (s0.getD n 0).toNat = 13) ↔ _
    omega
   have h10 : s0.getD n 0 = 10 ↔ ((s0.getD n 0).toNat : Int) = 10 := by
    rw [← UInt8.toNat_inj]; show (s0.getD n 0).toNat = 10 ↔ _; omega
   have h35 : s0.getD n 0 = 35 ↔ ((s0.getD n 0).toNat : Int) = 35 := by
    rw [← UInt8.toNat_inj]; show (s0.getD n 0).toNat = 35 ↔ _; omega
   have g2 : s0.getD n 0 = 35 → _ := fun q => g2 (by rw [eb, q]) ik
   generalize Lib.indexByte (s0.drop n) 10 = ix at *
   generalize hbb : s0.getD n 0 = b at *
   have g1 := fun q => g1 q ik
   have g3 := fun p q r => g3 p q r ik
   rw [hbl, h10] at g1
   rw [hbl, h10, h35] at g3
   rw [h35] at g2
   generalize hvv : (b.toNat : Int) = v at *
   repeat' (first|refine nav ?_|(refine g0_ ?_; refine goD ?_)|(with_reducible refine gG ?_ ?_)|((with_reducible refine And.intro (fun h => ?_) (fun h => ?_)) <;> try (exfalso; omega))|(with_reducible refine andG ?_)|(first|(refine ⟨_, _, hix _, ?_⟩)|(refine ⟨_, hix _, ?_⟩)|(refine ⟨_, fun _ => hix _, ?_⟩))|simp (disch := (first|exact discB|fail)) only [push_cast, simprocAttr, b0, b3, hbb, hvv])
   ·refine wb0 (s0.length - (n + 1)) (by omega) (by first|exact kb0|fail) ⟨n + 1, by omega, rfl, rfl, ?_⟩
    simp (disch := (first|exact discB|fail)) only [push_cast, simprocAttr, b0, b3, hbb, hvv]
    exact g1 (by simp [h])
   ·refine wb0 (s0.length - (n + 1)) (by omega) (by first|exact kb0|fail) ⟨n + 1, by omega, rfl, rfl, ?_⟩
    simp (disch := (first|exact discB|fail)) only [push_cast, simprocAttr, b0, b3, hbb, hvv]
    exact g1 (by simp [h])
   ·refine wb0 (s0.length - (n + 1)) (by omega) (by first|exact kb0|fail) ⟨n + 1, by omega, rfl, rfl, ?_⟩
    simp (disch := (first|exact discB|fail)) only [push_cast, simprocAttr, b0, b3, hbb, hvv]
    exact g1 (by simp [h])
   ·refine wb0 (s0.length - (n + 1)) (by omega) (by first|exact kb0|fail) ⟨n + 1, by omega, rfl, rfl, ?_⟩
    simp (disch := (first|exact discB|fail)) only [push_cast, simprocAttr, b0, b3, hbb, hvv]
    exact g1 (by simp [h])
   ·rw [(g2 (by assumption)).1 (hne (by omega))]
   ·obtain ⟨o, rfl⟩ : ∃ o : Nat, ix = o := ⟨ix.toNat, by omega⟩
    rename_i hv35 _
    obtain ⟨k1, k2⟩ := hso rfl
    have ho : 0 < o := by
     rcases Nat.eq_zero_or_pos o with q|q
     ·subst q
      rw [List.getElem?_drop, Nat.add_zero, eb, Option.some.injEq, h10] at k1
      omega
     ·exact q
    have hon : n + o ≤ s0.length := by
     have := (List.getElem?_eq_some_iff.1 k1).1
     rw [List.length_drop] at this
     omega
    have hg2 := (g2 (by assumption)).2 o k1 k2
    refine wb0 (s0.length - (n + o)) (by omega) (by first|exact kb0|fail) ⟨n + o, by omega, rfl, rfl, ?_⟩
    simp (disch := (first|exact discB|fail)) only [push_cast, simprocAttr, b0, b3, hbb, hvv]
    exact hg2
   ·rw [g3 (by omega) (by omega) (by omega)]
  ·obtain rfl : n = s0.length := by omega
   rw [List.drop_length] at ik
   repeat' (first|refine nav ?_|(refine g0_ ?_; refine goD ?_)|(with_reducible refine gG ?_ ?_)|((with_reducible refine And.intro (fun h => ?_) (fun h => ?_)) <;> try (exfalso; omega))|(with_reducible refine andG ?_)|fail|simp (disch := (first|exact discB|fail)) only [push_cast, simprocAttr, b0, b3])
   rw [ik]; rfl
end Go.Proofs
namespace Go.Proofs
open Go Go.V
set_option linter.unusedVariables false
set_option linter.unusedSimpArgs false
set_option maxHeartbeats 0
end Go.Proofs
