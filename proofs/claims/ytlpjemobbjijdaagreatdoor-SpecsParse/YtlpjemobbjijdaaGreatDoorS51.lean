import Derived.Test.YtlpjemobbjijdaaGreatDoorS50
import Derived.Test.YtlpjemobbjijdaaGreatDoorS44
import Derived.Test.YtlpjemobbjijdaaGreatDoorS28
import Derived.Test.YtlpjemobbjijdaaGreatDoorS27
namespace Go.Proofs
open Go Go.V
set_option linter.unusedVariables false
set_option linter.unusedSimpArgs false
set_option maxHeartbeats 0
set_option maxRecDepth 100000
def z0 : GS := ⟨[], 0, 0, 0, [], some 0, 0, [], some 0, 0, [], some 0, 0, [], some 0⟩
theorem zdp9 : z0.Ok := ⟨.inl rfl, .inl rfl, .inl rfl, .inl rfl, Nat.zero_le _, fun j hj => absurd hj (Nat.not_lt_zero _), Nat.zero_le _, Nat.zero_le _, Nat.zero_le _, fun l hl s hs => by
 simp only [GS.lists, z0, List.mem_cons, List.not_mem_nil, or_false] at hl
 rcases hl with rfl|rfl|rfl|rfl
 ·rw [List.mem_singleton] at hs; rw [hs]; exact Nat.zero_le _
 ·cases hs
 ·cases hs
 ·cases hs⟩
theorem kbF9 (x : GS) : xaF9 x x = true := by unfold xaF9; simp
theorem wcC9 (p : qac9) : xbE9 p = .agg (gsP p (some p.ins.length) (some p.ins.length) (some p.outs.length) (some p.sts.length) (some p.sts.length)).A := by
 unfold xbE9 GS.A gsP vd0
 rw [List.map_map]; rfl
theorem vcC9 (p : qac9) : wbF9 p = .agg (gsP p none none none none none).A := by
 unfold wbF9 GS.A gsP vd0
 rw [List.map_map]; rfl
theorem kcC9 (p : qac9) (k ci co cs cr k' ci' co' cs' cr' : Option Nat) : xaF9 (gsP p k ci co cs cr) (gsP p k' ci' co' cs' cr') = true := by
 unfold xaF9
 rw [zY0, zY0]
 simp [GS.lists, gsP]
theorem law5 (s0 : Bs) (hs : s0.length ≤ maxLen) : PC Tryz.prog G0 5 [.str s0] (.bool true) := by
 by_cases hb : 4000 < s0.length
 ·have hbi : (4000 : Int) < s0.length := by omega
  refine vb0 0 58 [.tmp 2] Tryz.func5 rfl rfl rfl (by simp) ?_
  intro s ⟨a0, hz⟩
  clear hz
  repeat' (first|refine nav ?_|(refine g0_ ?_; refine goD ?_)|with_reducible refine gG ?_ ?_|((with_reducible refine And.intro (fun h => ?_) (fun h => ?_)) <;> try (exfalso; omega))|with_reducible refine andG ?_|simp (disch := try exact discB) only [push_cast, simprocAttr, a0, hbi])
 ·have hbi : ¬ (4000 : Int) < s0.length := by omega
  obtain ⟨hlen, hgood⟩ := zcC9 s0
  have h22 := xad9 s0 (by omega) (by omega)
  have h24 := vda9 s0 (by omega) (by omega)
  have hlv := vcZ9
  unfold xag9 at h22
  unfold wcg9 at h24
  generalize ofS s0 = R at *
  obtain ⟨ts, l, cl, er⟩ := R
  simp only at *
  have hz23 := vba9 z0 z0 zdp9 zdp9
  rw [kbF9] at hz23
  by_cases her : er = 0
  ·subst her
   rw [if_pos rfl] at h22 h24
   cases hp : xk0 ts with
   | ok p =>
    rw [hp] at h22 h24
    simp only at h22 h24
    have hg := vbF9 hgood hp (zbb9 hp)
    rw [wcC9] at h22
    rw [vcC9] at h24
    have h23 := vba9 _ _ (qch9 hg (some p.ins.length) (some p.ins.length) (some p.outs.length) (some p.sts.length) (some p.sts.length)) (qch9 hg none none none none none)
    rw [kcC9] at h23
    have h11 := xbF9 _ (qch9 hg (some p.ins.length) (some p.ins.length) (some p.outs.length) (some p.sts.length) (some p.sts.length))
    rw [chkS_zero.2 (qdp9 hg _ _ _ _ _)] at h11
    have i1 := fun q => vD0 q (gsP p (some p.ins.length) (some p.ins.length) (some p.outs.length) (some p.sts.length) (some p.sts.length))
    have i2 := fun q => vD0 q (gsP p none none none none none)
    generalize gsP p (some p.ins.length) (some p.ins.length) (some p.outs.length) (some p.sts.length) (some p.sts.length) = x at *
    generalize gsP p none none none none none = y at *
    unfold GS.A at *
    refine vb0 0 58 [.tmp 2] Tryz.func5 rfl rfl rfl (by simp) ?_
    intro s ⟨a0, hz⟩
    clear hz
    repeat' (first|refine nav ?_|(refine g0_ ?_; refine goD ?_)|with_reducible refine gG ?_ ?_|((with_reducible refine And.intro (fun h => ?_) (fun h => ?_)) <;> try (exfalso; omega))|with_reducible refine andG ?_|(first|(refine ⟨_, _, pc_lift h22 (by simp [idsL, idsE, AV.ids, i1, i2]) _, ?_⟩)|(refine ⟨_, pc_lift h22 (by simp [idsL, idsE, AV.ids, i1, i2]) _, ?_⟩)|(refine ⟨_, fun _ => pc_lift h22 (by simp [idsL, idsE, AV.ids, i1, i2]) _, ?_⟩)|(refine ⟨_, _, pc_lift h24 (by simp [idsL, idsE, AV.ids, i1, i2]) _, ?_⟩)|(refine ⟨_, pc_lift h24 (by simp [idsL, idsE, AV.ids, i1, i2]) _, ?_⟩)|(refine ⟨_, fun _ => pc_lift h24 (by simp [idsL, idsE, AV.ids, i1, i2]) _, ?_⟩)|(refine ⟨_, _, pc_lift h23 (by simp [idsL, idsE, AV.ids, i1, i2]) _, ?_⟩)|(refine ⟨_, pc_lift h23 (by simp [idsL, idsE, AV.ids, i1, i2]) _, ?_⟩)|(refine ⟨_, fun _ => pc_lift h23 (by simp [idsL, idsE, AV.ids, i1, i2]) _, ?_⟩)|(refine ⟨_, _, pc_lift h11 (by simp [idsL, idsE, AV.ids, i1, i2]) _, ?_⟩)|(refine ⟨_, pc_lift h11 (by simp [idsL, idsE, AV.ids, i1, i2]) _, ?_⟩)|(refine ⟨_, fun _ => pc_lift h11 (by simp [idsL, idsE, AV.ids, i1, i2]) _, ?_⟩)|(refine ⟨_, _, pc_lift hlv (by simp [idsL, idsE, AV.ids, i1, i2]) _, ?_⟩)|(refine ⟨_, pc_lift hlv (by simp [idsL, idsE, AV.ids, i1, i2]) _, ?_⟩)|(refine ⟨_, fun _ => pc_lift hlv (by simp [idsL, idsE, AV.ids, i1, i2]) _, ?_⟩))|simp (disch := try exact discB) only [push_cast, simprocAttr, a0, hbi])
   | no k e =>
    rw [hp] at h22 h24
    simp only at h22 h24
    have he := (show e ≠ 0 by have := qcH9 ts; rw [hp] at this; exact this.2)
    generalize (locR ts k).1 = u1 at *
    generalize (locR ts k).2 = u2 at *
    unfold zSpecA at *
    rw [show z0.A = [.str [], .int .i64 0, .int .i64 0, .sl 0 [] (some 0), .sl 0 [] (some 0), .sl 0 [] (some 0), .sl 0 [] (some 0)] from rfl] at hz23
    refine vb0 0 58 [.tmp 2] Tryz.func5 rfl rfl rfl (by simp) ?_
    intro s ⟨a0, hz⟩
    clear hz
    repeat' (first|refine nav ?_|(refine g0_ ?_; refine goD ?_)|with_reducible refine gG ?_ ?_|((with_reducible refine And.intro (fun h => ?_) (fun h => ?_)) <;> try (exfalso; omega))|with_reducible refine andG ?_|(first|(refine ⟨_, _, pc_lift h22 (by simp [idsL, idsE, AV.ids]) _, ?_⟩)|(refine ⟨_, pc_lift h22 (by simp [idsL, idsE, AV.ids]) _, ?_⟩)|(refine ⟨_, fun _ => pc_lift h22 (by simp [idsL, idsE, AV.ids]) _, ?_⟩)|(refine ⟨_, _, pc_lift h24 (by simp [idsL, idsE, AV.ids]) _, ?_⟩)|(refine ⟨_, pc_lift h24 (by simp [idsL, idsE, AV.ids]) _, ?_⟩)|(refine ⟨_, fun _ => pc_lift h24 (by simp [idsL, idsE, AV.ids]) _, ?_⟩)|(refine ⟨_, _, pc_lift hz23 (by simp [idsL, idsE, AV.ids]) _, ?_⟩)|(refine ⟨_, pc_lift hz23 (by simp [idsL, idsE, AV.ids]) _, ?_⟩)|(refine ⟨_, fun _ => pc_lift hz23 (by simp [idsL, idsE, AV.ids]) _, ?_⟩)|(refine ⟨_, _, pc_lift hlv (by simp [idsL, idsE, AV.ids]) _, ?_⟩)|(refine ⟨_, pc_lift hlv (by simp [idsL, idsE, AV.ids]) _, ?_⟩)|(refine ⟨_, fun _ => pc_lift hlv (by simp [idsL, idsE, AV.ids]) _, ?_⟩))|simp (disch := try exact discB) only [push_cast, simprocAttr, a0, hbi, he])
    refine ⟨.top, ?_⟩
    repeat' (first|refine nav ?_|(refine g0_ ?_; refine goD ?_)|with_reducible refine gG ?_ ?_|((with_reducible refine And.intro (fun h => ?_) (fun h => ?_)) <;> try (exfalso; omega))|with_reducible refine andG ?_|(first|(refine ⟨_, _, pc_lift h22 (by simp [idsL, idsE, AV.ids]) _, ?_⟩)|(refine ⟨_, pc_lift h22 (by simp [idsL, idsE, AV.ids]) _, ?_⟩)|(refine ⟨_, fun _ => pc_lift h22 (by simp [idsL, idsE, AV.ids]) _, ?_⟩)|(refine ⟨_, _, pc_lift h24 (by simp [idsL, idsE, AV.ids]) _, ?_⟩)|(refine ⟨_, pc_lift h24 (by simp [idsL, idsE, AV.ids]) _, ?_⟩)|(refine ⟨_, fun _ => pc_lift h24 (by simp [idsL, idsE, AV.ids]) _, ?_⟩)|(refine ⟨_, _, pc_lift hz23 (by simp [idsL, idsE, AV.ids]) _, ?_⟩)|(refine ⟨_, pc_lift hz23 (by simp [idsL, idsE, AV.ids]) _, ?_⟩)|(refine ⟨_, fun _ => pc_lift hz23 (by simp [idsL, idsE, AV.ids]) _, ?_⟩)|(refine ⟨_, _, pc_lift hlv (by simp [idsL, idsE, AV.ids]) _, ?_⟩)|(refine ⟨_, pc_lift hlv (by simp [idsL, idsE, AV.ids]) _, ?_⟩)|(refine ⟨_, fun _ => pc_lift hlv (by simp [idsL, idsE, AV.ids]) _, ?_⟩))|simp (disch := try exact discB) only [push_cast, simprocAttr, a0, hbi, he])
  ·rw [if_neg her] at h22 h24
   unfold zSpecA at *
   rw [show z0.A = [.str [], .int .i64 0, .int .i64 0, .sl 0 [] (some 0), .sl 0 [] (some 0), .sl 0 [] (some 0), .sl 0 [] (some 0)] from rfl] at hz23
   refine vb0 0 58 [.tmp 2] Tryz.func5 rfl rfl rfl (by simp) ?_
   intro s ⟨a0, hz⟩
   clear hz
   repeat' (first|refine nav ?_|(refine g0_ ?_; refine goD ?_)|with_reducible refine gG ?_ ?_|((with_reducible refine And.intro (fun h => ?_) (fun h => ?_)) <;> try (exfalso; omega))|with_reducible refine andG ?_|(first|(refine ⟨_, _, pc_lift h22 (by simp [idsL, idsE, AV.ids]) _, ?_⟩)|(refine ⟨_, pc_lift h22 (by simp [idsL, idsE, AV.ids]) _, ?_⟩)|(refine ⟨_, fun _ => pc_lift h22 (by simp [idsL, idsE, AV.ids]) _, ?_⟩)|(refine ⟨_, _, pc_lift h24 (by simp [idsL, idsE, AV.ids]) _, ?_⟩)|(refine ⟨_, pc_lift h24 (by simp [idsL, idsE, AV.ids]) _, ?_⟩)|(refine ⟨_, fun _ => pc_lift h24 (by simp [idsL, idsE, AV.ids]) _, ?_⟩)|(refine ⟨_, _, pc_lift hz23 (by simp [idsL, idsE, AV.ids]) _, ?_⟩)|(refine ⟨_, pc_lift hz23 (by simp [idsL, idsE, AV.ids]) _, ?_⟩)|(refine ⟨_, fun _ => pc_lift hz23 (by simp [idsL, idsE, AV.ids]) _, ?_⟩)|(refine ⟨_, _, pc_lift hlv (by simp [idsL, idsE, AV.ids]) _, ?_⟩)|(refine ⟨_, pc_lift hlv (by simp [idsL, idsE, AV.ids]) _, ?_⟩)|(refine ⟨_, fun _ => pc_lift hlv (by simp [idsL, idsE, AV.ids]) _, ?_⟩))|simp (disch := try exact discB) only [push_cast, simprocAttr, a0, hbi, her])
   refine ⟨.top, ?_⟩
   repeat' (first|refine nav ?_|(refine g0_ ?_; refine goD ?_)|with_reducible refine gG ?_ ?_|((with_reducible refine And.intro (fun h => ?_) (fun h => ?_)) <;> try (exfalso; omega))|with_reducible refine andG ?_|(first|(refine ⟨_, _, pc_lift h22 (by simp [idsL, idsE, AV.ids]) _, ?_⟩)|(refine ⟨_, pc_lift h22 (by simp [idsL, idsE, AV.ids]) _, ?_⟩)|(refine ⟨_, fun _ => pc_lift h22 (by simp [idsL, idsE, AV.ids]) _, ?_⟩)|(refine ⟨_, _, pc_lift h24 (by simp [idsL, idsE, AV.ids]) _, ?_⟩)|(refine ⟨_, pc_lift h24 (by simp [idsL, idsE, AV.ids]) _, ?_⟩)|(refine ⟨_, fun _ => pc_lift h24 (by simp [idsL, idsE, AV.ids]) _, ?_⟩)|(refine ⟨_, _, pc_lift hz23 (by simp [idsL, idsE, AV.ids]) _, ?_⟩)|(refine ⟨_, pc_lift hz23 (by simp [idsL, idsE, AV.ids]) _, ?_⟩)|(refine ⟨_, fun _ => pc_lift hz23 (by simp [idsL, idsE, AV.ids]) _, ?_⟩)|(refine ⟨_, _, pc_lift hlv (by simp [idsL, idsE, AV.ids]) _, ?_⟩)|(refine ⟨_, pc_lift hlv (by simp [idsL, idsE, AV.ids]) _, ?_⟩)|(refine ⟨_, fun _ => pc_lift hlv (by simp [idsL, idsE, AV.ids]) _, ?_⟩))|simp (disch := try exact discB) only [push_cast, simprocAttr, a0, hbi, her])
end Go.Proofs
