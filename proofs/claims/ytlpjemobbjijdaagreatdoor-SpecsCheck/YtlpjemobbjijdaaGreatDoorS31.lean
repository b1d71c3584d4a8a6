import Derived.Test.YtlpjemobbjijdaaGreatDoorS30
import Derived.Test.YtlpjemobbjijdaaGreatDoorS27
namespace Go.Proofs
open Go Go.V
set_option linter.unusedVariables false
set_option linter.unusedSimpArgs false
set_option maxHeartbeats 0
set_option maxRecDepth 100000
theorem wcu9 {x : GS} (hx : x.Big) (h : qaW9 x = false) : x.Ok := by
 unfold qaW9 grA at h
 simp only [Bool.or_eq_false_iff, decide_eq_false_iff_not] at h
 obtain ⟨⟨⟨⟨⟨⟨h1, h2⟩, h3⟩, h4⟩, h5⟩, h6⟩, h7⟩ := h
 have hl : ∀ l ∈ x.l3, ∀ s ∈ l, s.length ≤ 40 := fun l hl s hs => by
  have := List.any_eq_false.1 (Bool.eq_false_iff.2 (List.any_eq_false.1 h7 l hl)) s hs
  simp only [decide_eq_true_eq] at this; omega
 refine ⟨hx.r, hx.i, hx.o, hx.s, by omega, fun j hj => ?_, by omega, by omega, by omega, fun l hl2 s hs => ?_⟩
 ·have := List.any_eq_false.1 h6 ((edgesOf x.rows).getD j []) (wj0 [] (by rw [qN0]; exact hj))
  rw [wm0] at this
  simp only [decide_eq_true_eq] at this; omega
 ·simp only [GS.lists, List.mem_cons, List.not_mem_nil, or_false] at hl2
  rcases hl2 with rfl|rfl|rfl|rfl
  ·simp only [List.mem_singleton] at hs; subst hs; omega
  ·have := hl x.ins (by simp [GS.l3]) s hs; omega
  ·have := hl x.outs (by simp [GS.l3]) s hs; omega
  ·have := hl x.sts (by simp [GS.l3]) s hs; omega
theorem wbB9 (x : GS) : vbX9 x x = decide (chkS x = 0) := by
 unfold vbX9 wbX9
 by_cases h : chkS x = 0
 ·have hm := (chkS_zero.1 h).m
  simp [h, hm]
 ·simp [h]
theorem law3 (x : GS) (hx : x.Big) : PC Tryz.prog G0 3 [.agg x.A] (.bool true) := by
 have hg := xcR9 x hx
 have hid := fun p => kz0 p x
 have hlv := qcR9
 cases hb : qaW9 x with
 | true =>
  rw [hb, show bI true = 1 from rfl] at hg
  unfold GS.A at *
  refine kb0 0 112 [.tmp 2] Tryz.func3 rfl rfl rfl (by simp) ?_
  intro s ⟨a0, hz⟩
  clear hz
  repeat' (first|refine nav ?_|(refine g0_ ?_; refine goD ?_)|(with_reducible refine gG ?_ ?_)|((with_reducible refine And.intro (fun h => ?_) (fun h => ?_)) <;> try (exfalso; omega))|(with_reducible refine andG ?_)|(first|(refine ⟨_, _, qa0 (hg) (by (simp [idsL, idsE, AV.ids, hid])) _, ?_⟩)|(refine ⟨_, qa0 (hg) (by (simp [idsL, idsE, AV.ids, hid])) _, ?_⟩)|(refine ⟨_, fun _ => qa0 (hg) (by (simp [idsL, idsE, AV.ids, hid])) _, ?_⟩))|simp (disch := (first|exact discB|fail)) only [push_cast, simprocAttr, a0])
 | false =>
  rw [hb, show bI false = 0 from rfl] at hg
  have hok := wcu9 hx hb
  have h11 := xbB9 x hok
  have h12 := zF0 x hok
  have h13 := vcx9 x x hok hok
  have h14 := qcy9 x hok
  rw [wbB9] at h13
  unfold wct9 at h14
  by_cases h0 : chkS x = 0
  ·have hv := chkS_zero.1 h0
   have h15 := zdh9 x hok hv
   rw [if_pos h0] at h14
   rw [decide_eq_true h0] at h13
   rw [h0] at h11 h12
   clear h0 hv
   have hne := kbp9 x
   generalize waf9 x = T at *
   unfold bigT at h14
   unfold GS.A at *
   by_cases hT : 65536 < T.length
   ·rw [decide_eq_true hT, if_pos rfl] at h14
    refine kb0 0 112 [.tmp 2] Tryz.func3 rfl rfl rfl (by simp) ?_
    intro s ⟨a0, hz⟩
    clear hz
    repeat' (first|refine nav ?_|(refine g0_ ?_; refine goD ?_)|(with_reducible refine gG ?_ ?_)|((with_reducible refine And.intro (fun h => ?_) (fun h => ?_)) <;> try (exfalso; omega))|(with_reducible refine andG ?_)|(first|(refine ⟨_, _, qa0 (hg) (by (simp [idsL, idsE, AV.ids, hid])) _, ?_⟩)|(refine ⟨_, qa0 (hg) (by (simp [idsL, idsE, AV.ids, hid])) _, ?_⟩)|(refine ⟨_, fun _ => qa0 (hg) (by (simp [idsL, idsE, AV.ids, hid])) _, ?_⟩)|(refine ⟨_, _, qa0 (h11) (by (simp [idsL, idsE, AV.ids, hid])) _, ?_⟩)|(refine ⟨_, qa0 (h11) (by (simp [idsL, idsE, AV.ids, hid])) _, ?_⟩)|(refine ⟨_, fun _ => qa0 (h11) (by (simp [idsL, idsE, AV.ids, hid])) _, ?_⟩)|(refine ⟨_, _, qa0 (h12) (by (simp [idsL, idsE, AV.ids, hid])) _, ?_⟩)|(refine ⟨_, qa0 (h12) (by (simp [idsL, idsE, AV.ids, hid])) _, ?_⟩)|(refine ⟨_, fun _ => qa0 (h12) (by (simp [idsL, idsE, AV.ids, hid])) _, ?_⟩)|(refine ⟨_, _, qa0 (h13) (by (simp [idsL, idsE, AV.ids, hid])) _, ?_⟩)|(refine ⟨_, qa0 (h13) (by (simp [idsL, idsE, AV.ids, hid])) _, ?_⟩)|(refine ⟨_, fun _ => qa0 (h13) (by (simp [idsL, idsE, AV.ids, hid])) _, ?_⟩)|(refine ⟨_, _, qa0 (h14) (by (simp [idsL, idsE, AV.ids, hid])) _, ?_⟩)|(refine ⟨_, qa0 (h14) (by (simp [idsL, idsE, AV.ids, hid])) _, ?_⟩)|(refine ⟨_, fun _ => qa0 (h14) (by (simp [idsL, idsE, AV.ids, hid])) _, ?_⟩)|(refine ⟨_, _, qa0 (h15) (by (simp [idsL, idsE, AV.ids, hid])) _, ?_⟩)|(refine ⟨_, qa0 (h15) (by (simp [idsL, idsE, AV.ids, hid])) _, ?_⟩)|(refine ⟨_, fun _ => qa0 (h15) (by (simp [idsL, idsE, AV.ids, hid])) _, ?_⟩)|(refine ⟨_, _, qa0 (hlv) (by (simp [idsL, idsE, AV.ids, hid])) _, ?_⟩)|(refine ⟨_, qa0 (hlv) (by (simp [idsL, idsE, AV.ids, hid])) _, ?_⟩)|(refine ⟨_, fun _ => qa0 (hlv) (by (simp [idsL, idsE, AV.ids, hid])) _, ?_⟩))|simp (disch := (first|exact discB|fail)) only [push_cast, simprocAttr, a0])
   ·rw [decide_eq_false hT, if_neg (by simp)] at h14
    refine kb0 0 112 [.tmp 2] Tryz.func3 rfl rfl rfl (by simp) ?_
    intro s ⟨a0, hz⟩
    clear hz
    repeat' (first|refine nav ?_|(refine g0_ ?_; refine goD ?_)|(with_reducible refine gG ?_ ?_)|((with_reducible refine And.intro (fun h => ?_) (fun h => ?_)) <;> try (exfalso; omega))|(with_reducible refine andG ?_)|(first|(refine ⟨_, _, qa0 (hg) (by (simp [idsL, idsE, AV.ids, hid])) _, ?_⟩)|(refine ⟨_, qa0 (hg) (by (simp [idsL, idsE, AV.ids, hid])) _, ?_⟩)|(refine ⟨_, fun _ => qa0 (hg) (by (simp [idsL, idsE, AV.ids, hid])) _, ?_⟩)|(refine ⟨_, _, qa0 (h11) (by (simp [idsL, idsE, AV.ids, hid])) _, ?_⟩)|(refine ⟨_, qa0 (h11) (by (simp [idsL, idsE, AV.ids, hid])) _, ?_⟩)|(refine ⟨_, fun _ => qa0 (h11) (by (simp [idsL, idsE, AV.ids, hid])) _, ?_⟩)|(refine ⟨_, _, qa0 (h12) (by (simp [idsL, idsE, AV.ids, hid])) _, ?_⟩)|(refine ⟨_, qa0 (h12) (by (simp [idsL, idsE, AV.ids, hid])) _, ?_⟩)|(refine ⟨_, fun _ => qa0 (h12) (by (simp [idsL, idsE, AV.ids, hid])) _, ?_⟩)|(refine ⟨_, _, qa0 (h13) (by (simp [idsL, idsE, AV.ids, hid])) _, ?_⟩)|(refine ⟨_, qa0 (h13) (by (simp [idsL, idsE, AV.ids, hid])) _, ?_⟩)|(refine ⟨_, fun _ => qa0 (h13) (by (simp [idsL, idsE, AV.ids, hid])) _, ?_⟩)|(refine ⟨_, _, qa0 (h14) (by (simp [idsL, idsE, AV.ids, hid])) _, ?_⟩)|(refine ⟨_, qa0 (h14) (by (simp [idsL, idsE, AV.ids, hid])) _, ?_⟩)|(refine ⟨_, fun _ => qa0 (h14) (by (simp [idsL, idsE, AV.ids, hid])) _, ?_⟩)|(refine ⟨_, _, qa0 (h15) (by (simp [idsL, idsE, AV.ids, hid])) _, ?_⟩)|(refine ⟨_, qa0 (h15) (by (simp [idsL, idsE, AV.ids, hid])) _, ?_⟩)|(refine ⟨_, fun _ => qa0 (h15) (by (simp [idsL, idsE, AV.ids, hid])) _, ?_⟩)|(refine ⟨_, _, qa0 (hlv) (by (simp [idsL, idsE, AV.ids, hid])) _, ?_⟩)|(refine ⟨_, qa0 (hlv) (by (simp [idsL, idsE, AV.ids, hid])) _, ?_⟩)|(refine ⟨_, fun _ => qa0 (hlv) (by (simp [idsL, idsE, AV.ids, hid])) _, ?_⟩))|simp (disch := (first|exact discB|fail)) only [push_cast, simprocAttr, a0])
  ·have h17 := qbB9 x hok [] h0
   have h18 := kaB9 x hok 1 [-1] (some 1) (.inr rfl) (by simp)
   have h19 := zas9 x hok 1 [-2] (some 1) (.inr rfl) (by simp)
   have h20 := kaV9 0 [] 0 (chkS x) 0 [] (some 0) (chkS x) (.inl rfl) (.inl rfl) (by simp) (by simp)
   rw [show (decide (chkS x = chkS x) && decide (([] : List Int) = []) && decide (0 = ([] : List Int).length)) = true by simp] at h20
   unfold wtA at h18
   unfold otA at h19
   rw [if_neg h0] at h14 h18 h19
   rw [decide_eq_false h0] at h13
   rw [show ints [-1] = [[.int .i64 (-1)]] from rfl] at h18
   rw [show ints [-2] = [[.int .i64 (-2)]] from rfl] at h19
   rw [show ints [] = [] from rfl] at h20
   generalize chkS x = m at *
   unfold GS.A at *
   refine kb0 0 112 [.tmp 2] Tryz.func3 rfl rfl rfl (by simp) ?_
   intro s ⟨a0, hz⟩
   clear hz
   repeat' (first|refine nav ?_|(refine g0_ ?_; refine goD ?_)|(with_reducible refine gG ?_ ?_)|((with_reducible refine And.intro (fun h => ?_) (fun h => ?_)) <;> try (exfalso; omega))|(with_reducible refine andG ?_)|(first|(refine ⟨_, _, qa0 (hg) (by (simp [idsL, idsE, AV.ids, hid])) _, ?_⟩)|(refine ⟨_, qa0 (hg) (by (simp [idsL, idsE, AV.ids, hid])) _, ?_⟩)|(refine ⟨_, fun _ => qa0 (hg) (by (simp [idsL, idsE, AV.ids, hid])) _, ?_⟩)|(refine ⟨_, _, qa0 (h11) (by (simp [idsL, idsE, AV.ids, hid])) _, ?_⟩)|(refine ⟨_, qa0 (h11) (by (simp [idsL, idsE, AV.ids, hid])) _, ?_⟩)|(refine ⟨_, fun _ => qa0 (h11) (by (simp [idsL, idsE, AV.ids, hid])) _, ?_⟩)|(refine ⟨_, _, qa0 (h12) (by (simp [idsL, idsE, AV.ids, hid])) _, ?_⟩)|(refine ⟨_, qa0 (h12) (by (simp [idsL, idsE, AV.ids, hid])) _, ?_⟩)|(refine ⟨_, fun _ => qa0 (h12) (by (simp [idsL, idsE, AV.ids, hid])) _, ?_⟩)|(refine ⟨_, _, qa0 (h13) (by (simp [idsL, idsE, AV.ids, hid])) _, ?_⟩)|(refine ⟨_, qa0 (h13) (by (simp [idsL, idsE, AV.ids, hid])) _, ?_⟩)|(refine ⟨_, fun _ => qa0 (h13) (by (simp [idsL, idsE, AV.ids, hid])) _, ?_⟩)|(refine ⟨_, _, qa0 (h14) (by (simp [idsL, idsE, AV.ids, hid])) _, ?_⟩)|(refine ⟨_, qa0 (h14) (by (simp [idsL, idsE, AV.ids, hid])) _, ?_⟩)|(refine ⟨_, fun _ => qa0 (h14) (by (simp [idsL, idsE, AV.ids, hid])) _, ?_⟩)|(refine ⟨_, _, qa0 (h17) (by (simp [idsL, idsE, AV.ids, hid])) _, ?_⟩)|(refine ⟨_, qa0 (h17) (by (simp [idsL, idsE, AV.ids, hid])) _, ?_⟩)|(refine ⟨_, fun _ => qa0 (h17) (by (simp [idsL, idsE, AV.ids, hid])) _, ?_⟩)|(refine ⟨_, _, qa0 (h18) (by (simp [idsL, idsE, AV.ids, hid])) _, ?_⟩)|(refine ⟨_, qa0 (h18) (by (simp [idsL, idsE, AV.ids, hid])) _, ?_⟩)|(refine ⟨_, fun _ => qa0 (h18) (by (simp [idsL, idsE, AV.ids, hid])) _, ?_⟩)|(refine ⟨_, _, qa0 (h19) (by (simp [idsL, idsE, AV.ids, hid])) _, ?_⟩)|(refine ⟨_, qa0 (h19) (by (simp [idsL, idsE, AV.ids, hid])) _, ?_⟩)|(refine ⟨_, fun _ => qa0 (h19) (by (simp [idsL, idsE, AV.ids, hid])) _, ?_⟩)|(refine ⟨_, _, qa0 (h20) (by (simp [idsL, idsE, AV.ids, hid])) _, ?_⟩)|(refine ⟨_, qa0 (h20) (by (simp [idsL, idsE, AV.ids, hid])) _, ?_⟩)|(refine ⟨_, fun _ => qa0 (h20) (by (simp [idsL, idsE, AV.ids, hid])) _, ?_⟩)|(refine ⟨_, _, qa0 (hlv) (by (simp [idsL, idsE, AV.ids, hid])) _, ?_⟩)|(refine ⟨_, qa0 (hlv) (by (simp [idsL, idsE, AV.ids, hid])) _, ?_⟩)|(refine ⟨_, fun _ => qa0 (hlv) (by (simp [idsL, idsE, AV.ids, hid])) _, ?_⟩))|simp (disch := (first|exact discB|fail)) only [push_cast, simprocAttr, a0, h0])
end Go.Proofs
