import Derived.Test.YtlpjemobbjijdaaGreatDoorL6
import Derived.Test.YtlpjemobbjijdaaGreatDoorAP9
import Derived.Test.YtlpjemobbjijdaaGreatDoorNUM
namespace Go.Proofs
open Go Go.V
set_option linter.unusedVariables false
set_option linter.unusedSimpArgs false
set_option maxHeartbeats 0
set_option maxRecDepth 100000
theorem zcU9 (t : Tk) (hs : t.t.length ≤ 1000000) : PC Tryz.prog G0 84 [.agg (tkA t)] (.int .i64 (chkT t.k t.t)) := by
 obtain ⟨k, w, l, c⟩ := t
 simp only at hs
 have h1 := kbZ9 w hs
 by_cases hw : w = []
 ·rw [hw, qbs9]
  refine vb0 0 30 [.tmp 2] Tryz.func84 rfl rfl rfl (by simp) ?_
  intro s ⟨a0, hz⟩
  clear hz
  repeat' (first|refine nav ?_|(refine g0_ ?_; refine goD ?_)|with_reducible refine gG ?_ ?_|((with_reducible refine And.intro (fun h => ?_) (fun h => ?_)) <;> try (exfalso; omega))|with_reducible refine andG ?_|simp (disch := try exact discB) only [push_cast, simprocAttr, a0, tkA])
 ·have p1 := xbY9 k w
  have p2 := zcT9 k w hw
  simp only [tkA]
  generalize w.take (tokS w).2.1 = x at *
  generalize tokS w = T at *
  obtain ⟨tk, n, e⟩ := T
  simp only at *
  by_cases h : e ≠ 0 ∨ x ≠ w ∨ tk ≠ k
  ·rw [p1 h]
   have hq : (decide (e = 0) && decide (x = w) && decide (tk = k)) = false := by
    rw [Bool.eq_false_iff]; simp only [Bool.and_eq_true, decide_eq_true_eq, ne_eq]; rintro ⟨⟨a, b⟩, d⟩; rcases h with h|h|h <;> contradiction
   by_cases c1 : e = 0
   ·by_cases c2 : x = w
    ·have c3 : ¬ tk = k := by rcases h with h|h|h; exact absurd c1 h; exact absurd c2 h; exact h
     refine vb0 0 30 [.tmp 2] Tryz.func84 rfl rfl rfl (by simp) ?_
     intro s ⟨a0, hz⟩
     clear hz
     repeat' (first|refine nav ?_|(refine g0_ ?_; refine goD ?_)|with_reducible refine gG ?_ ?_|((with_reducible refine And.intro (fun h => ?_) (fun h => ?_)) <;> try (exfalso; omega))|with_reducible refine andG ?_|(first|(refine ⟨_, _, pc_lift h1 (by simp [idsL, idsE, AV.ids]) _, ?_⟩)|(refine ⟨_, pc_lift h1 (by simp [idsL, idsE, AV.ids]) _, ?_⟩)|(refine ⟨_, fun _ => pc_lift h1 (by simp [idsL, idsE, AV.ids]) _, ?_⟩))|simp (disch := try exact discB) only [push_cast, simprocAttr, a0, hw, c1, c2, c3])
    ·refine vb0 0 30 [.tmp 2] Tryz.func84 rfl rfl rfl (by simp) ?_
     intro s ⟨a0, hz⟩
     clear hz
     repeat' (first|refine nav ?_|(refine g0_ ?_; refine goD ?_)|with_reducible refine gG ?_ ?_|((with_reducible refine And.intro (fun h => ?_) (fun h => ?_)) <;> try (exfalso; omega))|with_reducible refine andG ?_|(first|(refine ⟨_, _, pc_lift h1 (by simp [idsL, idsE, AV.ids]) _, ?_⟩)|(refine ⟨_, pc_lift h1 (by simp [idsL, idsE, AV.ids]) _, ?_⟩)|(refine ⟨_, fun _ => pc_lift h1 (by simp [idsL, idsE, AV.ids]) _, ?_⟩))|simp (disch := try exact discB) only [push_cast, simprocAttr, a0, hw, c1, c2])
   ·refine vb0 0 30 [.tmp 2] Tryz.func84 rfl rfl rfl (by simp) ?_
    intro s ⟨a0, hz⟩
    clear hz
    repeat' (first|refine nav ?_|(refine g0_ ?_; refine goD ?_)|with_reducible refine gG ?_ ?_|((with_reducible refine And.intro (fun h => ?_) (fun h => ?_)) <;> try (exfalso; omega))|with_reducible refine andG ?_|(first|(refine ⟨_, _, pc_lift h1 (by simp [idsL, idsE, AV.ids]) _, ?_⟩)|(refine ⟨_, pc_lift h1 (by simp [idsL, idsE, AV.ids]) _, ?_⟩)|(refine ⟨_, fun _ => pc_lift h1 (by simp [idsL, idsE, AV.ids]) _, ?_⟩))|simp (disch := try exact discB) only [push_cast, simprocAttr, a0, hw, c1])
  ·have c1 : e = 0 := Decidable.not_not.1 fun q => h (.inl q)
   have c2 : x = w := Decidable.not_not.1 fun q => h (.inr (.inl q))
   have c3 : tk = k := Decidable.not_not.1 fun q => h (.inr (.inr q))
   rw [p2 c1 c2 c3]
   subst c1 c2 c3
   refine vb0 0 30 [.tmp 2] Tryz.func84 rfl rfl rfl (by simp) ?_
   intro s ⟨a0, hz⟩
   clear hz
   repeat' (first|refine nav ?_|(refine g0_ ?_; refine goD ?_)|with_reducible refine gG ?_ ?_|((with_reducible refine And.intro (fun h => ?_) (fun h => ?_)) <;> try (exfalso; omega))|with_reducible refine andG ?_|(first|(refine ⟨_, _, pc_lift h1 (by simp [idsL, idsE, AV.ids]) _, ?_⟩)|(refine ⟨_, pc_lift h1 (by simp [idsL, idsE, AV.ids]) _, ?_⟩)|(refine ⟨_, fun _ => pc_lift h1 (by simp [idsL, idsE, AV.ids]) _, ?_⟩))|simp (disch := try exact discB) only [push_cast, simprocAttr, a0, hw])
def qdO9 (a b : List Tk) : Bool := decide (a = b)
theorem xW0 : ∀ (f : Nat) (s : Bs) (l c l' c' e : Int), lexG f s l c = .err l' c' e → e ≠ 0
 | 0, _, _, _, _, _, _, h => by cases h
 | f + 1, [], _, _, _, _, _, h => by cases h
 | f + 1, b :: r, l, c, l', c', e, h => by
  rw [lexG] at h
  split at h
  ·exact xW0 f _ _ _ _ _ _ h
  ·split at h
   ·exact xW0 f _ _ _ _ _ _ h
   ·split at h
    ·exact xW0 f _ _ _ _ _ _ h
    ·split at h
     ·rename_i q
      injection h with _ _ h3
      rw [← h3]; exact q
     ·cases q : lexG f ((b :: r).drop (tokS (b :: r)).2.1) l (c + (tokS (b :: r)).2.1) with
      | ok m => rw [q] at h; cases h
      | err x y z =>
       rw [q] at h
       injection h with _ _ h3
       rw [← h3]; exact xW0 f _ _ _ _ _ _ q
theorem xcx9 {k : Int} {w : Bs} (q : vA0 k w) : chkT k w = 0 := (vV0 k w).2 q
theorem xau9 {k : Int} {w : Bs} (q : ¬ vA0 k w) : chkT k w = 1 := by unfold chkT; exact if_neg q
theorem xcU9 (t : Tk) (hs : t.t.length ≤ 60000) : PC Tryz.prog G0 79 [.agg (tkA t)] (.int .i64 (1 - chkT t.k t.t)) := by
 obtain ⟨k, w, l, c⟩ := t
 simp only at hs
 by_cases hw : w = []
 ·rw [hw, qbs9]
  refine vb0 0 43 [.tmp 2] Tryz.func79 rfl rfl rfl (by simp) ?_
  intro s ⟨a0, hz⟩
  clear hz
  repeat' (first|refine nav ?_|(refine g0_ ?_; refine goD ?_)|with_reducible refine gG ?_ ?_|((with_reducible refine And.intro (fun h => ?_) (fun h => ?_)) <;> try (exfalso; omega))|with_reducible refine andG ?_|simp (disch := try exact discB) only [push_cast, simprocAttr, a0, tkA])
  all_goals rfl
 ·have h10 := vca9 w (by omega)
  have hv := xbX9 k w hw
  have hR : ofS w = ofR (lexR w 1 1) := by rw [ofS, if_neg (by omega)]
  unfold refA refC at h10
  rw [hR] at h10
  have hE := xW0 (w.length + 1) w 1 1
  have hLR : lexG (w.length + 1) w 1 1 = lexR w 1 1 := rfl
  rw [hLR] at hE
  show PC Tryz.prog G0 79 _ (.int .i64 (1 - chkT k w))
  generalize lexR w 1 1 = R at *
  cases R with
  | err l' c' e =>
   have he := hE l' c' e rfl
   have hn : ¬ vA0 k w := fun q => by
    obtain ⟨_, _, h⟩ := hv.2 q
    cases h
   rw [xau9 hn]
   simp only [ofR, vaL9] at h10
   refine vb0 0 43 [.tmp 2] Tryz.func79 rfl rfl rfl (by simp) ?_
   intro s ⟨a0, hz⟩
   clear hz
   repeat' (first|refine nav ?_|(refine g0_ ?_; refine goD ?_)|with_reducible refine gG ?_ ?_|((with_reducible refine And.intro (fun h => ?_) (fun h => ?_)) <;> try (exfalso; omega))|with_reducible refine andG ?_|(first|(refine ⟨_, _, pc_lift h10 (by simp [idsL, idsE, AV.ids]) _, ?_⟩)|(refine ⟨_, pc_lift h10 (by simp [idsL, idsE, AV.ids]) _, ?_⟩)|(refine ⟨_, fun _ => pc_lift h10 (by simp [idsL, idsE, AV.ids]) _, ?_⟩)|(refine ⟨AV.str [], ?_⟩; refine qT0 ?_))|simp (disch := try exact discB) only [push_cast, simprocAttr, a0, tkA, hw, he, Int.reduceSub])
  | ok ls =>
   simp only [ofR, if_true] at h10
   match ls, h10, hv with
   | [], h10, hv =>
    have hn : ¬ vA0 k w := fun q => by
     obtain ⟨_, _, h⟩ := hv.2 q
     cases h
    rw [xau9 hn]
    simp only [vaL9] at h10
    refine vb0 0 43 [.tmp 2] Tryz.func79 rfl rfl rfl (by simp) ?_
    intro s ⟨a0, hz⟩
    clear hz
    repeat' (first|refine nav ?_|(refine g0_ ?_; refine goD ?_)|with_reducible refine gG ?_ ?_|((with_reducible refine And.intro (fun h => ?_) (fun h => ?_)) <;> try (exfalso; omega))|with_reducible refine andG ?_|(first|(refine ⟨_, _, pc_lift h10 (by simp [idsL, idsE, AV.ids]) _, ?_⟩)|(refine ⟨_, pc_lift h10 (by simp [idsL, idsE, AV.ids]) _, ?_⟩)|(refine ⟨_, fun _ => pc_lift h10 (by simp [idsL, idsE, AV.ids]) _, ?_⟩))|simp (disch := try exact discB) only [push_cast, simprocAttr, a0, tkA, hw, Int.reduceSub, Int.reduceEq])
   | t :: u :: r, h10, hv =>
    have hn : ¬ vA0 k w := fun q => by
     obtain ⟨_, _, h⟩ := hv.2 q
     cases h
    rw [xau9 hn]
    have hlen : ¬ (((t :: u :: r).length : Nat) : Int) = 1 := by simp; omega
    generalize t :: u :: r = L at *
    refine vb0 0 43 [.tmp 2] Tryz.func79 rfl rfl rfl (by simp) ?_
    intro s ⟨a0, hz⟩
    clear hz
    repeat' (first|refine nav ?_|(refine g0_ ?_; refine goD ?_)|with_reducible refine gG ?_ ?_|((with_reducible refine And.intro (fun h => ?_) (fun h => ?_)) <;> try (exfalso; omega))|with_reducible refine andG ?_|(first|(refine ⟨_, _, pc_lift h10 (by simp [idsL, idsE, AV.ids]) _, ?_⟩)|(refine ⟨_, pc_lift h10 (by simp [idsL, idsE, AV.ids]) _, ?_⟩)|(refine ⟨_, fun _ => pc_lift h10 (by simp [idsL, idsE, AV.ids]) _, ?_⟩))|simp (disch := try exact discB) only [push_cast, simprocAttr, a0, tkA, hw, hlen, Int.reduceSub, Int.reduceEq])
   | [t], h10, hv =>
    obtain ⟨tk, tw, tl, tc⟩ := t
    have h10 : PC Tryz.prog G0 70 [.str w] (.tup [.sl 4 [tkA ⟨tk, tw, tl, tc⟩] none, .int .i64 0, .int .i64 0, .int .i64 0]) := h10
    by_cases q1 : tk = k
    ·by_cases q2 : tw = w
     ·rw [xcx9 (hv.1 ⟨tl, tc, by rw [q1, q2]⟩)]
      subst q1 q2
      refine vb0 0 43 [.tmp 2] Tryz.func79 rfl rfl rfl (by simp) ?_
      intro s ⟨a0, hz⟩
      clear hz
      repeat' (first|refine nav ?_|(refine g0_ ?_; refine goD ?_)|with_reducible refine gG ?_ ?_|((with_reducible refine And.intro (fun h => ?_) (fun h => ?_)) <;> try (exfalso; omega))|with_reducible refine andG ?_|(first|(refine ⟨_, _, pc_lift h10 (by simp [idsL, idsE, AV.ids]) _, ?_⟩)|(refine ⟨_, pc_lift h10 (by simp [idsL, idsE, AV.ids]) _, ?_⟩)|(refine ⟨_, fun _ => pc_lift h10 (by simp [idsL, idsE, AV.ids]) _, ?_⟩))|simp (disch := try exact discB) only [push_cast, simprocAttr, a0, tkA, hw, Int.reduceSub, Int.reduceEq])
     ·have hn : ¬ vA0 k w := fun q => by
       obtain ⟨_, _, h⟩ := hv.2 q
       simp only [LexR.ok.injEq, List.cons.injEq, Tk.mk.injEq] at h
       exact q2 h.1.2.1
      rw [xau9 hn]
      refine vb0 0 43 [.tmp 2] Tryz.func79 rfl rfl rfl (by simp) ?_
      intro s ⟨a0, hz⟩
      clear hz
      repeat' (first|refine nav ?_|(refine g0_ ?_; refine goD ?_)|with_reducible refine gG ?_ ?_|((with_reducible refine And.intro (fun h => ?_) (fun h => ?_)) <;> try (exfalso; omega))|with_reducible refine andG ?_|(first|(refine ⟨_, _, pc_lift h10 (by simp [idsL, idsE, AV.ids]) _, ?_⟩)|(refine ⟨_, pc_lift h10 (by simp [idsL, idsE, AV.ids]) _, ?_⟩)|(refine ⟨_, fun _ => pc_lift h10 (by simp [idsL, idsE, AV.ids]) _, ?_⟩))|simp (disch := try exact discB) only [push_cast, simprocAttr, a0, tkA, hw, q1, q2, Int.reduceSub, Int.reduceEq])
    ·have hn : ¬ vA0 k w := fun q => by
      obtain ⟨_, _, h⟩ := hv.2 q
      simp only [LexR.ok.injEq, List.cons.injEq, Tk.mk.injEq] at h
      exact q1 h.1.1
     rw [xau9 hn]
     refine vb0 0 43 [.tmp 2] Tryz.func79 rfl rfl rfl (by simp) ?_
     intro s ⟨a0, hz⟩
     clear hz
     repeat' (first|refine nav ?_|(refine g0_ ?_; refine goD ?_)|with_reducible refine gG ?_ ?_|((with_reducible refine And.intro (fun h => ?_) (fun h => ?_)) <;> try (exfalso; omega))|with_reducible refine andG ?_|(first|(refine ⟨_, _, pc_lift h10 (by simp [idsL, idsE, AV.ids]) _, ?_⟩)|(refine ⟨_, pc_lift h10 (by simp [idsL, idsE, AV.ids]) _, ?_⟩)|(refine ⟨_, fun _ => pc_lift h10 (by simp [idsL, idsE, AV.ids]) _, ?_⟩))|simp (disch := try exact discB) only [push_cast, simprocAttr, a0, tkA, hw, q1, Int.reduceSub, Int.reduceEq])
def valM (k : Int) (w : Bs) : Int × Int := if chkT k w = 0 ∧ k = 2 then ((kcP9 w).1, 0) else (0, 1)
end Go.Proofs
