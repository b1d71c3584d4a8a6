import Derived.Test.YtlpjemobbjijdaaGreatDoorS2
namespace Go.Proofs
open Go Go.V
set_option linter.unusedVariables false
set_option linter.unusedSimpArgs false
set_option maxHeartbeats 0
set_option maxRecDepth 100000
def rdB (ts : List Tk) (c : Option Nat) (i : Int) (x0 x1 x2 x3 x4 x5 x6 : AV) : Blk := .row 9 118 [rdC ts c i [x0, x1, x2, x3, x4, x5, x6]]
def jnR (ts : List Tk) (k : Nat) : Int := ((min (k + 1) ts.length : Nat) : Int)
theorem xak9 {H : List Blk} {b : Nat} {X : Blk} (h : H[b]? = some X) : H.set b X = H := by
 obtain ⟨h1, h2⟩ := List.getElem?_eq_some_iff.1 h
 rw [← h2, List.set_getElem_self]
theorem qk0 {ts : List Tk} {w : Bs} {i : Nat} {u : Unit} (hm : zd0 ts w i = .ok u) : i < ts.length := by
 rw [zd0, qn0] at hm
 split at hm
 ·assumption
 ·cases hm
theorem qx0 {ts : List Tk} {i : Nat} {u : Bs} (hm : qh0 ts i = .ok u) : i < ts.length := by
 rw [qh0, qn0] at hm
 split at hm
 ·assumption
 ·cases hm
theorem vC0 {ts : List Tk} {ns : List Bs} {i u : Nat} (hm : ofM ts ns i = .ok u) : i < ts.length ∧ u < ns.length := by
 unfold ofM at hm
 cases h : qh0 ts i with
 | no i e => rw [h] at hm; cases hm
 | ok s =>
  rw [h] at hm
  simp only [PE.bind] at hm
  split at hm
  ·injection hm with hm
   subst hm
   exact ⟨qx0 h, by assumption⟩
  ·cases hm
section
variable {H : List Blk} {b : Nat} {ts : List Tk} {c : Option Nat} {x0 x1 x2 x3 x4 x5 x6 : AV}
theorem xn0 (w : Bs) (i : Nat) (hm : zd0 ts w i = .ok ()) (hb : H[b]? = some (rdB ts c i x0 x1 x2 x3 x4 x5 x6)) (hl : ts.length ≤ 1000000) (hbel : ∀ j : Int, (H.set b (rdB ts c j x0 x1 x2 x3 x4 x5 x6)).all (Blk.below H.length) = true) :
  ka0 Tryz.prog G0 103 [.ptr b 0 0 1, .str w] H (.tup []) (H.set b (rdB ts c ((i : Int) + 1) x0 x1 x2 x3 x4 x5 x6)) := by
 have hi : i < ts.length := by
  rw [zd0, qn0] at hm
  split at hm
  ·assumption
  ·cases hm
 have hn := qad9 i hb hi hl (hbel _)
 have ht : (ts.getD i tk0).t = w := by
  rw [zd0, qn0, if_pos hi] at hm
  simp only [PE.bind] at hm
  split at hm
  ·assumption
  ·cases hm
 generalize ts.getD i tk0 = t at *
 obtain ⟨tk, tt, tl, tc⟩ := t
 simp only at ht
 subst ht
 simp only [tkA] at hn
 refine vl0 16 [] Tryz.func103 rfl rfl rfl (by simp) ?_
 intro s ⟨a0, a1, hz⟩
 simp only [Nat.zero_add, Nat.reduceAdd] at a1
 clear hz
 repeat' (first|refine nav ?_|(refine g0_ ?_; refine goD ?_)|with_reducible refine gG ?_ ?_|((with_reducible refine And.intro (fun h => ?_) (fun h => ?_)) <;> try (exfalso; omega))|with_reducible refine andG ?_|(first|(refine ⟨_, _, hn, ?_⟩)|(refine ⟨_, hn, ?_⟩)|(refine ⟨_, fun _ => hn, ?_⟩))|simp (disch := try exact discB) only [push_cast, simprocAttr, a0, a1])
 all_goals rfl
theorem vG0 (w : Bs) (i k : Nat) (e : Int) (hm : zd0 ts w i = .no k e) (hi : i ≤ ts.length) (hb : H[b]? = some (rdB ts c i x0 x1 x2 x3 x4 x5 x6)) (hl : ts.length ≤ 1000000) (hbel : ∀ j : Int, (H.set b (rdB ts c j x0 x1 x2 x3 x4 x5 x6)).all (Blk.below H.length) = true) :
  APan Tryz.prog G0 103 [.ptr b 0 0 1, .str w] H (fltV k e) (H.set b (rdB ts c (jnR ts k) x0 x1 x2 x3 x4 x5 x6)) := by
 by_cases hlt : i < ts.length
 ·have hn := qad9 i hb hlt hl (hbel _)
  rw [zd0, qn0, if_pos hlt] at hm
  simp only [PE.bind] at hm
  split at hm
  ·cases hm
  rename_i ht
  injection hm with h1 h2
  subst h1 h2
  rw [show jnR ts i = (i : Int) + 1 by unfold jnR; omega]
  generalize ts.getD i tk0 = t at *
  obtain ⟨tk, tt, tl, tc⟩ := t
  simp only at ht
  simp only [tkA] at hn
  have hjn : jnR ts i = (i : Int) + 1 := by unfold jnR; omega
  have hlb := (List.getElem?_eq_some_iff.1 hb).1
  have hb1 : ∀ X, (H.set b X)[b]? = some X := fun X => List.getElem?_set_self hlb
  have hi2 : (i : Int) + 1 - 1 = i := by omega
  have hf := fun H => wG0 H (.ptr b 0 0 1) i 4
  unfold rdB rdC at *
  refine zi0 16 Tryz.func103 rfl rfl (by simp) ?_
  intro s ⟨a0, a1, hz⟩
  simp only [Nat.zero_add, Nat.reduceAdd] at a1
  clear hz
  repeat' (first|(first|(with_reducible refine kb0 (p := [0, 1]) ?_)|refine nav ?_|(refine g0_ ?_; first|refine goD ?_))|with_reducible refine gG ?_ ?_|((with_reducible refine And.intro (fun h => ?_) (fun h => ?_)) <;> try (exfalso; omega))|with_reducible refine andG ?_|(first|(refine ⟨_, _, hn, ?_⟩)|(refine ⟨_, hn, ?_⟩)|(refine ⟨_, fun _ => hn, ?_⟩))|simp (disch := try exact discB) only [push_cast, simprocAttr, a0, a1, ht, hb1, hi2])
  refine Halt.mk ?_
  refine vg0 (p := [0, 1]) 6 (by rfl) (by rfl) (by rfl) (by rfl) ?_
  repeat' (first|refine nav ?_|(refine g0_ ?_; refine goD ?_)|with_reducible refine gG ?_ ?_|((with_reducible refine And.intro (fun h => ?_) (fun h => ?_)) <;> try (exfalso; omega))|with_reducible refine andG ?_|(first|(refine ⟨_, _, hn, ?_⟩)|(refine ⟨_, hn, ?_⟩)|(refine ⟨_, fun _ => hn, ?_⟩))|simp (disch := try exact discB) only [push_cast, simprocAttr, a0, a1, ht, hb1, hi2])
  exact wd0 trivial rfl rfl rfl was9 rfl (hf _) ⟨rfl, .inl rfl⟩
 ·obtain rfl : i = ts.length := by omega
  have hn := qaM9 hb hl (by have := hbel ts.length; rw [xak9 hb] at this; exact this)
  rw [zd0, qn0, if_neg (by omega)] at hm
  simp only [PE.bind] at hm
  injection hm with h1 h2
  subst h1 h2
  rw [show jnR ts (ts.length - 1) = (ts.length : Int) by unfold jnR; omega, xak9 hb]
  refine zi0 16 Tryz.func103 rfl rfl (by simp) ?_
  intro s ⟨a0, a1, hz⟩
  simp only [Nat.zero_add, Nat.reduceAdd] at a1
  clear hz
  repeat' (first|(first|(with_reducible refine kb0 (p := [0]) ?_)|refine nav ?_|(refine g0_ ?_; first|refine goD ?_))|with_reducible refine gG ?_ ?_|((with_reducible refine And.intro (fun h => ?_) (fun h => ?_)) <;> try (exfalso; omega))|with_reducible refine andG ?_|simp (disch := try exact discB) only [push_cast, simprocAttr, a0, a1])
  refine Halt.mk ?_
  refine vg0 (p := [0]) 1 (by rfl) (by rfl) (by rfl) (by rfl) ?_
  repeat' (first|refine nav ?_|(refine g0_ ?_; refine goD ?_)|with_reducible refine gG ?_ ?_|((with_reducible refine And.intro (fun h => ?_) (fun h => ?_)) <;> try (exfalso; omega))|with_reducible refine andG ?_|simp (disch := try exact discB) only [push_cast, simprocAttr, a0, a1])
  exact wd0 trivial rfl rfl rfl kcu9 rfl hn ⟨rfl, .inl rfl⟩
theorem zad9 (w : Bs) (i : Nat) (hm : qh0 ts i = .ok w) (hb : H[b]? = some (rdB ts c i x0 x1 x2 x3 x4 x5 x6)) (hl : ts.length ≤ 1000000) (hbel : ∀ j : Int, (H.set b (rdB ts c j x0 x1 x2 x3 x4 x5 x6)).all (Blk.below H.length) = true) :
  ka0 Tryz.prog G0 104 [.ptr b 0 0 1] H (.str w) (H.set b (rdB ts c ((i : Int) + 1) x0 x1 x2 x3 x4 x5 x6)) := by
 have hi : i < ts.length := by
  rw [qh0, qn0] at hm
  split at hm
  ·assumption
  ·cases hm
 have hn := qad9 i hb hi hl (hbel _)
 have ht : (ts.getD i tk0).k = 1 ∧ resB.contains (ts.getD i tk0).t = false ∧ (ts.getD i tk0).t = w := by
  rw [qh0, qn0, if_pos hi] at hm
  simp only [PE.bind] at hm
  split at hm
  ·split at hm
   ·cases hm
   ·rename_i h1 h2
    injection hm with hm
    exact ⟨h1, by simpa using h2, hm⟩
  ·cases hm
 generalize ts.getD i tk0 = t at *
 obtain ⟨tk, tt, tl, tc⟩ := t
 simp only at ht
 obtain ⟨rfl, hr, rfl⟩ := ht
 simp only [tkA] at hn
 have h2 := kac9
 have h3 := xJ0 1 resB (some 5) tt (.inr rfl) (by decide)
 rw [hr] at h3
 have hid : ∀ p, idsE p (strs resB) = true := fun p => za0 _ _
 generalize strs resB = SL at *
 have hb4 : ∀ X B, (H.set b X ++ [B])[H.length]? = some B := fun X B => by rw [List.getElem?_append_right (by rw [List.length_set]; exact Nat.le_refl _), List.length_set, Nat.sub_self]; rfl
 have hb5 : ∀ X B Y, (H.set b X ++ [B]).set H.length Y = H.set b X ++ [Y] := fun X B Y => by rw [List.set_append_right _ _ (by rw [List.length_set]; exact Nat.le_refl _), List.length_set, Nat.sub_self]; rfl
 refine qbq9 (K := [.row 4 115 [[.int .u8 1, .str tt, .int .i64 tl, .int .i64 tc]]]) ?_ (List.length_set ..) (hbel _) rfl
 have hsl : ∀ X : Blk, (H.set b X).length = H.length := fun X => List.length_set ..
 unfold rdB rdC at *
 refine vl0 31 [.tmp 2] Tryz.func104 rfl rfl rfl (by simp) ?_
 intro s ⟨a0, hz⟩
 clear hz
 repeat' (first|refine nav ?_|(refine g0_ ?_; refine goD ?_)|with_reducible refine gG ?_ ?_|((with_reducible refine And.intro (fun h => ?_) (fun h => ?_)) <;> try (exfalso; omega))|with_reducible refine andG ?_|(first|(refine ⟨_, _, hn, ?_⟩)|(refine ⟨_, hn, ?_⟩)|(refine ⟨_, fun _ => hn, ?_⟩)|(refine ⟨_, _, pc_lift h2 (by simp [idsL, idsE, AV.ids, hid]) _, ?_⟩)|(refine ⟨_, pc_lift h2 (by simp [idsL, idsE, AV.ids, hid]) _, ?_⟩)|(refine ⟨_, fun _ => pc_lift h2 (by simp [idsL, idsE, AV.ids, hid]) _, ?_⟩)|(refine ⟨_, _, pc_lift h3 (by simp [idsL, idsE, AV.ids, hid]) _, ?_⟩)|(refine ⟨_, pc_lift h3 (by simp [idsL, idsE, AV.ids, hid]) _, ?_⟩)|(refine ⟨_, fun _ => pc_lift h3 (by simp [idsL, idsE, AV.ids, hid]) _, ?_⟩))|simp (disch := try exact discB) only [push_cast, simprocAttr, a0, hb4, hb5, hsl])
theorem qbk9 (i k : Nat) (e : Int) (hm : qh0 ts i = .no k e) (hi : i ≤ ts.length) (hb : H[b]? = some (rdB ts c i x0 x1 x2 x3 x4 x5 x6)) (hl : ts.length ≤ 1000000) (hbel : ∀ j : Int, (H.set b (rdB ts c j x0 x1 x2 x3 x4 x5 x6)).all (Blk.below H.length) = true) :
  APan Tryz.prog G0 104 [.ptr b 0 0 1] H (fltV k e) (H.set b (rdB ts c (jnR ts k) x0 x1 x2 x3 x4 x5 x6)) := by
 by_cases hlt : i < ts.length
 ·have hn := qad9 i hb hlt hl (hbel _)
  have hbl := hbel ((i : Int) + 1)
  rw [qh0, qn0, if_pos hlt] at hm
  simp only [PE.bind] at hm
  have hjn : jnR ts i = (i : Int) + 1 := by unfold jnR; omega
  have hlb := (List.getElem?_eq_some_iff.1 hb).1
  have hb3 : ∀ X B, (H.set b X ++ [B])[b]? = some X := fun X B => by rw [List.getElem?_append_left (by rw [List.length_set]; exact hlb)]; exact List.getElem?_set_self hlb
  have hb4 : ∀ X B, (H.set b X ++ [B])[H.length]? = some B := fun X B => by rw [List.getElem?_append_right (by rw [List.length_set]; exact Nat.le_refl _), List.length_set, Nat.sub_self]; rfl
  have hb5 : ∀ X B Y, (H.set b X ++ [B]).set H.length Y = H.set b X ++ [Y] := fun X B Y => by rw [List.set_append_right _ _ (by rw [List.length_set]; exact Nat.le_refl _), List.length_set, Nat.sub_self]; rfl
  have hb6 : ∀ X B, (H.set b X ++ [B]).take H.length = H.set b X := fun X B => List.take_left' (List.length_set ..)
  have hsl : ∀ X : Blk, (H.set b X).length = H.length := fun X => List.length_set ..
  have hi2 : (i : Int) + 1 - 1 = i := by omega
  have h2 := kac9
  have hf := fun H e => wG0 H (.ptr b 0 0 1) i e
  have h3 := xJ0 1 resB (some 5) (ts.getD i tk0).t (.inr rfl) (by decide)
  have hid : ∀ p, idsE p (strs resB) = true := fun p => za0 _ _
  generalize strs resB = SL at *
  generalize ts.getD i tk0 = t at *
  obtain ⟨tk, tt, tl, tc⟩ := t
  simp only at hm h3
  simp only [tkA] at hn
  unfold rdB rdC at *
  by_cases h1 : tk = 1
  ·rw [if_pos h1] at hm
   subst h1
   split at hm
   ·rename_i hr
    rw [hr] at h3
    injection hm with q1 q2
    subst q1 q2
    rw [hjn]
    refine zi0 31 Tryz.func104 rfl rfl (by simp) ?_
    intro s ⟨a0, hz⟩
    clear hz
    repeat' (first|(first|(with_reducible refine kb0 (p := [0, 1, 1, 1, 0, 0, 1, 1]) ?_)|refine nav ?_|(refine g0_ ?_; first|refine goD ?_))|with_reducible refine gG ?_ ?_|((with_reducible refine And.intro (fun h => ?_) (fun h => ?_)) <;> try (exfalso; omega))|with_reducible refine andG ?_|(first|(refine ⟨_, _, hn, ?_⟩)|(refine ⟨_, hn, ?_⟩)|(refine ⟨_, fun _ => hn, ?_⟩)|(refine ⟨_, _, pc_lift h2 (by simp [idsL, idsE, AV.ids, hid]) _, ?_⟩)|(refine ⟨_, pc_lift h2 (by simp [idsL, idsE, AV.ids, hid]) _, ?_⟩)|(refine ⟨_, fun _ => pc_lift h2 (by simp [idsL, idsE, AV.ids, hid]) _, ?_⟩)|(refine ⟨_, _, pc_lift h3 (by simp [idsL, idsE, AV.ids, hid]) _, ?_⟩)|(refine ⟨_, pc_lift h3 (by simp [idsL, idsE, AV.ids, hid]) _, ?_⟩)|(refine ⟨_, fun _ => pc_lift h3 (by simp [idsL, idsE, AV.ids, hid]) _, ?_⟩))|simp (disch := try exact discB) only [push_cast, simprocAttr, a0, hb3, hb4, hb5, hsl, hi2])
    refine Halt.mk ?_
    refine vg0 (p := [0, 1, 1, 1, 0, 0, 1, 1]) 6 (by rfl) (by rfl) (by rfl) (by rfl) ?_
    repeat' (first|refine nav ?_|(refine g0_ ?_; refine goD ?_)|with_reducible refine gG ?_ ?_|((with_reducible refine And.intro (fun h => ?_) (fun h => ?_)) <;> try (exfalso; omega))|with_reducible refine andG ?_|(first|(refine ⟨_, _, hn, ?_⟩)|(refine ⟨_, hn, ?_⟩)|(refine ⟨_, fun _ => hn, ?_⟩)|(refine ⟨_, _, pc_lift h2 (by simp [idsL, idsE, AV.ids, hid]) _, ?_⟩)|(refine ⟨_, pc_lift h2 (by simp [idsL, idsE, AV.ids, hid]) _, ?_⟩)|(refine ⟨_, fun _ => pc_lift h2 (by simp [idsL, idsE, AV.ids, hid]) _, ?_⟩)|(refine ⟨_, _, pc_lift h3 (by simp [idsL, idsE, AV.ids, hid]) _, ?_⟩)|(refine ⟨_, pc_lift h3 (by simp [idsL, idsE, AV.ids, hid]) _, ?_⟩)|(refine ⟨_, fun _ => pc_lift h3 (by simp [idsL, idsE, AV.ids, hid]) _, ?_⟩))|simp (disch := try exact discB) only [push_cast, simprocAttr, a0, hb3, hb4, hb5, hsl, hi2])
    exact wd0 trivial rfl rfl rfl was9 rfl (hf _ _) ⟨rfl, .inr ⟨by rw [hb6]; exact hbl, hb6 _ _⟩⟩
   ·cases hm
  ·rw [if_neg h1] at hm
   injection hm with q1 q2
   subst q1 q2
   rw [hjn]
   refine zi0 31 Tryz.func104 rfl rfl (by simp) ?_
   intro s ⟨a0, hz⟩
   clear hz
   repeat' (first|(first|(with_reducible refine kb0 (p := [0, 1, 0, 0, 1, 1]) ?_)|refine nav ?_|(refine g0_ ?_; first|refine goD ?_))|with_reducible refine gG ?_ ?_|((with_reducible refine And.intro (fun h => ?_) (fun h => ?_)) <;> try (exfalso; omega))|with_reducible refine andG ?_|(first|(refine ⟨_, _, hn, ?_⟩)|(refine ⟨_, hn, ?_⟩)|(refine ⟨_, fun _ => hn, ?_⟩)|(refine ⟨_, _, pc_lift h2 (by simp [idsL, idsE, AV.ids, hid]) _, ?_⟩)|(refine ⟨_, pc_lift h2 (by simp [idsL, idsE, AV.ids, hid]) _, ?_⟩)|(refine ⟨_, fun _ => pc_lift h2 (by simp [idsL, idsE, AV.ids, hid]) _, ?_⟩)|(refine ⟨_, _, pc_lift h3 (by simp [idsL, idsE, AV.ids, hid]) _, ?_⟩)|(refine ⟨_, pc_lift h3 (by simp [idsL, idsE, AV.ids, hid]) _, ?_⟩)|(refine ⟨_, fun _ => pc_lift h3 (by simp [idsL, idsE, AV.ids, hid]) _, ?_⟩))|simp (disch := try exact discB) only [push_cast, simprocAttr, a0, hb3, hb4, hb5, hsl, hi2, h1])
   refine Halt.mk ?_
   refine vg0 (p := [0, 1, 0, 0, 1, 1]) 6 (by rfl) (by rfl) (by rfl) (by rfl) ?_
   repeat' (first|refine nav ?_|(refine g0_ ?_; refine goD ?_)|with_reducible refine gG ?_ ?_|((with_reducible refine And.intro (fun h => ?_) (fun h => ?_)) <;> try (exfalso; omega))|with_reducible refine andG ?_|(first|(refine ⟨_, _, hn, ?_⟩)|(refine ⟨_, hn, ?_⟩)|(refine ⟨_, fun _ => hn, ?_⟩)|(refine ⟨_, _, pc_lift h2 (by simp [idsL, idsE, AV.ids, hid]) _, ?_⟩)|(refine ⟨_, pc_lift h2 (by simp [idsL, idsE, AV.ids, hid]) _, ?_⟩)|(refine ⟨_, fun _ => pc_lift h2 (by simp [idsL, idsE, AV.ids, hid]) _, ?_⟩)|(refine ⟨_, _, pc_lift h3 (by simp [idsL, idsE, AV.ids, hid]) _, ?_⟩)|(refine ⟨_, pc_lift h3 (by simp [idsL, idsE, AV.ids, hid]) _, ?_⟩)|(refine ⟨_, fun _ => pc_lift h3 (by simp [idsL, idsE, AV.ids, hid]) _, ?_⟩))|simp (disch := try exact discB) only [push_cast, simprocAttr, a0, hb3, hb4, hb5, hsl, hi2, h1])
   exact wd0 trivial rfl rfl rfl was9 rfl (hf _ _) ⟨rfl, .inr ⟨by rw [hb6]; exact hbl, hb6 _ _⟩⟩
 ·obtain rfl : i = ts.length := by omega
  have hn := qaM9 hb hl (by have := hbel ts.length; rw [xak9 hb] at this; exact this)
  rw [qh0, qn0, if_neg (by omega)] at hm
  simp only [PE.bind] at hm
  injection hm with h1 h2
  subst h1 h2
  rw [show jnR ts (ts.length - 1) = (ts.length : Int) by unfold jnR; omega, xak9 hb]
  refine zi0 31 Tryz.func104 rfl rfl (by simp) ?_
  intro s ⟨a0, hz⟩
  clear hz
  repeat' (first|(first|(with_reducible refine kb0 (p := [0, 1]) ?_)|refine nav ?_|(refine g0_ ?_; first|refine goD ?_))|with_reducible refine gG ?_ ?_|((with_reducible refine And.intro (fun h => ?_) (fun h => ?_)) <;> try (exfalso; omega))|with_reducible refine andG ?_|simp (disch := try exact discB) only [push_cast, simprocAttr, a0])
  refine Halt.mk ?_
  refine vg0 (p := [0, 1]) 1 (by rfl) (by rfl) (by rfl) (by rfl) ?_
  repeat' (first|refine nav ?_|(refine g0_ ?_; refine goD ?_)|with_reducible refine gG ?_ ?_|((with_reducible refine And.intro (fun h => ?_) (fun h => ?_)) <;> try (exfalso; omega))|with_reducible refine andG ?_|simp (disch := try exact discB) only [push_cast, simprocAttr, a0])
  exact wd0 trivial rfl rfl rfl kcu9 rfl hn ⟨rfl, .inl rfl⟩
end
end Go.Proofs
