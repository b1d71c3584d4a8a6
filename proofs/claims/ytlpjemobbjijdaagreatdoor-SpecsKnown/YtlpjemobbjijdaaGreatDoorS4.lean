import Derived.Test.YtlpjemobbjijdaaGreatDoorS2
namespace Go.Proofs
open Go Go.V
set_option linter.unusedVariables false
set_option linter.unusedSimpArgs false
set_option maxHeartbeats 0
set_option maxRecDepth 100000
def rdB (ts : List Tk) (c : Option Nat) (i : Int) (x0 x1 x2 x3 x4 x5 x6 : AV) : Blk := .row 9 118 [rdC ts c i [x0, x1, x2, x3, x4, x5, x6]]
def jnR (ts : List Tk) (k : Nat) : Int := ((min (k + 1) ts.length : Nat) : Int)
theorem war9 {H : List Blk} {b : Nat} {X : Blk} (h : H[b]? = some X) : H.set b X = H := by
 obtain ⟨h1, h2⟩ := l'c.1 h;rw [← h2, List.set_getElem_self]
theorem vm0 {ts : List Tk} {w : Bs} {i : Nat} {u : Unit} (hm : xd0 ts w i = .ok u) : i < ts.length := by
 rw [xd0, xp0] at hm;split at hm
 ·assumption
 ·cases hm
theorem wA0 {ts : List Tk} {i : Nat} {u : Bs} (hm : wh0 ts i = .ok u) : i < ts.length := by
 rw [wh0, xp0] at hm;split at hm
 ·assumption
 ·cases hm
theorem zH0 {ts : List Tk} {ns : List Bs} {i u : Nat} (hm : ofM ts ns i = .ok u) : i < ts.length ∧ u < ns.length := by
 unfold ofM at hm;cases h : wh0 ts i with
 | no i e => rw [h] at hm; cases hm
 | ok s =>
  rw [h] at hm;simp only [PE.bind] at hm;split at hm
  ·injection hm with hm
   subst hm;exact ⟨wA0 h, by assumption⟩
  ·cases hm
section
variable {H : List Blk} {b : Nat} {ts : List Tk} {c : Option Nat} {x0 x1 x2 x3 x4 x5 x6 : AV}
theorem zq0 (w : Bs) (i : Nat) (hm : xd0 ts w i = .ok ()) (hb : H[b]? = some (rdB ts c i x0 x1 x2 x3 x4 x5 x6)) (hl : ts.length ≤ 1000000) (hbel : ∀ j : Int, (H.set b (rdB ts c j x0 x1 x2 x3 x4 x5 x6)).all (Blk.below H.length) = true) :
  qb0 Tryz.prog G0 103 [.ptr b 0 0 1, .str w] H (.tup []) (H.set b (rdB ts c ((i : Int) + 1) x0 x1 x2 x3 x4 x5 x6)) := by
 have hi : i < ts.length := by
  rw [xd0, xp0] at hm;split at hm
  ·assumption
  ·cases hm
 have hn := qak9 i hb hi hl (hbel _);have ht : (ts.getD i tk0).t = w := by
  rw [xd0, xp0, if_pos hi] at hm;simp only [PE.bind] at hm;split at hm
  ·assumption
  ·cases hm
 generalize ts.getD i tk0 = t at *;obtain ⟨tk, tt, tl, tc⟩ := t;simp only at ht;subst ht;simp only [tkA] at hn;refine zp0 16 [] Tryz.func103 rfl rfl rfl (by simp) ?_;intro s ⟨a0, a1, hz⟩;simp only [l'g, Nat.reduceAdd] at a1;clear hz;repeat' (first|refine nv ?_|(with_reducible first|refine gG ?_ ?_|refine ⟨fun h => ?_, fun h => ?_⟩ <;> try omega|refine andG ?_)|refine cl hn ?_|simp (disch := try exact discB) only [push_cast, simprocAttr, a0, a1])
 all_goals rfl
theorem vL0 (w : Bs) (i k : Nat) (e : Int) (hm : xd0 ts w i = .no k e) (hi : i ≤ ts.length) (hb : H[b]? = some (rdB ts c i x0 x1 x2 x3 x4 x5 x6)) (hl : ts.length ≤ 1000000) (hbel : ∀ j : Int, (H.set b (rdB ts c j x0 x1 x2 x3 x4 x5 x6)).all (Blk.below H.length) = true) :
  APan Tryz.prog G0 103 [.ptr b 0 0 1, .str w] H (fltV k e) (H.set b (rdB ts c (jnR ts k) x0 x1 x2 x3 x4 x5 x6)) := by
 by_cases hlt : i < ts.length
 ·have hn := qak9 i hb hlt hl (hbel _);rw [xd0, xp0, if_pos hlt] at hm;simp only [PE.bind] at hm;split at hm
  ·cases hm
  rename_i ht;injection hm with h1 h2
  subst h1 h2;rw [show jnR ts i = (i : Int) + 1 by unfold jnR; omega];generalize ts.getD i tk0 = t at *;obtain ⟨tk, tt, tl, tc⟩ := t;simp only at ht;simp only [tkA] at hn;have hjn : jnR ts i = (i : Int) + 1 := by unfold jnR; omega
  have hlb := (l'c.1 hb).1;have hb1 : ∀ X, (H.set b X)[b]? = some X := fun X => l'o hlb;have hi2 : (i : Int) + 1 - 1 = i := by omega
  have hf := fun H => wL0 H (.ptr b 0 0 1) i 4;unfold rdB rdC at *;refine vj0 16 Tryz.func103 rfl rfl (by simp) ?_;intro s ⟨a0, a1, hz⟩;simp only [l'g, Nat.reduceAdd] at a1;clear hz;repeat' (first|(first|(with_reducible refine vb0 (p := [0, 1]) ?_)|refine nav ?_|(refine g0_ ?_; first|refine goD ?_))|(with_reducible first|refine gG ?_ ?_|refine ⟨fun h => ?_, fun h => ?_⟩ <;> try omega|refine andG ?_)|refine cl hn ?_|simp (disch := try exact discB) only [push_cast, simprocAttr, a0, a1, ht, hb1, hi2])
  refine Halt.mk ?_;refine vh0 (p := [0, 1]) 6 (by rfl) (by rfl) (by rfl) (by rfl) ?_;repeat' (first|refine nv ?_|(with_reducible first|refine gG ?_ ?_|refine ⟨fun h => ?_, fun h => ?_⟩ <;> try omega|refine andG ?_)|refine cl hn ?_|simp (disch := try exact discB) only [push_cast, simprocAttr, a0, a1, ht, hb1, hi2])
  exact ke0 trivial rfl rfl rfl kaz9 rfl (hf _) ⟨rfl, .inl rfl⟩
 ·obtain rfl : i = ts.length := by omega
  have hn := qaV9 hb hl (by have := hbel ts.length; rw [war9 hb] at this; exact this);rw [xd0, xp0, if_neg (by omega)] at hm;simp only [PE.bind] at hm;injection hm with h1 h2
  subst h1 h2;rw [show jnR ts (ts.length - 1) = (ts.length : Int) by unfold jnR; omega, war9 hb];refine vj0 16 Tryz.func103 rfl rfl (by simp) ?_;intro s ⟨a0, a1, hz⟩;simp only [l'g, Nat.reduceAdd] at a1;clear hz;repeat' (first|(first|(with_reducible refine vb0 (p := [0]) ?_)|refine nav ?_|(refine g0_ ?_; first|refine goD ?_))|(with_reducible first|refine gG ?_ ?_|refine ⟨fun h => ?_, fun h => ?_⟩ <;> try omega|refine andG ?_)|simp (disch := try exact discB) only [push_cast, simprocAttr, a0, a1])
  refine Halt.mk ?_;refine vh0 (p := [0]) 1 (by rfl) (by rfl) (by rfl) (by rfl) ?_;repeat' (first|refine nv ?_|(with_reducible first|refine gG ?_ ?_|refine ⟨fun h => ?_, fun h => ?_⟩ <;> try omega|refine andG ?_)|simp (disch := try exact discB) only [push_cast, simprocAttr, a0, a1])
  exact ke0 trivial rfl rfl rfl zcP9 rfl hn ⟨rfl, .inl rfl⟩
theorem zak9 (w : Bs) (i : Nat) (hm : wh0 ts i = .ok w) (hb : H[b]? = some (rdB ts c i x0 x1 x2 x3 x4 x5 x6)) (hl : ts.length ≤ 1000000) (hbel : ∀ j : Int, (H.set b (rdB ts c j x0 x1 x2 x3 x4 x5 x6)).all (Blk.below H.length) = true) :
  qb0 Tryz.prog G0 104 [.ptr b 0 0 1] H (.str w) (H.set b (rdB ts c ((i : Int) + 1) x0 x1 x2 x3 x4 x5 x6)) := by
 have hi : i < ts.length := by
  rw [wh0, xp0] at hm;split at hm
  ·assumption
  ·cases hm
 have hn := qak9 i hb hi hl (hbel _);have ht : (ts.getD i tk0).k = 1 ∧ resB.contains (ts.getD i tk0).t = false ∧ (ts.getD i tk0).t = w := by
  rw [wh0, xp0, if_pos hi] at hm;simp only [PE.bind] at hm;split at hm
  ·split at hm
   ·cases hm
   ·rename_i h1 h2;injection hm with hm
    exact ⟨h1, by simpa using h2, hm⟩
  ·cases hm
 generalize ts.getD i tk0 = t at *;obtain ⟨tk, tt, tl, tc⟩ := t;simp only at ht;obtain ⟨rfl, hr, rfl⟩ := ht;simp only [tkA] at hn;have h2 := kaj9;have h3 := kO0 1 resB (some 5) tt (.inr rfl) (by decide);rw [hr] at h3;have hid : ∀ p, idsE p (strs resB) = true := fun p => xa0 _ _;generalize strs resB = SL at *;have hb4 : ∀ X B, (H.set b X ++ [B])[H.length]? = some B := fun X B => by rw [l'q (by rw [l'D]; exact l'd _), l'D, l'N]; rfl
 have hb5 : ∀ X B Y, (H.set b X ++ [B]).set H.length Y = H.set b X ++ [Y] := fun X B Y => by rw [l'O _ _ (by rw [l'D]; exact l'd _), l'D, l'N]; rfl
 refine wbD9 (K := [.row 4 115 [[.int .u8 1, .str tt, .int .i64 tl, .int .i64 tc]]]) ?_ (l'D ..) (hbel _) rfl;have hsl : ∀ X : Blk, (H.set b X).length = H.length := fun X => l'D ..;unfold rdB rdC at *;refine zp0 31 [.tmp 2] Tryz.func104 rfl rfl rfl (by simp) ?_;intro s ⟨a0, hz⟩;clear hz;repeat' (first|refine nv ?_|(with_reducible first|refine gG ?_ ?_|refine ⟨fun h => ?_, fun h => ?_⟩ <;> try omega|refine andG ?_)|refine cl hn ?_|refine cp h2 ?_ (hi := by (simp [idsL, idsE, AV.ids, hid]))|refine cp h3 ?_ (hi := by (simp [idsL, idsE, AV.ids, hid]))|simp (disch := try exact discB) only [push_cast, simprocAttr, a0, hb4, hb5, hsl])
theorem vbv9 (i k : Nat) (e : Int) (hm : wh0 ts i = .no k e) (hi : i ≤ ts.length) (hb : H[b]? = some (rdB ts c i x0 x1 x2 x3 x4 x5 x6)) (hl : ts.length ≤ 1000000) (hbel : ∀ j : Int, (H.set b (rdB ts c j x0 x1 x2 x3 x4 x5 x6)).all (Blk.below H.length) = true) :
  APan Tryz.prog G0 104 [.ptr b 0 0 1] H (fltV k e) (H.set b (rdB ts c (jnR ts k) x0 x1 x2 x3 x4 x5 x6)) := by
 by_cases hlt : i < ts.length
 ·have hn := qak9 i hb hlt hl (hbel _);have hbl := hbel ((i : Int) + 1);rw [wh0, xp0, if_pos hlt] at hm;simp only [PE.bind] at hm;have hjn : jnR ts i = (i : Int) + 1 := by unfold jnR; omega
  have hlb := (l'c.1 hb).1;have hb3 : ∀ X B, (H.set b X ++ [B])[b]? = some X := fun X B => by rw [l'f (by rw [l'D]; exact hlb)]; exact l'o hlb
  have hb4 : ∀ X B, (H.set b X ++ [B])[H.length]? = some B := fun X B => by rw [l'q (by rw [l'D]; exact l'd _), l'D, l'N]; rfl
  have hb5 : ∀ X B Y, (H.set b X ++ [B]).set H.length Y = H.set b X ++ [Y] := fun X B Y => by rw [l'O _ _ (by rw [l'D]; exact l'd _), l'D, l'N]; rfl
  have hb6 : ∀ X B, (H.set b X ++ [B]).take H.length = H.set b X := fun X B => n'i (l'D ..);have hsl : ∀ X : Blk, (H.set b X).length = H.length := fun X => l'D ..;have hi2 : (i : Int) + 1 - 1 = i := by omega
  have h2 := kaj9;have hf := fun H e => wL0 H (.ptr b 0 0 1) i e;have h3 := kO0 1 resB (some 5) (ts.getD i tk0).t (.inr rfl) (by decide);have hid : ∀ p, idsE p (strs resB) = true := fun p => xa0 _ _;generalize strs resB = SL at *;generalize ts.getD i tk0 = t at *;obtain ⟨tk, tt, tl, tc⟩ := t;simp only at hm h3;simp only [tkA] at hn;unfold rdB rdC at *;by_cases h1 : tk = 1
  ·rw [if_pos h1] at hm;subst h1;split at hm
   ·rename_i hr;rw [hr] at h3;injection hm with q1 q2
    subst q1 q2;rw [hjn];refine vj0 31 Tryz.func104 rfl rfl (by simp) ?_;intro s ⟨a0, hz⟩;clear hz;repeat' (first|(first|(with_reducible refine vb0 (p := [0, 1, 1, 1, 0, 0, 1, 1]) ?_)|refine nav ?_|(refine g0_ ?_; first|refine goD ?_))|(with_reducible first|refine gG ?_ ?_|refine ⟨fun h => ?_, fun h => ?_⟩ <;> try omega|refine andG ?_)|refine cl hn ?_|refine cp h2 ?_ (hi := by (simp [idsL, idsE, AV.ids, hid]))|refine cp h3 ?_ (hi := by (simp [idsL, idsE, AV.ids, hid]))|simp (disch := try exact discB) only [push_cast, simprocAttr, a0, hb3, hb4, hb5, hsl, hi2])
    refine Halt.mk ?_;refine vh0 (p := [0, 1, 1, 1, 0, 0, 1, 1]) 6 (by rfl) (by rfl) (by rfl) (by rfl) ?_;repeat' (first|refine nv ?_|(with_reducible first|refine gG ?_ ?_|refine ⟨fun h => ?_, fun h => ?_⟩ <;> try omega|refine andG ?_)|refine cl hn ?_|refine cp h2 ?_ (hi := by (simp [idsL, idsE, AV.ids, hid]))|refine cp h3 ?_ (hi := by (simp [idsL, idsE, AV.ids, hid]))|simp (disch := try exact discB) only [push_cast, simprocAttr, a0, hb3, hb4, hb5, hsl, hi2])
    exact ke0 trivial rfl rfl rfl kaz9 rfl (hf _ _) ⟨rfl, .inr ⟨by rw [hb6]; exact hbl, hb6 _ _⟩⟩
   ·cases hm
  ·rw [if_neg h1] at hm;injection hm with q1 q2
   subst q1 q2;rw [hjn];refine vj0 31 Tryz.func104 rfl rfl (by simp) ?_;intro s ⟨a0, hz⟩;clear hz;repeat' (first|(first|(with_reducible refine vb0 (p := [0, 1, 0, 0, 1, 1]) ?_)|refine nav ?_|(refine g0_ ?_; first|refine goD ?_))|(with_reducible first|refine gG ?_ ?_|refine ⟨fun h => ?_, fun h => ?_⟩ <;> try omega|refine andG ?_)|refine cl hn ?_|refine cp h2 ?_ (hi := by (simp [idsL, idsE, AV.ids, hid]))|refine cp h3 ?_ (hi := by (simp [idsL, idsE, AV.ids, hid]))|simp (disch := try exact discB) only [push_cast, simprocAttr, a0, hb3, hb4, hb5, hsl, hi2, h1])
   refine Halt.mk ?_;refine vh0 (p := [0, 1, 0, 0, 1, 1]) 6 (by rfl) (by rfl) (by rfl) (by rfl) ?_;repeat' (first|refine nv ?_|(with_reducible first|refine gG ?_ ?_|refine ⟨fun h => ?_, fun h => ?_⟩ <;> try omega|refine andG ?_)|refine cl hn ?_|refine cp h2 ?_ (hi := by (simp [idsL, idsE, AV.ids, hid]))|refine cp h3 ?_ (hi := by (simp [idsL, idsE, AV.ids, hid]))|simp (disch := try exact discB) only [push_cast, simprocAttr, a0, hb3, hb4, hb5, hsl, hi2, h1])
   exact ke0 trivial rfl rfl rfl kaz9 rfl (hf _ _) ⟨rfl, .inr ⟨by rw [hb6]; exact hbl, hb6 _ _⟩⟩
 ·obtain rfl : i = ts.length := by omega
  have hn := qaV9 hb hl (by have := hbel ts.length; rw [war9 hb] at this; exact this);rw [wh0, xp0, if_neg (by omega)] at hm;simp only [PE.bind] at hm;injection hm with h1 h2
  subst h1 h2;rw [show jnR ts (ts.length - 1) = (ts.length : Int) by unfold jnR; omega, war9 hb];refine vj0 31 Tryz.func104 rfl rfl (by simp) ?_;intro s ⟨a0, hz⟩;clear hz;repeat' (first|(first|(with_reducible refine vb0 (p := [0, 1]) ?_)|refine nav ?_|(refine g0_ ?_; first|refine goD ?_))|(with_reducible first|refine gG ?_ ?_|refine ⟨fun h => ?_, fun h => ?_⟩ <;> try omega|refine andG ?_)|simp (disch := try exact discB) only [push_cast, simprocAttr, a0])
  refine Halt.mk ?_;refine vh0 (p := [0, 1]) 1 (by rfl) (by rfl) (by rfl) (by rfl) ?_;repeat' (first|refine nv ?_|(with_reducible first|refine gG ?_ ?_|refine ⟨fun h => ?_, fun h => ?_⟩ <;> try omega|refine andG ?_)|simp (disch := try exact discB) only [push_cast, simprocAttr, a0])
  exact ke0 trivial rfl rfl rfl zcP9 rfl hn ⟨rfl, .inl rfl⟩
end
theorem kbv9 (l : List Bs) (s : Bs) : (idxB l s < l.length → idxI l s = (idxB l s : Int)) ∧ (¬ idxB l s < l.length → idxI l s = -1) := by
 unfold idxI idxB;induction l with
 | nil => exact ⟨fun h => by simp at h, fun _ => rfl⟩
 | cons x xs ih =>
  rw [idxL, List.findIdx_cons, List.length_cons];cases decide (x = s) with
  | true => exact ⟨fun _ => rfl, fun h => by simp at h⟩
  | false =>
   simp only [cond_false, l'I, if_false];refine ⟨fun h => ?_, fun h => ?_⟩
   ·rw [ih.1 (by omega), if_neg (by omega)]; omega
   ·rw [ih.2 (by omega)]; rfl
section
variable {H : List Blk} {b : Nat} {ts : List Tk} {c : Option Nat} {x0 x1 x2 x3 x4 x5 x6 : AV}
theorem qbj9 (ns : List Bs) (cn : Option Nat) (i k : Nat) (hm : ofM ts ns i = .ok k) (hb : H[b]? = some (rdB ts c i x0 x1 x2 x3 x4 x5 x6)) (hn : ns.length ≤ 1000000) (hl : ts.length ≤ 1000000) (hbel : ∀ j : Int, (H.set b (rdB ts c j x0 x1 x2 x3 x4 x5 x6)).all (Blk.below H.length) = true) :
  qb0 Tryz.prog G0 107 [.ptr b 0 0 1, .sl 1 (strs ns) cn] H (.int .i64 k) (H.set b (rdB ts c ((i : Int) + 1) x0 x1 x2 x3 x4 x5 x6)) := by
 unfold ofM at hm;cases hq : wh0 ts i with
 | no i e => rw [hq] at hm; cases hm
 | ok s =>
  rw [hq] at hm;simp only [PE.bind] at hm;split at hm
  ·rename_i hlt;injection hm with hm
   subst hm;have h1 := zak9 s i hq hb hl hbel;have h2 := zbv9 1 ns cn s (.inr rfl) hn;rw [(kbv9 ns s).1 hlt] at h2;have hid : ∀ p, idsE p (strs ns) = true := fun p => xa0 _ _;generalize strs ns = SL at *;generalize idxB ns s = k at *;refine zp0 20 [.tmp 4] Tryz.func107 rfl rfl rfl (by simp) ?_;intro s ⟨a0, a1, hz⟩;simp only [l'g, Nat.reduceAdd] at a1;clear hz;repeat' (first|refine nv ?_|(with_reducible first|refine gG ?_ ?_|refine ⟨fun h => ?_, fun h => ?_⟩ <;> try omega|refine andG ?_)|refine cl h1 ?_|refine cp h2 ?_ (hi := by (simp [idsL, idsE, AV.ids, hid]))|simp (disch := try exact discB) only [push_cast, simprocAttr, a0, a1])
  ·cases hm
theorem kcR9 (ns : List Bs) (cn : Option Nat) (i k : Nat) (e : Int) (hm : ofM ts ns i = .no k e) (hi : i ≤ ts.length) (hb : H[b]? = some (rdB ts c i x0 x1 x2 x3 x4 x5 x6)) (hn : ns.length ≤ 1000000) (hl : ts.length ≤ 1000000) (hbel : ∀ j : Int, (H.set b (rdB ts c j x0 x1 x2 x3 x4 x5 x6)).all (Blk.below H.length) = true) :
  APan Tryz.prog G0 107 [.ptr b 0 0 1, .sl 1 (strs ns) cn] H (fltV k e) (H.set b (rdB ts c (jnR ts k) x0 x1 x2 x3 x4 x5 x6)) := by
 unfold ofM at hm;have hid : ∀ p, idsE p (strs ns) = true := fun p => xa0 _ _;cases hq : wh0 ts i with
 | no i1 e1 =>
  rw [hq] at hm;injection hm with q1 q2
  subst q1 q2;have hn := vbv9 i i1 e1 hq hi hb hl hbel;generalize strs ns = SL at *;refine vj0 20 Tryz.func107 rfl rfl (by simp) ?_;intro s ⟨a0, a1, hz⟩;simp only [l'g, Nat.reduceAdd] at a1;clear hz;repeat' (first|(first|(with_reducible refine vb0 (p := [0, 1]) ?_)|refine nav ?_|(refine g0_ ?_; first|refine goD ?_))|(with_reducible first|refine gG ?_ ?_|refine ⟨fun h => ?_, fun h => ?_⟩ <;> try omega|refine andG ?_)|simp (disch := try exact discB) only [push_cast, simprocAttr, a0, a1])
  refine Halt.mk ?_;refine vh0 (p := [0, 1]) 2 (by rfl) (by rfl) (by rfl) (by rfl) ?_;repeat' (first|refine nv ?_|(with_reducible first|refine gG ?_ ?_|refine ⟨fun h => ?_, fun h => ?_⟩ <;> try omega|refine andG ?_)|simp (disch := try exact discB) only [push_cast, simprocAttr, a0, a1])
  exact ke0 trivial rfl rfl rfl kcO9 rfl hn ⟨rfl, .inl rfl⟩
 | ok s =>
  rw [hq] at hm;simp only [PE.bind] at hm;split at hm
  ·cases hm
  ·rename_i hlt;injection hm with q1 q2
   subst q1 q2;have h1 := zak9 s i hq hb hl hbel;have h2 := zbv9 1 ns cn s (.inr rfl) hn;rw [(kbv9 ns s).2 hlt] at h2;rw [show jnR ts i = (i : Int) + 1 by have := wA0 hq; unfold jnR; omega];have hlb := (l'c.1 hb).1;have hb1 : ∀ X, (H.set b X)[b]? = some X := fun X => l'o hlb;have hi2 : (i : Int) + 1 - 1 = i := by omega
   have hf := fun H => wL0 H (.ptr b 0 0 1) i 7;generalize strs ns = SL at *;unfold rdB rdC at *;refine vj0 20 Tryz.func107 rfl rfl (by simp) ?_;intro s ⟨a0, a1, hz⟩;simp only [l'g, Nat.reduceAdd] at a1;clear hz;repeat' (first|(first|(with_reducible refine vb0 (p := [0, 1, 0, 1, 1]) ?_)|refine nav ?_|(refine g0_ ?_; first|refine goD ?_))|(with_reducible first|refine gG ?_ ?_|refine ⟨fun h => ?_, fun h => ?_⟩ <;> try omega|refine andG ?_)|refine cl h1 ?_|refine cp h2 ?_ (hi := by (simp [idsL, idsE, AV.ids, hid]))|simp (disch := try exact discB) only [push_cast, simprocAttr, a0, a1, hb1, hi2])
   refine Halt.mk ?_;refine vh0 (p := [0, 1, 0, 1, 1]) 6 (by rfl) (by rfl) (by rfl) (by rfl) ?_;repeat' (first|refine nv ?_|(with_reducible first|refine gG ?_ ?_|refine ⟨fun h => ?_, fun h => ?_⟩ <;> try omega|refine andG ?_)|refine cl h1 ?_|refine cp h2 ?_ (hi := by (simp [idsL, idsE, AV.ids, hid]))|simp (disch := try exact discB) only [push_cast, simprocAttr, a0, a1, hb1, hi2])
   exact ke0 trivial rfl rfl rfl kaz9 rfl (hf _) ⟨rfl, .inl rfl⟩
theorem kds9 (i : Nat) (hm : xab9 ts i = .ok ()) (hb : H[b]? = some (rdB ts c i x0 x1 x2 x3 x4 x5 x6)) (hl : ts.length ≤ 1000000) (hbel : ∀ j : Int, (H.set b (rdB ts c j x0 x1 x2 x3 x4 x5 x6)).all (Blk.below H.length) = true) :
  ∃ j : Int, qb0 Tryz.prog G0 68 [.ptr b 0 0 1] H (.tup []) (H.set b (rdB ts c j x0 x1 x2 x3 x4 x5 x6)) := by
 have hlb := (l'c.1 hb).1;have hb1 : ∀ X, (H.set b X)[b]? = some X := fun X => l'o hlb;have hbl2 : ∀ X : Blk, (H.set b X).length = H.length := fun X => l'D ..;have hss : ∀ X Y : Blk, (H.set b X).set b Y = H.set b Y := fun X Y => List.set_set ..;unfold xab9 at hm;cases h1 : xd0 ts kEnd i with
 | no i e => rw [h1] at hm; cases hm
 | ok u1 =>
  rw [h1] at hm;simp only [PE.bind] at hm;cases h2 : xd0 ts [59] (i + 1) with
  | no i e => rw [h2] at hm; cases hm
  | ok u2 =>
   rw [h2] at hm;simp only [PE.bind] at hm;split at hm
   ·cases hm
   rename_i hge;have c1 := zq0 kEnd i h1 hb hl hbel;have c2 := zq0 (H := H.set b (rdB ts c ((i : Int) + 1) x0 x1 x2 x3 x4 x5 x6)) [59] (i + 1) h2 (hb1 _) hl (by intro j; rw [hss, hbl2]; exact hbel j);rw [hss] at c2;have htl := wd0 ts;have hq : ¬ ((i + 1 : Nat) : Int) + 1 < (ts.length : Int) := by omega
   refine ⟨((i + 1 : Nat) : Int) + 1, ?_⟩;generalize ((i + 1 : Nat) : Int) = i1 at *;unfold rdB rdC kEnd at *;generalize tks ts = TS at *;refine zp0 22 [] Tryz.func68 rfl rfl rfl (by simp) ?_;intro s ⟨a0, hz⟩;clear hz;repeat' (first|refine nv ?_|(with_reducible first|refine gG ?_ ?_|refine ⟨fun h => ?_, fun h => ?_⟩ <;> try omega|refine andG ?_)|refine cl c1 ?_|refine cl c2 ?_|simp (disch := try exact discB) only [push_cast, simprocAttr, a0, hb1, htl, hq])
theorem qdt9 (i k : Nat) (e : Int) (hm : xab9 ts i = .no k e) (hi : i ≤ ts.length) (hb : H[b]? = some (rdB ts c i x0 x1 x2 x3 x4 x5 x6)) (hl : ts.length ≤ 1000000) (hbel : ∀ j : Int, (H.set b (rdB ts c j x0 x1 x2 x3 x4 x5 x6)).all (Blk.below H.length) = true) :
  ∃ j : Int, APan Tryz.prog G0 68 [.ptr b 0 0 1] H (fltV k e) (H.set b (rdB ts c j x0 x1 x2 x3 x4 x5 x6)) := by
 have hlb := (l'c.1 hb).1;have hb1 : ∀ X, (H.set b X)[b]? = some X := fun X => l'o hlb;have hbl2 : ∀ X : Blk, (H.set b X).length = H.length := fun X => l'D ..;have hss : ∀ X Y : Blk, (H.set b X).set b Y = H.set b Y := fun X Y => List.set_set ..;unfold xab9 at hm;cases h1 : xd0 ts kEnd i with
 | no i1 e1 =>
  rw [h1] at hm;injection hm with q1 q2
  subst q1 q2;have hn := vL0 kEnd i i1 e1 h1 hi hb hl hbel;refine ⟨jnR ts i1, ?_⟩;unfold kEnd at *;refine vj0 22 Tryz.func68 rfl rfl (by simp) ?_;intro s ⟨a0, hz⟩;clear hz;repeat' (first|(first|(with_reducible refine vb0 (p := [0]) ?_)|refine nav ?_|(refine g0_ ?_; first|refine goD ?_))|(with_reducible first|refine gG ?_ ?_|refine ⟨fun h => ?_, fun h => ?_⟩ <;> try omega|refine andG ?_)|simp (disch := try exact discB) only [push_cast, simprocAttr, a0])
  refine Halt.mk ?_;refine vh0 (p := [0]) 1 (by rfl) (by rfl) (by rfl) (by rfl) ?_;repeat' (first|refine nv ?_|(with_reducible first|refine gG ?_ ?_|refine ⟨fun h => ?_, fun h => ?_⟩ <;> try omega|refine andG ?_)|simp (disch := try exact discB) only [push_cast, simprocAttr, a0])
  exact ke0 trivial rfl rfl rfl xaU9 rfl hn ⟨rfl, .inl rfl⟩
 | ok u1 =>
  rw [h1] at hm;simp only [PE.bind] at hm;have c1 := zq0 kEnd i h1 hb hl hbel;have hit := vm0 h1;cases h2 : xd0 ts [59] (i + 1) with
  | no i1 e1 =>
   rw [h2] at hm;injection hm with q1 q2
   subst q1 q2;have hn := vL0 (H := H.set b (rdB ts c ((i : Int) + 1) x0 x1 x2 x3 x4 x5 x6)) [59] (i + 1) i1 e1 h2 (by omega) (hb1 _) hl (by intro j; rw [hss, hbl2]; exact hbel j);rw [hss] at hn;refine ⟨jnR ts i1, ?_⟩;unfold kEnd at *;refine vj0 22 Tryz.func68 rfl rfl (by simp) ?_;intro s ⟨a0, hz⟩;clear hz;repeat' (first|(first|(with_reducible refine vb0 (p := [0, 1]) ?_)|refine nav ?_|(refine g0_ ?_; first|refine goD ?_))|(with_reducible first|refine gG ?_ ?_|refine ⟨fun h => ?_, fun h => ?_⟩ <;> try omega|refine andG ?_)|refine cl c1 ?_|simp (disch := try exact discB) only [push_cast, simprocAttr, a0])
   refine Halt.mk ?_;refine vh0 (p := [0, 1]) 1 (by rfl) (by rfl) (by rfl) (by rfl) ?_;repeat' (first|refine nv ?_|(with_reducible first|refine gG ?_ ?_|refine ⟨fun h => ?_, fun h => ?_⟩ <;> try omega|refine andG ?_)|refine cl c1 ?_|simp (disch := try exact discB) only [push_cast, simprocAttr, a0])
   exact ke0 trivial rfl rfl rfl xaU9 rfl hn ⟨rfl, .inl rfl⟩
  | ok u2 =>
   rw [h2] at hm;simp only [PE.bind] at hm;split at hm
   ·rename_i hlt;injection hm with q1 q2
    subst q1 q2;have c2 := zq0 (H := H.set b (rdB ts c ((i : Int) + 1) x0 x1 x2 x3 x4 x5 x6)) [59] (i + 1) h2 (hb1 _) hl (by intro j; rw [hss, hbl2]; exact hbel j);rw [hss] at c2;have htl := wd0 ts;have hf := fun H => wL0 H (.ptr b 0 0 1) (i + 2) 4;rw [show ((i + 2 : Nat) : Int) = ((i + 1 : Nat) : Int) + 1 by omega] at hf;have hq : ((i + 1 : Nat) : Int) + 1 < (ts.length : Int) := by omega
    refine ⟨((i + 1 : Nat) : Int) + 1, ?_⟩;generalize ((i + 1 : Nat) : Int) = i1 at *;unfold rdB rdC kEnd at *;generalize tks ts = TS at *;refine vj0 22 Tryz.func68 rfl rfl (by simp) ?_;intro s ⟨a0, hz⟩;clear hz;repeat' (first|(first|(with_reducible refine vb0 (p := [0, 1, 1, 1]) ?_)|refine nav ?_|(refine g0_ ?_; first|refine goD ?_))|(with_reducible first|refine gG ?_ ?_|refine ⟨fun h => ?_, fun h => ?_⟩ <;> try omega|refine andG ?_)|refine cl c1 ?_|refine cl c2 ?_|simp (disch := try exact discB) only [push_cast, simprocAttr, a0, hb1, htl, hq])
    refine Halt.mk ?_;refine vh0 (p := [0, 1, 1, 1]) 5 (by rfl) (by rfl) (by rfl) (by rfl) ?_;repeat' (first|refine nv ?_|(with_reducible first|refine gG ?_ ?_|refine ⟨fun h => ?_, fun h => ?_⟩ <;> try omega|refine andG ?_)|refine cl c1 ?_|refine cl c2 ?_|simp (disch := try exact discB) only [push_cast, simprocAttr, a0, hb1, htl, hq])
    exact ke0 trivial rfl rfl rfl kaz9 rfl (hf _) ⟨rfl, .inl rfl⟩
   ·cases hm
end
end Go.Proofs
