import Derived.Test.YtlpjemobbjijdaaGreatDoorS10
namespace Go.Proofs
open Go Go.V
set_option linter.unusedVariables false
set_option linter.unusedSimpArgs false
set_option maxHeartbeats 0
set_option maxRecDepth 100000
theorem wcf9 {l : List Tk} {w : Bs} {i k : Nat} {e : Int} (h : we0 l w i = .no k e) : e ≠ 8 := by
 unfold we0 zy0 at h
 split at h
 ·simp only [PE.bind] at h
  split at h
  ·cases h
  ·injection h with _ h; omega
 ·injection h with _ h; omega
theorem vdt9 {l : List Tk} {i k : Nat} {e : Int} (h : ql0 l i = .no k e) : e ≠ 8 := by
 unfold ql0 zy0 at h
 split at h
 ·simp only [PE.bind] at h
  split at h
  ·split at h
   ·injection h with _ h; omega
   ·cases h
  ·injection h with _ h; omega
 ·injection h with _ h; omega
theorem of_e {l : List Tk} {ns : List Bs} {i k : Nat} {e : Int} (h : ofM l ns i = .no k e) : e ≠ 8 := by
 unfold ofM at h
 cases h1 : ql0 l i with
 | no a b => rw [h1] at h; injection h with q1 q2; rw [← q2]; exact vdt9 h1
 | ok s =>
  rw [h1] at h
  simp only [PE.bind] at h
  split at h
  ·cases h
  ·injection h with _ h; omega
def jeR (ts : List Tk) (k : Nat) (e : Int) : Int := if e = 8 then ((k + 7 : Nat) : Int) else jnR ts k
def kag9 (l : List Tk) (ins outs sts : List Bs) : Nat → ER → Nat → ER
 | 0, R, _ => R
 | f + 1, R, i => if was9 l i = true then R else match kW0 l ins outs sts i with
  | .no _ _ => R
  | .ok p => if (getE R p.1 p.2.1).1 = -1 then kag9 l ins outs sts f (setE R p.1 p.2.1 ((p.2.2.2 : Int), (p.2.2.1 : Int))) (i + 7) else R
section
variable {ts : List Tk} {c : Option Nat} {P0 P1 P2 P3 P4 : Blk}
theorem xcD9 (n0 : Bs) (k q n : Nat) (ins outs sts : List Bs) (cI cO cS : Option Nat) (hk : ins.length = k) (hn : sts.length = n) (hq : outs.length = q) (hkb : k ≤ 1000) (hqb : q ≤ 1000) (hnb : n ≤ 1000) (R0 : ER) (i0 f0 kk : Nat) (e : Int) (hm : vk0 ts ins outs sts f0 R0 i0 = .no kk e) (hf0 : ts.length < f0 + i0) (hR0 : RectE n k R0) (hl : ts.length ≤ 1000000) (hi0 : i0 ≤ ts.length) (hP : ∀ n : Nat, [P0, P1, P2, P3, P4].all (Blk.below n) = true) :
  APan Tryz.prog G0 67 [.ptr 5 0 0 1] (edH P0 P1 P2 P3 P4 (rdB ts c i0 (.str n0) (.int .i64 k) (.int .i64 q) (.own 6 n n (some n)) (.sl 1 (strs ins) cI) (.sl 1 (strs outs) cO) (.sl 1 (strs sts) cS)) k n R0) (fltV kk e) (edH P0 P1 P2 P3 P4 (rdB ts c (jeR ts kk e) (.str n0) (.int .i64 k) (.int .i64 q) (.own 6 n n (some n)) (.sl 1 (strs ins) cI) (.sl 1 (strs outs) cO) (.sl 1 (strs sts) cS)) k n (kag9 ts ins outs sts f0 R0 i0)) := by
 have hB := fun R (hR : RectE n k R) i => wy0 (ts := ts) (c := c) hP n0 k q n ins outs sts cI cO cS R hR.1 i
 refine wi0 100 Tryz.func67 rfl rfl (by simp) ?_
 intro s ⟨a0, hz⟩
 clear hz
 repeat' (first|refine nv ?_|(with_reducible first|refine gG ?_ ?_|(refine And.intro (fun h => ?_) (fun h => ?_)) <;> try omega|refine andG ?_)|simp (disch := try exact discB) only [push_cast, simprocAttr, a0])
 generalize hRF : kag9 ts ins outs sts f0 R0 i0 = RF
 refine go_loop rfl (fun mz s' H' => ∃ (f : Nat) (R : ER) (i : Nat), vk0 ts ins outs sts f R i = .no kk e ∧ kag9 ts ins outs sts f R i = RF ∧ ts.length < f + i ∧ i ≤ ts.length ∧ RectE n k R ∧ mz = f ∧ H' = edH P0 P1 P2 P3 P4 (rdB ts c i (.str n0) (.int .i64 k) (.int .i64 q) (.own 6 n n (some n)) (.sl 1 (strs ins) cI) (.sl 1 (strs outs) cO) (.sl 1 (strs sts) cS)) k n R ∧ s' 0 = .ptr 5 0 0 1) (m := f0) trivial (Weak.refl _ _) ⟨f0, R0, i0, hm, hRF, hf0, hi0, hR0, rfl, rfl, a0⟩ ?_
 rintro mz s' H' ⟨f, R, i, hg, hF, hfu, hi, hR, rfl, rfl, b0⟩
 have htl := kg0 ts
 have w1 : (ownR 7 k (some k) n).length = n := by simp [ownR]
 obtain ⟨f, rfl⟩ : ∃ f, mz = f + 1 := ⟨mz - 1, by omega⟩
 rw [vk0] at hg
 rw [kag9] at hF
 by_cases hend : was9 ts i = true
 ·rw [if_pos hend] at hg; cases hg
 rw [if_neg hend] at hg hF
 have hd1 : ∀ p, idsE p (strs ins) = true := fun p => xa0 _ _
 have hd2 : ∀ p, idsE p (strs outs) = true := fun p => xa0 _ _
 have hd3 : ∀ p, idsE p (strs sts) = true := fun p => xa0 _ _
 have hd4 : ∀ p, idsE p (tks ts) = true := fun p => wK0 _ _
 have htt : i < ts.length → ¬ (ts.getD i tk0).t = kEnd := fun h q => hend (by unfold was9; rw [Bool.and_eq_true, decide_eq_true_eq, decide_eq_true_eq]; exact ⟨h, q⟩)
 have e1 := xX0 ts i
 unfold kW0 at hg hF
 cases h1 : ofM ts sts i with
 | no x y =>
  rw [h1] at hg hF
  simp only [PE.bind] at hg hF
  injection hg with q1 q2
  subst q1 q2 hF
  have hje : jeR ts x y = jnR ts x := by rw [jeR, if_neg (of_e h1)]
  rw [hje]
  have hn1 := xcC9 (H := edH P0 P1 P2 P3 P4 (rdB ts c i (.str n0) (.int .i64 k) (.int .i64 q) (.own 6 n n (some n)) (.sl 1 (strs ins) cI) (.sl 1 (strs outs) cO) (.sl 1 (strs sts) cS)) k n R) (b := 5) sts cS i x y h1 (by omega) rfl (by omega) hl (hB R hR _)
  unfold edH rdB rdC kEnd at *
  rcases Nat.lt_or_ge i ts.length with hlt|hge
  ·have hne : ¬ (i : Int) = ts.length := by omega
   have e1 := e1 (by omega)
   have htt := htt (by omega)
   generalize ts.getD i tk0 = tt at *
   obtain ⟨tk, tt, tl, tc⟩ := tt
   simp only at htt
   simp only [tkA] at e1
   simp only [List.set_cons_succ, List.set_cons_zero] at hn1
   generalize tks ts = TS at *
   generalize strs ins = S1 at *
   generalize strs outs = S2 at *
   generalize strs sts = S3 at *
   repeat' (first|(first|(with_reducible refine wb0 (p := [0, 1, 0, 1, 0, 0]) ?_)|refine nav ?_|(refine g0_ ?_; first|refine goD ?_))|(with_reducible first|refine gG ?_ ?_|(refine And.intro (fun h => ?_) (fun h => ?_)) <;> try omega|refine andG ?_)|simp (disch := try exact discB) only [push_cast, simprocAttr, b0, htl, e1, hne, htt, w1])
   refine Halt.mk ?_
   refine vg0 (p := [0, 1, 0, 1, 0, 0]) 6 (by rfl) (by rfl) (by rfl) (by rfl) ?_
   repeat' (first|refine nv ?_|(with_reducible first|refine gG ?_ ?_|(refine And.intro (fun h => ?_) (fun h => ?_)) <;> try omega|refine andG ?_)|simp (disch := try exact discB) only [push_cast, simprocAttr, b0, htl, e1, hne, htt, w1])
   exact kd0 trivial rfl rfl rfl kbH9 rfl hn1 ⟨rfl, .inl rfl⟩
  ·obtain rfl : i = ts.length := by omega
   simp only [List.set_cons_succ, List.set_cons_zero] at hn1
   generalize tks ts = TS at *
   generalize strs ins = S1 at *
   generalize strs outs = S2 at *
   generalize strs sts = S3 at *
   repeat' (first|(first|(with_reducible refine wb0 (p := [0, 1, 0, 1, 0, 0]) ?_)|refine nav ?_|(refine g0_ ?_; first|refine goD ?_))|(with_reducible first|refine gG ?_ ?_|(refine And.intro (fun h => ?_) (fun h => ?_)) <;> try omega|refine andG ?_)|simp (disch := try exact discB) only [push_cast, simprocAttr, b0, htl, w1])
   refine Halt.mk ?_
   refine vg0 (p := [0, 1, 0, 1, 0, 0]) 6 (by rfl) (by rfl) (by rfl) (by rfl) ?_
   repeat' (first|refine nv ?_|(with_reducible first|refine gG ?_ ?_|(refine And.intro (fun h => ?_) (fun h => ?_)) <;> try omega|refine andG ?_)|simp (disch := try exact discB) only [push_cast, simprocAttr, b0, htl, w1])
   exact kd0 trivial rfl rfl rfl kbH9 rfl hn1 ⟨rfl, .inl rfl⟩
 | ok v1 =>
 rw [h1] at hg hF
 simp only [PE.bind] at hg hF
 have u1 := vQ0 h1
 have c1 := zaZ9 (H := edH P0 P1 P2 P3 P4 (rdB ts c i (.str n0) (.int .i64 k) (.int .i64 q) (.own 6 n n (some n)) (.sl 1 (strs ins) cI) (.sl 1 (strs outs) cO) (.sl 1 (strs sts) cS)) k n R) (b := 5) sts cS i v1 h1 rfl (by omega) hl (hB R hR _)
 rw [show ((i : Nat) : Int) + 1 = ((i + 1 : Nat) : Int) from rfl] at c1
 have hne : ¬ (i : Int) = ts.length := by omega
 cases h2 : ofM ts ins (i + 1) with
 | no x y =>
  rw [h2] at hg hF
  simp only [PE.bind] at hg hF
  injection hg with q1 q2
  subst q1 q2 hF
  have hje : jeR ts x y = jnR ts x := by rw [jeR, if_neg (of_e h2)]
  rw [hje]
  have hn1 := xcC9 (H := edH P0 P1 P2 P3 P4 (rdB ts c ((i + 1 : Nat) : Int) (.str n0) (.int .i64 k) (.int .i64 q) (.own 6 n n (some n)) (.sl 1 (strs ins) cI) (.sl 1 (strs outs) cO) (.sl 1 (strs sts) cS)) k n R) (b := 5) ins cI (i + 1) x y h2 (by omega) rfl (by omega) hl (hB R hR _)
  unfold edH rdB rdC kEnd at *
  have e1 := e1 (by omega)
  have htt := htt (by omega)
  generalize ts.getD i tk0 = tt at *
  obtain ⟨tk, tt, tl, tc⟩ := tt
  simp only at htt
  simp only [tkA] at e1
  simp only [List.set_cons_succ, List.set_cons_zero] at c1 hn1
  generalize tks ts = TS at *
  generalize strs ins = S1 at *
  generalize strs outs = S2 at *
  generalize strs sts = S3 at *
  generalize ((i + 1 : Nat) : Int) = j1 at *
  generalize ((i + 2 : Nat) : Int) = j2 at *
  generalize ((i + 3 : Nat) : Int) = j3 at *
  generalize ((i + 4 : Nat) : Int) = j4 at *
  generalize ((i + 5 : Nat) : Int) = j5 at *
  generalize ((i + 6 : Nat) : Int) = j6 at *
  generalize ((i + 7 : Nat) : Int) = j7 at *
  repeat' (first|(first|(with_reducible refine wb0 (p := [0, 1, 1, 0, 1, 0, 0]) ?_)|refine nav ?_|(refine g0_ ?_; first|refine goD ?_))|(with_reducible first|refine gG ?_ ?_|(refine And.intro (fun h => ?_) (fun h => ?_)) <;> try omega|refine andG ?_)|refine cl c1 ?_|simp (disch := try exact discB) only [push_cast, simprocAttr, b0, htl, e1, hne, htt, w1])
  refine Halt.mk ?_
  refine vg0 (p := [0, 1, 1, 0, 1, 0, 0]) 6 (by rfl) (by rfl) (by rfl) (by rfl) ?_
  repeat' (first|refine nv ?_|(with_reducible first|refine gG ?_ ?_|(refine And.intro (fun h => ?_) (fun h => ?_)) <;> try omega|refine andG ?_)|refine cl c1 ?_|simp (disch := try exact discB) only [push_cast, simprocAttr, b0, htl, e1, hne, htt, w1])
  exact kd0 trivial rfl rfl rfl kbH9 rfl hn1 ⟨rfl, .inl rfl⟩
 | ok v2 =>
 rw [h2] at hg hF
 simp only [PE.bind] at hg hF
 have u2 := vQ0 h2
 have c2 := zaZ9 (H := edH P0 P1 P2 P3 P4 (rdB ts c ((i + 1 : Nat) : Int) (.str n0) (.int .i64 k) (.int .i64 q) (.own 6 n n (some n)) (.sl 1 (strs ins) cI) (.sl 1 (strs outs) cO) (.sl 1 (strs sts) cS)) k n R) (b := 5) ins cI (i + 1) v2 h2 rfl (by omega) hl (hB R hR _)
 rw [show ((i + 1 : Nat) : Int) + 1 = ((i + 2 : Nat) : Int) from rfl] at c2
 cases h3 : we0 ts [47] (i + 2) with
 | no x y =>
  rw [h3] at hg hF
  simp only [PE.bind] at hg hF
  injection hg with q1 q2
  subst q1 q2 hF
  have hje : jeR ts x y = jnR ts x := by rw [jeR, if_neg (wcf9 h3)]
  rw [hje]
  have hn1 := qI0 (H := edH P0 P1 P2 P3 P4 (rdB ts c ((i + 2 : Nat) : Int) (.str n0) (.int .i64 k) (.int .i64 q) (.own 6 n n (some n)) (.sl 1 (strs ins) cI) (.sl 1 (strs outs) cO) (.sl 1 (strs sts) cS)) k n R) (b := 5) [47] (i + 2) x y h3 (by omega) rfl hl (hB R hR _)
  unfold edH rdB rdC kEnd at *
  have e1 := e1 (by omega)
  have htt := htt (by omega)
  generalize ts.getD i tk0 = tt at *
  obtain ⟨tk, tt, tl, tc⟩ := tt
  simp only at htt
  simp only [tkA] at e1
  simp only [List.set_cons_succ, List.set_cons_zero] at c1 c2 hn1
  generalize tks ts = TS at *
  generalize strs ins = S1 at *
  generalize strs outs = S2 at *
  generalize strs sts = S3 at *
  generalize ((i + 1 : Nat) : Int) = j1 at *
  generalize ((i + 2 : Nat) : Int) = j2 at *
  generalize ((i + 3 : Nat) : Int) = j3 at *
  generalize ((i + 4 : Nat) : Int) = j4 at *
  generalize ((i + 5 : Nat) : Int) = j5 at *
  generalize ((i + 6 : Nat) : Int) = j6 at *
  generalize ((i + 7 : Nat) : Int) = j7 at *
  repeat' (first|(first|(with_reducible refine wb0 (p := [0, 1, 1, 1, 0, 1, 0, 0]) ?_)|refine nav ?_|(refine g0_ ?_; first|refine goD ?_))|(with_reducible first|refine gG ?_ ?_|(refine And.intro (fun h => ?_) (fun h => ?_)) <;> try omega|refine andG ?_)|refine cl c1 ?_|refine cl c2 ?_|simp (disch := try exact discB) only [push_cast, simprocAttr, b0, htl, e1, hne, htt, w1])
  refine Halt.mk ?_
  refine vg0 (p := [0, 1, 1, 1, 0, 1, 0, 0]) 1 (by rfl) (by rfl) (by rfl) (by rfl) ?_
  repeat' (first|refine nv ?_|(with_reducible first|refine gG ?_ ?_|(refine And.intro (fun h => ?_) (fun h => ?_)) <;> try omega|refine andG ?_)|refine cl c1 ?_|refine cl c2 ?_|simp (disch := try exact discB) only [push_cast, simprocAttr, b0, htl, e1, hne, htt, w1])
  exact kd0 trivial rfl rfl rfl zaL9 rfl hn1 ⟨rfl, .inl rfl⟩
 | ok v3 =>
 rw [h3] at hg hF
 simp only [PE.bind] at hg hF
 have u3 := wn0 h3
 have c3 := vn0 (H := edH P0 P1 P2 P3 P4 (rdB ts c ((i + 2 : Nat) : Int) (.str n0) (.int .i64 k) (.int .i64 q) (.own 6 n n (some n)) (.sl 1 (strs ins) cI) (.sl 1 (strs outs) cO) (.sl 1 (strs sts) cS)) k n R) (b := 5) [47] (i + 2) h3 rfl hl (hB R hR _)
 rw [show ((i + 2 : Nat) : Int) + 1 = ((i + 3 : Nat) : Int) from rfl] at c3
 cases h4 : ofM ts outs (i + 3) with
 | no x y =>
  rw [h4] at hg hF
  simp only [PE.bind] at hg hF
  injection hg with q1 q2
  subst q1 q2 hF
  have hje : jeR ts x y = jnR ts x := by rw [jeR, if_neg (of_e h4)]
  rw [hje]
  have hn1 := xcC9 (H := edH P0 P1 P2 P3 P4 (rdB ts c ((i + 3 : Nat) : Int) (.str n0) (.int .i64 k) (.int .i64 q) (.own 6 n n (some n)) (.sl 1 (strs ins) cI) (.sl 1 (strs outs) cO) (.sl 1 (strs sts) cS)) k n R) (b := 5) outs cO (i + 3) x y h4 (by omega) rfl (by omega) hl (hB R hR _)
  unfold edH rdB rdC kEnd at *
  have e1 := e1 (by omega)
  have htt := htt (by omega)
  generalize ts.getD i tk0 = tt at *
  obtain ⟨tk, tt, tl, tc⟩ := tt
  simp only at htt
  simp only [tkA] at e1
  simp only [List.set_cons_succ, List.set_cons_zero] at c1 c2 c3 hn1
  generalize tks ts = TS at *
  generalize strs ins = S1 at *
  generalize strs outs = S2 at *
  generalize strs sts = S3 at *
  generalize ((i + 1 : Nat) : Int) = j1 at *
  generalize ((i + 2 : Nat) : Int) = j2 at *
  generalize ((i + 3 : Nat) : Int) = j3 at *
  generalize ((i + 4 : Nat) : Int) = j4 at *
  generalize ((i + 5 : Nat) : Int) = j5 at *
  generalize ((i + 6 : Nat) : Int) = j6 at *
  generalize ((i + 7 : Nat) : Int) = j7 at *
  repeat' (first|(first|(with_reducible refine wb0 (p := [0, 1, 1, 1, 1, 0, 1, 0, 0]) ?_)|refine nav ?_|(refine g0_ ?_; first|refine goD ?_))|(with_reducible first|refine gG ?_ ?_|(refine And.intro (fun h => ?_) (fun h => ?_)) <;> try omega|refine andG ?_)|refine cl c1 ?_|refine cl c2 ?_|refine cl c3 ?_|simp (disch := try exact discB) only [push_cast, simprocAttr, b0, htl, e1, hne, htt, w1])
  refine Halt.mk ?_
  refine vg0 (p := [0, 1, 1, 1, 1, 0, 1, 0, 0]) 6 (by rfl) (by rfl) (by rfl) (by rfl) ?_
  repeat' (first|refine nv ?_|(with_reducible first|refine gG ?_ ?_|(refine And.intro (fun h => ?_) (fun h => ?_)) <;> try omega|refine andG ?_)|refine cl c1 ?_|refine cl c2 ?_|refine cl c3 ?_|simp (disch := try exact discB) only [push_cast, simprocAttr, b0, htl, e1, hne, htt, w1])
  exact kd0 trivial rfl rfl rfl kbH9 rfl hn1 ⟨rfl, .inl rfl⟩
 | ok v4 =>
 rw [h4] at hg hF
 simp only [PE.bind] at hg hF
 have u4 := vQ0 h4
 have c4 := zaZ9 (H := edH P0 P1 P2 P3 P4 (rdB ts c ((i + 3 : Nat) : Int) (.str n0) (.int .i64 k) (.int .i64 q) (.own 6 n n (some n)) (.sl 1 (strs ins) cI) (.sl 1 (strs outs) cO) (.sl 1 (strs sts) cS)) k n R) (b := 5) outs cO (i + 3) v4 h4 rfl (by omega) hl (hB R hR _)
 rw [show ((i + 3 : Nat) : Int) + 1 = ((i + 4 : Nat) : Int) from rfl] at c4
 cases h5 : we0 ts [45, 62] (i + 4) with
 | no x y =>
  rw [h5] at hg hF
  simp only [PE.bind] at hg hF
  injection hg with q1 q2
  subst q1 q2 hF
  have hje : jeR ts x y = jnR ts x := by rw [jeR, if_neg (wcf9 h5)]
  rw [hje]
  have hn1 := qI0 (H := edH P0 P1 P2 P3 P4 (rdB ts c ((i + 4 : Nat) : Int) (.str n0) (.int .i64 k) (.int .i64 q) (.own 6 n n (some n)) (.sl 1 (strs ins) cI) (.sl 1 (strs outs) cO) (.sl 1 (strs sts) cS)) k n R) (b := 5) [45, 62] (i + 4) x y h5 (by omega) rfl hl (hB R hR _)
  unfold edH rdB rdC kEnd at *
  have e1 := e1 (by omega)
  have htt := htt (by omega)
  generalize ts.getD i tk0 = tt at *
  obtain ⟨tk, tt, tl, tc⟩ := tt
  simp only at htt
  simp only [tkA] at e1
  simp only [List.set_cons_succ, List.set_cons_zero] at c1 c2 c3 c4 hn1
  generalize tks ts = TS at *
  generalize strs ins = S1 at *
  generalize strs outs = S2 at *
  generalize strs sts = S3 at *
  generalize ((i + 1 : Nat) : Int) = j1 at *
  generalize ((i + 2 : Nat) : Int) = j2 at *
  generalize ((i + 3 : Nat) : Int) = j3 at *
  generalize ((i + 4 : Nat) : Int) = j4 at *
  generalize ((i + 5 : Nat) : Int) = j5 at *
  generalize ((i + 6 : Nat) : Int) = j6 at *
  generalize ((i + 7 : Nat) : Int) = j7 at *
  repeat' (first|(first|(with_reducible refine wb0 (p := [0, 1, 1, 1, 1, 1, 0, 1, 0, 0]) ?_)|refine nav ?_|(refine g0_ ?_; first|refine goD ?_))|(with_reducible first|refine gG ?_ ?_|(refine And.intro (fun h => ?_) (fun h => ?_)) <;> try omega|refine andG ?_)|refine cl c1 ?_|refine cl c2 ?_|refine cl c3 ?_|refine cl c4 ?_|simp (disch := try exact discB) only [push_cast, simprocAttr, b0, htl, e1, hne, htt, w1])
  refine Halt.mk ?_
  refine vg0 (p := [0, 1, 1, 1, 1, 1, 0, 1, 0, 0]) 1 (by rfl) (by rfl) (by rfl) (by rfl) ?_
  repeat' (first|refine nv ?_|(with_reducible first|refine gG ?_ ?_|(refine And.intro (fun h => ?_) (fun h => ?_)) <;> try omega|refine andG ?_)|refine cl c1 ?_|refine cl c2 ?_|refine cl c3 ?_|refine cl c4 ?_|simp (disch := try exact discB) only [push_cast, simprocAttr, b0, htl, e1, hne, htt, w1])
  exact kd0 trivial rfl rfl rfl zaL9 rfl hn1 ⟨rfl, .inl rfl⟩
 | ok v5 =>
 rw [h5] at hg hF
 simp only [PE.bind] at hg hF
 have u5 := wn0 h5
 have c5 := vn0 (H := edH P0 P1 P2 P3 P4 (rdB ts c ((i + 4 : Nat) : Int) (.str n0) (.int .i64 k) (.int .i64 q) (.own 6 n n (some n)) (.sl 1 (strs ins) cI) (.sl 1 (strs outs) cO) (.sl 1 (strs sts) cS)) k n R) (b := 5) [45, 62] (i + 4) h5 rfl hl (hB R hR _)
 rw [show ((i + 4 : Nat) : Int) + 1 = ((i + 5 : Nat) : Int) from rfl] at c5
 cases h6 : ofM ts sts (i + 5) with
 | no x y =>
  rw [h6] at hg hF
  simp only [PE.bind] at hg hF
  injection hg with q1 q2
  subst q1 q2 hF
  have hje : jeR ts x y = jnR ts x := by rw [jeR, if_neg (of_e h6)]
  rw [hje]
  have hn1 := xcC9 (H := edH P0 P1 P2 P3 P4 (rdB ts c ((i + 5 : Nat) : Int) (.str n0) (.int .i64 k) (.int .i64 q) (.own 6 n n (some n)) (.sl 1 (strs ins) cI) (.sl 1 (strs outs) cO) (.sl 1 (strs sts) cS)) k n R) (b := 5) sts cS (i + 5) x y h6 (by omega) rfl (by omega) hl (hB R hR _)
  unfold edH rdB rdC kEnd at *
  have e1 := e1 (by omega)
  have htt := htt (by omega)
  generalize ts.getD i tk0 = tt at *
  obtain ⟨tk, tt, tl, tc⟩ := tt
  simp only at htt
  simp only [tkA] at e1
  simp only [List.set_cons_succ, List.set_cons_zero] at c1 c2 c3 c4 c5 hn1
  generalize tks ts = TS at *
  generalize strs ins = S1 at *
  generalize strs outs = S2 at *
  generalize strs sts = S3 at *
  generalize ((i + 1 : Nat) : Int) = j1 at *
  generalize ((i + 2 : Nat) : Int) = j2 at *
  generalize ((i + 3 : Nat) : Int) = j3 at *
  generalize ((i + 4 : Nat) : Int) = j4 at *
  generalize ((i + 5 : Nat) : Int) = j5 at *
  generalize ((i + 6 : Nat) : Int) = j6 at *
  generalize ((i + 7 : Nat) : Int) = j7 at *
  repeat' (first|(first|(with_reducible refine wb0 (p := [0, 1, 1, 1, 1, 1, 1, 0, 1, 0, 0]) ?_)|refine nav ?_|(refine g0_ ?_; first|refine goD ?_))|(with_reducible first|refine gG ?_ ?_|(refine And.intro (fun h => ?_) (fun h => ?_)) <;> try omega|refine andG ?_)|refine cl c1 ?_|refine cl c2 ?_|refine cl c3 ?_|refine cl c4 ?_|refine cl c5 ?_|simp (disch := try exact discB) only [push_cast, simprocAttr, b0, htl, e1, hne, htt, w1])
  refine Halt.mk ?_
  refine vg0 (p := [0, 1, 1, 1, 1, 1, 1, 0, 1, 0, 0]) 6 (by rfl) (by rfl) (by rfl) (by rfl) ?_
  repeat' (first|refine nv ?_|(with_reducible first|refine gG ?_ ?_|(refine And.intro (fun h => ?_) (fun h => ?_)) <;> try omega|refine andG ?_)|refine cl c1 ?_|refine cl c2 ?_|refine cl c3 ?_|refine cl c4 ?_|refine cl c5 ?_|simp (disch := try exact discB) only [push_cast, simprocAttr, b0, htl, e1, hne, htt, w1])
  exact kd0 trivial rfl rfl rfl kbH9 rfl hn1 ⟨rfl, .inl rfl⟩
 | ok v6 =>
 rw [h6] at hg hF
 simp only [PE.bind] at hg hF
 have u6 := vQ0 h6
 have c6 := zaZ9 (H := edH P0 P1 P2 P3 P4 (rdB ts c ((i + 5 : Nat) : Int) (.str n0) (.int .i64 k) (.int .i64 q) (.own 6 n n (some n)) (.sl 1 (strs ins) cI) (.sl 1 (strs outs) cO) (.sl 1 (strs sts) cS)) k n R) (b := 5) sts cS (i + 5) v6 h6 rfl (by omega) hl (hB R hR _)
 rw [show ((i + 5 : Nat) : Int) + 1 = ((i + 6 : Nat) : Int) from rfl] at c6
 cases h7 : we0 ts [59] (i + 6) with
 | no x y =>
  rw [h7] at hg hF
  simp only [PE.bind] at hg hF
  injection hg with q1 q2
  subst q1 q2 hF
  have hje : jeR ts x y = jnR ts x := by rw [jeR, if_neg (wcf9 h7)]
  rw [hje]
  have hn1 := qI0 (H := edH P0 P1 P2 P3 P4 (rdB ts c ((i + 6 : Nat) : Int) (.str n0) (.int .i64 k) (.int .i64 q) (.own 6 n n (some n)) (.sl 1 (strs ins) cI) (.sl 1 (strs outs) cO) (.sl 1 (strs sts) cS)) k n R) (b := 5) [59] (i + 6) x y h7 (by omega) rfl hl (hB R hR _)
  unfold edH rdB rdC kEnd at *
  have e1 := e1 (by omega)
  have htt := htt (by omega)
  generalize ts.getD i tk0 = tt at *
  obtain ⟨tk, tt, tl, tc⟩ := tt
  simp only at htt
  simp only [tkA] at e1
  simp only [List.set_cons_succ, List.set_cons_zero] at c1 c2 c3 c4 c5 c6 hn1
  generalize tks ts = TS at *
  generalize strs ins = S1 at *
  generalize strs outs = S2 at *
  generalize strs sts = S3 at *
  generalize ((i + 1 : Nat) : Int) = j1 at *
  generalize ((i + 2 : Nat) : Int) = j2 at *
  generalize ((i + 3 : Nat) : Int) = j3 at *
  generalize ((i + 4 : Nat) : Int) = j4 at *
  generalize ((i + 5 : Nat) : Int) = j5 at *
  generalize ((i + 6 : Nat) : Int) = j6 at *
  generalize ((i + 7 : Nat) : Int) = j7 at *
  repeat' (first|(first|(with_reducible refine wb0 (p := [0, 1, 1, 1, 1, 1, 1, 1, 0, 1, 0, 0]) ?_)|refine nav ?_|(refine g0_ ?_; first|refine goD ?_))|(with_reducible first|refine gG ?_ ?_|(refine And.intro (fun h => ?_) (fun h => ?_)) <;> try omega|refine andG ?_)|refine cl c1 ?_|refine cl c2 ?_|refine cl c3 ?_|refine cl c4 ?_|refine cl c5 ?_|refine cl c6 ?_|simp (disch := try exact discB) only [push_cast, simprocAttr, b0, htl, e1, hne, htt, w1])
  refine Halt.mk ?_
  refine vg0 (p := [0, 1, 1, 1, 1, 1, 1, 1, 0, 1, 0, 0]) 1 (by rfl) (by rfl) (by rfl) (by rfl) ?_
  repeat' (first|refine nv ?_|(with_reducible first|refine gG ?_ ?_|(refine And.intro (fun h => ?_) (fun h => ?_)) <;> try omega|refine andG ?_)|refine cl c1 ?_|refine cl c2 ?_|refine cl c3 ?_|refine cl c4 ?_|refine cl c5 ?_|refine cl c6 ?_|simp (disch := try exact discB) only [push_cast, simprocAttr, b0, htl, e1, hne, htt, w1])
  exact kd0 trivial rfl rfl rfl zaL9 rfl hn1 ⟨rfl, .inl rfl⟩
 | ok v7 =>
 rw [h7] at hg hF
 simp only [PE.bind] at hg hF
 have u7 := wn0 h7
 have c7 := vn0 (H := edH P0 P1 P2 P3 P4 (rdB ts c ((i + 6 : Nat) : Int) (.str n0) (.int .i64 k) (.int .i64 q) (.own 6 n n (some n)) (.sl 1 (strs ins) cI) (.sl 1 (strs outs) cO) (.sl 1 (strs sts) cS)) k n R) (b := 5) [59] (i + 6) h7 rfl hl (hB R hR _)
 rw [show ((i + 6 : Nat) : Int) + 1 = ((i + 7 : Nat) : Int) from rfl] at c7
 have w2 : (ownR 7 k (some k) n).getD v1 [] = [.own (v1 + 7) k k (some k)] := zaW9 (some k) (by omega)
 have w3 : (xh0 2 70 (R.map rowA))[v1]? = some (.row 2 70 (rowA (R.getD v1 []))) := by
  have hs : v1 < (R.map rowA).length := by rw [List.length_map, hR.1]; omega
  rw [qbt9 rfl hs]
  have hs2 : v1 < R.length := by rw [hR.1]; omega
  simp [hs2]
 have hrl := hR.2 v1 (by omega)
 have w4 : (rowA (R.getD v1 [])).length = k := by rw [vi0, hrl]
 have w5 : (rowA (R.getD v1 [])).getD v2 [] = [.int .i64 (getE R v1 v2).1, .int .i64 (getE R v1 v2).2] := by
  have ha : v2 < (R.getD v1 []).length := by omega
  have hh : ∀ (r : List Edg), v2 < r.length → r.getD v2 (0, 0) = r.getD v2 (-1, -1) := fun r h => by simp [h]
  rw [zp0 _ _ ha, eA, getE, hh _ ha]
 have w6 : (xh0 2 70 (R.map rowA)).set v1 (.row 2 70 ((rowA (R.getD v1 [])).set v2 [.int .i64 v6, .int .i64 v4])) = xh0 2 70 ((setE R v1 v2 ((v6 : Int), (v4 : Int))).map rowA) := by
  rw [qcK9, setE, List.map_set]
  simp [rowA, eA, List.map_set]
 have hRn := kB0 hR v1 v2 ((v6 : Int), (v4 : Int))
 have hsn : v1 < n := by omega
 have han : v2 < k := by omega
 split at hg
 ·rename_i hfree
  rw [if_pos hfree] at hF
  rw [hfree] at w5
  generalize (getE R v1 v2).2 = g2 at *
  have e1 := e1 (by omega)
  have htt := htt (by omega)
  generalize ts.getD i tk0 = tt at *
  obtain ⟨tk, tt, tl, tc⟩ := tt
  simp only at htt
  simp only [tkA] at e1
  unfold edH rdB rdC kEnd at *
  simp only [List.set_cons_succ, List.set_cons_zero] at c1 c2 c3 c4 c5 c6 c7
  generalize tks ts = TS at *
  generalize strs ins = S1 at *
  generalize strs outs = S2 at *
  generalize strs sts = S3 at *
  generalize ((i + 1 : Nat) : Int) = j1 at *
  generalize ((i + 2 : Nat) : Int) = j2 at *
  generalize ((i + 3 : Nat) : Int) = j3 at *
  generalize ((i + 4 : Nat) : Int) = j4 at *
  generalize ((i + 5 : Nat) : Int) = j5 at *
  generalize ((i + 6 : Nat) : Int) = j6 at *
  generalize hj7 : ((i + 7 : Nat) : Int) = j7 at *
  generalize hE' : xh0 2 70 ((setE R v1 v2 ((v6 : Int), (v4 : Int))).map rowA) = E' at *
  generalize xh0 2 70 (R.map rowA) = E at *
  generalize rowA (R.getD v1 []) = r at *
  generalize ownR 7 k (some k) n = RW at *
  repeat' (first|refine nv ?_|(with_reducible first|refine gG ?_ ?_|(refine And.intro (fun h => ?_) (fun h => ?_)) <;> try omega|refine andG ?_)|refine cl c1 ?_|refine cl c2 ?_|refine cl c3 ?_|refine cl c4 ?_|refine cl c5 ?_|refine cl c6 ?_|refine cl c7 ?_|simp (disch := try exact discB) only [push_cast, simprocAttr, b0, htl, e1, hne, htt, w1, w2, w3, w4, w5, w6, hsn, han])
  refine zb0 f (by omega) (by first|exact xb0|fail) ⟨f, _, i + 7, hg, hF, by omega, by omega, hRn, rfl, by rw [hE', hj7], ?_⟩
  simp (disch := try exact discB) only [push_cast, simprocAttr, b0, htl, e1, hne, htt, w1, w2, w3, w4, w5, w6, hsn, han]
 ·rename_i hfree
  rw [if_neg hfree] at hF
  injection hg with q1 q2
  subst q1 q2 hF
  have hje : jeR ts i 8 = ((i + 7 : Nat) : Int) := by rw [jeR, if_pos rfl]
  rw [hje]
  have hf1 := fun H => vH0 H (.ptr 5 0 0 1) i 8
  generalize (getE R v1 v2).1 = g1 at *
  generalize (getE R v1 v2).2 = g2 at *
  have e1 := e1 (by omega)
  have htt := htt (by omega)
  generalize ts.getD i tk0 = tt at *
  obtain ⟨tk, tt, tl, tc⟩ := tt
  simp only at htt
  simp only [tkA] at e1
  unfold edH rdB rdC kEnd at *
  simp only [List.set_cons_succ, List.set_cons_zero] at c1 c2 c3 c4 c5 c6 c7
  generalize tks ts = TS at *
  generalize strs ins = S1 at *
  generalize strs outs = S2 at *
  generalize strs sts = S3 at *
  generalize ((i + 1 : Nat) : Int) = j1 at *
  generalize ((i + 2 : Nat) : Int) = j2 at *
  generalize ((i + 3 : Nat) : Int) = j3 at *
  generalize ((i + 4 : Nat) : Int) = j4 at *
  generalize ((i + 5 : Nat) : Int) = j5 at *
  generalize ((i + 6 : Nat) : Int) = j6 at *
  generalize hj7 : ((i + 7 : Nat) : Int) = j7 at *
  generalize xh0 2 70 (R.map rowA) = E at *
  generalize rowA (R.getD v1 []) = r at *
  generalize ownR 7 k (some k) n = RW at *
  repeat' (first|(first|(with_reducible refine wb0 (p := [0, 1, 0, 1, 1, 1, 1, 1, 1, 1, 1, 0, 1, 0, 0]) ?_)|refine nav ?_|(refine g0_ ?_; first|refine goD ?_))|(with_reducible first|refine gG ?_ ?_|(refine And.intro (fun h => ?_) (fun h => ?_)) <;> try omega|refine andG ?_)|refine cl c1 ?_|refine cl c2 ?_|refine cl c3 ?_|refine cl c4 ?_|refine cl c5 ?_|refine cl c6 ?_|refine cl c7 ?_|simp (disch := try exact discB) only [push_cast, simprocAttr, b0, htl, e1, hne, htt, hfree, w1, w2, w3, w4, w5, hsn, han])
  refine Halt.mk ?_
  refine vg0 (p := [0, 1, 0, 1, 1, 1, 1, 1, 1, 1, 1, 0, 1, 0, 0]) 2 (by rfl) (by rfl) (by rfl) (by rfl) ?_
  repeat' (first|refine nv ?_|(with_reducible first|refine gG ?_ ?_|(refine And.intro (fun h => ?_) (fun h => ?_)) <;> try omega|refine andG ?_)|refine cl c1 ?_|refine cl c2 ?_|refine cl c3 ?_|refine cl c4 ?_|refine cl c5 ?_|refine cl c6 ?_|refine cl c7 ?_|simp (disch := try exact discB) only [push_cast, simprocAttr, b0, htl, e1, hne, htt, hfree, w1, w2, w3, w4, w5, hsn, han])
  exact kd0 trivial rfl rfl rfl xas9 rfl (hf1 _) ⟨rfl, .inl rfl⟩
end
end Go.Proofs
