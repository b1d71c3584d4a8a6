import Derived.Test.YtlpjemobbjijdaaGreatDoorS48
import Derived.Test.YtlpjemobbjijdaaGreatDoorS46
import Derived.Test.YtlpjemobbjijdaaGreatDoorS23
namespace Go.Proofs
open Go Go.V
set_option linter.unusedVariables false
set_option linter.unusedSimpArgs false
set_option maxHeartbeats 0
set_option maxRecDepth 100000
theorem vda9 (s0 : Bs) (hs : s0.length ≤ 1000000) (hlen : (ofS s0).1.length ≤ 1000000) : PC Tryz.prog G0 24 [.str s0] (wcg9 s0) := by
 have h70 := vca9 s0 hs
 unfold refA at h70
 unfold wcg9
 generalize hcc : refC s0 = cc at *
 generalize hR : ofS s0 = R at *
 obtain ⟨ts, l, cl, er⟩ := R
 simp only at h70 hlen ⊢
 have htl := vc0 ts
 by_cases her : er = 0
 rotate_left
 ·rw [if_neg her]
  unfold zSpecA
  refine vb0 2 228 [.cell 2 27, .tmp 3, .tmp 4, .tmp 5] Tryz.func24 rfl rfl rfl (by simp) ?_
  intro s ⟨a0, hz⟩
  clear hz
  repeat' (first|refine nav ?_|(refine g0_ ?_; refine goD ?_)|with_reducible refine gG ?_ ?_|((with_reducible refine And.intro (fun h => ?_) (fun h => ?_)) <;> try (exfalso; omega))|with_reducible refine andG ?_|(first|(refine ⟨_, _, pc_lift h70 (by simp [idsL, idsE, AV.ids, fun p => vk0 p ts]) _, ?_⟩)|(refine ⟨_, pc_lift h70 (by simp [idsL, idsE, AV.ids, fun p => vk0 p ts]) _, ?_⟩)|(refine ⟨_, fun _ => pc_lift h70 (by simp [idsL, idsE, AV.ids, fun p => vk0 p ts]) _, ?_⟩))|simp (disch := try exact discB) only [push_cast, simprocAttr, a0, her])
 ·subst her
  rw [if_pos rfl]
  have b1 := kC0 (l := ts) (w := kMac) (r := (0, 0)) (fun _ => Nat.zero_le _)
  have b2 := vcB9 b1
  have b3 := kC0 (w := [59]) b2
  have b4 := vaN9 (w := kIns) (m := 16) b3
  have b5 := vaN9 (w := km0) (m := 16) b4
  have b6 := vaN9 (w := kSts) (m := 64) b5
  have c1 := vX0 ts cc g0 kMac (0, 0) hlen (fun _ => Nat.zero_le _)
  have c2 := vcf9 ts cc g0 _ hlen b1
  have c3 := vX0 ts cc {g0 with nm := (rdN ts).2} [59] _ hlen b2
  have c4 := kcf9 ts cc {g0 with nm := (rdN ts).2} kIns 16 _ hlen b3 (by omega)
  have c5 := kcf9 ts cc {g0 with nm := (rdN ts).2, zi := zB (rdI ts).2, I := (rdI ts).2, ci := cB (rdI ts).2} km0 16 _ hlen b4 (by omega)
  have c6 := kcf9 ts cc {g0 with nm := (rdN ts).2, zi := zB (rdI ts).2, I := (rdI ts).2, ci := cB (rdI ts).2, zo := zB (rdO ts).2, O := (rdO ts).2, co := cB (rdO ts).2} kSts 64 _ hlen b5 (by omega)
  have hrd := qcH9 ts
  have l1 : (rdI ts).2.length ≤ 16 := kav9 _ _ _ _
  have l2 : (rdO ts).2.length ≤ 16 := kav9 _ _ _ _
  have l3 : (rdQ ts).2.length ≤ 64 := kav9 _ _ _ _
  rw [show qai9 ts (xg0 ts kMac (0, 0)) = rdN ts from rfl] at *
  rw [show vx0 ts kIns 16 (xg0 ts [59] (rdN ts).1) = rdI ts from rfl] at *
  rw [show vx0 ts km0 16 (rdI ts).1 = rdO ts from rfl] at *
  rw [show vx0 ts kSts 64 (rdO ts).1 = rdQ ts from rfl] at *
  have hE : rdE ts = edS ts (rdI ts).2 (rdO ts).2 (rdQ ts).2 (ts.length + 1) (List.replicate (rdQ ts).2.length (row0 (rdI ts).2.length)) (rdQ ts).1 := rfl
  unfold rdF rdT at hrd
  generalize rdE ts = E at *
  generalize rdQ ts = Q at *
  generalize rdO ts = O at *
  generalize rdI ts = I at *
  generalize xg0 ts [59] (rdN ts).1 = r3 at *
  generalize rdN ts = N at *
  generalize xg0 ts kMac (0, 0) = r1 at *
  obtain ⟨⟨q6, e6⟩, Q⟩ := Q
  obtain ⟨⟨q5, e5⟩, O⟩ := O
  obtain ⟨⟨q4, e4⟩, I⟩ := I
  obtain ⟨q3, e3⟩ := r3
  obtain ⟨⟨q2, e2⟩, N⟩ := N
  obtain ⟨q1, e1⟩ := r1
  simp only at *
  have t1 := xa0 I
  have t2 := xa0 O
  have t3 := xa0 Q
  have i1 : ∀ p, idsE p (strs I) = true := fun p => za0 p _
  have i2 : ∀ p, idsE p (strs O) = true := fun p => za0 p _
  have i3 : ∀ p, idsE p (strs Q) = true := fun p => za0 p _
  have i4 : ∀ p, idsE p (tks ts) = true := fun p => vk0 p _
  unfold stR g0 kMac kIns km0 kSts at *
  simp only [kaL9] at c1 c2 c3 c4 c5 c6
  refine vb0 2 228 [.cell 2 27, .tmp 3, .tmp 4, .tmp 5] Tryz.func24 rfl rfl rfl (by simp) ?_
  intro s ⟨a0, hz⟩
  clear hz
  repeat' (first|refine nav ?_|(refine g0_ ?_; refine goD ?_)|with_reducible refine gG ?_ ?_|((with_reducible refine And.intro (fun h => ?_) (fun h => ?_)) <;> try (exfalso; omega))|with_reducible refine andG ?_|(first|(refine ⟨_, _, pc_lift h70 (by simp [idsL, idsE, AV.ids, i1, i2, i3, i4]) _, ?_⟩)|(refine ⟨_, pc_lift h70 (by simp [idsL, idsE, AV.ids, i1, i2, i3, i4]) _, ?_⟩)|(refine ⟨_, fun _ => pc_lift h70 (by simp [idsL, idsE, AV.ids, i1, i2, i3, i4]) _, ?_⟩)|(refine ⟨_, _, pc_lift c1 (by simp [idsL, idsE, AV.ids, i1, i2, i3, i4]) _, ?_⟩)|(refine ⟨_, pc_lift c1 (by simp [idsL, idsE, AV.ids, i1, i2, i3, i4]) _, ?_⟩)|(refine ⟨_, fun _ => pc_lift c1 (by simp [idsL, idsE, AV.ids, i1, i2, i3, i4]) _, ?_⟩)|(refine ⟨_, _, pc_lift c2 (by simp [idsL, idsE, AV.ids, i1, i2, i3, i4]) _, ?_⟩)|(refine ⟨_, pc_lift c2 (by simp [idsL, idsE, AV.ids, i1, i2, i3, i4]) _, ?_⟩)|(refine ⟨_, fun _ => pc_lift c2 (by simp [idsL, idsE, AV.ids, i1, i2, i3, i4]) _, ?_⟩)|(refine ⟨_, _, pc_lift c3 (by simp [idsL, idsE, AV.ids, i1, i2, i3, i4]) _, ?_⟩)|(refine ⟨_, pc_lift c3 (by simp [idsL, idsE, AV.ids, i1, i2, i3, i4]) _, ?_⟩)|(refine ⟨_, fun _ => pc_lift c3 (by simp [idsL, idsE, AV.ids, i1, i2, i3, i4]) _, ?_⟩)|(refine ⟨_, _, pc_lift c4 (by simp [idsL, idsE, AV.ids, i1, i2, i3, i4]) _, ?_⟩)|(refine ⟨_, pc_lift c4 (by simp [idsL, idsE, AV.ids, i1, i2, i3, i4]) _, ?_⟩)|(refine ⟨_, fun _ => pc_lift c4 (by simp [idsL, idsE, AV.ids, i1, i2, i3, i4]) _, ?_⟩)|(refine ⟨_, _, pc_lift c5 (by simp [idsL, idsE, AV.ids, i1, i2, i3, i4]) _, ?_⟩)|(refine ⟨_, pc_lift c5 (by simp [idsL, idsE, AV.ids, i1, i2, i3, i4]) _, ?_⟩)|(refine ⟨_, fun _ => pc_lift c5 (by simp [idsL, idsE, AV.ids, i1, i2, i3, i4]) _, ?_⟩)|(refine ⟨_, _, pc_lift c6 (by simp [idsL, idsE, AV.ids, i1, i2, i3, i4]) _, ?_⟩)|(refine ⟨_, pc_lift c6 (by simp [idsL, idsE, AV.ids, i1, i2, i3, i4]) _, ?_⟩)|(refine ⟨_, fun _ => pc_lift c6 (by simp [idsL, idsE, AV.ids, i1, i2, i3, i4]) _, ?_⟩))|simp (disch := try exact discB) only [push_cast, simprocAttr, a0, t1, t2, t3, htl])
  refine go_loop rfl (fun mz s' H' => ∃ w : Nat, w ≤ Q.length ∧ mz = Q.length - w ∧ H' = h24 (.row 10 123 [[.sl 4 (tks ts) cc, .int .i64 q6, .int .i64 e6, .str N, .int .i64 0, .int .i64 0, .sl 0 [] (some 0), .sl (zB I) (strs I) (cB I), .sl (zB O) (strs O) (cB O), .sl (zB Q) (strs Q) (cB Q)]]) N I O Q w (List.replicate w (row0 I.length)) ∧ s' 2 = .ptr 0 0 0 1 ∧ s' 6 = .sl 4 (tks ts) cc ∧ s' 10 = .ptr 1 0 0 1 ∧ s' 11 = .ptr 2 0 0 1 ∧ s' 12 = .int .i64 w) (m := Q.length) (by first|exact xb0|fail) (qC0 (b := 2) (i := 0) (j := 3) (sz := 1) (ty := 50) rfl rfl rfl) ⟨0, by omega, by omega, by simp [h24, qcr9, xdi9], ?_⟩ ?_
  ·simp (disch := try exact discB) only [push_cast, simprocAttr, a0, t1, t2, t3, htl]
  ·rintro mz s' H' ⟨w, hw, rfl, rfl, d2, d6, d10, d11, d12⟩
   have hN : ((List.replicate w (row0 I.length)).map rowA).length = w := by simp
   rcases Nat.lt_or_ge w Q.length with hlt|hge
   ·have k0 := fun A K => qcE9 (z := 2) (t := 70) A K hN
    have s0 := fun A B K => zbT9 (z := 2) (t := 70) A B K hN
    have hlti : (w : Int) < Q.length := by omega
    clear c1 c2 c3 c4 c5 c6 a0 h70
    unfold h24
    repeat' (first|((first|refine nav ?_|(refine g0_ ?_; refine goD ?_)) <;> (try simp (disch := try exact discB) only [push_cast, simprocAttr, d2, d6, d10, d11, d12, t1, t2, t3, hlti, k0, s0, hN, ww0]))|with_reducible refine gG ?_ ?_|((with_reducible refine And.intro (fun h => ?_) (fun h => ?_)) <;> try (exfalso; omega))|with_reducible refine andG ?_|simp (disch := try exact discB) only [push_cast, simprocAttr, d2, d6, d10, d11, d12, t1, t2, t3, hlti, k0, s0, hN, ww0])
    refine go_loop rfl (fun mz s' H' => ∃ j : Nat, j ≤ I.length ∧ mz = I.length - j ∧ H' = h24 (.row 10 123 [[.sl 4 (tks ts) cc, .int .i64 q6, .int .i64 e6, .str N, .int .i64 0, .int .i64 0, .sl 0 [] (some 0), .sl (zB I) (strs I) (cB I), .sl (zB O) (strs O) (cB O), .sl (zB Q) (strs Q) (cB Q)]]) N I O Q w (List.replicate w (row0 I.length)) ++ [.row 2 70 (rowA (row0 j))] ∧ s' 2 = .ptr 0 0 0 1 ∧ s' 6 = .sl 4 (tks ts) cc ∧ s' 10 = .ptr 1 0 0 1 ∧ s' 11 = .ptr 2 0 0 1 ∧ s' 12 = .int .i64 w ∧ s' 13 = .own (w + 4) j j none ∧ s' 14 = .int .i64 j) (m := I.length) (by first|exact xb0|fail) (kB0 (t := 13) (sz := 2) (ty := 70) rfl) ⟨0, by omega, by omega, by simp [h24, rowA, row0], ?_⟩ ?_
    ·have hle : (h24 (.row 10 123 [[.sl 4 (tks ts) cc, .int .i64 q6, .int .i64 e6, .str N, .int .i64 0, .int .i64 0, .sl 0 [] (some 0), .sl (zB I) (strs I) (cB I), .sl (zB O) (strs O) (cB O), .sl (zB Q) (strs Q) (cB Q)]]) N I O Q w (List.replicate w (row0 I.length))).length = w + 4 := by simp [h24, ww0]
     unfold h24 at hle
     simp (disch := try exact discB) only [push_cast, simprocAttr, d2, d6, d10, d11, d12, hle]
    ·rintro mz s2 H2 ⟨j, hj, rfl, rfl, f2, f6, f10, f11, f12, f13, f14⟩
     have hlj : (rowA (row0 j)).length = j := by rw [zg0, qal9]
     have r1 := kcg9 j
     rcases Nat.lt_or_ge j I.length with hjl|hjg
     ·have hjli : (j : Int) < I.length := by omega
      unfold h24
      repeat' (first|((first|refine nav ?_|(refine g0_ ?_; refine goD ?_)) <;> (try simp (disch := try exact discB) only [push_cast, simprocAttr, f2, f6, f10, f11, f12, f13, f14, t1, t2, t3, hjli, k0, s0, hN, ww0, hlj, r1, qal9]))|with_reducible refine gG ?_ ?_|((with_reducible refine And.intro (fun h => ?_) (fun h => ?_)) <;> try (exfalso; omega))|with_reducible refine andG ?_|simp (disch := try exact discB) only [push_cast, simprocAttr, f2, f6, f10, f11, f12, f13, f14, t1, t2, t3, hjli, k0, s0, hN, ww0, hlj, r1, qal9])
      refine wa0 (I.length - (j + 1)) (by omega) (by first|exact xb0|fail) ⟨j + 1, by omega, rfl, by rfl, ?_⟩
      simp (disch := try exact discB) only [push_cast, simprocAttr, f2, f6, f10, f11, f12, f13, f14, t1, t2, t3, hjli, k0, s0, hN, ww0, hlj, r1, qal9]
     ·obtain rfl : j = I.length := by omega
      have hjli : ¬ (I.length : Int) < I.length := by omega
      unfold h24
      have g1 := kaV9 4 I.length none w
      have g2 : (ownR 4 I.length none w).take w = ownR 4 I.length none w := List.take_of_length_le (by rw [vm0]; omega)
      have g3 : (ownR 4 I.length none w).drop (w + 1) = [] := List.drop_eq_nil_of_le (by rw [vm0]; omega)
      have g4 : kd0 2 70 (List.map rowA (List.replicate w (row0 I.length))) ++ [Blk.row 2 70 (rowA (row0 I.length))] = kd0 2 70 (List.map rowA (List.replicate (w + 1) (row0 I.length))) := by
       rw [xbT9, List.replicate_succ', List.map_append]; rfl
      repeat' (first|((first|refine nav ?_|(refine g0_ ?_; refine goD ?_)) <;> (try simp (disch := try exact discB) only [push_cast, simprocAttr, f2, f6, f10, f11, f12, f13, f14, t1, t2, t3, hjli, k0, s0, hN, ww0, hlj, r1, vm0, g1, g2, g3]))|with_reducible refine gG ?_ ?_|((with_reducible refine And.intro (fun h => ?_) (fun h => ?_)) <;> try (exfalso; omega))|with_reducible refine andG ?_|simp (disch := try exact discB) only [push_cast, simprocAttr, f2, f6, f10, f11, f12, f13, f14, t1, t2, t3, hjli, k0, s0, hN, ww0, hlj, r1, vm0, g1, g2, g3])
      refine wa0 (Q.length - (w + 1)) (by omega) (by first|exact xb0|fail) ⟨w + 1, by omega, rfl, by rw [g4], ?_⟩
      simp (disch := try exact discB) only [push_cast, simprocAttr, f2, f6, f10, f11, f12, f13, f14, t1, t2, t3, hjli, k0, s0, hN, ww0, hlj, r1, vm0, g1, g2, g3]
   ·obtain rfl : w = Q.length := by omega
    have hR0 : RectE Q.length I.length (List.replicate Q.length (row0 I.length)) := vcb9 _ _
    generalize hRd : List.replicate Q.length (row0 I.length) = R0 at *
    have hge2 : ¬ (Q.length : Int) < Q.length := by omega
    clear c1 c2 c3 c4 c5 c6 a0 h70
    unfold h24
    repeat' (first|((first|refine nav ?_|(refine g0_ ?_; refine goD ?_)) <;> (try simp (disch := try exact discB) only [push_cast, simprocAttr, d2, d6, d10, d11, d12, t1, t2, t3, hge2]))|with_reducible refine gG ?_ ?_|((with_reducible refine And.intro (fun h => ?_) (fun h => ?_)) <;> try (exfalso; omega))|with_reducible refine andG ?_|simp (disch := try exact discB) only [push_cast, simprocAttr, d2, d6, d10, d11, d12, t1, t2, t3, hge2])
    refine wda9 ts cc N I O Q R0 (q6, e6) E hlen b6 l1 l2 l3 hR0 hE.symm hrd _ ?_ ?_ ?_ ?_
    ·simp (disch := try exact discB) only [push_cast, simprocAttr, d2, d6, d10, d11, d12, t1, t2, t3, hge2]
    ·simp (disch := try exact discB) only [push_cast, simprocAttr, d2, d6, d10, d11, d12, t1, t2, t3, hge2]
    ·simp (disch := try exact discB) only [push_cast, simprocAttr, d2, d6, d10, d11, d12, t1, t2, t3, hge2]
    ·simp (disch := try exact discB) only [push_cast, simprocAttr, d2, d6, d10, d11, d12, t1, t2, t3, hge2]
end Go.Proofs
namespace Go.Proofs
open Go Go.V
set_option linter.unusedVariables false
set_option linter.unusedSimpArgs false
def TkOk (l : List Tk) : Prop := ∀ t ∈ l, vA0 t.k t.t
theorem qY0 : ∀ (n : Nat) (s : Bs), s.length < n → ∀ (l c : Int) (ts : List Tk), lexR s l c = .ok ts → ts.length ≤ s.length ∧ TkOk ts
 | 0, s, h => absurd h (Nat.not_lt_zero _)
 | n + 1, [], _ => fun l c ts h => by
  rw [zak9] at h; injection h with h; subst h; exact ⟨Nat.le_refl _, fun t ht => by cases ht⟩
 | n + 1, b :: r, hn => fun l c ts h => by
  simp only [List.length_cons] at hn
  rw [wo0] at h
  split at h
  ·have := qY0 n r (by omega) _ _ _ h; exact ⟨by simp only [List.length_cons]; omega, this.2⟩
  split at h
  ·have := qY0 n r (by omega) _ _ _ h; exact ⟨by simp only [List.length_cons]; omega, this.2⟩
  split at h
  ·have hl := waL9 r
   have := qY0 n (toNl r) (by omega) _ _ _ h; exact ⟨by simp only [List.length_cons]; omega, this.2⟩
  split at h
  ·cases h
  rename_i he
  have he : (tokS (b :: r)).2.2 = 0 := Classical.not_not.1 he
  have hp := kI0 he
  have hle := kas9 (b :: r)
  have hs := qbX9 b r he
  cases hr : lexR ((b :: r).drop (tokS (b :: r)).2.1) l (c + (tokS (b :: r)).2.1) with
  | err x y z => rw [hr] at h; cases h
  | ok ts' =>
   rw [hr] at h
   injection h with h
   subst h
   have hd : ((b :: r).drop (tokS (b :: r)).2.1).length = (b :: r).length - (tokS (b :: r)).2.1 := List.length_drop ..
   have ih := qY0 n _ (by rw [hd]; simp only [List.length_cons]; omega) _ _ _ hr
   refine ⟨?_, ?_⟩
   ·have := ih.1; rw [hd] at this; simp only [List.length_cons] at *; omega
   ·intro t ht
    rcases List.mem_cons.1 ht with q|q
    ·subst q
     have hlen : ((b :: r).take (tokS (b :: r)).2.1).length = (tokS (b :: r)).2.1 := by rw [List.length_take]; omega
     refine ⟨?_, fun e => ?_⟩
     ·show tokS ((b :: r).take (tokS (b :: r)).2.1) = ((tokS (b :: r)).1, ((b :: r).take (tokS (b :: r)).2.1).length, 0)
      rw [hs, hlen, ← he]
     ·have : ((b :: r).take (tokS (b :: r)).2.1).length = 0 := congrArg List.length (show (b :: r).take (tokS (b :: r)).2.1 = [] from e)
      omega
    ·exact ih.2 t q
theorem zcC9 (s : Bs) : (ofS s).1.length ≤ s.length ∧ TkOk (ofS s).1 := by
 unfold ofS
 split
 ·exact ⟨Nat.zero_le _, fun t ht => by cases ht⟩
 ·cases h : lexR s 1 1 with
  | ok ts => exact qY0 _ s (Nat.lt_succ_self _) _ _ _ h
  | err l c e => exact ⟨Nat.zero_le _, fun t ht => by cases ht⟩
theorem xbb9 {l : List Tk} {i : Nat} {s : Bs} (hl : TkOk l) (h : qh0 l i = .ok s) : nmB s = true := by
 unfold qh0 qn0 at h
 split at h
 ·rename_i hlt
  simp only [PE.bind] at h
  split at h
  ·rename_i hk
   split at h
   ·cases h
   ·rename_i hres
    injection h with h
    subst h
    have hv := hl (l.getD i tk0) (by rw [List.getD_eq_getElem?_getD, List.getElem?_eq_getElem hlt]; exact List.getElem_mem hlt)
    rw [hk] at hv
    unfold nmB
    rw [decide_eq_true ((vV0 1 _).2 hv), Bool.eq_false_iff.2 hres]; rfl
  ·cases h
 ·cases h
theorem vaF9 {l : List Tk} {most : Nat} (hl : TkOk l) : ∀ {f i : Nat} {o : List Bs} {q : List Bs × Nat}, wK0 l most f o i = .ok q → (∀ s ∈ o, nmB s = true) → o.Nodup → (∀ s ∈ q.1, nmB s = true) ∧ q.1.Nodup
 | 0, i, o, q, h => by cases h
 | f + 1, i, o, q, h => fun ho hd => by
  obtain ⟨f', s, e, hn, hc, _, _, h⟩ := wak9 h
  injection e with e
  subst e
  have hs := xbb9 hl hn
  have ho2 : ∀ x ∈ o ++ [s], nmB x = true := fun x hx => by
   rcases List.mem_append.1 hx with q|q
   ·exact ho x q
   ·rw [List.mem_singleton] at q; rw [q]; exact hs
  have hd2 : (o ++ [s]).Nodup := by
   have : ¬ s ∈ o := fun q => by rw [List.contains_iff_mem.2 q] at hc; cases hc
   rw [List.nodup_append]
   refine ⟨hd, by simp, fun a ha b hb => ?_⟩
   rw [List.mem_singleton] at hb
   subst hb
   rintro rfl
   exact this ha
  rcases h with ⟨_, h⟩|⟨_, h⟩
  ·rw [h]; exact ⟨ho2, hd2⟩
  ·exact vaF9 hl h ho2 hd2
theorem zae9 {l : List Tk} {w : Bs} {most i : Nat} (hl : TkOk l) {q : List Bs × Nat} (h : kj0 l w most i = .ok q) : (∀ s ∈ q.1, nmB s = true) ∧ q.1.Nodup := by
 unfold kj0 at h
 cases h1 : zd0 l w i with
 | no a b => rw [h1] at h; cases h
 | ok u => rw [h1] at h; exact vaF9 hl h (fun s hs => by cases hs) List.nodup_nil
def FitR (o n : Int) (R : ER) : Prop := ∀ r ∈ R, ∀ e ∈ r, fitE o n e = true
theorem xcC9 {o n : Int} {R : ER} (h : FitR o n R) (s a : Nat) (e : Int × Int) (he : fitE o n e = true) : FitR o n (setE R s a e) := by
 intro r hr x hx
 unfold setE at hr
 rcases List.mem_or_eq_of_mem_set hr with q|q
 ·exact h r q x hx
 ·subst q
  rcases List.mem_or_eq_of_mem_set hx with q2|q2
  ·by_cases hs : s < R.length
   ·refine h (R.getD s []) ?_ x q2
    rw [List.getD_eq_getElem?_getD, List.getElem?_eq_getElem hs]; exact List.getElem_mem hs
   ·rw [List.getD_eq_getElem?_getD, List.getElem?_eq_none (by omega)] at q2; cases q2
  ·rw [q2]; exact he
theorem kaF9 {l : List Tk} {ins outs sts : List Bs} {r : ER × Nat} : ∀ {f i : Nat} {R : ER}, kk0 l ins outs sts f R i = .ok r → FitR outs.length sts.length R → FitR outs.length sts.length r.1
 | 0, i, R, h, hR => by cases h
 | f + 1, i, R, h, hR => by
  rw [kk0] at h
  split at h
  ·injection h with h; rw [← h]; exact hR
  cases he : vK0 l ins outs sts i with
  | no x y => rw [he] at h; cases h
  | ok p =>
   obtain ⟨s, a, o, t⟩ := p
   obtain ⟨_, _, _, h4, _, h6, _⟩ := wJ0 he
   have v4 := (vC0 h4).2
   have v6 := (vC0 h6).2
   rw [he] at h
   simp only [PE.bind] at h
   split at h
   ·exact kaF9 h (xcC9 hR _ _ _ (fitE_iff.2 (.inr ⟨by simp, by simp only; omega, by simp, by simp only; omega⟩)))
   ·cases h
structure kda9 (p : qac9) : Prop where
 nm : nmB p.name = true
 i : (∀ s ∈ p.ins, nmB s = true) ∧ p.ins.Nodup ∧ p.ins ≠ [] ∧ p.ins.length ≤ 16
 o : (∀ s ∈ p.outs, nmB s = true) ∧ p.outs.Nodup ∧ p.outs ≠ [] ∧ p.outs.length ≤ 16
 s : (∀ s ∈ p.sts, nmB s = true) ∧ p.sts.Nodup ∧ p.sts ≠ [] ∧ p.sts.length ≤ 64
 r : RectE p.sts.length p.ins.length p.rows
 f : FitR p.outs.length p.sts.length p.rows
theorem vbF9 {l : List Tk} {p : qac9} (hl : TkOk l) (h : xk0 l = .ok p) (hne : p.ins ≠ [] ∧ p.outs ≠ [] ∧ p.sts ≠ []) : kda9 p := by
 unfold xk0 at h
 cases h0 : xC0 l with
 | no a b => rw [h0] at h; cases h
 | ok n =>
 rw [h0] at h
 simp only [PE.bind] at h
 cases h1 : xp0 l with
 | no a b => rw [h1] at h; cases h
 | ok p =>
 obtain ⟨I, O, Q, i⟩ := p
 rw [h1] at h
 simp only at h
 have hL := vW0 h1
 cases h2 : kk0 l I O Q (l.length + 1) (List.replicate Q.length (row0 I.length)) i with
 | no a b => rw [h2] at h; cases h
 | ok q =>
 rw [h2] at h
 simp only at h
 cases h3 : kah9 l q.2 with
 | no a b => rw [h3] at h; cases h
 | ok u =>
 rw [h3] at h
 injection h with h
 subst h
 obtain ⟨n1, n2, n3⟩ := hne
 unfold xp0 at h1
 cases g1 : kj0 l kIns 16 3 with
 | no a b => rw [g1] at h1; cases h1
 | ok u =>
 rw [g1] at h1
 simp only [PE.bind] at h1
 cases g2 : kj0 l km0 16 u.2 with
 | no a b => rw [g2] at h1; cases h1
 | ok v =>
 rw [g2] at h1
 simp only at h1
 cases g3 : kj0 l kSts 64 v.2 with
 | no a b => rw [g3] at h1; cases h1
 | ok w =>
 rw [g3] at h1
 injection h1 with h1
 simp only [Prod.mk.injEq] at h1
 obtain ⟨rfl, rfl, rfl, rfl⟩ := h1
 have k1 := zae9 hl g1
 have k2 := zae9 hl g2
 have k3 := zae9 hl g3
 refine ⟨?_, ⟨k1.1, k1.2, n1, hL.1⟩, ⟨k2.1, k2.2, n2, hL.2.1⟩, ⟨k3.1, k3.2, n3, hL.2.2.1⟩, kP0 h2 (vcb9 _ _), kaF9 h2 ?_⟩
 ·unfold xC0 at h0
  cases m1 : zd0 l kMac 0 with
  | no a b => rw [m1] at h0; cases h0
  | ok u =>
  rw [m1] at h0
  simp only [PE.bind] at h0
  cases m2 : qh0 l 1 with
  | no a b => rw [m2] at h0; cases h0
  | ok s =>
  rw [m2] at h0
  simp only at h0
  cases m3 : zd0 l [59] 2 with
  | no a b => rw [m3] at h0; cases h0
  | ok u =>
  rw [m3] at h0
  injection h0 with h0
  subst h0
  exact xbb9 hl m2
 ·intro r hr e he
  rw [List.eq_of_mem_replicate hr] at he
  rw [List.eq_of_mem_replicate he]
  exact fitE_iff.2 (.inl rfl)
def gsP (p : qac9) (k ci co cs cr : Option Nat) : GS := ⟨p.name, p.ins.length, p.outs.length, 1, p.rows.map fun r => (r, k), cr, 1, p.ins, ci, 1, p.outs, co, 1, p.sts, cs⟩
theorem zY0 (p : qac9) (k ci co cs cr : Option Nat) : edgesOf (gsP p k ci co cs cr).rows = p.rows := by
 show (p.rows.map fun r => (r, k)).map (·.1) = p.rows
 rw [List.map_map]; exact List.map_id _
theorem qdp9 {p : qac9} (h : kda9 p) (k ci co cs cr : Option Nat) : (gsP p k ci co cs cr).V := by
 have hr := h.r
 have pos : ∀ {l : List Bs}, l ≠ [] → 1 ≤ l.length := fun h => List.length_pos_iff.2 h
 have p1 := pos h.i.2.2.1
 have p2 := pos h.o.2.2.1
 have p3 := pos h.s.2.2.1
 have b1 := h.i.2.2.2
 have b2 := h.o.2.2.2
 have b3 := h.s.2.2.2
 have hrl : (gsP p k ci co cs cr).rows.length = p.sts.length := by show (p.rows.map _).length = _; rw [List.length_map, hr.1]
 refine ⟨?_, rfl, rfl, hrl.symm, ?_, ?_⟩
 ·unfold xi0
  rw [if_neg (by rw [hrl]; show ¬ ((16 : Int) < p.ins.length ∨ (16 : Int) < p.outs.length ∨ _); omega), if_neg (by rw [hrl]; show ¬ ((p.ins.length : Int) < 1 ∨ (p.outs.length : Int) < 1 ∨ _); omega), if_pos]
  intro j hj
  rw [hrl] at hj ⊢
  have hg : ((gsP p k ci co cs cr).rows.getD j ([], none)).1 = p.rows.getD j [] := by rw [← kg0, zY0]
  rw [hg]
  unfold xac9
  have hjl : j < p.rows.length := by rw [hr.1]; exact hj
  have hmem : p.rows.getD j [] ∈ p.rows := by rw [List.getD_eq_getElem?_getD, List.getElem?_eq_getElem hjl]; exact List.getElem_mem hjl
  rw [decide_eq_true (show ((p.rows.getD j []).length : Int) = (gsP p k ci co cs cr).i by rw [hr.2 j hj]; rfl), Bool.true_and, List.all_eq_true]
  exact h.f _ hmem
 ·intro l hl s hs
  simp only [GS.lists, gsP, List.mem_cons, List.not_mem_nil, or_false] at hl
  rcases hl with rfl|rfl|rfl|rfl
  ·rw [List.mem_singleton] at hs; rw [hs]; exact h.nm
  ·exact h.i.1 s hs
  ·exact h.o.1 s hs
  ·exact h.s.1 s hs
 ·intro l hl
  simp only [GS.lists, gsP, List.mem_cons, List.not_mem_nil, or_false] at hl
  rcases hl with rfl|rfl|rfl|rfl
  ·simp
  ·exact h.i.2.1
  ·exact h.o.2.1
  ·exact h.s.2.1
theorem qdb9 {s : Bs} (h : nmB s = true) : s.length ≤ 16 := by
 unfold nmB at h
 rw [Bool.and_eq_true, decide_eq_true_eq] at h
 have hv := ((vV0 1 s).1 h.1).1
 unfold tokS at hv
 split at hv
 ·simp only [Prod.mk.injEq] at hv
  obtain ⟨h1, h2, h3⟩ := hv
  unfold wx0 at h1
  have h4 := h2
  split at h1
  ·split at h1
   ·rename_i q; omega
   ·cases h1
  ·split at h1 <;> cases h1
 ·split at hv
  ·simp only [Prod.mk.injEq] at hv; exact absurd hv.1 (by decide)
  ·simp only [Prod.mk.injEq] at hv; exact absurd hv.1 (by decide)
theorem qch9 {p : qac9} (h : kda9 p) (k ci co cs cr : Option Nat) : (gsP p k ci co cs cr).Ok := by
 have hv := qdp9 h k ci co cs cr
 have hr := h.r
 have b1 := h.i.2.2.2
 have b2 := h.o.2.2.2
 have b3 := h.s.2.2.2
 have hrl : (gsP p k ci co cs cr).rows.length = p.sts.length := by show (p.rows.map _).length = _; rw [List.length_map, hr.1]
 refine ⟨.inr rfl, .inr rfl, .inr rfl, .inr rfl, by omega, fun j hj => ?_, by show p.ins.length ≤ _; omega, by show p.outs.length ≤ _; omega, by show p.sts.length ≤ _; omega, fun l hl s hs => by have := qdb9 (hv.nm l hl s hs); omega⟩
 rw [← kg0, zY0, hr.2 j (by omega)]
 omega
end Go.Proofs
