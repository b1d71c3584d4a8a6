import Derived.Test.YtlpjemobbjijdaaGreatDoorS47
namespace Go.Proofs
open Go Go.V
set_option linter.unusedVariables false
set_option linter.unusedSimpArgs false
set_option maxHeartbeats 0
set_option maxRecDepth 100000
theorem wda9 (ts : List Tk) (cc : Option Nat) (N : Bs) (I O Q : List Bs) (R0 : ER) (r0 : RS) (E : ER × RS) (hlen : ts.length ≤ 1000000) (hr0 : r0.2 = 0 → r0.1 ≤ ts.length) (l1 : I.length ≤ 16) (l2 : O.length ≤ 16) (l3 : Q.length ≤ 64) (hR0 : RectE Q.length I.length R0)
  (hE : edS ts I O Q (ts.length + 1) R0 r0 = E)
  (hrd : match xk0 ts with|.ok p => (finS ts E.2).2 = 0 ∧ p = ⟨N, I, O, Q, E.1⟩|.no k e => finS ts E.2 = (k, e) ∧ e ≠ 0) (s : Nat → AV) (d2 : s 2 = .ptr 0 0 0 1) (d6 : s 6 = .sl 4 (tks ts) cc) (d10 : s 10 = .ptr 1 0 0 1) (d11 : s 11 = .ptr 2 0 0 1) :
  Go false Tryz.prog G0 0 228 (xe0 Tryz.f24) [0, 0, 1, 1, 1, 1, 1, 1, 1, 1, 1, 1, 1, 1] (kr0 4 (qby9 false Tryz.prog G0 0 228 (xe0 Tryz.f24) [1, 1, 1, 1, 1, 1, 1, 1, 1, 1, 1, 1, 1] (zaS9 Tryz.prog 228 [.cell 2 27, .tmp 3, .tmp 4, .tmp 5] 2 (match xk0 ts with
   | .ok p => .tup [wbF9 p, .int .i64 0, .int .i64 0, .int .i64 0]
   | .no k e => .tup [zSpecA, .int .i64 (locR ts k).1, .int .i64 (locR ts k).2, .int .i64 e])))) True s (h24 (rdR ts cc r0.1 r0.2 N I O Q) N I O Q Q.length R0) := by
 have htl := vc0 ts
 have t1 := xa0 I
 have t2 := xa0 O
 have t3 := xa0 Q
 have i1 : ∀ p, idsE p (strs I) = true := fun p => za0 p _
 have i2 : ∀ p, idsE p (strs O) = true := fun p => za0 p _
 have i3 : ∀ p, idsE p (strs Q) = true := fun p => za0 p _
 have i4 : ∀ p, idsE p (tks ts) = true := fun p => vk0 p _
 have hid := fun p a e => qK0 p ts cc a e ⟨N, zB I, I, cB I, zB O, O, cB O, zB Q, Q, cB Q⟩
 refine go_loop rfl (fun mz s' H' => ∃ (R : ER) (r : RS), edS ts I O Q mz R r = E ∧ (r.2 = 0 → r.1 ≤ ts.length ∧ ts.length < mz + r.1) ∧ RectE Q.length I.length R ∧ H' = h24 (rdR ts cc r.1 r.2 N I O Q) N I O Q Q.length R ∧ s' 2 = .ptr 0 0 0 1 ∧ s' 6 = .sl 4 (tks ts) cc ∧ s' 10 = .ptr 1 0 0 1 ∧ s' 11 = .ptr 2 0 0 1) (m := ts.length + 1) trivial (Weak.refl _ _) ⟨R0, r0, hE, fun h => ⟨hr0 h, by omega⟩, hR0, rfl, d2, d6, d10, d11⟩ ?_
 clear hE hR0 d2 d6 d10 d11
 rintro mz s' H' ⟨R, ⟨i, e⟩, hE, hr, hR, rfl, d2, d6, d10, d11⟩
 simp only at hr ⊢
 by_cases he : e = 0
 rotate_left
 ·have hE2 : (R, ((i, e) : RS)) = E := by rw [← hE, waN9 _ _ _ _ _ _ he]
  rw [← hE2] at hrd
  have hT := zcH9 ts cc N I O Q R (i, e) hlen (fun h => absurd h he) l1 l2 l3 hR hrd
  generalize xk0 ts = PM at *
  unfold h24 rdR stR at *
  simp only at hT
  repeat' (first|(((first|(with_reducible refine kb0 (p := [1, 1, 1, 1, 1, 1, 1, 1, 1, 1, 1, 1, 1]) ?_)|refine nav ?_|(refine g0_ ?_; first|refine goD ?_))) <;> (try simp (disch := try exact discB) only [push_cast, simprocAttr, d2, d6, d10, d11, he]))|with_reducible refine gG ?_ ?_|((with_reducible refine And.intro (fun h => ?_) (fun h => ?_)) <;> try (exfalso; omega))|with_reducible refine andG ?_|simp (disch := try exact discB) only [push_cast, simprocAttr, d2, d6, d10, d11, he])
  refine Halt.mk ?_
  refine hT _ ?_ ?_ ?_ ?_
  ·simp (disch := try exact discB) only [push_cast, simprocAttr, d2, d6, d10, d11, he]
  ·simp (disch := try exact discB) only [push_cast, simprocAttr, d2, d6, d10, d11, he]
  ·simp (disch := try exact discB) only [push_cast, simprocAttr, d2, d6, d10, d11, he]
  ·simp (disch := try exact discB) only [push_cast, simprocAttr, d2, d6, d10, d11, he]
 ·subst he
  obtain ⟨hi, hmz⟩ := hr rfl
  obtain ⟨f, rfl⟩ : ∃ f, mz = f + 1 := ⟨mz - 1, by omega⟩
  rw [edS] at hE
  simp only at hE
  by_cases hend : i < ts.length ∧ (ts.getD i tk0).t = kEnd
  ·rw [if_neg (by rintro ⟨_, q|q⟩; exact absurd q (by omega); exact q hend.2)] at hE
   rw [← hE] at hrd
   have hT := zcH9 ts cc N I O Q R (i, 0) hlen (fun h => hi) l1 l2 l3 hR hrd
   generalize xk0 ts = PM at *
   obtain ⟨hlt, htt⟩ := hend
   have hne : ¬ (i : Int) = ts.length := by omega
   have e1 := wk0 ts i hlt
   unfold tkA at e1
   rw [htt] at e1
   unfold h24 rdR stR kEnd at *
   simp only at hT
   repeat' (first|(((first|(with_reducible refine kb0 (p := [1, 1, 1, 1, 1, 1, 1, 1, 1, 1, 1, 1, 1]) ?_)|refine nav ?_|(refine g0_ ?_; first|refine goD ?_))) <;> (try simp (disch := try exact discB) only [push_cast, simprocAttr, d2, d6, d10, d11, htl, e1, hne]))|with_reducible refine gG ?_ ?_|((with_reducible refine And.intro (fun h => ?_) (fun h => ?_)) <;> try (exfalso; omega))|with_reducible refine andG ?_|simp (disch := try exact discB) only [push_cast, simprocAttr, d2, d6, d10, d11, htl, e1, hne])
   refine Halt.mk ?_
   refine hT _ ?_ ?_ ?_ ?_
   ·simp (disch := try exact discB) only [push_cast, simprocAttr, d2, d6, d10, d11, htl, e1, hne]
   ·simp (disch := try exact discB) only [push_cast, simprocAttr, d2, d6, d10, d11, htl, e1, hne]
   ·simp (disch := try exact discB) only [push_cast, simprocAttr, d2, d6, d10, d11, htl, e1, hne]
   ·simp (disch := try exact discB) only [push_cast, simprocAttr, d2, d6, d10, d11, htl, e1, hne]
  ·have hc : i = ts.length ∨ (ts.getD i tk0).t ≠ kEnd := by
    by_cases q : i = ts.length
    ·exact .inl q
    ·exact .inr fun q2 => hend ⟨by omega, q2⟩
   rw [if_pos ⟨trivial, hc⟩] at hE
   have u0 : ((i, (0 : Int)) : RS).2 = 0 → ((i, (0 : Int)) : RS).1 ≤ ts.length := fun _ => hi
   have v1 := of74 ts cc ⟨N, zB I, I, cB I, zB O, O, cB O, zB Q, Q, cB Q⟩ (zB Q) Q (cB Q) (i, 0) hlen u0 (xcB9 Q) (by omega)
   have u1 := xbu9 (ns := Q) u0
   have v2 := of74 ts cc ⟨N, zB I, I, cB I, zB O, O, cB O, zB Q, Q, cB Q⟩ (zB I) I (cB I) _ hlen u1 (xcB9 I) (by omega)
   have u2 := xbu9 (ns := I) u1
   have v3 := vX0 ts cc ⟨N, zB I, I, cB I, zB O, O, cB O, zB Q, Q, cB Q⟩ [47] _ hlen u2
   have u3 := kC0 (w := [47]) u2
   have v4 := of74 ts cc ⟨N, zB I, I, cB I, zB O, O, cB O, zB Q, Q, cB Q⟩ (zB O) O (cB O) _ hlen u3 (xcB9 O) (by omega)
   have u4 := xbu9 (ns := O) u3
   have v5 := vX0 ts cc ⟨N, zB I, I, cB I, zB O, O, cB O, zB Q, Q, cB Q⟩ [45, 62] _ hlen u4
   have u5 := kC0 (w := [45, 62]) u4
   have v6 := of74 ts cc ⟨N, zB I, I, cB I, zB O, O, cB O, zB Q, Q, cB Q⟩ (zB Q) Q (cB Q) _ hlen u5 (xcB9 Q) (by omega)
   have u6 := xbu9 (ns := Q) u5
   have v7 := vX0 ts cc ⟨N, zB I, I, cB I, zB O, O, cB O, zB Q, Q, cB Q⟩ [59] _ hlen u6
   have u7 := kC0 (w := [59]) u6
   have hq := xcg9 ts I O Q i
   clear u0 u1 u2 u3 u4 u5 u6
   unfold kX0 at hE hq
   generalize xg0 ts [59] (ofS' ts Q (xg0 ts [45, 62] (ofS' ts O (xg0 ts [47] (ofS' ts I (ofS' ts Q (i, 0)).1).1)).1)).1 = x7 at *
   generalize ofS' ts Q (xg0 ts [45, 62] (ofS' ts O (xg0 ts [47] (ofS' ts I (ofS' ts Q (i, 0)).1).1)).1) = x6 at *
   generalize xg0 ts [45, 62] (ofS' ts O (xg0 ts [47] (ofS' ts I (ofS' ts Q (i, 0)).1).1)).1 = x5 at *
   generalize ofS' ts O (xg0 ts [47] (ofS' ts I (ofS' ts Q (i, 0)).1).1) = x4 at *
   generalize xg0 ts [47] (ofS' ts I (ofS' ts Q (i, 0)).1).1 = x3 at *
   generalize ofS' ts I (ofS' ts Q (i, 0)).1 = x2 at *
   generalize ofS' ts Q (i, 0) = x1 at *
   obtain ⟨p7, q7⟩ := x7
   obtain ⟨⟨p6, q6⟩, b⟩ := x6
   obtain ⟨p5, q5⟩ := x5
   obtain ⟨⟨p4, q4⟩, o⟩ := x4
   obtain ⟨p3, q3⟩ := x3
   obtain ⟨⟨p2, q2⟩, a⟩ := x2
   obtain ⟨⟨p1, q1⟩, s1⟩ := x1
   simp only at v1 v2 v3 v4 v5 v6 v7 hE hq u7
   by_cases hq7 : q7 = 0
   ·subst hq7
    cases hm : vK0 ts I O Q i with
    | no k e =>
     rw [hm] at hq
     simp only [Prod.mk.injEq] at hq
     exact absurd hq.1.2.symm hq.2
    | ok q =>
    rw [hm] at hq
    simp only [Prod.mk.injEq, and_true] at hq
    obtain ⟨rfl, rfl⟩ := hq
    obtain ⟨h1, h2, h3, h4, h5, h6, h7⟩ := wJ0 hm
    have hlt := (vC0 h1).1
    have hs1 := (vC0 h1).2
    have ha := (vC0 h2).2
    have hi7 := qk0 h7
    clear h1 h2 h3 h4 h5 h6 h7 hm
    have hne : ¬ (i : Int) = ts.length := by omega
    have hc := hc.resolve_left (by omega)
    have e1 := wk0 ts i hlt
    unfold tkA at e1
    have hdc := decide_eq_false hc
    rw [if_pos rfl] at hE
    have w1 := vm0 4 I.length none Q.length
    have w2 : (ownR 4 I.length none Q.length).getD s1 [] = [.own (s1 + 4) I.length I.length none] := xar9 none hs1
    have w3 : (kd0 2 70 (R.map rowA))[s1]? = some (.row 2 70 (rowA (R.getD s1 []))) := by
     have hs : s1 < (R.map rowA).length := by rw [List.length_map, hR.1]; omega
     rw [zar9 rfl hs]
     have hs2 : s1 < R.length := by rw [hR.1]; omega
     simp [hs2]
    have hrl := hR.2 s1 hs1
    have w4 : (rowA (R.getD s1 [])).length = I.length := by rw [zg0, hrl]
    have w5 : (rowA (R.getD s1 [])).getD a [] = [.int .i64 (getE R s1 a).1, .int .i64 (getE R s1 a).2] := by
     have ha : a < (R.getD s1 []).length := by omega
     have hh : ∀ (r : List Edg), a < r.length → r.getD a (0, 0) = r.getD a (-1, -1) := fun r h => by simp [h]
     rw [kl0 _ _ ha, eA, getE, hh _ ha]
    have w6 : (kd0 2 70 (R.map rowA)).set s1 (.row 2 70 ((rowA (R.getD s1 [])).set a [.int .i64 b, .int .i64 o])) = kd0 2 70 ((setE R s1 a ((b : Int), (o : Int))).map rowA) := by
     rw [qbT9, setE, List.map_set]
     simp [rowA, eA, List.map_set]
    have hRn := kG0 hR s1 a ((b : Int), (o : Int))
    have hs1i : (s1 : Int) < Q.length := by omega
    have hai : (a : Int) < I.length := by omega
    generalize (ts.getD i tk0).t = tt at *
    have hf := waF9 ts cc ⟨N, zB I, I, cB I, zB O, O, cB O, zB Q, Q, cB Q⟩ (i + 7) 0 i 8
    by_cases hg : 0 ≤ (getE R s1 a).1
    ·rw [if_pos hg] at hE
     generalize (getE R s1 a).1 = y1 at *
     generalize (getE R s1 a).2 = y2 at *
     unfold h24 rdR stR kEnd at *
     repeat' (first|((first|refine nav ?_|(refine g0_ ?_; refine goD ?_)) <;> (try simp (disch := try exact discB) only [push_cast, simprocAttr, d2, d6, d10, d11, htl, t1, t2, t3, hne, e1, hdc, hc, w1, w2, w3, w4, w5, hg, hs1i, hai]))|with_reducible refine gG ?_ ?_|((with_reducible refine And.intro (fun h => ?_) (fun h => ?_)) <;> try (exfalso; omega))|with_reducible refine andG ?_|(first|(refine ⟨_, _, pc_lift v1 (by simp [idsL, idsE, AV.ids, i1, i2, i3, i4, hid]) _, ?_⟩)|(refine ⟨_, pc_lift v1 (by simp [idsL, idsE, AV.ids, i1, i2, i3, i4, hid]) _, ?_⟩)|(refine ⟨_, fun _ => pc_lift v1 (by simp [idsL, idsE, AV.ids, i1, i2, i3, i4, hid]) _, ?_⟩)|(refine ⟨_, _, pc_lift v2 (by simp [idsL, idsE, AV.ids, i1, i2, i3, i4, hid]) _, ?_⟩)|(refine ⟨_, pc_lift v2 (by simp [idsL, idsE, AV.ids, i1, i2, i3, i4, hid]) _, ?_⟩)|(refine ⟨_, fun _ => pc_lift v2 (by simp [idsL, idsE, AV.ids, i1, i2, i3, i4, hid]) _, ?_⟩)|(refine ⟨_, _, pc_lift v3 (by simp [idsL, idsE, AV.ids, i1, i2, i3, i4, hid]) _, ?_⟩)|(refine ⟨_, pc_lift v3 (by simp [idsL, idsE, AV.ids, i1, i2, i3, i4, hid]) _, ?_⟩)|(refine ⟨_, fun _ => pc_lift v3 (by simp [idsL, idsE, AV.ids, i1, i2, i3, i4, hid]) _, ?_⟩)|(refine ⟨_, _, pc_lift v4 (by simp [idsL, idsE, AV.ids, i1, i2, i3, i4, hid]) _, ?_⟩)|(refine ⟨_, pc_lift v4 (by simp [idsL, idsE, AV.ids, i1, i2, i3, i4, hid]) _, ?_⟩)|(refine ⟨_, fun _ => pc_lift v4 (by simp [idsL, idsE, AV.ids, i1, i2, i3, i4, hid]) _, ?_⟩)|(refine ⟨_, _, pc_lift v5 (by simp [idsL, idsE, AV.ids, i1, i2, i3, i4, hid]) _, ?_⟩)|(refine ⟨_, pc_lift v5 (by simp [idsL, idsE, AV.ids, i1, i2, i3, i4, hid]) _, ?_⟩)|(refine ⟨_, fun _ => pc_lift v5 (by simp [idsL, idsE, AV.ids, i1, i2, i3, i4, hid]) _, ?_⟩)|(refine ⟨_, _, pc_lift v6 (by simp [idsL, idsE, AV.ids, i1, i2, i3, i4, hid]) _, ?_⟩)|(refine ⟨_, pc_lift v6 (by simp [idsL, idsE, AV.ids, i1, i2, i3, i4, hid]) _, ?_⟩)|(refine ⟨_, fun _ => pc_lift v6 (by simp [idsL, idsE, AV.ids, i1, i2, i3, i4, hid]) _, ?_⟩)|(refine ⟨_, _, pc_lift v7 (by simp [idsL, idsE, AV.ids, i1, i2, i3, i4, hid]) _, ?_⟩)|(refine ⟨_, pc_lift v7 (by simp [idsL, idsE, AV.ids, i1, i2, i3, i4, hid]) _, ?_⟩)|(refine ⟨_, fun _ => pc_lift v7 (by simp [idsL, idsE, AV.ids, i1, i2, i3, i4, hid]) _, ?_⟩)|(refine ⟨_, _, pc_lift hf (by simp [idsL, idsE, AV.ids, i1, i2, i3, i4, hid]) _, ?_⟩)|(refine ⟨_, pc_lift hf (by simp [idsL, idsE, AV.ids, i1, i2, i3, i4, hid]) _, ?_⟩)|(refine ⟨_, fun _ => pc_lift hf (by simp [idsL, idsE, AV.ids, i1, i2, i3, i4, hid]) _, ?_⟩))|simp (disch := try exact discB) only [push_cast, simprocAttr, d2, d6, d10, d11, htl, t1, t2, t3, hne, e1, hdc, hc, w1, w2, w3, w4, w5, hg, hs1i, hai])
     refine wa0 f (by omega) (by first|exact xb0|fail) ⟨R, (i, 8), hE, fun h => absurd h (by show (8 : Int) ≠ 0; decide), hR, rfl, ?_⟩
     simp (disch := try exact discB) only [push_cast, simprocAttr, d2, d6, d10, d11, htl, t1, t2, t3, hne, e1, hdc, hc, w1, w2, w3, w4, w5, hg, hs1i, hai]
    ·rw [if_neg hg] at hE
     generalize (getE R s1 a).1 = y1 at *
     generalize (getE R s1 a).2 = y2 at *
     unfold h24 rdR stR kEnd at *
     repeat' (first|((first|refine nav ?_|(refine g0_ ?_; refine goD ?_)) <;> (try simp (disch := try exact discB) only [push_cast, simprocAttr, d2, d6, d10, d11, htl, t1, t2, t3, hne, e1, hdc, hc, w1, w2, w3, w4, w5, hg, hs1i, hai, w6]))|with_reducible refine gG ?_ ?_|((with_reducible refine And.intro (fun h => ?_) (fun h => ?_)) <;> try (exfalso; omega))|with_reducible refine andG ?_|(first|(refine ⟨_, _, pc_lift v1 (by simp [idsL, idsE, AV.ids, i1, i2, i3, i4, hid]) _, ?_⟩)|(refine ⟨_, pc_lift v1 (by simp [idsL, idsE, AV.ids, i1, i2, i3, i4, hid]) _, ?_⟩)|(refine ⟨_, fun _ => pc_lift v1 (by simp [idsL, idsE, AV.ids, i1, i2, i3, i4, hid]) _, ?_⟩)|(refine ⟨_, _, pc_lift v2 (by simp [idsL, idsE, AV.ids, i1, i2, i3, i4, hid]) _, ?_⟩)|(refine ⟨_, pc_lift v2 (by simp [idsL, idsE, AV.ids, i1, i2, i3, i4, hid]) _, ?_⟩)|(refine ⟨_, fun _ => pc_lift v2 (by simp [idsL, idsE, AV.ids, i1, i2, i3, i4, hid]) _, ?_⟩)|(refine ⟨_, _, pc_lift v3 (by simp [idsL, idsE, AV.ids, i1, i2, i3, i4, hid]) _, ?_⟩)|(refine ⟨_, pc_lift v3 (by simp [idsL, idsE, AV.ids, i1, i2, i3, i4, hid]) _, ?_⟩)|(refine ⟨_, fun _ => pc_lift v3 (by simp [idsL, idsE, AV.ids, i1, i2, i3, i4, hid]) _, ?_⟩)|(refine ⟨_, _, pc_lift v4 (by simp [idsL, idsE, AV.ids, i1, i2, i3, i4, hid]) _, ?_⟩)|(refine ⟨_, pc_lift v4 (by simp [idsL, idsE, AV.ids, i1, i2, i3, i4, hid]) _, ?_⟩)|(refine ⟨_, fun _ => pc_lift v4 (by simp [idsL, idsE, AV.ids, i1, i2, i3, i4, hid]) _, ?_⟩)|(refine ⟨_, _, pc_lift v5 (by simp [idsL, idsE, AV.ids, i1, i2, i3, i4, hid]) _, ?_⟩)|(refine ⟨_, pc_lift v5 (by simp [idsL, idsE, AV.ids, i1, i2, i3, i4, hid]) _, ?_⟩)|(refine ⟨_, fun _ => pc_lift v5 (by simp [idsL, idsE, AV.ids, i1, i2, i3, i4, hid]) _, ?_⟩)|(refine ⟨_, _, pc_lift v6 (by simp [idsL, idsE, AV.ids, i1, i2, i3, i4, hid]) _, ?_⟩)|(refine ⟨_, pc_lift v6 (by simp [idsL, idsE, AV.ids, i1, i2, i3, i4, hid]) _, ?_⟩)|(refine ⟨_, fun _ => pc_lift v6 (by simp [idsL, idsE, AV.ids, i1, i2, i3, i4, hid]) _, ?_⟩)|(refine ⟨_, _, pc_lift v7 (by simp [idsL, idsE, AV.ids, i1, i2, i3, i4, hid]) _, ?_⟩)|(refine ⟨_, pc_lift v7 (by simp [idsL, idsE, AV.ids, i1, i2, i3, i4, hid]) _, ?_⟩)|(refine ⟨_, fun _ => pc_lift v7 (by simp [idsL, idsE, AV.ids, i1, i2, i3, i4, hid]) _, ?_⟩)|(refine ⟨_, _, pc_lift hf (by simp [idsL, idsE, AV.ids, i1, i2, i3, i4, hid]) _, ?_⟩)|(refine ⟨_, pc_lift hf (by simp [idsL, idsE, AV.ids, i1, i2, i3, i4, hid]) _, ?_⟩)|(refine ⟨_, fun _ => pc_lift hf (by simp [idsL, idsE, AV.ids, i1, i2, i3, i4, hid]) _, ?_⟩))|simp (disch := try exact discB) only [push_cast, simprocAttr, d2, d6, d10, d11, htl, t1, t2, t3, hne, e1, hdc, hc, w1, w2, w3, w4, w5, hg, hs1i, hai, w6])
     refine wa0 f (by omega) (by first|exact xb0|fail) ⟨_, (i + 7, 0), hE, fun h => ⟨by simp only; omega, by simp only; omega⟩, hRn, rfl, ?_⟩
     simp (disch := try exact discB) only [push_cast, simprocAttr, d2, d6, d10, d11, htl, t1, t2, t3, hne, e1, hdc, hc, w1, w2, w3, w4, w5, hg, hs1i, hai, w6]
   ·rw [if_neg hq7] at hE
    by_cases hil : i = ts.length
    ·subst hil
     unfold h24 rdR stR kEnd at *
     repeat' (first|((first|refine nav ?_|(refine g0_ ?_; refine goD ?_)) <;> (try simp (disch := try exact discB) only [push_cast, simprocAttr, d2, d6, d10, d11, htl, t1, t2, t3, hq7]))|with_reducible refine gG ?_ ?_|((with_reducible refine And.intro (fun h => ?_) (fun h => ?_)) <;> try (exfalso; omega))|with_reducible refine andG ?_|(first|(refine ⟨_, _, pc_lift v1 (by simp [idsL, idsE, AV.ids, i1, i2, i3, i4, hid]) _, ?_⟩)|(refine ⟨_, pc_lift v1 (by simp [idsL, idsE, AV.ids, i1, i2, i3, i4, hid]) _, ?_⟩)|(refine ⟨_, fun _ => pc_lift v1 (by simp [idsL, idsE, AV.ids, i1, i2, i3, i4, hid]) _, ?_⟩)|(refine ⟨_, _, pc_lift v2 (by simp [idsL, idsE, AV.ids, i1, i2, i3, i4, hid]) _, ?_⟩)|(refine ⟨_, pc_lift v2 (by simp [idsL, idsE, AV.ids, i1, i2, i3, i4, hid]) _, ?_⟩)|(refine ⟨_, fun _ => pc_lift v2 (by simp [idsL, idsE, AV.ids, i1, i2, i3, i4, hid]) _, ?_⟩)|(refine ⟨_, _, pc_lift v3 (by simp [idsL, idsE, AV.ids, i1, i2, i3, i4, hid]) _, ?_⟩)|(refine ⟨_, pc_lift v3 (by simp [idsL, idsE, AV.ids, i1, i2, i3, i4, hid]) _, ?_⟩)|(refine ⟨_, fun _ => pc_lift v3 (by simp [idsL, idsE, AV.ids, i1, i2, i3, i4, hid]) _, ?_⟩)|(refine ⟨_, _, pc_lift v4 (by simp [idsL, idsE, AV.ids, i1, i2, i3, i4, hid]) _, ?_⟩)|(refine ⟨_, pc_lift v4 (by simp [idsL, idsE, AV.ids, i1, i2, i3, i4, hid]) _, ?_⟩)|(refine ⟨_, fun _ => pc_lift v4 (by simp [idsL, idsE, AV.ids, i1, i2, i3, i4, hid]) _, ?_⟩)|(refine ⟨_, _, pc_lift v5 (by simp [idsL, idsE, AV.ids, i1, i2, i3, i4, hid]) _, ?_⟩)|(refine ⟨_, pc_lift v5 (by simp [idsL, idsE, AV.ids, i1, i2, i3, i4, hid]) _, ?_⟩)|(refine ⟨_, fun _ => pc_lift v5 (by simp [idsL, idsE, AV.ids, i1, i2, i3, i4, hid]) _, ?_⟩)|(refine ⟨_, _, pc_lift v6 (by simp [idsL, idsE, AV.ids, i1, i2, i3, i4, hid]) _, ?_⟩)|(refine ⟨_, pc_lift v6 (by simp [idsL, idsE, AV.ids, i1, i2, i3, i4, hid]) _, ?_⟩)|(refine ⟨_, fun _ => pc_lift v6 (by simp [idsL, idsE, AV.ids, i1, i2, i3, i4, hid]) _, ?_⟩)|(refine ⟨_, _, pc_lift v7 (by simp [idsL, idsE, AV.ids, i1, i2, i3, i4, hid]) _, ?_⟩)|(refine ⟨_, pc_lift v7 (by simp [idsL, idsE, AV.ids, i1, i2, i3, i4, hid]) _, ?_⟩)|(refine ⟨_, fun _ => pc_lift v7 (by simp [idsL, idsE, AV.ids, i1, i2, i3, i4, hid]) _, ?_⟩))|simp (disch := try exact discB) only [push_cast, simprocAttr, d2, d6, d10, d11, htl, t1, t2, t3, hq7])
     refine wa0 f (by omega) (by first|exact xb0|fail) ⟨R, (p7, q7), hE, fun h => absurd h hq7, hR, rfl, ?_⟩
     simp (disch := try exact discB) only [push_cast, simprocAttr, d2, d6, d10, d11, htl, t1, t2, t3, hq7]
    ·have hlt : i < ts.length := by omega
     have hc := hc.resolve_left hil
     have hne : ¬ (i : Int) = ts.length := by omega
     have e1 := wk0 ts i hlt
     unfold tkA at e1
     have hdc := decide_eq_false hc
     generalize (ts.getD i tk0).t = tt at *
     unfold h24 rdR stR kEnd at *
     repeat' (first|((first|refine nav ?_|(refine g0_ ?_; refine goD ?_)) <;> (try simp (disch := try exact discB) only [push_cast, simprocAttr, d2, d6, d10, d11, htl, t1, t2, t3, hq7, hne, e1, hdc, hc]))|with_reducible refine gG ?_ ?_|((with_reducible refine And.intro (fun h => ?_) (fun h => ?_)) <;> try (exfalso; omega))|with_reducible refine andG ?_|(first|(refine ⟨_, _, pc_lift v1 (by simp [idsL, idsE, AV.ids, i1, i2, i3, i4, hid]) _, ?_⟩)|(refine ⟨_, pc_lift v1 (by simp [idsL, idsE, AV.ids, i1, i2, i3, i4, hid]) _, ?_⟩)|(refine ⟨_, fun _ => pc_lift v1 (by simp [idsL, idsE, AV.ids, i1, i2, i3, i4, hid]) _, ?_⟩)|(refine ⟨_, _, pc_lift v2 (by simp [idsL, idsE, AV.ids, i1, i2, i3, i4, hid]) _, ?_⟩)|(refine ⟨_, pc_lift v2 (by simp [idsL, idsE, AV.ids, i1, i2, i3, i4, hid]) _, ?_⟩)|(refine ⟨_, fun _ => pc_lift v2 (by simp [idsL, idsE, AV.ids, i1, i2, i3, i4, hid]) _, ?_⟩)|(refine ⟨_, _, pc_lift v3 (by simp [idsL, idsE, AV.ids, i1, i2, i3, i4, hid]) _, ?_⟩)|(refine ⟨_, pc_lift v3 (by simp [idsL, idsE, AV.ids, i1, i2, i3, i4, hid]) _, ?_⟩)|(refine ⟨_, fun _ => pc_lift v3 (by simp [idsL, idsE, AV.ids, i1, i2, i3, i4, hid]) _, ?_⟩)|(refine ⟨_, _, pc_lift v4 (by simp [idsL, idsE, AV.ids, i1, i2, i3, i4, hid]) _, ?_⟩)|(refine ⟨_, pc_lift v4 (by simp [idsL, idsE, AV.ids, i1, i2, i3, i4, hid]) _, ?_⟩)|(refine ⟨_, fun _ => pc_lift v4 (by simp [idsL, idsE, AV.ids, i1, i2, i3, i4, hid]) _, ?_⟩)|(refine ⟨_, _, pc_lift v5 (by simp [idsL, idsE, AV.ids, i1, i2, i3, i4, hid]) _, ?_⟩)|(refine ⟨_, pc_lift v5 (by simp [idsL, idsE, AV.ids, i1, i2, i3, i4, hid]) _, ?_⟩)|(refine ⟨_, fun _ => pc_lift v5 (by simp [idsL, idsE, AV.ids, i1, i2, i3, i4, hid]) _, ?_⟩)|(refine ⟨_, _, pc_lift v6 (by simp [idsL, idsE, AV.ids, i1, i2, i3, i4, hid]) _, ?_⟩)|(refine ⟨_, pc_lift v6 (by simp [idsL, idsE, AV.ids, i1, i2, i3, i4, hid]) _, ?_⟩)|(refine ⟨_, fun _ => pc_lift v6 (by simp [idsL, idsE, AV.ids, i1, i2, i3, i4, hid]) _, ?_⟩)|(refine ⟨_, _, pc_lift v7 (by simp [idsL, idsE, AV.ids, i1, i2, i3, i4, hid]) _, ?_⟩)|(refine ⟨_, pc_lift v7 (by simp [idsL, idsE, AV.ids, i1, i2, i3, i4, hid]) _, ?_⟩)|(refine ⟨_, fun _ => pc_lift v7 (by simp [idsL, idsE, AV.ids, i1, i2, i3, i4, hid]) _, ?_⟩))|simp (disch := try exact discB) only [push_cast, simprocAttr, d2, d6, d10, d11, htl, t1, t2, t3, hq7, hne, e1, hdc, hc])
     refine wa0 f (by omega) (by first|exact xb0|fail) ⟨R, (p7, q7), hE, fun h => absurd h hq7, hR, rfl, ?_⟩
     simp (disch := try exact discB) only [push_cast, simprocAttr, d2, d6, d10, d11, htl, t1, t2, t3, hq7, hne, e1, hdc, hc]
end Go.Proofs
