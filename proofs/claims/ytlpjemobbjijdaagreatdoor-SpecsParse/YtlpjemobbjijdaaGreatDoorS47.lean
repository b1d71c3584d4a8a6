import Derived.Test.YtlpjemobbjijdaaGreatDoorS46
import Derived.Test.YtlpjemobbjijdaaGreatDoorS17
namespace Go.Proofs
open Go Go.V
set_option linter.unusedVariables false
set_option linter.unusedSimpArgs false
set_option maxHeartbeats 0
set_option maxRecDepth 100000
def wbF9 (p : qac9) : AV := .agg [.str p.name, .int .i64 p.ins.length, .int .i64 p.outs.length, .sl 1 (p.rows.map fun r => [.sl 2 (rowA r) none]) none, .sl 1 (strs p.ins) none, .sl 1 (strs p.outs) none, .sl 1 (strs p.sts) none]
def wcg9 (s : Bs) : AV :=
 if (ofS s).2.2.2 = 0 then match xk0 (ofS s).1 with
  | .ok p => .tup [wbF9 p, .int .i64 0, .int .i64 0, .int .i64 0]
  | .no k e => .tup [zSpecA, .int .i64 (locR (ofS s).1 k).1, .int .i64 (locR (ofS s).1 k).2, .int .i64 e]
 else .tup [zSpecA, .int .i64 (ofS s).2.1, .int .i64 (ofS s).2.2.1, .int .i64 (ofS s).2.2.2]
def g0 : RX := ⟨[], 0, [], some 0, 0, [], some 0, 0, [], some 0⟩
theorem kC0 {l : List Tk} {w : Bs} {r : RS} (h : r.2 = 0 → r.1 ≤ l.length) : (xg0 l w r).2 = 0 → (xg0 l w r).1 ≤ l.length := fun q => kak9 q h
theorem vcB9 {l : List Tk} {r : RS} (h : r.2 = 0 → r.1 ≤ l.length) : (qai9 l r).1.2 = 0 → (qai9 l r).1.1 ≤ l.length := by
 obtain ⟨a, e⟩ := r
 intro q
 by_cases he : e = 0
 ·subst he
  rw [wcG9] at *
  cases h1 : qh0 l a with
  | ok s => have := qx0 h1; simp only; omega
  | no k e => rw [h1] at q; exact absurd q (zK0 h1)
 ·rw [vcG9 _ he] at q; exact absurd q he
theorem xbu9 {l : List Tk} {ns : List Bs} {r : RS} (h : r.2 = 0 → r.1 ≤ l.length) : (ofS' l ns r).1.2 = 0 → (ofS' l ns r).1.1 ≤ l.length := by
 obtain ⟨a, e⟩ := r
 intro q
 by_cases he : e = 0
 ·subst he
  rw [ofS0] at *
  cases h1 : ofM l ns a with
  | ok s => have := (vC0 h1).1; simp only; omega
  | no k e => rw [h1] at q; exact absurd q (kba9 h1)
 ·rw [ofS1 _ _ he] at q; exact absurd q he
theorem vcg9 (l : List Tk) (most : Nat) : ∀ (f : Nat) (o : List Bs) (i : Nat), i ≤ l.length → (lsG l most f o i).1.2 = 0 → (lsG l most f o i).1.1 ≤ l.length
 | 0, o, i, h, q => absurd q (by show (4 : Int) ≠ 0; decide)
 | f + 1, o, i, h, q => by
  rw [lsG] at *
  cases h1 : qh0 l i with
  | no k e => rw [h1] at q; exact absurd q (zK0 h1)
  | ok s =>
   rw [h1] at q
   simp only at q ⊢
   split at q
   ·exact absurd q (by show (8 : Int) ≠ 0; decide)
   rename_i h2
   rw [if_neg h2]
   split at q
   ·exact absurd q (by show (3 : Int) ≠ 0; decide)
   rename_i h3
   rw [if_neg h3]
   split at q
   ·rename_i h4
    rw [if_pos h4]
    exact vcg9 l most f _ _ (by omega) q
   ·rename_i h4
    rw [if_neg h4]
    exact kak9 q (fun _ => qx0 h1)
theorem vaN9 {l : List Tk} {w : Bs} {m : Nat} {r : RS} (h : r.2 = 0 → r.1 ≤ l.length) : (vx0 l w m r).1.2 = 0 → (vx0 l w m r).1.1 ≤ l.length := fun q => by
 unfold vx0 at *
 split at q
 ·rename_i q2; exact absurd q q2
 ·rename_i q2
  rw [if_neg q2]
  exact vcg9 _ _ _ _ _ (kak9 (Classical.not_not.1 q2) h) q
def h24 (P1 : Blk) (N : Bs) (I O Q : List Bs) (w : Nat) (R : ER) : List Blk := .row 7 27 [[.str [], .int .i64 0, .int .i64 0, .sl 0 [] (some 0), .sl 0 [] (some 0), .sl 0 [] (some 0), .sl 0 [] (some 0)]] :: P1 :: .row 7 27 [[.str N, .int .i64 I.length, .int .i64 O.length, .own 3 w w none, .sl (zB I) (strs I) (cB I), .sl (zB O) (strs O) (cB O), .sl (zB Q) (strs Q) (cB Q)]] :: .row 1 50 (ownR 4 I.length none w) :: kd0 2 70 (R.map rowA)
theorem kcg9 (j : Nat) : rowA (row0 j) ++ [[.int .i64 (-1), .int .i64 (-1)]] = rowA (row0 (j + 1)) := by
 simp [rowA, row0, List.replicate_succ', eA]
theorem qal9 (j : Nat) : (row0 j).length = j := by simp [row0]
theorem kcB9 {l : List Tk} {k : Nat} {e : Int} (h : xk0 l = .no k e) (hp : 0 < l.length) : k < l.length := by
 unfold xk0 at h
 cases h0 : xC0 l with
 | no a b => rw [h0] at h; injection h with q1 q2; rw [← q1]; exact wcF9 h0 hp
 | ok n =>
 rw [h0] at h
 simp only [PE.bind] at h
 cases h1 : xp0 l with
 | no a b => rw [h1] at h; injection h with q1 q2; rw [← q1]; exact wcb9 h1 (vcF9 h0)
 | ok p =>
 rw [h1] at h
 simp only at h
 have hl := (vW0 (ins := p.1) (outs := p.2.1) (sts := p.2.2.1) (i := p.2.2.2) h1).2.2.2
 cases h2 : kk0 l p.1 p.2.1 p.2.2.1 (l.length + 1) (List.replicate p.2.2.1.length (row0 p.1.length)) p.2.2.2 with
 | no a b => rw [h2] at h; injection h with q1 q2; rw [← q1]; exact zaM9 hp h2 (by omega) hl
 | ok q =>
 rw [h2] at h
 simp only at h
 cases h3 : kah9 l q.2 with
 | no a b => rw [h3] at h; injection h with q1 q2; rw [← q1]; exact kcF9 h3 (kau9 h2 hl)
 | ok u => rw [h3] at h; cases h
theorem wbu9 {l : List Tk} {most : Nat} : ∀ {f i : Nat} {o : List Bs} {q : List Bs × Nat}, wK0 l most f o i = .ok q → q.1 ≠ []
 | 0, i, o, q, h => by cases h
 | f + 1, i, o, q, h => by
  obtain ⟨f', s, e, _, _, _, _, h⟩ := wak9 h
  injection e with e
  subst e
  rcases h with ⟨_, h⟩|⟨_, h⟩
  ·rw [h]; simp
  ·exact wbu9 h
theorem kaN9 {l : List Tk} {w : Bs} {most i : Nat} {q : List Bs × Nat} (h : kj0 l w most i = .ok q) : q.1 ≠ [] := by
 unfold kj0 at h
 cases h1 : zd0 l w i with
 | no a b => rw [h1] at h; cases h
 | ok u => rw [h1] at h; exact wbu9 h
theorem zbb9 {l : List Tk} {p : qac9} (h : xk0 l = .ok p) : p.ins ≠ [] ∧ p.outs ≠ [] ∧ p.sts ≠ [] := by
 unfold xk0 at h
 cases h0 : xC0 l with
 | no a b => rw [h0] at h; cases h
 | ok n =>
 rw [h0] at h
 simp only [PE.bind] at h
 cases h1 : xp0 l with
 | no a b => rw [h1] at h; cases h
 | ok p =>
 rw [h1] at h
 simp only at h
 cases h2 : kk0 l p.1 p.2.1 p.2.2.1 (l.length + 1) (List.replicate p.2.2.1.length (row0 p.1.length)) p.2.2.2 with
 | no a b => rw [h2] at h; cases h
 | ok q =>
 rw [h2] at h
 simp only at h
 cases h3 : kah9 l q.2 with
 | no a b => rw [h3] at h; cases h
 | ok u =>
 rw [h3] at h
 injection h with h
 subst h
 unfold xp0 at h1
 cases g1 : kj0 l kIns 16 3 with
 | no a b => rw [g1] at h1; cases h1
 | ok u =>
 rw [g1] at h1
 simp only [PE.bind] at h1
 cases g2 : kj0 l km0 16 u.2 with
 | no a b => rw [g2] at h1; cases h1
 | ok v =>
 rw [g2] at h1
 simp only at h1
 cases g3 : kj0 l kSts 64 v.2 with
 | no a b => rw [g3] at h1; cases h1
 | ok w =>
 rw [g3] at h1
 injection h1 with h1
 subst h1
 exact ⟨kaN9 g1, kaN9 g2, kaN9 g3⟩
theorem qbm9 (R : ER) (k n : Nat) (b0 b1 b2 b3 : Blk) (hw : RectE n k R) :
  ((ownR 4 k none n).map fun e => e.map (xf0 (b0 :: b1 :: b2 :: b3 :: kd0 2 70 (List.map rowA R)) 1)) = R.map fun r => [.sl 2 (rowA r) none] := by
 have hg : ∀ s, (R.map rowA).getD s [] = rowA (R.getD s []) := fun s => by
  rw [List.getD_eq_getElem?_getD, List.getElem?_map, List.getD_eq_getElem?_getD]; cases R[s]? <;> rfl
 rw [qaC9 (z := 2) (t := 70) (rss := R.map rowA) (fun s hs => ?_) (fun s hs => ?_)]
 ·refine List.ext_getElem (by simp [hw.1]) fun j h1 h2 => ?_
  simp only [List.length_map, List.length_range] at h1
  have hj : j < R.length := by rw [hw.1]; omega
  simp [hj]
 ·show (kd0 2 70 (R.map rowA))[s]? = _
  exact zar9 (N := R.length) (by simp) (by rw [hw.1]; omega)
 ·rw [hg, zg0]; exact hw.2 s hs
theorem qcC9 (R : ER) (k n : Nat) (b0 b1 b2 b3 : Blk) (hw : RectE n k R) :
  ((ownR 4 k none n).all fun e => e.all (okC (b0 :: b1 :: b2 :: b3 :: kd0 2 70 (List.map rowA R)) 1)) = true := by
 have hg : ∀ s, (R.map rowA).getD s [] = rowA (R.getD s []) := fun s => by
  rw [List.getD_eq_getElem?_getD, List.getElem?_map, List.getD_eq_getElem?_getD]; cases R[s]? <;> rfl
 refine wbT9 (z := 2) (t := 70) (rss := R.map rowA) (fun s hs => ?_) (fun s hs => ?_) (fun s hs => ?_)
 ·show (kd0 2 70 (R.map rowA))[s]? = _
  exact zar9 (N := R.length) (by simp) (by rw [hw.1]; omega)
 ·rw [hg, zg0]; exact hw.2 s hs
 ·rw [hg]; exact qm0 _ _
def finS (l : List Tk) (r : RS) : RS := if (xg0 l [59] (xg0 l kEnd r)).2 = 0 ∧ (xg0 l [59] (xg0 l kEnd r)).1 < l.length then ((xg0 l [59] (xg0 l kEnd r)).1, 4) else xg0 l [59] (xg0 l kEnd r)
def rdR (ts : List Tk) (cc : Option Nat) (a : Nat) (e : Int) (N : Bs) (I O Q : List Bs) : Blk := .row 10 123 [stR ts cc a e ⟨N, zB I, I, cB I, zB O, O, cB O, zB Q, Q, cB Q⟩]
theorem zcH9 (ts : List Tk) (cc : Option Nat) (N : Bs) (I O Q : List Bs) (R : ER) (r : RS) (hlen : ts.length ≤ 1000000) (hr : r.2 = 0 → r.1 ≤ ts.length) (l1 : I.length ≤ 16) (l2 : O.length ≤ 16) (l3 : Q.length ≤ 64) (hR : RectE Q.length I.length R)
  (hrd : match xk0 ts with|.ok p => (finS ts r).2 = 0 ∧ p = ⟨N, I, O, Q, R⟩|.no k e => finS ts r = (k, e) ∧ e ≠ 0) (s : Nat → AV) (d2 : s 2 = .ptr 0 0 0 1) (d6 : s 6 = .sl 4 (tks ts) cc) (d10 : s 10 = .ptr 1 0 0 1) (d11 : s 11 = .ptr 2 0 0 1) :
  Go false Tryz.prog G0 0 228 (xe0 Tryz.f24) [1, 1, 1, 1, 1, 1, 1, 1, 1, 1, 1, 1, 1] (zaS9 Tryz.prog 228 [.cell 2 27, .tmp 3, .tmp 4, .tmp 5] 2 (match xk0 ts with
   | .ok p => .tup [wbF9 p, .int .i64 0, .int .i64 0, .int .i64 0]
   | .no k e => .tup [zSpecA, .int .i64 (locR ts k).1, .int .i64 (locR ts k).2, .int .i64 e])) True s (h24 (rdR ts cc r.1 r.2 N I O Q) N I O Q Q.length R) := by
 have htl := vc0 ts
 have b1 := kC0 (w := kEnd) hr
 have c1 := vX0 ts cc ⟨N, zB I, I, cB I, zB O, O, cB O, zB Q, Q, cB Q⟩ kEnd r hlen hr
 have c2 := vX0 ts cc ⟨N, zB I, I, cB I, zB O, O, cB O, zB Q, Q, cB Q⟩ [59] _ hlen b1
 have b2 := kC0 (w := [59]) b1
 unfold finS at hrd
 generalize xg0 ts [59] (xg0 ts kEnd r) = T at *
 generalize xg0 ts kEnd r = r1 at *
 obtain ⟨k3, e3⟩ := T
 obtain ⟨k2, e2⟩ := r1
 obtain ⟨k1, e1⟩ := r
 simp only at *
 have t1 := xa0 I
 have t2 := xa0 O
 have t3 := xa0 Q
 have i1 : ∀ p, idsE p (strs I) = true := fun p => za0 p _
 have i2 : ∀ p, idsE p (strs O) = true := fun p => za0 p _
 have i3 : ∀ p, idsE p (strs Q) = true := fun p => za0 p _
 have i4 : ∀ p, idsE p (tks ts) = true := fun p => vk0 p _
 cases hp : xk0 ts with
 | ok p =>
  rw [hp] at hrd
  simp only at hrd ⊢
  obtain ⟨h1, rfl⟩ := hrd
  obtain ⟨n1, n2, n3⟩ := zbb9 hp
  have z : e3 = 0 ∧ ¬ k3 < ts.length := by
   split at h1
   ·exact absurd h1 (by show (4 : Int) ≠ 0; decide)
   ·rename_i q; exact ⟨h1, fun q2 => q ⟨h1, q2⟩⟩
  obtain ⟨rfl, z2⟩ := z
  have z3 : ¬ (k3 : Int) < ts.length := by omega
  simp only at n1 n2 n3
  simp only [zB, cB, if_neg n1, if_neg n2, if_neg n3] at c1 c2
  unfold wbF9 h24 rdR
  simp only [zB, cB, if_neg n1, if_neg n2, if_neg n3]
  have hcl := fun b0 b1 b2 b3 => qbm9 R I.length Q.length b0 b1 b2 b3 hR
  have hok := fun b0 b1 b2 b3 => qcC9 R I.length Q.length b0 b1 b2 b3 hR
  have w1 := vm0 4 I.length none Q.length
  have w2 : (ownR 4 I.length none Q.length).take Q.length = ownR 4 I.length none Q.length := List.take_of_length_le (by omega)
  unfold stR kEnd at *
  generalize ownR 4 I.length none Q.length = RW at *
  repeat' (first|(first|refine nav ?_|(refine g0_ ?_; first|refine wb0 (dr := allQ) (p := [0, 0, 1, 0, 1, 1, 1, 1, 1, 1, 1, 1, 1, 1, 1, 1, 1, 1, 1, 1, 1]) [(211, 10), (212, 211)] [(2, some 2)] [] rfl rfl mixed (by kernel_rfl) ?_|refine wb0 (dr := allQ) (p := [0, 1, 1, 1, 1, 1, 1, 1, 1, 1, 1, 1, 1, 1, 1, 1, 1, 1, 1]) [(215, 10), (216, 215), (217, 214), (218, 217), (219, 218), (221, 10), (222, 221), (223, 220), (224, 223), (225, 224), (226, 10), (227, 226)] [(2, some 2)] [] rfl rfl mixed (by kernel_rfl) ?_|refine goD ?_))|with_reducible refine gG ?_ ?_|((with_reducible refine And.intro (fun h => ?_) (fun h => ?_)) <;> try (exfalso; omega))|with_reducible refine andG ?_|(first|(refine ⟨_, _, pc_lift c1 (by simp [idsL, idsE, AV.ids, i1, i2, i3, i4]) _, ?_⟩)|(refine ⟨_, pc_lift c1 (by simp [idsL, idsE, AV.ids, i1, i2, i3, i4]) _, ?_⟩)|(refine ⟨_, fun _ => pc_lift c1 (by simp [idsL, idsE, AV.ids, i1, i2, i3, i4]) _, ?_⟩)|(refine ⟨_, _, pc_lift c2 (by simp [idsL, idsE, AV.ids, i1, i2, i3, i4]) _, ?_⟩)|(refine ⟨_, pc_lift c2 (by simp [idsL, idsE, AV.ids, i1, i2, i3, i4]) _, ?_⟩)|(refine ⟨_, fun _ => pc_lift c2 (by simp [idsL, idsE, AV.ids, i1, i2, i3, i4]) _, ?_⟩))|simp (disch := try exact discB) only [push_cast, simprocAttr, d2, d6, d10, d11, t1, t2, t3, htl, z3, w1, w2, hcl, hok])
 | no k e =>
  rw [hp] at hrd
  simp only at hrd ⊢
  obtain ⟨h1, he⟩ := hrd
  have hk := kcB9 hp
  have hid := fun p a e => qK0 p ts cc a e ⟨N, zB I, I, cB I, zB O, O, cB O, zB Q, Q, cB Q⟩
  unfold locR zSpecA h24 rdR
  by_cases hc : e3 = 0 ∧ k3 < ts.length
  ·obtain ⟨rfl, z2⟩ := hc
   rw [if_pos ⟨rfl, z2⟩] at h1
   simp only [Prod.mk.injEq] at h1
   obtain ⟨rfl, rfl⟩ := h1
   have z3 : (k3 : Int) < ts.length := by omega
   have z4 : ¬ (ts.length : Int) = 0 := by omega
   have hf := waF9 ts cc ⟨N, zB I, I, cB I, zB O, O, cB O, zB Q, Q, cB Q⟩ k3 0 k3 4
   rw [if_pos (by omega)]
   have e1 := wk0 ts k3 z2
   unfold tkA at e1
   simp only
   generalize ts.getD k3 tk0 = t at *
   obtain ⟨tk, tt, tl, tc⟩ := t
   simp only at *
   unfold stR kEnd at *
   repeat' (first|(first|refine nav ?_|(refine g0_ ?_; first|refine wb0 (dr := allQ) (p := [0, 0, 1, 0, 1, 1, 1, 1, 1, 1, 1, 1, 1, 1, 1, 1, 1, 1, 1, 1, 1]) [(211, 10), (212, 211)] [(2, some 2)] [] rfl rfl mixed (by kernel_rfl) ?_|refine wb0 (dr := allQ) (p := [0, 1, 1, 1, 1, 1, 1, 1, 1, 1, 1, 1, 1, 1, 1, 1, 1, 1, 1]) [(215, 10), (216, 215), (217, 214), (218, 217), (219, 218), (221, 10), (222, 221), (223, 220), (224, 223), (225, 224), (226, 10), (227, 226)] [(2, some 2)] [] rfl rfl mixed (by kernel_rfl) ?_|refine goD ?_))|with_reducible refine gG ?_ ?_|((with_reducible refine And.intro (fun h => ?_) (fun h => ?_)) <;> try (exfalso; omega))|with_reducible refine andG ?_|(first|(refine ⟨_, _, pc_lift c1 (by simp [idsL, idsE, AV.ids, i1, i2, i3, i4, hid]) _, ?_⟩)|(refine ⟨_, pc_lift c1 (by simp [idsL, idsE, AV.ids, i1, i2, i3, i4, hid]) _, ?_⟩)|(refine ⟨_, fun _ => pc_lift c1 (by simp [idsL, idsE, AV.ids, i1, i2, i3, i4, hid]) _, ?_⟩)|(refine ⟨_, _, pc_lift c2 (by simp [idsL, idsE, AV.ids, i1, i2, i3, i4, hid]) _, ?_⟩)|(refine ⟨_, pc_lift c2 (by simp [idsL, idsE, AV.ids, i1, i2, i3, i4, hid]) _, ?_⟩)|(refine ⟨_, fun _ => pc_lift c2 (by simp [idsL, idsE, AV.ids, i1, i2, i3, i4, hid]) _, ?_⟩)|(refine ⟨_, _, pc_lift hf (by simp [idsL, idsE, AV.ids, i1, i2, i3, i4, hid]) _, ?_⟩)|(refine ⟨_, pc_lift hf (by simp [idsL, idsE, AV.ids, i1, i2, i3, i4, hid]) _, ?_⟩)|(refine ⟨_, fun _ => pc_lift hf (by simp [idsL, idsE, AV.ids, i1, i2, i3, i4, hid]) _, ?_⟩))|simp (disch := try exact discB) only [push_cast, simprocAttr, d2, d6, d10, d11, t1, t2, t3, htl, z3, z4, e1])
   all_goals exact z2
  ·rw [if_neg hc] at h1
   simp only [Prod.mk.injEq] at h1
   obtain ⟨rfl, rfl⟩ := h1
   clear hc
   by_cases hz : 0 < ts.length
   ·have z2 := hk hz
    have z4 : ¬ (ts.length : Int) = 0 := by omega
    rw [if_pos hz]
    have e1 := wk0 ts k3 z2
    unfold tkA at e1
    simp only
    generalize ts.getD k3 tk0 = t at *
    obtain ⟨tk, tt, tl, tc⟩ := t
    simp only at *
    unfold stR kEnd at *
    repeat' (first|(first|refine nav ?_|(refine g0_ ?_; first|refine wb0 (dr := allQ) (p := [0, 0, 1, 0, 1, 1, 1, 1, 1, 1, 1, 1, 1, 1, 1, 1, 1, 1, 1, 1, 1]) [(211, 10), (212, 211)] [(2, some 2)] [] rfl rfl mixed (by kernel_rfl) ?_|refine wb0 (dr := allQ) (p := [0, 1, 1, 1, 1, 1, 1, 1, 1, 1, 1, 1, 1, 1, 1, 1, 1, 1, 1]) [(215, 10), (216, 215), (217, 214), (218, 217), (219, 218), (221, 10), (222, 221), (223, 220), (224, 223), (225, 224), (226, 10), (227, 226)] [(2, some 2)] [] rfl rfl mixed (by kernel_rfl) ?_|refine goD ?_))|with_reducible refine gG ?_ ?_|((with_reducible refine And.intro (fun h => ?_) (fun h => ?_)) <;> try (exfalso; omega))|with_reducible refine andG ?_|(first|(refine ⟨_, _, pc_lift c1 (by simp [idsL, idsE, AV.ids, i1, i2, i3, i4, hid]) _, ?_⟩)|(refine ⟨_, pc_lift c1 (by simp [idsL, idsE, AV.ids, i1, i2, i3, i4, hid]) _, ?_⟩)|(refine ⟨_, fun _ => pc_lift c1 (by simp [idsL, idsE, AV.ids, i1, i2, i3, i4, hid]) _, ?_⟩)|(refine ⟨_, _, pc_lift c2 (by simp [idsL, idsE, AV.ids, i1, i2, i3, i4, hid]) _, ?_⟩)|(refine ⟨_, pc_lift c2 (by simp [idsL, idsE, AV.ids, i1, i2, i3, i4, hid]) _, ?_⟩)|(refine ⟨_, fun _ => pc_lift c2 (by simp [idsL, idsE, AV.ids, i1, i2, i3, i4, hid]) _, ?_⟩))|simp (disch := try exact discB) only [push_cast, simprocAttr, d2, d6, d10, d11, t1, t2, t3, htl, he, z4, e1])
    all_goals exact z2
   ·have z4 : ts.length = 0 := by omega
    rw [if_neg hz]
    unfold stR kEnd at *
    repeat' (first|(first|refine nav ?_|(refine g0_ ?_; first|refine wb0 (dr := allQ) (p := [0, 0, 1, 0, 1, 1, 1, 1, 1, 1, 1, 1, 1, 1, 1, 1, 1, 1, 1, 1, 1]) [(211, 10), (212, 211)] [(2, some 2)] [] rfl rfl mixed (by kernel_rfl) ?_|refine wb0 (dr := allQ) (p := [0, 1, 1, 1, 1, 1, 1, 1, 1, 1, 1, 1, 1, 1, 1, 1, 1, 1, 1]) [(215, 10), (216, 215), (217, 214), (218, 217), (219, 218), (221, 10), (222, 221), (223, 220), (224, 223), (225, 224), (226, 10), (227, 226)] [(2, some 2)] [] rfl rfl mixed (by kernel_rfl) ?_|refine goD ?_))|with_reducible refine gG ?_ ?_|((with_reducible refine And.intro (fun h => ?_) (fun h => ?_)) <;> try (exfalso; omega))|with_reducible refine andG ?_|(first|(refine ⟨_, _, pc_lift c1 (by simp [idsL, idsE, AV.ids, i1, i2, i3, i4, hid]) _, ?_⟩)|(refine ⟨_, pc_lift c1 (by simp [idsL, idsE, AV.ids, i1, i2, i3, i4, hid]) _, ?_⟩)|(refine ⟨_, fun _ => pc_lift c1 (by simp [idsL, idsE, AV.ids, i1, i2, i3, i4, hid]) _, ?_⟩)|(refine ⟨_, _, pc_lift c2 (by simp [idsL, idsE, AV.ids, i1, i2, i3, i4, hid]) _, ?_⟩)|(refine ⟨_, pc_lift c2 (by simp [idsL, idsE, AV.ids, i1, i2, i3, i4, hid]) _, ?_⟩)|(refine ⟨_, fun _ => pc_lift c2 (by simp [idsL, idsE, AV.ids, i1, i2, i3, i4, hid]) _, ?_⟩))|simp (disch := try exact discB) only [push_cast, simprocAttr, d2, d6, d10, d11, t1, t2, t3, htl, he, z4])
end Go.Proofs
