import Derived.Test.YtlpjemobbjijdaaGreatDoorS9
namespace Go.Proofs
open Go Go.V
set_option linter.unusedVariables false
set_option linter.unusedSimpArgs false
set_option maxHeartbeats 0
set_option maxRecDepth 100000
def RectE (n k : Nat) (R : ER) : Prop := R.length = n ∧ ∀ s, s < n → (R.getD s []).length = k
theorem vA0 {n k : Nat} {R : ER} (h : RectE n k R) (s a : Nat) (e : Int × Int) : RectE n k (setE R s a e) := by
 refine ⟨by simp [setE, h.1], fun x hx => ?_⟩;have hl := h.2 x hx;have h1 := h.1;unfold setE;rw [l'b, n'e];split
 ·rename_i q;subst q;rw [if_pos (by omega)];simp only [Option.getD_some, l'D];exact hl
 ·rw [← l'b]; exact hl
def edH (P0 P1 P2 P3 P4 rd : Blk) (k n : Nat) (R : ER) : List Blk := P0 :: P1 :: P2 :: P3 :: P4 :: rd :: .row 1 50 (ownR 7 k (some k) n) :: xf0 2 70 (R.map rowA)
theorem vdu9 (P0 P1 P2 P3 P4 rd : Blk) (k n : Nat) (R : ER) (h : R.length = n) : (edH P0 P1 P2 P3 P4 rd k n R).length = n + 7 := by simp [edH, qA0, h]
theorem qP0 {l : List Tk} {ins outs sts : List Bs} {i s a o t : Nat} (h : vI0 l ins outs sts i = .ok (s, a, o, t)) : ofM l sts i = .ok s ∧ ofM l ins (i + 1) = .ok a ∧ xd0 l [47] (i + 2) = .ok () ∧ ofM l outs (i + 3) = .ok o ∧ xd0 l [45, 62] (i + 4) = .ok () ∧ ofM l sts (i + 5) = .ok t ∧ xd0 l [59] (i + 6) = .ok () := by
 unfold vI0 at h;cases h1 : ofM l sts i with
 | no x y => rw [h1] at h; cases h
 | ok v1 =>
 rw [h1] at h; simp only [PE.bind] at h;cases h2 : ofM l ins (i + 1) with
 | no x y => rw [h2] at h; cases h
 | ok v2 =>
 rw [h2] at h; simp only at h;cases h3 : xd0 l [47] (i + 2) with
 | no x y => rw [h3] at h; cases h
 | ok v3 =>
 rw [h3] at h; simp only at h;cases h4 : ofM l outs (i + 3) with
 | no x y => rw [h4] at h; cases h
 | ok v4 =>
 rw [h4] at h; simp only at h;cases h5 : xd0 l [45, 62] (i + 4) with
 | no x y => rw [h5] at h; cases h
 | ok v5 =>
 rw [h5] at h; simp only at h;cases h6 : ofM l sts (i + 5) with
 | no x y => rw [h6] at h; cases h
 | ok v6 =>
 rw [h6] at h; simp only at h;cases h7 : xd0 l [59] (i + 6) with
 | no x y => rw [h7] at h; cases h
 | ok v7 =>
 rw [h7] at h; simp only at h;injection h with h; injection h with q1 h; injection h with q2 h; injection h with q3 q4
 subst q1 q2 q3 q4;exact ⟨rfl, rfl, rfl, rfl, rfl, rfl, rfl⟩
section
variable {ts : List Tk} {c : Option Nat} {P0 P1 P2 P3 P4 : Blk}
theorem kA0 (hP : ∀ n : Nat, [P0, P1, P2, P3, P4].all (Blk.below n) = true) (n0 : Bs) (k q n : Nat) (ins outs sts : List Bs) (cI cO cS : Option Nat) (R : ER) (hR : R.length = n) (i j : Int) : ((edH P0 P1 P2 P3 P4 (rdB ts c i (.str n0) (.int .i64 k) (.int .i64 q) (.own 6 n n (some n)) (.sl 1 (strs ins) cI) (.sl 1 (strs outs) cO) (.sl 1 (strs sts) cS)) k n R).set 5 (rdB ts c j (.str n0) (.int .i64 k) (.int .i64 q) (.own 6 n n (some n)) (.sl 1 (strs ins) cI) (.sl 1 (strs outs) cO) (.sl 1 (strs sts) cS))).all (Blk.below (edH P0 P1 P2 P3 P4 (rdB ts c i (.str n0) (.int .i64 k) (.int .i64 q) (.own 6 n n (some n)) (.sl 1 (strs ins) cI) (.sl 1 (strs outs) cO) (.sl 1 (strs sts) cS)) k n R).length) = true := by
 rw [vdu9 _ _ _ _ _ _ _ _ _ hR];have h1 := hP (n + 7);have h2 : (xf0 2 70 (R.map rowA)).all (Blk.below (n + 7)) = true := zcL9 fun es he => by
  obtain ⟨r, _, rfl⟩ := l'Z.1 he;exact xm0 _ _
 have h3 : idsE (fun b => decide (b < n + 7)) (ownR 7 k (some k) n) = true := by
  rw [zu0];intro e he;simp only [ownR, l'Z, l'U] at he;obtain ⟨s, hs, rfl⟩ := he;simp [idsL, AV.ids, hs]
 have hset : (edH P0 P1 P2 P3 P4 (rdB ts c i (.str n0) (.int .i64 k) (.int .i64 q) (.own 6 n n (some n)) (.sl 1 (strs ins) cI) (.sl 1 (strs outs) cO) (.sl 1 (strs sts) cS)) k n R).set 5 (rdB ts c j (.str n0) (.int .i64 k) (.int .i64 q) (.own 6 n n (some n)) (.sl 1 (strs ins) cI) (.sl 1 (strs outs) cO) (.sl 1 (strs sts) cS)) = [P0, P1, P2, P3, P4] ++ (rdB ts c j (.str n0) (.int .i64 k) (.int .i64 q) (.own 6 n n (some n)) (.sl 1 (strs ins) cI) (.sl 1 (strs outs) cO) (.sl 1 (strs sts) cS) :: .row 1 50 (ownR 7 k (some k) n) :: xf0 2 70 (R.map rowA)) := rfl;rw [hset, List.all_append, h1, List.all_cons, List.all_cons, h2];simp only [n'k, n'B, rdB, rdC, Blk.below, h3];simp [idsE, idsL, AV.ids]
theorem vcS9 (n0 : Bs) (k q n : Nat) (ins outs sts : List Bs) (cI cO cS : Option Nat) (hk : ins.length = k) (hn : sts.length = n) (hq : outs.length = q) (hkb : k ≤ 1000) (hqb : q ≤ 1000) (hnb : n ≤ 1000) (R0 R1 : ER) (i0 i' f0 : Nat) (hm : kj0 ts ins outs sts f0 R0 i0 = .ok (R1, i')) (hR0 : RectE n k R0) (hl : ts.length ≤ 1000000) (hi0 : i0 ≤ ts.length) (hP : ∀ n : Nat, [P0, P1, P2, P3, P4].all (Blk.below n) = true) :
  qb0 Tryz.prog G0 67 [.ptr 5 0 0 1] (edH P0 P1 P2 P3 P4 (rdB ts c i0 (.str n0) (.int .i64 k) (.int .i64 q) (.own 6 n n (some n)) (.sl 1 (strs ins) cI) (.sl 1 (strs outs) cO) (.sl 1 (strs sts) cS)) k n R0) (.tup []) (edH P0 P1 P2 P3 P4 (rdB ts c i' (.str n0) (.int .i64 k) (.int .i64 q) (.own 6 n n (some n)) (.sl 1 (strs ins) cI) (.sl 1 (strs outs) cO) (.sl 1 (strs sts) cS)) k n R1) := by
 have hB := fun R (hR : RectE n k R) i => kA0 (ts := ts) (c := c) hP n0 k q n ins outs sts cI cO cS R hR.1 i;refine zp0 100 [] Tryz.func67 rfl rfl rfl (by simp) ?_;intro s ⟨a0, hz⟩;clear hz;repeat' (first|refine nv ?_|(with_reducible first|refine gG ?_ ?_|refine ⟨fun h => ?_, fun h => ?_⟩ <;> try omega|refine andG ?_)|simp (disch := try exact discB) only [push_cast, simprocAttr, a0])
 refine go_loop rfl (fun mz s' H' => ∃ (f : Nat) (R : ER) (i : Nat), kj0 ts ins outs sts f R i = .ok (R1, i') ∧ i ≤ ts.length ∧ RectE n k R ∧ mz = f ∧ H' = edH P0 P1 P2 P3 P4 (rdB ts c i (.str n0) (.int .i64 k) (.int .i64 q) (.own 6 n n (some n)) (.sl 1 (strs ins) cI) (.sl 1 (strs outs) cO) (.sl 1 (strs sts) cS)) k n R ∧ s' 0 = .ptr 5 0 0 1) (m := f0) trivial (Weak.refl _ _) ⟨f0, R0, i0, hm, hi0, hR0, rfl, rfl, a0⟩ ?_;rintro mz s' H' ⟨f, R, i, hg, hi, hR, rfl, rfl, b0⟩;have htl := wd0 ts;have w1 : (ownR 7 k (some k) n).length = n := by simp [ownR]
 cases mz with
 | zero => cases hg
 | succ f =>
 rw [kj0] at hg;by_cases hend : zab9 ts i = true
 ·rw [if_pos hend] at hg;injection hg with hg; injection hg with e1 e2
  subst e1 e2;unfold zab9 at hend;rw [l'a, decide_eq_true_eq, decide_eq_true_eq] at hend;obtain ⟨hlt, htt⟩ := hend;have e1 := qn0 ts i hlt;have hne : ¬ (i : Int) = ts.length := by omega
  generalize ts.getD i tk0 = t at *;obtain ⟨tk, tt, tl, tc⟩ := t;simp only at htt;subst htt;simp only [tkA] at e1;unfold edH rdB rdC kEnd at *;generalize tks ts = TS at *;repeat' (first|refine nv ?_|(with_reducible first|refine gG ?_ ?_|refine ⟨fun h => ?_, fun h => ?_⟩ <;> try omega|refine andG ?_)|simp (disch := try exact discB) only [push_cast, simprocAttr, b0, htl, e1, hne])
 ·rw [if_neg hend] at hg;cases he : vI0 ts ins outs sts i with
  | no x y => rw [he] at hg; cases hg
  | ok p =>
  obtain ⟨s, a, o, t⟩ := p;rw [he] at hg;simp only [PE.bind] at hg;split at hg
  rotate_left
  ·cases hg
  rename_i hfree;obtain ⟨h1, h2, h3, h4, h5, h6, h7⟩ := qP0 he;have v1 := zH0 h1;have v2 := zH0 h2;have v4 := zH0 h4;have v6 := zH0 h6;have v7 := vm0 h7;have htt : ¬ (ts.getD i tk0).t = kEnd := fun q => hend (by unfold zab9; rw [l'a, decide_eq_true_eq, decide_eq_true_eq]; exact ⟨v1.1, q⟩);have e1 := qn0 ts i v1.1;have hne : ¬ (i : Int) = ts.length := by omega
  have c1 := qbj9 (H := edH P0 P1 P2 P3 P4 (rdB ts c i (.str n0) (.int .i64 k) (.int .i64 q) (.own 6 n n (some n)) (.sl 1 (strs ins) cI) (.sl 1 (strs outs) cO) (.sl 1 (strs sts) cS)) k n R) (b := 5) sts cS i s h1 rfl (by omega) hl (hB R hR i);have c2 := qbj9 (H := edH P0 P1 P2 P3 P4 (rdB ts c ((i + 1 : Nat) : Int) (.str n0) (.int .i64 k) (.int .i64 q) (.own 6 n n (some n)) (.sl 1 (strs ins) cI) (.sl 1 (strs outs) cO) (.sl 1 (strs sts) cS)) k n R) (b := 5) ins cI (i + 1) a h2 rfl (by omega) hl (hB R hR _);have c3 := zq0 (H := edH P0 P1 P2 P3 P4 (rdB ts c ((i + 2 : Nat) : Int) (.str n0) (.int .i64 k) (.int .i64 q) (.own 6 n n (some n)) (.sl 1 (strs ins) cI) (.sl 1 (strs outs) cO) (.sl 1 (strs sts) cS)) k n R) (b := 5) [47] (i + 2) h3 rfl hl (hB R hR _);have c4 := qbj9 (H := edH P0 P1 P2 P3 P4 (rdB ts c ((i + 3 : Nat) : Int) (.str n0) (.int .i64 k) (.int .i64 q) (.own 6 n n (some n)) (.sl 1 (strs ins) cI) (.sl 1 (strs outs) cO) (.sl 1 (strs sts) cS)) k n R) (b := 5) outs cO (i + 3) o h4 rfl (by omega) hl (hB R hR _);have c5 := zq0 (H := edH P0 P1 P2 P3 P4 (rdB ts c ((i + 4 : Nat) : Int) (.str n0) (.int .i64 k) (.int .i64 q) (.own 6 n n (some n)) (.sl 1 (strs ins) cI) (.sl 1 (strs outs) cO) (.sl 1 (strs sts) cS)) k n R) (b := 5) [45, 62] (i + 4) h5 rfl hl (hB R hR _);have c6 := qbj9 (H := edH P0 P1 P2 P3 P4 (rdB ts c ((i + 5 : Nat) : Int) (.str n0) (.int .i64 k) (.int .i64 q) (.own 6 n n (some n)) (.sl 1 (strs ins) cI) (.sl 1 (strs outs) cO) (.sl 1 (strs sts) cS)) k n R) (b := 5) sts cS (i + 5) t h6 rfl (by omega) hl (hB R hR _);have c7 := zq0 (H := edH P0 P1 P2 P3 P4 (rdB ts c ((i + 6 : Nat) : Int) (.str n0) (.int .i64 k) (.int .i64 q) (.own 6 n n (some n)) (.sl 1 (strs ins) cI) (.sl 1 (strs outs) cO) (.sl 1 (strs sts) cS)) k n R) (b := 5) [59] (i + 6) h7 rfl hl (hB R hR _);rw [show ((i : Nat) : Int) + 1 = ((i + 1 : Nat) : Int) from rfl] at c1;rw [show ((i + 1 : Nat) : Int) + 1 = ((i + 2 : Nat) : Int) from rfl] at c2;rw [show ((i + 2 : Nat) : Int) + 1 = ((i + 3 : Nat) : Int) from rfl] at c3;rw [show ((i + 3 : Nat) : Int) + 1 = ((i + 4 : Nat) : Int) from rfl] at c4;rw [show ((i + 4 : Nat) : Int) + 1 = ((i + 5 : Nat) : Int) from rfl] at c5;rw [show ((i + 5 : Nat) : Int) + 1 = ((i + 6 : Nat) : Int) from rfl] at c6;rw [show ((i + 6 : Nat) : Int) + 1 = ((i + 7 : Nat) : Int) from rfl] at c7;have w2 : (ownR 7 k (some k) n).getD s [] = [.own (s + 7) k k (some k)] := way9 (some k) (by omega);have w3 : (xf0 2 70 (R.map rowA))[s]? = some (.row 2 70 (rowA (R.getD s []))) := by
   have hs : s < (R.map rowA).length := by rw [l'B, hR.1]; omega
   rw [xay9 rfl hs];have hs2 : s < R.length := by rw [hR.1]; omega
   simp [hs2]
  have hrl := hR.2 s (by omega);have w4 : (rowA (R.getD s [])).length = k := by rw [qf0, hrl]
  have w5 : (rowA (R.getD s [])).getD a [] = [.int .i64 (getE R s a).1, .int .i64 (getE R s a).2] := by
   have ha : a < (R.getD s []).length := by omega
   have hh : ∀ (r : List Edg), a < r.length → r.getD a (0, 0) = r.getD a (-1, -1) := fun r h => by simp [h]
   rw [wn0 _ _ ha, eA, getE, hh _ ha]
  have w6 : (xf0 2 70 (R.map rowA)).set s (.row 2 70 ((rowA (R.getD s [])).set a [.int .i64 t, .int .i64 o])) = xf0 2 70 ((setE R s a ((t : Int), (o : Int))).map rowA) := by
   rw [zcj9, setE, z'f];simp [rowA, eA, z'f]
  have hRn := vA0 hR s a ((t : Int), (o : Int));have hsn : s < n := by omega
  have han : a < k := by omega
  have hd1 : ∀ p, idsE p (strs ins) = true := fun p => xa0 _ _;have hd2 : ∀ p, idsE p (strs outs) = true := fun p => xa0 _ _;have hd3 : ∀ p, idsE p (strs sts) = true := fun p => xa0 _ _;have hd4 : ∀ p, idsE p (tks ts) = true := fun p => vp0 _ _;rw [hfree] at w5;generalize (getE R s a).2 = g2 at *;generalize ts.getD i tk0 = tt at *;obtain ⟨tk, tt, tl, tc⟩ := tt;simp only at htt;simp only [tkA] at e1;unfold edH rdB rdC kEnd at *;simp only [List.set_cons_succ, List.set_cons_zero] at c1 c2 c3 c4 c5 c6 c7;generalize ((i + 1 : Nat) : Int) = j1 at *;generalize ((i + 2 : Nat) : Int) = j2 at *;generalize ((i + 3 : Nat) : Int) = j3 at *;generalize ((i + 4 : Nat) : Int) = j4 at *;generalize ((i + 5 : Nat) : Int) = j5 at *;generalize ((i + 6 : Nat) : Int) = j6 at *;generalize hj7 : ((i + 7 : Nat) : Int) = j7 at *;generalize hE' : xf0 2 70 ((setE R s a ((t : Int), (o : Int))).map rowA) = E' at *;generalize xf0 2 70 (R.map rowA) = E at *;generalize rowA (R.getD s []) = r at *;generalize ownR 7 k (some k) n = RW at *;generalize tks ts = TS at *;generalize strs ins = S1 at *;generalize strs outs = S2 at *;generalize strs sts = S3 at *;repeat' (first|refine nv ?_|(with_reducible first|refine gG ?_ ?_|refine ⟨fun h => ?_, fun h => ?_⟩ <;> try omega|refine andG ?_)|refine cl c1 ?_|refine cl c2 ?_|refine cl c3 ?_|refine cl c4 ?_|refine cl c5 ?_|refine cl c6 ?_|refine cl c7 ?_|simp (disch := try exact discB) only [push_cast, simprocAttr, b0, htl, e1, hne, htt, w1, w2, w3, w4, w5, w6, hsn, han])
  refine wa0 f (by omega) (by first|exact va0|fail) ⟨f, _, i + 7, hg, by omega, hRn, rfl, by rw [hE', hj7], ?_⟩;simp (disch := try exact discB) only [push_cast, simprocAttr, b0, htl, e1, hne, htt, w1, w2, w3, w4, w5, w6, hsn, han]
end
end Go.Proofs
