import Derived.Test.YtlpjemobbjijdaaGreatDoorS11
import Derived.Test.YtlpjemobbjijdaaGreatDoorV69
namespace Go.Proofs
set_option linter.unusedVariables false
set_option linter.unusedSimpArgs false
theorem xan9 {l : List Tk} {w : Bs} {i k : Nat} {e : Int} (h : xd0 l w i = .no k e) (hi : i ≤ l.length) (hp : 0 < l.length) : k < l.length := by
 unfold xd0 xp0 at h;split at h
 ·simp only [PE.bind] at h;split at h
  ·cases h
  ·injection h with h _; omega
 ·injection h with h _; omega
theorem xcs9 {l : List Tk} {i k : Nat} {e : Int} (h : wh0 l i = .no k e) (hi : i ≤ l.length) (hp : 0 < l.length) : k < l.length := by
 unfold wh0 xp0 at h;split at h
 ·simp only [PE.bind] at h;split at h
  ·split at h
   ·injection h with h _; omega
   ·cases h
  ·injection h with h _; omega
 ·injection h with h _; omega
theorem of_k {l : List Tk} {ns : List Bs} {i k : Nat} {e : Int} (h : ofM l ns i = .no k e) (hi : i ≤ l.length) (hp : 0 < l.length) : k < l.length := by
 unfold ofM at h;cases h1 : wh0 l i with
 | no a b => rw [h1] at h; injection h with q1 q2; rw [← q1]; exact xcs9 h1 hi hp
 | ok s =>
  have := wA0 h1;rw [h1] at h;simp only [PE.bind] at h;split at h
  ·cases h
  ·injection h with h _; omega
theorem wcs9 {l : List Tk} {most k : Nat} {e : Int} (hp : 0 < l.length) : ∀ {f i : Nat} {o : List Bs}, kG0 l most f o i = .no k e → l.length < f + i → i ≤ l.length → k < l.length
 | 0, i, o, h, hf, hi => by omega
 | f + 1, i, o, h, hf, hi => by
  rcases qbH9 h with hn|⟨s, hn, hcase⟩
  ·exact xcs9 hn hi hp
  ·have := wA0 hn;rcases hcase with ⟨_, rfl, _⟩|⟨_, ⟨_, rfl, _⟩|⟨_, ⟨_, rfl, _⟩|⟨hlt, _, ⟨_, h2⟩|⟨_, rfl, _⟩⟩⟩⟩
   ·exact this
   ·exact this
   ·exact this
   ·exact wcs9 hp h2 (by omega) (by omega)
   ·exact hlt
theorem zbw9 {l : List Tk} {w : Bs} {most i k : Nat} {e : Int} (h : ql0 l w most i = .no k e) (hi : i ≤ l.length) (hp : 0 < l.length) : k < l.length := by
 unfold ql0 at h;cases h1 : xd0 l w i with
 | no a b => rw [h1] at h; injection h with q1 q2; rw [← q1]; exact xan9 h1 hi hp
 | ok u =>
  have := vm0 h1;rw [h1] at h;exact wcs9 hp h (by omega) (by omega)
theorem qdd9 {l : List Tk} {k : Nat} {e : Int} (h : kx0 l = .no k e) (hp : 0 < l.length) : k < l.length := by
 unfold kx0 at h;cases h1 : xd0 l kMac 0 with
 | no a b => rw [h1] at h; injection h with q1 q2; rw [← q1]; exact xan9 h1 (by omega) hp
 | ok u =>
 have := vm0 h1;rw [h1] at h; simp only [PE.bind] at h;cases h2 : wh0 l 1 with
 | no a b => rw [h2] at h; injection h with q1 q2; rw [← q1]; exact xcs9 h2 (by omega) hp
 | ok w =>
 have := wA0 h2;rw [h2] at h; simp only at h;cases h3 : xd0 l [59] 2 with
 | no a b => rw [h3] at h; injection h with q1 q2; rw [← q1]; exact xan9 h3 (by omega) hp
 | ok u => rw [h3] at h; cases h
theorem zdd9 {l : List Tk} {n : Bs} (h : kx0 l = .ok n) : 3 ≤ l.length := by
 unfold kx0 at h;cases h1 : xd0 l kMac 0 with
 | no a b => rw [h1] at h; cases h
 | ok u =>
 rw [h1] at h; simp only [PE.bind] at h;cases h2 : wh0 l 1 with
 | no a b => rw [h2] at h; cases h
 | ok w =>
 rw [h2] at h; simp only at h;cases h3 : xd0 l [59] 2 with
 | no a b => rw [h3] at h; cases h
 | ok u => have := vm0 h3; omega
theorem vcs9 {l : List Tk} {k : Nat} {e : Int} (h : ko0 l = .no k e) (h3 : 3 ≤ l.length) : k < l.length := by
 unfold ko0 at h;cases h1 : ql0 l kIns 16 3 with
 | no a b => rw [h1] at h; injection h with q1 q2; rw [← q1]; exact zbw9 h1 h3 (by omega)
 | ok p =>
 have l1 := wp0 h1;rw [h1] at h; simp only [PE.bind] at h;cases h2 : ql0 l kk0 16 p.2 with
 | no a b => rw [h2] at h; injection h with q1 q2; rw [← q1]; exact zbw9 h2 l1.2.2 (by omega)
 | ok q =>
 have l2 := wp0 h2;rw [h2] at h; simp only at h;cases h4 : ql0 l kSts 64 q.2 with
 | no a b => rw [h4] at h; injection h with q1 q2; rw [← q1]; exact zbw9 h4 l2.2.2 (by omega)
 | ok r => rw [h4] at h; cases h
theorem kdu9 {l : List Tk} {ins outs sts : List Bs} {i k : Nat} {e : Int} (h : vI0 l ins outs sts i = .no k e) (hi : i ≤ l.length) (hp : 0 < l.length) : k < l.length := by
 unfold vI0 at h;cases h1 : ofM l sts i with
 | no x y => rw [h1] at h; injection h with q1 q2; rw [← q1]; exact of_k h1 hi hp
 | ok v1 =>
 have u1 := zH0 h1;rw [h1] at h; simp only [PE.bind] at h;cases h2 : ofM l ins (i + 1) with
 | no x y => rw [h2] at h; injection h with q1 q2; rw [← q1]; exact of_k h2 (by omega) hp
 | ok v2 =>
 have u2 := zH0 h2;rw [h2] at h; simp only at h;cases h3 : xd0 l [47] (i + 2) with
 | no x y => rw [h3] at h; injection h with q1 q2; rw [← q1]; exact xan9 h3 (by omega) hp
 | ok v3 =>
 have u3 := vm0 h3;rw [h3] at h; simp only at h;cases h4 : ofM l outs (i + 3) with
 | no x y => rw [h4] at h; injection h with q1 q2; rw [← q1]; exact of_k h4 (by omega) hp
 | ok v4 =>
 have u4 := zH0 h4;rw [h4] at h; simp only at h;cases h5 : xd0 l [45, 62] (i + 4) with
 | no x y => rw [h5] at h; injection h with q1 q2; rw [← q1]; exact xan9 h5 (by omega) hp
 | ok v5 =>
 have u5 := vm0 h5;rw [h5] at h; simp only at h;cases h6 : ofM l sts (i + 5) with
 | no x y => rw [h6] at h; injection h with q1 q2; rw [← q1]; exact of_k h6 (by omega) hp
 | ok v6 =>
 have u6 := zH0 h6;rw [h6] at h; simp only at h;cases h7 : xd0 l [59] (i + 6) with
 | no x y => rw [h7] at h; injection h with q1 q2; rw [← q1]; exact xan9 h7 (by omega) hp
 | ok v7 => rw [h7] at h; cases h
theorem zaV9 {l : List Tk} {ins outs sts : List Bs} {k : Nat} {e : Int} (hp : 0 < l.length) : ∀ {f i : Nat} {R : ER}, kj0 l ins outs sts f R i = .no k e → l.length < f + i → i ≤ l.length → k < l.length
 | 0, i, R, h, hf, hi => by omega
 | f + 1, i, R, h, hf, hi => by
  rw [kj0] at h;split at h
  ·cases h
  cases he : vI0 l ins outs sts i with
  | no x y => rw [he] at h; injection h with q1 q2; rw [← q1]; exact kdu9 he hi hp
  | ok p =>
   obtain ⟨s, a, o, t⟩ := p;obtain ⟨g1, _, _, _, _, _, g7⟩ := qP0 he;have u1 := zH0 g1;have u7 := vm0 g7;rw [he] at h;simp only [PE.bind] at h;split at h
   ·exact zaV9 hp h (by omega) (by omega)
   ·injection h with h _; omega
theorem qaC9 {l : List Tk} {ins outs sts : List Bs} {r : ER × Nat} : ∀ {f i : Nat} {R : ER}, kj0 l ins outs sts f R i = .ok r → i ≤ l.length → r.2 < l.length
 | 0, i, R, h, hi => by cases h
 | f + 1, i, R, h, hi => by
  rw [kj0] at h;split at h
  ·rename_i hq;unfold zab9 at hq;rw [l'a, decide_eq_true_eq] at hq;injection h with h
   rw [← h]; exact hq.1
  cases he : vI0 l ins outs sts i with
  | no x y => rw [he] at h; cases h
  | ok p =>
   obtain ⟨s, a, o, t⟩ := p;obtain ⟨_, _, _, _, _, _, g7⟩ := qP0 he;have u7 := vm0 g7;rw [he] at h;simp only [PE.bind] at h;split at h
   ·exact qaC9 h (by omega)
   ·cases h
theorem wV0 {n k : Nat} {l : List Tk} {ins outs sts : List Bs} {r : ER × Nat} : ∀ {f i : Nat} {R : ER}, kj0 l ins outs sts f R i = .ok r → RectE n k R → RectE n k r.1
 | 0, i, R, h, hR => by cases h
 | f + 1, i, R, h, hR => by
  rw [kj0] at h;split at h
  ·injection h with h; rw [← h]; exact hR
  cases he : vI0 l ins outs sts i with
  | no x y => rw [he] at h; cases h
  | ok p =>
   rw [he] at h;simp only [PE.bind] at h;split at h
   ·exact wV0 h (vA0 hR _ _ _)
   ·cases h
theorem zaC9 {n k : Nat} {l : List Tk} {ins outs sts : List Bs} : ∀ {f i : Nat} {R : ER}, RectE n k R → RectE n k (zan9 l ins outs sts f R i)
 | 0, i, R, hR => hR
 | f + 1, i, R, hR => by
  rw [zan9];split
  ·exact hR
  ·split
   ·exact hR
   ·split
    ·exact zaC9 (vA0 hR _ _ _)
    ·exact hR
theorem xdd9 {l : List Tk} {i k : Nat} {e : Int} (h : xab9 l i = .no k e) (hi : i < l.length) : k < l.length := by
 unfold xab9 at h;cases h1 : xd0 l kEnd i with
 | no a b => rw [h1] at h; injection h with q1 q2; rw [← q1]; exact xan9 h1 (by omega) (by omega)
 | ok u =>
 rw [h1] at h; simp only [PE.bind] at h;cases h2 : xd0 l [59] (i + 1) with
 | no a b => rw [h2] at h; injection h with q1 q2; rw [← q1]; exact xan9 h2 (by omega) (by omega)
 | ok u =>
  rw [h2] at h; simp only at h;split at h
  ·injection h with h _; omega
  ·cases h
end Go.Proofs
namespace Go.Proofs
open Go Go.V
set_option linter.unusedVariables false
set_option linter.unusedSimpArgs false
set_option maxHeartbeats 0
set_option maxRecDepth 100000
theorem qdv9 (u : Value) (W : World) : (Instr.typeAssert (.iface 111 u) 20 111 true).run Tryz.prog W = .ok (.tuple #[u, .bool true]) W := by
 simp [Instr.typeAssert, run_underlying Tryz.underlying111]
theorem kdL9 (W : World) : (Instr.typeAssert .nilIface 20 111 true).run Tryz.prog W = .ok (.tuple #[.agg #[.int .i64 0, .int .i64 0], .bool false]) W := by
 rfl
def locR (ts : List Tk) (k : Nat) : Int × Int := if 0 < ts.length then ((ts.getD k tk0).l, (ts.getD k tk0).c) else (1, 1)
def zSpec : Blk := .row 7 27 [[.str [], .int .i64 0, .int .i64 0, .sl 0 [] (some 0), .sl 0 [] (some 0), .sl 0 [] (some 0), .sl 0 [] (some 0)]]
def argP : List AV := [.ptr 0 0 0 1, .ptr 1 0 0 1, .ptr 2 0 0 1, .ptr 3 0 0 1, .ptr 4 0 0 1]
theorem qdM9 (ts : List Tk) (c : Option Nat) (X0 X1 X2 X3 : List AV) (K : List Blk) (hb : (.row 7 27 [X0] :: .row 1 3 [X1] :: .row 1 3 [X2] :: .row 1 29 [X3] :: .row 1 107 [[.sl 4 (tks ts) c]] :: K).all (Blk.below (K.length + 5)) = true) :
  xcM9 Tryz.prog G0 64 argP (.row 7 27 [X0] :: .row 1 3 [X1] :: .row 1 3 [X2] :: .row 1 29 [X3] :: .row 1 107 [[.sl 4 (tks ts) c]] :: K) (.row 7 27 [X0] :: .row 1 3 [X1] :: .row 1 3 [X2] :: .row 1 29 [X3] :: .row 1 107 [[.sl 4 (tks ts) c]] :: K) := by
 refine qcN9 (d := 8) (d1 := 9) (avw := .tup [.agg [.int .i64 0, .int .i64 0], .bool false]) 32 Tryz.func64 rfl rfl (by simp [argP]) rfl rfl rfl rfl rfl rfl (by decide) kdL9 (fun E => by simp [Rel, RelL, Value.oneCell']) rfl ?_;intro s ⟨a0, a1, a2, a3, a4, hz⟩;simp only [l'g, Nat.reduceAdd] at a1 a2 a3 a4;clear hz;have hs : ∀ A B : Blk, (K ++ [A]).set K.length B = K ++ [B] := fun A B => by rw [l'O _ _ (l'd _), l'N]; rfl
 have hg : ∀ A : Blk, (K ++ [A])[K.length]? = some A := fun A => by rw [l'q (l'd _), l'N]; rfl
 have htk : ∀ A : Blk, (.row 7 27 [X0] :: .row 1 3 [X1] :: .row 1 3 [X2] :: .row 1 29 [X3] :: .row 1 107 [[.sl 4 (tks ts) c]] :: (K ++ [A])).take (K.length + 5) = .row 7 27 [X0] :: .row 1 3 [X1] :: .row 1 3 [X2] :: .row 1 29 [X3] :: .row 1 107 [[.sl 4 (tks ts) c]] :: K := fun A => n'i (l₁ := .row 7 27 [X0] :: .row 1 3 [X1] :: .row 1 3 [X2] :: .row 1 29 [X3] :: .row 1 107 [[.sl 4 (tks ts) c]] :: K) rfl;repeat' (first|(first|refine nav ?_|(refine g0_ ?_; first|refine dN (p := [0, 1, 1]) [(15, 5), (16, 15)] [(0, some 0), (1, some 1), (2, some 2)] [] ?_|refine goD ?_))|(with_reducible first|refine gG ?_ ?_|refine ⟨fun h => ?_, fun h => ?_⟩ <;> try omega|refine andG ?_)|simp (disch := try exact discB) only [push_cast, simprocAttr, a0, a1, a2, a3, a4, hs, hg])
 refine ⟨trivial, ?_⟩;show Go _ _ _ _ _ _ _ _ _ _ _;repeat' (first|(first|refine nav ?_|(refine g0_ ?_; first|refine dN (p := [0, 1, 1]) [(15, 5), (16, 15)] [(0, some 0), (1, some 1), (2, some 2)] [] ?_|refine goD ?_))|(with_reducible first|refine gG ?_ ?_|refine ⟨fun h => ?_, fun h => ?_⟩ <;> try omega|refine andG ?_)|simp (disch := try exact discB) only [push_cast, simprocAttr, a0, a1, a2, a3, a4, hs, hg])
 exact ⟨trivial, by simp, (congrArg (fun l => List.all l (Blk.below (K.length + 5))) (htk _)).trans hb, htk _⟩
theorem qcT9 (ts : List Tk) (c : Option Nat) (X0 : List AV) (x1 x2 x3 : Int) (k : Nat) (e : Int) (K : List Blk) (hX : X0.length = 7) (hl : ts.length ≤ 1000000) (hk : 0 < ts.length → k < ts.length) (hb : ∀ (X0 : List AV) (x1 x2 x3 : Int), (∀ p, idsL p X0 = true) → (.row 7 27 [X0] :: .row 1 3 [[.int .i64 x1]] :: .row 1 3 [[.int .i64 x2]] :: .row 1 29 [[.int .i64 x3]] :: .row 1 107 [[.sl 4 (tks ts) c]] :: K).all (Blk.below (K.length + 5)) = true) :
  zcM9 Tryz.prog G0 64 argP (.row 7 27 [X0] :: .row 1 3 [[.int .i64 x1]] :: .row 1 3 [[.int .i64 x2]] :: .row 1 29 [[.int .i64 x3]] :: .row 1 107 [[.sl 4 (tks ts) c]] :: K) (.iface 111 (.agg #[.int .i64 (k : Int), .int .i64 e])) (zSpec :: .row 1 3 [[.int .i64 (locR ts k).1]] :: .row 1 3 [[.int .i64 (locR ts k).2]] :: .row 1 29 [[.int .i64 e]] :: .row 1 107 [[.sl 4 (tks ts) c]] :: K) := by
 refine kcM9 (d := 8) (d1 := 9) (avw := .tup [.agg [.int .i64 k, .int .i64 e], .bool true]) 32 Tryz.func64 rfl rfl (by simp [argP]) rfl rfl rfl rfl rfl rfl (by decide) (qdv9 _) (fun E => by simp [Rel, RelL, Value.oneCell']) rfl ?_;intro s ⟨a0, a1, a2, a3, a4, hz⟩;simp only [l'g, Nat.reduceAdd] at a1 a2 a3 a4;clear hz;obtain ⟨y0, y1, y2, y3, y4, y5, y6, rfl⟩ : ∃ y0 y1 y2 y3 y4 y5 y6, X0 = [y0, y1, y2, y3, y4, y5, y6] := by
  match X0, hX with
  | [y0, y1, y2, y3, y4, y5, y6], _ => exact ⟨_, _, _, _, _, _, _, rfl⟩
 have hs : ∀ A B : Blk, (K ++ [A]).set K.length B = K ++ [B] := fun A B => by rw [l'O _ _ (l'd _), l'N]; rfl
 have hg : ∀ A : Blk, (K ++ [A])[K.length]? = some A := fun A => by rw [l'q (l'd _), l'N]; rfl
 have htk : ∀ (A B0 B1 B2 B3 B4 : Blk), (B0 :: B1 :: B2 :: B3 :: B4 :: (K ++ [A])).take (K.length + 5) = B0 :: B1 :: B2 :: B3 :: B4 :: K := fun A B0 B1 B2 B3 B4 => n'i (l₁ := B0 :: B1 :: B2 :: B3 :: B4 :: K) rfl;have htl := wd0 ts;have hbf := fun a b => hb [.str [], .int .i64 0, .int .i64 0, .sl 0 [] (some 0), .sl 0 [] (some 0), .sl 0 [] (some 0), .sl 0 [] (some 0)] a b e (fun p => by simp [idsL, AV.ids, idsE]);rcases n'g ts.length with h0|hpos
 ·have hloc : locR ts k = (1, 1) := by rw [locR, if_neg (by omega)]
  rw [hloc];have hbf := hbf 1 1;generalize tks ts = TS at *;have hz0 : ¬ (0 : Int) < TS.length := by omega
  repeat' (first|(first|refine nav ?_|(refine g0_ ?_; first|refine dN (p := [0, 1, 1]) [(15, 5), (16, 15)] [(0, some 0), (1, some 1), (2, some 2)] [] ?_|refine goD ?_))|(with_reducible first|refine gG ?_ ?_|refine ⟨fun h => ?_, fun h => ?_⟩ <;> try omega|refine andG ?_)|simp (disch := try exact discB) only [push_cast, simprocAttr, a0, a1, a2, a3, a4, hs, hg, hz0])
  refine ⟨trivial, ?_⟩;show Go _ _ _ _ _ _ _ _ _ _ _;repeat' (first|(first|refine nav ?_|(refine g0_ ?_; first|refine dN (p := [0, 1, 1]) [(15, 5), (16, 15)] [(0, some 0), (1, some 1), (2, some 2)] [] ?_|refine goD ?_))|(with_reducible first|refine gG ?_ ?_|refine ⟨fun h => ?_, fun h => ?_⟩ <;> try omega|refine andG ?_)|simp (disch := try exact discB) only [push_cast, simprocAttr, a0, a1, a2, a3, a4, hs, hg, hz0])
  exact ⟨trivial, by simp, (congrArg (fun l => List.all l (Blk.below (K.length + 5))) (htk ..)).trans hbf, htk ..⟩
 ·have hkl := hk hpos;have e1 := qn0 ts k hkl;have hloc : locR ts k = ((ts.getD k tk0).l, (ts.getD k tk0).c) := by rw [locR, if_pos hpos]
  rw [hloc];have hbf := hbf (ts.getD k tk0).l (ts.getD k tk0).c;generalize ts.getD k tk0 = t at *;obtain ⟨tk, tt, tl, tc⟩ := t;simp only [tkA] at e1;simp only at hbf ⊢;generalize tks ts = TS at *;have hz0 : (0 : Int) < TS.length := by omega
  repeat' (first|(first|refine nav ?_|(refine g0_ ?_; first|refine dN (p := [0, 1, 1]) [(15, 5), (16, 15)] [(0, some 0), (1, some 1), (2, some 2)] [] ?_|refine goD ?_))|(with_reducible first|refine gG ?_ ?_|refine ⟨fun h => ?_, fun h => ?_⟩ <;> try omega|refine andG ?_)|simp (disch := try exact discB) only [push_cast, simprocAttr, a0, a1, a2, a3, a4, hs, hg, hz0, e1])
  refine ⟨trivial, ?_⟩;show Go _ _ _ _ _ _ _ _ _ _ _;repeat' (first|(first|refine nav ?_|(refine g0_ ?_; first|refine dN (p := [0, 1, 1]) [(15, 5), (16, 15)] [(0, some 0), (1, some 1), (2, some 2)] [] ?_|refine goD ?_))|(with_reducible first|refine gG ?_ ?_|refine ⟨fun h => ?_, fun h => ?_⟩ <;> try omega|refine andG ?_)|simp (disch := try exact discB) only [push_cast, simprocAttr, a0, a1, a2, a3, a4, hs, hg, hz0, e1])
  exact ⟨by first|trivial|omega, by simp, (congrArg (fun l => List.all l (Blk.below (K.length + 5))) (htk ..)).trans hbf, htk ..⟩
end Go.Proofs
