import Derived.Test.YtlpjemobbjijdaaGreatDoorS7
import Derived.Test.YtlpjemobbjijdaaGreatDoorV51
namespace Go.Proofs
open Go Go.V
set_option linter.unusedVariables false
set_option linter.unusedSimpArgs false
set_option maxHeartbeats 0
set_option maxRecDepth 100000
theorem zbj9 {l : List Tk} {most : Nat} : ∀ {f : Nat} {o : List Bs} {i : Nat} {r : List Bs × Nat}, kG0 l most f o i = .ok r → o.length ≤ most → 1 ≤ r.1.length ∧ r.1.length ≤ most ∧ r.2 ≤ l.length
 | 0, _, _, _, h, _ => by cases h
 | f + 1, o, i, r, h, ho => by
  obtain ⟨f', s, e, hn, hc, hlen, hlt, hcase⟩ := var9 h;injection e with e
  subst e;rcases hcase with ⟨_, rfl⟩|⟨_, h2⟩
  ·simp only [l'i, List.length_singleton]; omega
  ·exact zbj9 h2 (by simp; omega)
theorem wp0 {l : List Tk} {w : Bs} {most i : Nat} {r : List Bs × Nat} (h : ql0 l w most i = .ok r) : 1 ≤ r.1.length ∧ r.1.length ≤ most ∧ r.2 ≤ l.length := by
 unfold ql0 at h;cases h1 : xd0 l w i with
 | no a b => rw [h1] at h; cases h
 | ok u => rw [h1] at h; exact zbj9 h (by simp)
def rwA (k n m : Nat) : List (List AV) := ownR 7 k (some k) m ++ List.replicate (n - m) [.sl 0 [] (some 0)]
theorem vdt9 (k n m : Nat) (h : m ≤ n) : (rwA k n m).length = n := by simp [rwA, ownR]; omega
theorem zcS9 (k n : Nat) : rwA k n 0 = List.replicate n [.sl 0 [] (some 0)] := by simp [rwA, ownR]
theorem kdt9 (k n : Nat) : rwA k n n = ownR 7 k (some k) n := by simp [rwA]
theorem qdu9 (k n m : Nat) (h : m < n) : (rwA k n m).getD m [] = [.sl 0 [] (some 0)] := by
 have hl : (ownR 7 k (some k) m).length = m := by simp [ownR]
 rw [rwA, l'b, l'q (by omega), hl, l'N, show n - m = (n - m - 1) + 1 by omega, List.replicate_succ]; rfl
theorem zdu9 (k n m : Nat) (h : m < n) : (rwA k n m).set m [.own (m + 7) k k (some k)] = rwA k n (m + 1) := by
 have hl : (ownR 7 k (some k) m).length = m := by simp [ownR]
 rw [rwA, l'O _ _ (by omega), hl, l'N, show n - m = (n - (m + 1)) + 1 by omega, List.replicate_succ, List.set_cons_zero, rwA, ← zbg9, l't]; rfl
section
variable {ts : List Tk} {c : Option Nat} {P0 P1 P2 P3 P4 : Blk} {x0 x1 x2 x3 x4 x5 x6 : AV}
theorem kw0 (hP : ∀ n : Nat, [P0, P1, P2, P3, P4].all (Blk.below n) = true) (hx : ∀ p, idsL p [x0, x1, x2, x3, x4, x5, x6] = true) : ∀ (n : Nat) (j : Int), [P0, P1, P2, P3, P4, rdB ts c j x0 x1 x2 x3 x4 x5 x6].all (Blk.below n) = true := fun n j => by
 have h : ([P0, P1, P2, P3, P4] ++ [rdB ts c j x0 x1 x2 x3 x4 x5 x6]).all (Blk.below n) = true := by
  rw [List.all_append, hP n];have := hx fun b => decide (b < n);simp only [n'k, List.all_cons, List.all_nil, n'B, rdB, rdC, Blk.below];rw [idsE, idsL, idsL, this];simp [AV.ids, idsE, idsL]
 exact h
theorem rowR (hrow : ∀ b ∈ [P0, P1, P2, P3, P4], ∃ z t es, b = Blk.row z t es) : ∀ j : Int, ∀ b ∈ [P0, P1, P2, P3, P4, rdB ts c j x0 x1 x2 x3 x4 x5 x6], ∃ z t es, b = Blk.row z t es := fun j b hb => by
 rcases n'w.1 (show b ∈ [P0, P1, P2, P3, P4] ++ [rdB ts c j x0 x1 x2 x3 x4 x5 x6] from hb) with h|h
 ·exact hrow b h
 ·rw [n'h] at h; exact ⟨_, _, _, h⟩
theorem wdL9 (e : Edg) (k : Nat) (h1 : 1 ≤ k) (hk : k ≤ 1000) (A : Blk) (RW : List (List AV)) (m : Nat) :
  qb0 Tryz.prog G0 106 [.sl 2 (rowA [e]) (some 1), .int .i64 k] (P0 :: P1 :: P2 :: P3 :: P4 :: A :: .row 1 50 RW :: xf0 2 70 (List.replicate m (rowA (List.replicate k e)))) (.own (m + 7) k k (some k)) (P0 :: P1 :: P2 :: P3 :: P4 :: A :: .row 1 50 RW :: (xf0 2 70 (List.replicate m (rowA (List.replicate k e))) ++ [.row 2 70 (rowA (List.replicate k e))])) := by
 have h := xdL9 e k h1 (by omega) (P0 :: P1 :: P2 :: P3 :: P4 :: A :: .row 1 50 RW :: xf0 2 70 (List.replicate m (rowA (List.replicate k e))));rw [show (P0 :: P1 :: P2 :: P3 :: P4 :: A :: .row 1 50 RW :: xf0 2 70 (List.replicate m (rowA (List.replicate k e)))).length = m + 7 from by simp [qA0]] at h;exact h
theorem xcS9 (n0 : Bs) (ins outs sts : List Bs) (i' : Nat) (hm : ko0 ts = .ok (ins, outs, sts, i')) (hl : ts.length ≤ 1000000) (hrow : ∀ b ∈ [P0, P1, P2, P3, P4], ∃ z t es, b = Blk.row z t es) (hP : ∀ n : Nat, [P0, P1, P2, P3, P4].all (Blk.below n) = true) :
  qb0 Tryz.prog G0 66 [.ptr 5 0 0 1] [P0, P1, P2, P3, P4, rdB ts c 3 (.str n0) (.int .i64 0) (.int .i64 0) (.sl 0 [] (some 0)) (.sl 0 [] (some 0)) (.sl 0 [] (some 0)) (.sl 0 [] (some 0))] (.tup [])
   (P0 :: P1 :: P2 :: P3 :: P4 :: rdB ts c i' (.str n0) (.int .i64 ins.length) (.int .i64 outs.length) (.own 6 sts.length sts.length (some sts.length)) (.sl 1 (strs ins) (some ins.length)) (.sl 1 (strs outs) (some outs.length)) (.sl 1 (strs sts) (some sts.length)) :: .row 1 50 (ownR 7 ins.length (some ins.length) sts.length) :: xf0 2 70 (List.replicate sts.length (rowA (row0 ins.length)))) := by
 unfold ko0 at hm;cases h1 : ql0 ts kIns 16 3 with
 | no a b => rw [h1] at hm; cases hm
 | ok p =>
  obtain ⟨o1, i1⟩ := p;rw [h1] at hm;simp only [PE.bind] at hm;cases h2 : ql0 ts kk0 16 i1 with
  | no a b => rw [h2] at hm; cases hm
  | ok p =>
   obtain ⟨o2, i2⟩ := p;rw [h2] at hm;simp only at hm;cases h3 : ql0 ts kSts 64 i2 with
   | no a b => rw [h3] at hm; cases hm
   | ok p =>
    obtain ⟨o3, i3⟩ := p;rw [h3] at hm;simp only at hm;injection hm with hm; injection hm with e1 hm; injection hm with e2 hm; injection hm with e3 e4
    subst e1 e2 e3 e4;have l1 := wp0 h1;have l2 := wp0 h2;have l3 := wp0 h3;simp only at l1 l2 l3;have c1 := kaB9 (c := c) (P0 := P0) (P1 := P1) (P2 := P2) (P3 := P3) (P4 := P4) (x0 := .str n0) (x1 := .int .i64 0) (x2 := .int .i64 0) (x3 := .sl 0 [] (some 0)) (x4 := .sl 0 [] (some 0)) (x5 := .sl 0 [] (some 0)) (x6 := .sl 0 [] (some 0)) kIns 16 3 i1 o1 h1 (by omega) hl (rowR hrow) (kw0 hP fun p => by simp [idsL, AV.ids, idsE]);have c2 := kaB9 (c := c) (P0 := P0) (P1 := P1) (P2 := P2) (P3 := P3) (P4 := P4) (x0 := .str n0) (x1 := .int .i64 0) (x2 := .int .i64 0) (x3 := .sl 0 [] (some 0)) (x4 := .sl 1 (strs o1) (some o1.length)) (x5 := .sl 0 [] (some 0)) (x6 := .sl 0 [] (some 0)) kk0 16 i1 i2 o2 h2 (by omega) hl (rowR hrow) (kw0 hP fun p => by simp [idsL, AV.ids, idsE]);have c3 := kaB9 (c := c) (P0 := P0) (P1 := P1) (P2 := P2) (P3 := P3) (P4 := P4) (x0 := .str n0) (x1 := .int .i64 0) (x2 := .int .i64 0) (x3 := .sl 0 [] (some 0)) (x4 := .sl 1 (strs o1) (some o1.length)) (x5 := .sl 1 (strs o2) (some o2.length)) (x6 := .sl 0 [] (some 0)) kSts 64 i2 i3 o3 h3 (by omega) hl (rowR hrow) (kw0 hP fun p => by simp [idsL, AV.ids, idsE]);rw [show ((16 : Nat) : Int) = 16 from rfl] at c1 c2;rw [show ((64 : Nat) : Int) = 64 from rfl] at c3;have hrep := fun A RW m => wdL9 (P0 := P0) (P1 := P1) (P2 := P2) (P3 := P3) (P4 := P4) (-1, -1) o1.length (by omega) (by omega) A RW m;have hr0 : rowA [((-1 : Int), (-1 : Int))] = [[.int .i64 (-1), .int .i64 (-1)]] := rfl;rw [hr0] at hrep;have g1 := za0 o1;have g2 := za0 o2;have g3 := za0 o3;have d1 : ∀ p, idsE p (strs o1) = true := fun p => xa0 _ _;have d2 : ∀ p, idsE p (strs o2) = true := fun p => xa0 _ _;have d3 : ∀ p, idsE p (strs o3) = true := fun p => xa0 _ _;have d4 : ∀ p, idsE p (tks ts) = true := fun p => vp0 _ _;generalize hk : o1.length = k at *;generalize hn : o3.length = n at *;generalize hq : o2.length = q at *;unfold rdB rdC kIns kk0 kSts at *;generalize strs o1 = S1 at *;generalize strs o2 = S2 at *;generalize strs o3 = S3 at *;generalize tks ts = TS at *;rw [← kdt9, show row0 k = List.replicate k (-1, -1) from rfl];refine zp0 73 [] Tryz.func66 rfl rfl rfl (by simp) ?_;intro s ⟨a0, hz⟩;clear hz;repeat' (first|(first|refine nav ?_|(refine g0_ ?_; first|refine vaq9 (dr := kpQ [] [106]) (p := [1, 0, 0, 1, 1, 0, 0, 1, 1, 1, 1, 1]) [(56, 55), (57, 56), (58, 57), (59, 58), (60, 59), (71, 60)] [(70, none)] [] rfl rfl mixed (by kernel_rfl) ?_|refine dN (p := [0, 1, 1, 1]) [(23, 22), (27, 26), (29, 28), (33, 32), (42, 21), (24, 23), (25, 24), (26, 25), (30, 29), (31, 30), (32, 31), (43, 42), (44, 43)] [(40, none)] [] ?_|refine goD ?_))|(with_reducible first|refine gG ?_ ?_|refine ⟨fun h => ?_, fun h => ?_⟩ <;> try omega|refine andG ?_)|(refine And.intro ⟨[_], rfl⟩ ?_)|(refine And.intro ⟨[], by simp only [l'F]⟩ ?_)|refine cl c1 ?_|refine cl c2 ?_|refine cl c3 ?_|simp (disch := try exact discB) only [push_cast, simprocAttr, a0, g1, g2, g3])
    refine go_loop rfl (fun mz s' H' => ∃ m : Nat, m ≤ n ∧ mz = n - m ∧ H' = P0 :: P1 :: P2 :: P3 :: P4 :: .row 9 118 [[.sl 4 TS c, .int .i64 i3, .str n0, .int .i64 k, .int .i64 q, .own 6 n n (some n), .sl 1 S1 (some k), .sl 1 S2 (some q), .sl 1 S3 (some n)]] :: .row 1 50 (rwA k n m) :: xf0 2 70 (List.replicate m (rowA (List.replicate k (-1, -1)))) ∧ s' 0 = .ptr 5 0 0 1 ∧ s' 51 = .int .i64 n ∧ s' 52 = .int .i64 m) (m := n) (by first|exact va0|fail) (Weak.refl _ _) ⟨0, by omega, rfl, ?_, ?_⟩ ?_
    ·rw [zcS9]; rfl
    ·simp (disch := try exact discB) only [push_cast, simprocAttr, a0, g1, g2, g3]
    rintro mz s' H' ⟨m, hmn, rfl, rfl, b0, b51, b52⟩;have w1 := vdt9 k n m hmn;rcases l'h m n with hlt|hge
    ·have w2 := qdu9 k n m hlt;have w3 := zdu9 k n m hlt;have hre := fun A => hrep A (rwA k n m) m;generalize hR' : rwA k n (m + 1) = RW' at *;generalize rwA k n m = RW at *;have hE' : xf0 2 70 (List.replicate (m + 1) (rowA (List.replicate k (-1, -1)))) = xf0 2 70 (List.replicate m (rowA (List.replicate k (-1, -1)))) ++ [.row 2 70 (rowA (List.replicate k (-1, -1)))] := by rw [List.replicate_succ', ← wcj9]
     have hEm : ∀ X : Blk, (xf0 2 70 (List.replicate m (rowA (List.replicate k (-1, -1)))) ++ [X])[m]? = some X := fun X => zdb9 X [] (l'V ..);have hR0 : (rowA (List.replicate k (-1, -1))).length = k := by rw [qf0, l'V]
     generalize xf0 2 70 (List.replicate m (rowA (List.replicate k (-1, -1)))) = E at *;generalize rowA (List.replicate k (-1, -1)) = R0 at *;repeat' (first|(first|refine nav ?_|(refine g0_ ?_; first|refine vaq9 (dr := kpQ [] [106]) (p := [1, 0, 0, 1, 1, 0, 0, 1, 1, 1, 1, 1]) [(56, 55), (57, 56), (58, 57), (59, 58), (60, 59), (71, 60)] [(70, none)] [] rfl rfl mixed (by kernel_rfl) ?_|refine dN (p := [0, 1, 1, 1]) [(23, 22), (27, 26), (29, 28), (33, 32), (42, 21), (24, 23), (25, 24), (26, 25), (30, 29), (31, 30), (32, 31), (43, 42), (44, 43)] [(40, none)] [] ?_|refine goD ?_))|(with_reducible first|refine gG ?_ ?_|refine ⟨fun h => ?_, fun h => ?_⟩ <;> try omega|refine andG ?_)|(refine And.intro ⟨[_], rfl⟩ ?_)|(refine And.intro ⟨[], by simp only [l'F]⟩ ?_)|refine cl (hre _) ?_|simp (disch := try exact discB) only [push_cast, simprocAttr, b0, b51, b52, w1, w2, w3, g1, hEm, hR0])
     refine wa0 (n - (m + 1)) (by omega) (by first|exact va0|fail) ⟨m + 1, by omega, rfl, by rw [hR', hE'], ?_⟩;simp (disch := try exact discB) only [push_cast, simprocAttr, b0, b51, b52, w1, w2, w3, g1, hEm, hR0]
    ·obtain rfl : m = n := by omega
     generalize rwA k m m = RW at *;repeat' (first|(first|refine nav ?_|(refine g0_ ?_; first|refine vaq9 (dr := kpQ [] [106]) (p := [1, 0, 0, 1, 1, 0, 0, 1, 1, 1, 1, 1]) [(56, 55), (57, 56), (58, 57), (59, 58), (60, 59), (71, 60)] [(70, none)] [] rfl rfl mixed (by kernel_rfl) ?_|refine dN (p := [0, 1, 1, 1]) [(23, 22), (27, 26), (29, 28), (33, 32), (42, 21), (24, 23), (25, 24), (26, 25), (30, 29), (31, 30), (32, 31), (43, 42), (44, 43)] [(40, none)] [] ?_|refine goD ?_))|(with_reducible first|refine gG ?_ ?_|refine ⟨fun h => ?_, fun h => ?_⟩ <;> try omega|refine andG ?_)|(refine And.intro ⟨[_], rfl⟩ ?_)|(refine And.intro ⟨[], by simp only [l'F]⟩ ?_)|simp (disch := try exact discB) only [push_cast, simprocAttr, b0, b51, b52, w1, g1])
end
section
variable {ts : List Tk} {c : Option Nat} {P0 P1 P2 P3 P4 : Blk} {x0 x1 x2 x3 x4 x5 x6 : AV}
theorem wcS9 (n0 : Bs) (k : Nat) (e : Int) (hm : ko0 ts = .no k e) (h3 : 3 ≤ ts.length) (hl : ts.length ≤ 1000000) (hrow : ∀ b ∈ [P0, P1, P2, P3, P4], ∃ z t es, b = Blk.row z t es) (hP : ∀ n : Nat, [P0, P1, P2, P3, P4].all (Blk.below n) = true) :
  ∃ X, (∀ p, idsL p X = true) ∧ APan Tryz.prog G0 66 [.ptr 5 0 0 1] [P0, P1, P2, P3, P4, rdB ts c 3 (.str n0) (.int .i64 0) (.int .i64 0) (.sl 0 [] (some 0)) (.sl 0 [] (some 0)) (.sl 0 [] (some 0)) (.sl 0 [] (some 0))] (fltV k e) [P0, P1, P2, P3, P4, .row 9 118 [X]] := by
 have hX : ∀ (j : Int) (A B C : AV), (∀ p, AV.ids p A = true) → (∀ p, AV.ids p B = true) → (∀ p, AV.ids p C = true) → ∀ p, idsL p (rdC ts c j [.str n0, .int .i64 0, .int .i64 0, .sl 0 [] (some 0), A, B, C]) = true := fun j A B C h1 h2 h3 p => by
  simp [rdC, idsL, AV.ids, idsE, h1 p, h2 p, h3 p]
 unfold ko0 at hm;cases h1 : ql0 ts kIns 16 3 with
 | no a b =>
  rw [h1] at hm;injection hm with q1 q2
  subst q1 q2;refine ⟨_, hX (jnR ts a) (.sl 0 [] (some 0)) (.sl 0 [] (some 0)) (.sl 0 [] (some 0)) (fun p => ?_) (fun p => ?_) (fun p => ?_), ?_⟩
  rotate_right
  ·have hn := qbw9 (c := c) (P0 := P0) (P1 := P1) (P2 := P2) (P3 := P3) (P4 := P4) (x0 := .str n0) (x1 := .int .i64 0) (x2 := .int .i64 0) (x3 := .sl 0 [] (some 0)) (x4 := .sl 0 [] (some 0)) (x5 := .sl 0 [] (some 0)) (x6 := .sl 0 [] (some 0)) kIns 16 3 a b h1 h3 (by omega) hl (kw0 hP fun p => by simp [idsL, AV.ids, idsE]);rw [show ((16 : Nat) : Int) = 16 from rfl] at hn;unfold kIns at *;refine vj0 73 Tryz.func66 rfl rfl (by simp) ?_;intro s ⟨a0, hz⟩;clear hz;repeat' (first|(first|(with_reducible refine vb0 (p := [0]) ?_)|refine nav ?_|(refine g0_ ?_; first|refine dN (p := [0, 1, 1, 1]) [(23, 22), (27, 26), (29, 28), (33, 32), (42, 21), (24, 23), (25, 24), (26, 25), (30, 29), (31, 30), (32, 31), (43, 42), (44, 43)] [(40, none)] [] ?_|refine goD ?_))|(with_reducible first|refine gG ?_ ?_|refine ⟨fun h => ?_, fun h => ?_⟩ <;> try omega|refine andG ?_)|simp (disch := try exact discB) only [push_cast, simprocAttr, a0])
   refine Halt.mk ?_;refine vh0 (p := [0]) 2 (by rfl) (by rfl) (by rfl) (by rfl) ?_;repeat' (first|(first|refine nav ?_|(refine g0_ ?_; first|refine dN (p := [0, 1, 1, 1]) [(23, 22), (27, 26), (29, 28), (33, 32), (42, 21), (24, 23), (25, 24), (26, 25), (30, 29), (31, 30), (32, 31), (43, 42), (44, 43)] [(40, none)] [] ?_|refine goD ?_))|(with_reducible first|refine gG ?_ ?_|refine ⟨fun h => ?_, fun h => ?_⟩ <;> try omega|refine andG ?_)|simp (disch := try exact discB) only [push_cast, simprocAttr, a0])
   exact ke0 trivial rfl rfl rfl qcP9 rfl hn ⟨rfl, .inl rfl⟩
  all_goals simp [AV.ids, idsE]
 | ok p =>
  obtain ⟨o1, i1⟩ := p;rw [h1] at hm;simp only [PE.bind] at hm;have l1 := wp0 h1;simp only at l1;have c1 := kaB9 (c := c) (P0 := P0) (P1 := P1) (P2 := P2) (P3 := P3) (P4 := P4) (x0 := .str n0) (x1 := .int .i64 0) (x2 := .int .i64 0) (x3 := .sl 0 [] (some 0)) (x4 := .sl 0 [] (some 0)) (x5 := .sl 0 [] (some 0)) (x6 := .sl 0 [] (some 0)) kIns 16 3 i1 o1 h1 (by omega) hl (rowR hrow) (kw0 hP fun p => by simp [idsL, AV.ids, idsE]);rw [show ((16 : Nat) : Int) = 16 from rfl] at c1;have g1 := za0 o1;have d1 : ∀ p, idsE p (strs o1) = true := fun p => xa0 _ _;cases h2 : ql0 ts kk0 16 i1 with
  | no a b =>
   rw [h2] at hm;injection hm with q1 q2
   subst q1 q2;refine ⟨_, hX (jnR ts a) (.sl 1 (strs o1) (some o1.length)) (.sl 0 [] (some 0)) (.sl 0 [] (some 0)) (fun p => ?_) (fun p => ?_) (fun p => ?_), ?_⟩
   rotate_right
   ·have hn := qbw9 (c := c) (P0 := P0) (P1 := P1) (P2 := P2) (P3 := P3) (P4 := P4) (x0 := .str n0) (x1 := .int .i64 0) (x2 := .int .i64 0) (x3 := .sl 0 [] (some 0)) (x4 := .sl 1 (strs o1) (some o1.length)) (x5 := .sl 0 [] (some 0)) (x6 := .sl 0 [] (some 0)) kk0 16 i1 a b h2 l1.2.2 (by omega) hl (kw0 hP fun p => by simp [idsL, AV.ids, idsE]);rw [show ((16 : Nat) : Int) = 16 from rfl] at hn;unfold rdB rdC kk0 kIns at *;refine vj0 73 Tryz.func66 rfl rfl (by simp) ?_;intro s ⟨a0, hz⟩;clear hz;repeat' (first|(first|(with_reducible refine vb0 (p := [0, 1]) ?_)|refine nav ?_|(refine g0_ ?_; first|refine dN (p := [0, 1, 1, 1]) [(23, 22), (27, 26), (29, 28), (33, 32), (42, 21), (24, 23), (25, 24), (26, 25), (30, 29), (31, 30), (32, 31), (43, 42), (44, 43)] [(40, none)] [] ?_|refine goD ?_))|(with_reducible first|refine gG ?_ ?_|refine ⟨fun h => ?_, fun h => ?_⟩ <;> try omega|refine andG ?_)|refine cl c1 ?_|simp (disch := try exact discB) only [push_cast, simprocAttr, a0])
    refine Halt.mk ?_;refine vh0 (p := [0, 1]) 2 (by rfl) (by rfl) (by rfl) (by rfl) ?_;repeat' (first|(first|refine nav ?_|(refine g0_ ?_; first|refine dN (p := [0, 1, 1, 1]) [(23, 22), (27, 26), (29, 28), (33, 32), (42, 21), (24, 23), (25, 24), (26, 25), (30, 29), (31, 30), (32, 31), (43, 42), (44, 43)] [(40, none)] [] ?_|refine goD ?_))|(with_reducible first|refine gG ?_ ?_|refine ⟨fun h => ?_, fun h => ?_⟩ <;> try omega|refine andG ?_)|refine cl c1 ?_|simp (disch := try exact discB) only [push_cast, simprocAttr, a0])
    exact ke0 trivial rfl rfl rfl qcP9 rfl hn ⟨rfl, .inl rfl⟩
   all_goals simp [AV.ids, idsE]
  | ok p =>
   obtain ⟨o2, i2⟩ := p;rw [h2] at hm;simp only at hm;have l2 := wp0 h2;simp only at l2;have c2 := kaB9 (c := c) (P0 := P0) (P1 := P1) (P2 := P2) (P3 := P3) (P4 := P4) (x0 := .str n0) (x1 := .int .i64 0) (x2 := .int .i64 0) (x3 := .sl 0 [] (some 0)) (x4 := .sl 1 (strs o1) (some o1.length)) (x5 := .sl 0 [] (some 0)) (x6 := .sl 0 [] (some 0)) kk0 16 i1 i2 o2 h2 (by omega) hl (rowR hrow) (kw0 hP fun p => by simp [idsL, AV.ids, idsE]);rw [show ((16 : Nat) : Int) = 16 from rfl] at c2;have d2 : ∀ p, idsE p (strs o2) = true := fun p => xa0 _ _;cases h4 : ql0 ts kSts 64 i2 with
   | no a b =>
    rw [h4] at hm;injection hm with q1 q2
    subst q1 q2;refine ⟨_, hX (jnR ts a) (.sl 1 (strs o1) (some o1.length)) (.sl 1 (strs o2) (some o2.length)) (.sl 0 [] (some 0)) (fun p => ?_) (fun p => ?_) (fun p => ?_), ?_⟩
    rotate_right
    ·have hn := qbw9 (c := c) (P0 := P0) (P1 := P1) (P2 := P2) (P3 := P3) (P4 := P4) (x0 := .str n0) (x1 := .int .i64 0) (x2 := .int .i64 0) (x3 := .sl 0 [] (some 0)) (x4 := .sl 1 (strs o1) (some o1.length)) (x5 := .sl 1 (strs o2) (some o2.length)) (x6 := .sl 0 [] (some 0)) kSts 64 i2 a b h4 l2.2.2 (by omega) hl (kw0 hP fun p => by simp [idsL, AV.ids, idsE]);rw [show ((64 : Nat) : Int) = 64 from rfl] at hn;unfold rdB rdC kk0 kIns kSts at *;refine vj0 73 Tryz.func66 rfl rfl (by simp) ?_;intro s ⟨a0, hz⟩;clear hz;repeat' (first|(first|(with_reducible refine vb0 (p := [0, 1, 1]) ?_)|refine nav ?_|(refine g0_ ?_; first|refine dN (p := [0, 1, 1, 1]) [(23, 22), (27, 26), (29, 28), (33, 32), (42, 21), (24, 23), (25, 24), (26, 25), (30, 29), (31, 30), (32, 31), (43, 42), (44, 43)] [(40, none)] [] ?_|refine goD ?_))|(with_reducible first|refine gG ?_ ?_|refine ⟨fun h => ?_, fun h => ?_⟩ <;> try omega|refine andG ?_)|refine cl c1 ?_|refine cl c2 ?_|simp (disch := try exact discB) only [push_cast, simprocAttr, a0])
     refine Halt.mk ?_;refine vh0 (p := [0, 1, 1]) 2 (by rfl) (by rfl) (by rfl) (by rfl) ?_;repeat' (first|(first|refine nav ?_|(refine g0_ ?_; first|refine dN (p := [0, 1, 1, 1]) [(23, 22), (27, 26), (29, 28), (33, 32), (42, 21), (24, 23), (25, 24), (26, 25), (30, 29), (31, 30), (32, 31), (43, 42), (44, 43)] [(40, none)] [] ?_|refine goD ?_))|(with_reducible first|refine gG ?_ ?_|refine ⟨fun h => ?_, fun h => ?_⟩ <;> try omega|refine andG ?_)|refine cl c1 ?_|refine cl c2 ?_|simp (disch := try exact discB) only [push_cast, simprocAttr, a0])
     exact ke0 trivial rfl rfl rfl qcP9 rfl hn ⟨rfl, .inl rfl⟩
    all_goals simp [AV.ids, idsE]
   | ok p => rw [h4] at hm; cases hm
theorem xdu9 (n0 : Bs) (hm : kx0 ts = .ok n0) (hl : ts.length ≤ 1000000) (hP : ∀ n : Nat, [P0, P1, P2, P3, P4].all (Blk.below n) = true) (hx : ∀ p, idsL p [x1, x2, x3, x4, x5, x6] = true) :
  qb0 Tryz.prog G0 65 [.ptr 5 0 0 1] [P0, P1, P2, P3, P4, rdB ts c 0 (.str []) x1 x2 x3 x4 x5 x6] (.tup []) [P0, P1, P2, P3, P4, rdB ts c 3 (.str n0) x1 x2 x3 x4 x5 x6] := by
 have hx0 : ∀ (a : Bs), ∀ p, idsL p [.str a, x1, x2, x3, x4, x5, x6] = true := fun a p => by have := hx p; rw [idsL]; simp only [AV.ids, n'k]; exact this
 unfold kx0 at hm;cases h1 : xd0 ts kMac 0 with
 | no a b => rw [h1] at hm; cases hm
 | ok u =>
  rw [h1] at hm;simp only [PE.bind] at hm;cases h2 : wh0 ts 1 with
  | no a b => rw [h2] at hm; cases hm
  | ok w =>
   rw [h2] at hm;simp only at hm;cases h3 : xd0 ts [59] 2 with
   | no a b => rw [h3] at hm; cases hm
   | ok u =>
    rw [h3] at hm;simp only at hm;injection hm with hm
    subst hm;have c1 := zq0 (H := [P0, P1, P2, P3, P4, rdB ts c 0 (.str []) x1 x2 x3 x4 x5 x6]) (b := 5) kMac 0 h1 rfl hl (kw0 hP (hx0 _) 6);have c2 := zak9 (H := [P0, P1, P2, P3, P4, rdB ts c 1 (.str []) x1 x2 x3 x4 x5 x6]) (b := 5) w 1 h2 rfl hl (kw0 hP (hx0 _) 6);have c3 := zq0 (H := [P0, P1, P2, P3, P4, rdB ts c 2 (.str w) x1 x2 x3 x4 x5 x6]) (b := 5) [59] 2 h3 rfl hl (kw0 hP (hx0 _) 6);simp only [List.set_cons_succ, List.set_cons_zero] at c1 c2 c3;rw [show ((0 : Nat) : Int) + 1 = 1 from rfl] at c1;rw [show ((1 : Nat) : Int) + 1 = 2 from rfl] at c2;rw [show ((2 : Nat) : Int) + 1 = 3 from rfl] at c3;unfold rdB rdC kMac at *;generalize tks ts = TS at *;refine zp0 12 [] Tryz.func65 rfl rfl rfl (by simp) ?_;intro s ⟨a0, hz⟩;clear hz;repeat' (first|refine nv ?_|(with_reducible first|refine gG ?_ ?_|refine ⟨fun h => ?_, fun h => ?_⟩ <;> try omega|refine andG ?_)|refine cl c1 ?_|refine cl c2 ?_|refine cl c3 ?_|simp (disch := try exact discB) only [push_cast, simprocAttr, a0])
theorem wdu9 (k : Nat) (e : Int) (hm : kx0 ts = .no k e) (hl : ts.length ≤ 1000000) (hP : ∀ n : Nat, [P0, P1, P2, P3, P4].all (Blk.below n) = true) (hx : ∀ p, idsL p [x1, x2, x3, x4, x5, x6] = true) :
  ∃ X, (∀ p, idsL p X = true) ∧ APan Tryz.prog G0 65 [.ptr 5 0 0 1] [P0, P1, P2, P3, P4, rdB ts c 0 (.str []) x1 x2 x3 x4 x5 x6] (fltV k e) [P0, P1, P2, P3, P4, .row 9 118 [X]] := by
 have hx0 : ∀ (a : Bs), ∀ p, idsL p [.str a, x1, x2, x3, x4, x5, x6] = true := fun a p => by have := hx p; rw [idsL]; simp only [AV.ids, n'k]; exact this
 have hX : ∀ (j : Int) (a : Bs), ∀ p, idsL p (rdC ts c j [.str a, x1, x2, x3, x4, x5, x6]) = true := fun j a p => by
  have := hx0 a p;rw [rdC, idsL, idsL, this];simp [AV.ids]
 unfold kx0 at hm;cases h1 : xd0 ts kMac 0 with
 | no a b =>
  rw [h1] at hm;injection hm with q1 q2
  subst q1 q2;refine ⟨_, hX (jnR ts a) [], ?_⟩;have hn := vL0 (H := [P0, P1, P2, P3, P4, rdB ts c 0 (.str []) x1 x2 x3 x4 x5 x6]) (b := 5) kMac 0 a b h1 (by omega) rfl hl (kw0 hP (hx0 _) 6);simp only [List.set_cons_succ, List.set_cons_zero] at hn;unfold kMac at *;refine vj0 12 Tryz.func65 rfl rfl (by simp) ?_;intro s ⟨a0, hz⟩;clear hz;repeat' (first|(first|(with_reducible refine vb0 (p := [0]) ?_)|refine nav ?_|(refine g0_ ?_; first|refine goD ?_))|(with_reducible first|refine gG ?_ ?_|refine ⟨fun h => ?_, fun h => ?_⟩ <;> try omega|refine andG ?_)|simp (disch := try exact discB) only [push_cast, simprocAttr, a0])
  refine Halt.mk ?_;refine vh0 (p := [0]) 1 (by rfl) (by rfl) (by rfl) (by rfl) ?_;repeat' (first|refine nv ?_|(with_reducible first|refine gG ?_ ?_|refine ⟨fun h => ?_, fun h => ?_⟩ <;> try omega|refine andG ?_)|simp (disch := try exact discB) only [push_cast, simprocAttr, a0])
  exact ke0 trivial rfl rfl rfl xaU9 rfl hn ⟨rfl, .inl rfl⟩
 | ok u =>
  rw [h1] at hm;simp only [PE.bind] at hm;have t1 := vm0 h1;have c1 := zq0 (H := [P0, P1, P2, P3, P4, rdB ts c 0 (.str []) x1 x2 x3 x4 x5 x6]) (b := 5) kMac 0 h1 rfl hl (kw0 hP (hx0 _) 6);simp only [List.set_cons_succ, List.set_cons_zero] at c1;rw [show ((0 : Nat) : Int) + 1 = 1 from rfl] at c1;cases h2 : wh0 ts 1 with
  | no a b =>
   rw [h2] at hm;injection hm with q1 q2
   subst q1 q2;refine ⟨_, hX (jnR ts a) [], ?_⟩;have hn := vbv9 (H := [P0, P1, P2, P3, P4, rdB ts c 1 (.str []) x1 x2 x3 x4 x5 x6]) (b := 5) 1 a b h2 (by omega) rfl hl (kw0 hP (hx0 _) 6);simp only [List.set_cons_succ, List.set_cons_zero] at hn;unfold kMac at *;refine vj0 12 Tryz.func65 rfl rfl (by simp) ?_;intro s ⟨a0, hz⟩;clear hz;repeat' (first|(first|(with_reducible refine vb0 (p := [0, 1]) ?_)|refine nav ?_|(refine g0_ ?_; first|refine goD ?_))|(with_reducible first|refine gG ?_ ?_|refine ⟨fun h => ?_, fun h => ?_⟩ <;> try omega|refine andG ?_)|refine cl c1 ?_|simp (disch := try exact discB) only [push_cast, simprocAttr, a0])
   refine Halt.mk ?_;refine vh0 (p := [0, 1]) 2 (by rfl) (by rfl) (by rfl) (by rfl) ?_;repeat' (first|refine nv ?_|(with_reducible first|refine gG ?_ ?_|refine ⟨fun h => ?_, fun h => ?_⟩ <;> try omega|refine andG ?_)|refine cl c1 ?_|simp (disch := try exact discB) only [push_cast, simprocAttr, a0])
   exact ke0 trivial rfl rfl rfl kcO9 rfl hn ⟨rfl, .inl rfl⟩
  | ok w =>
   rw [h2] at hm;simp only at hm;have t2 := wA0 h2;have c2 := zak9 (H := [P0, P1, P2, P3, P4, rdB ts c 1 (.str []) x1 x2 x3 x4 x5 x6]) (b := 5) w 1 h2 rfl hl (kw0 hP (hx0 _) 6);simp only [List.set_cons_succ, List.set_cons_zero] at c2;rw [show ((1 : Nat) : Int) + 1 = 2 from rfl] at c2;cases h3 : xd0 ts [59] 2 with
   | no a b =>
    rw [h3] at hm;injection hm with q1 q2
    subst q1 q2;refine ⟨_, hX (jnR ts a) w, ?_⟩;have hn := vL0 (H := [P0, P1, P2, P3, P4, rdB ts c 2 (.str w) x1 x2 x3 x4 x5 x6]) (b := 5) [59] 2 a b h3 (by omega) rfl hl (kw0 hP (hx0 _) 6);simp only [List.set_cons_succ, List.set_cons_zero] at hn;unfold rdB rdC kMac at *;refine vj0 12 Tryz.func65 rfl rfl (by simp) ?_;intro s ⟨a0, hz⟩;clear hz;repeat' (first|(first|(with_reducible refine vb0 (p := [1, 1]) ?_)|refine nav ?_|(refine g0_ ?_; first|refine goD ?_))|(with_reducible first|refine gG ?_ ?_|refine ⟨fun h => ?_, fun h => ?_⟩ <;> try omega|refine andG ?_)|refine cl c1 ?_|refine cl c2 ?_|simp (disch := try exact discB) only [push_cast, simprocAttr, a0])
    refine Halt.mk ?_;refine vh0 (p := [1, 1]) 1 (by rfl) (by rfl) (by rfl) (by rfl) ?_;repeat' (first|refine nv ?_|(with_reducible first|refine gG ?_ ?_|refine ⟨fun h => ?_, fun h => ?_⟩ <;> try omega|refine andG ?_)|refine cl c1 ?_|refine cl c2 ?_|simp (disch := try exact discB) only [push_cast, simprocAttr, a0])
    exact ke0 trivial rfl rfl rfl xaU9 rfl hn ⟨rfl, .inl rfl⟩
   | ok u => rw [h3] at hm; cases hm
end
end Go.Proofs
