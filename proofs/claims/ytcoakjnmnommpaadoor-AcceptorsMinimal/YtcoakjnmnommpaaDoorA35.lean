import Derived.Test.YtcoakjnmnommpaaDoorA32
import Derived.Test.YtcoakjnmnommpaaDoorV59
import Derived.Test.YtcoakjnmnommpaaDoorAR3
import Derived.Test.YtcoakjnmnommpaaDoorA30
namespace Go.Proofs
open Go Go.V
set_option linter.unusedVariables false
set_option linter.unusedSimpArgs false
set_option maxHeartbeats 0
def plF (p A n s : Nat) : List (List AV) := xn0 (fun t => if t < s then .own (t + p) A A (some A) else .sl 0 [] (some 0)) n
theorem qdr9 (p A n s : Nat) : (plF p A n s).length = n := kZ0 _ _
theorem qcU9 (p A n : Nat) : List.replicate n [AV.sl 0 [] (some 0)] = plF p A n 0 := by
 rw [wI0, plF]
 exact qg0 fun t _ => by rw [if_neg (by omega)]
theorem zdr9 (p A n s : Nat) : (plF p A n s).set s [.own (s + p) A A (some A)] = plF p A n (s + 1) := by
 rw [plF, xN0, plF]
 refine qg0 fun t _ => ?_
 unfold updF
 by_cases h : t = s
 ·subst h; rw [if_pos rfl, if_pos (by omega)]
 ·rw [if_neg h]
  have : t < s ↔ t < s + 1 := by omega
  simp only [this]
theorem xdr9 (p A n s : Nat) (h : s < n) : (plF p A n s).getD s [] = [.sl 0 [] (some 0)] := by
 rw [plF, zaw9 h, if_neg (by omega)]
theorem wdr9 (p A n : Nat) : plF p A n n = ownR p A (some A) n := by
 rw [plF, ownR, xn0]
 exact List.map_congr_left fun t ht => by rw [if_pos (List.mem_range.1 ht)]
def nils (A : Nat) : List (List AV) := List.replicate A [.sl 0 [] (some 0)]
set_option maxRecDepth 100000 in
theorem vdr9 (A n : Nat) (hA : A ≤ 16) (hn : n ≤ 256) (B0 B1 : Blk) : ze0 Tryd.prog G0 57 [.int .i64 A, .int .i64 n] [B0, B1] (.agg [.int .i64 A, .own 3 n n (some n), .sl 0 [] (some 0), .sl 0 [] (some 0)])
  (B0 :: B1 :: .row 4 28 [[.int .i64 A, .own 3 n n (some n), .sl 0 [] (some 0), .sl 0 [] (some 0)]] :: .row 1 32 (ownR 5 A (some A) n) :: .row 4 28 [[.int .i64 A, .own 3 n n (some n), .sl 0 [] (some 0), .sl 0 [] (some 0)]] :: kf0 1 26 (fun _ => nils A) n) := by
 have hz := qcU9 5 A n
 have hzl := fun s => qdr9 5 A n s
 refine kI0 25 [.cell 4 28] Tryd.func57 rfl rfl rfl (by simp) ?_
 intro s ⟨a0, a1, hz⟩
 simp only [Nat.zero_add, Nat.reduceAdd] at a1
 clear hz
 repeat' (first|(first|refine nav ?_|(refine g0_ ?_; first|refine xa0 (dr := allQ) (p := [1, 0, 0, 1, 1, 0, 0, 1, 0, 1, 1]) [(17, 5), (18, 17)] [(21, none)] [] rfl rfl mixed (by kernel_rfl) ?_|refine goD ?_))|(with_reducible refine gG ?_ ?_)|((with_reducible refine And.intro (fun h => ?_) (fun h => ?_)) <;> try (exfalso; omega))|(with_reducible refine andG ?_)|(refine And.intro ⟨[_], rfl⟩ ?_)|(refine And.intro ⟨[], by simp only [List.append_nil]⟩ ?_)|fail|simp (disch := (first|exact discB|fail)) only [push_cast, ↓reduceIte, reduceCtorEq, Nat.reduceAdd, Nat.reduceLT, Nat.reduceEqDiff, Nat.reduceLeDiff, Int.reduceAdd, Int.reduceLT, Int.reduceLE, Nat.reduceMul, a0, a1, hz, hzl])
 refine go_loop rfl (fun mz s' H' => ∃ s : Nat, s ≤ n ∧ mz = n - s ∧ H' = (B0 :: B1 :: .row 4 28 [[.int .i64 0, .sl 0 [] (some 0), .sl 0 [] (some 0), .sl 0 [] (some 0)]] :: .row 1 32 (plF 5 A n s) :: .row 4 28 [[.int .i64 A, .own 3 n n (some n), .sl 0 [] (some 0), .sl 0 [] (some 0)]] :: kf0 1 26 (fun _ => nils A) s) ∧ s' 0 = .int .i64 A ∧ s' 4 = .ptr 2 0 0 1 ∧ s' 5 = .ptr 4 0 0 1 ∧ s' 12 = .own 3 n n (some n) ∧ s' 13 = .int .i64 n ∧ s' 14 = .int .i64 s) (m := n) (by first|exact wa0|fail) (Weak.refl _ _) ⟨0, by omega, by omega, by rw [vbs9], ?_⟩ ?_
 ·simp (disch := (first|exact discB|fail)) only [push_cast, ↓reduceIte, reduceCtorEq, Nat.reduceAdd, Nat.reduceLT, Nat.reduceEqDiff, Nat.reduceLeDiff, Int.reduceAdd, Int.reduceLT, Int.reduceLE, Nat.reduceMul, a0, a1, hz, hzl]
 ·rintro mz s' H' ⟨s, hs, rfl, rfl, b0, b4, b5, b12, b13, b14⟩
  have hrl := rf_len 1 26 (fun _ => nils A) s
  have hni : List.replicate A [AV.sl 0 [] (some 0)] = nils A := rfl
  rcases Nat.lt_or_ge s n with hlt|hge
  ·have hset := zdr9 5 A n s
   have hget := xdr9 5 A n s hlt
   have hsn := kbs9 (z := 1) (t := 26) (g := fun _ => nils A) (N := s)
   have hgX : ∀ X, (kf0 1 26 (fun _ => nils A) s ++ [X])[s]? = some X := fun X => by rw [xbC9]; rfl
   have hnl : (nils A).length = A := by simp [nils]
   have h5 : s + 1 + 1 + 1 + 1 + 1 = s + 5 := rfl
   repeat' (first|(first|refine nav ?_|(refine g0_ ?_; first|refine xa0 (dr := allQ) (p := [1, 0, 0, 1, 1, 0, 0, 1, 0, 1, 1]) [(17, 5), (18, 17)] [(21, none)] [] rfl rfl mixed (by kernel_rfl) ?_|refine goD ?_))|(with_reducible refine gG ?_ ?_)|((with_reducible refine And.intro (fun h => ?_) (fun h => ?_)) <;> try (exfalso; omega))|(with_reducible refine andG ?_)|(refine And.intro ⟨[_], rfl⟩ ?_)|(refine And.intro ⟨[], by simp only [List.append_nil]⟩ ?_)|fail|simp (disch := (first|exact discB|fail)) only [push_cast, ↓reduceIte, reduceCtorEq, Nat.reduceAdd, Nat.reduceLT, Nat.reduceEqDiff, Nat.reduceLeDiff, Int.reduceAdd, Int.reduceLT, Int.reduceLE, Nat.reduceMul, b0, b4, b5, b12, b13, b14, hzl, hrl, hget, hset, hni, hgX, hnl, h5])
   refine qa0 (n - (s + 1)) (by omega) (by first|exact wa0|fail) ⟨s + 1, by omega, rfl, by rw [← hsn], ?_⟩
   simp (disch := (first|exact discB|fail)) only [push_cast, ↓reduceIte, reduceCtorEq, Nat.reduceAdd, Nat.reduceLT, Nat.reduceEqDiff, Nat.reduceLeDiff, Int.reduceAdd, Int.reduceLT, Int.reduceLE, Nat.reduceMul, b0, b4, b5, b12, b13, b14, hzl, hrl, hget, hset, hni, hgX, hnl, h5]
  ·obtain rfl : n = s := by omega
   rw [wdr9] at *
   repeat' (first|(first|refine nav ?_|(refine g0_ ?_; first|refine xa0 (dr := allQ) (p := [1, 0, 0, 1, 1, 0, 0, 1, 0, 1, 1]) [(17, 5), (18, 17)] [(21, none)] [] rfl rfl mixed (by kernel_rfl) ?_|refine goD ?_))|(with_reducible refine gG ?_ ?_)|((with_reducible refine And.intro (fun h => ?_) (fun h => ?_)) <;> try (exfalso; omega))|(with_reducible refine andG ?_)|(refine And.intro ⟨[_], rfl⟩ ?_)|(refine And.intro ⟨[], by simp only [List.append_nil]⟩ ?_)|fail|simp (disch := (first|exact discB|fail)) only [push_cast, ↓reduceIte, reduceCtorEq, Nat.reduceAdd, Nat.reduceLT, Nat.reduceEqDiff, Nat.reduceLeDiff, Int.reduceAdd, Int.reduceLT, Int.reduceLE, Nat.reduceMul, b0, b4, b5, b12, b13, b14])
end Go.Proofs
namespace Go.Proofs
open Go Go.V
set_option linter.unusedVariables false
set_option linter.unusedSimpArgs false
set_option maxHeartbeats 0
def rowO (K : Nat → Nat → Option Nat) (G : Nat → Nat → List Nat) (A n s : Nat) : List (List AV) := xn0 (fun a => .own (s * A + a + n + 6) (G s a).length (G s a).length (K s a)) A
def lstO (G : Nat → Nat → List Nat) (A q : Nat) : List (List AV) := ints (intN (G (q / A) (q % A)))
def LO (K : Nat → Nat → Option Nat) (G : Nat → Nat → List Nat) (A n : Nat) (OUT : Blk) : List Blk := kf0 1 26 (rowO K G A n) n ++ OUT :: kf0 1 3 (lstO G A) (n * A)
def upd2 {α : Type} (f : Nat → Nat → α) (s a : Nat) (v : α) : Nat → Nat → α := fun s' a' => if s' = s ∧ a' = a then v else f s' a'
section
variable {K : Nat → Nat → Option Nat} {G : Nat → Nat → List Nat} {A n : Nat} {OUT : Blk}
theorem q_lt {s a : Nat} (hs : s < n) (ha : a < A) : s * A + a < n * A := by
 have := Nat.mul_le_mul_right A (show s + 1 ≤ n from hs)
 rw [Nat.add_mul, Nat.one_mul] at this; omega
theorem vdF9 {s a : Nat} (ha : a < A) : (s * A + a) / A = s := by
 rw [Nat.mul_comm, Nat.mul_add_div (by omega), Nat.div_eq_of_lt ha]; rfl
theorem kdF9 {s a : Nat} (ha : a < A) : (s * A + a) % A = a := by
 rw [Nat.mul_comm, Nat.mul_add_mod, Nat.mod_eq_of_lt ha]
theorem vcw9 : (LO K G A n OUT).length = n + n * A + 1 := by simp [LO, rf_len]; omega
theorem kcw9 {s : Nat} (hs : s < n) (T : List Blk) : (LO K G A n OUT ++ T)[s]? = some (.row 1 26 (rowO K G A n s)) := by
 rw [LO, List.append_assoc]; exact qbt9 _ hs
theorem qdG9 (T : List Blk) : (LO K G A n OUT ++ T)[n]? = some OUT := by
 rw [LO, List.append_assoc, xbC9]; rfl
theorem qcx9 {s a : Nat} (hs : s < n) (ha : a < A) (T : List Blk) : (LO K G A n OUT ++ T)[s * A + a + n + 1]? = some (.row 1 3 (ints (intN (G s a)))) := by
 have e : s * A + a + n + 1 = n + (s * A + a + 1) := by omega
 rw [LO, List.append_assoc, e, qdC9, List.cons_append, List.getElem?_cons_succ, qbt9 _ (q_lt hs ha), lstO, vdF9 ha, kdF9 ha]
theorem zcx9 {s a : Nat} (hs : s < n) (ha : a < A) (k : Option Nat) (T : List Blk) : (LO K G A n OUT ++ T).set s (.row 1 26 ((rowO K G A n s).set a [.own (s * A + a + n + 6) (G s a).length (G s a).length k])) = LO (upd2 K s a k) G A n OUT ++ T := by
 rw [LO, List.append_assoc, zbt9 _ _ hs, LO, List.append_assoc]
 congr 1
 refine zs0 fun s' _ => ?_
 unfold updF
 by_cases e : s' = s
 ·subst e
  rw [if_pos rfl, rowO, xN0, rowO]
  refine qg0 fun a' _ => ?_
  unfold updF upd2
  by_cases e2 : a' = a
  ·subst e2; simp
  ·simp [e2]
 ·rw [if_neg e, rowO, rowO]
  refine qg0 fun a' _ => ?_
  simp [upd2, e]
theorem xaq9 (s : Nat) : (rowO K G A n s).length = A := kZ0 _ _
theorem xbI9 {s a : Nat} (ha : a < A) : (rowO K G A n s).getD a [] = [.own (s * A + a + n + 6) (G s a).length (G s a).length (K s a)] := zaw9 ha
theorem LO_congr {K' : Nat → Nat → Option Nat} (h : ∀ s a, s < n → a < A → K s a = K' s a) : LO K G A n OUT = LO K' G A n OUT := by
 rw [LO, LO]
 congr 1
 refine zs0 fun s hs => ?_
 rw [rowO, rowO]
 exact qg0 fun a ha => by rw [h s a hs ha]
end
def kC (G : Nat → Nat → List Nat) (s a : Nat) : Nat → Nat → Option Nat := fun s' a' => if s' < s ∨ (s' = s ∧ a' < a) then some (G s' a').length else none
theorem kdr9 (G : Nat → Nat → List Nat) (s a : Nat) : upd2 (kC G s a) s a (some (G s a).length) = kC G s (a + 1) := by
 funext s' a'
 unfold upd2 kC
 by_cases h : s' = s ∧ a' = a
 ·obtain ⟨rfl, rfl⟩ := h; simp
 ·rw [if_neg h]
  have : (s' < s ∨ (s' = s ∧ a' < a)) ↔ (s' < s ∨ (s' = s ∧ a' < a + 1)) := by omega
  simp only [this]
set_option maxRecDepth 100000 in
theorem zdG9 (A n : Nat) (hA : A ≤ 16) (hn : n ≤ 256) (G : Nat → Nat → List Nat) (hG : ∀ s a, (G s a).length ≤ 256) (B0 B1 J1 J2 OUT : Blk) (st ac : AV) (hst : st.strip = st ∧ st.ok = true) (hac : ac.strip = ac ∧ ac.ok = true) (hev : eqvL [st, ac] [st, ac]) :
  ze0 Tryd.prog G0 59 [.agg [.int .i64 A, .own 3 n n (some n), st, ac]] (B0 :: B1 :: J1 :: .row 1 32 (ownR 5 A (some A) n) :: J2 :: LO (fun _ _ => none) G A n OUT) (.agg [.int .i64 A, .own 3 n n (some n), st, ac])
  (B0 :: B1 :: J1 :: .row 1 32 (ownR 5 A (some A) n) :: J2 :: (LO (fun s a => some (G s a).length) G A n OUT ++ [.row 4 28 [[.int .i64 A, .own 3 n n (some n), st, ac]], .row 4 28 [[.int .i64 A, .own 3 n n (some n), st, ac]]])) := by
 have hLl := fun K => vcw9 (K := K) (G := G) (A := A) (n := n) (OUT := OUT)
 have hO := kF0 5 A (some A) n
 have hgO := fun q (hq : q < n) => qaw9 (b0 := 5) (I := A) (N := n) (k := q) (some A) hq
 have hap : ∀ K X Y, LO K G A n OUT ++ [X] ++ [Y] = LO K G A n OUT ++ [X, Y] := fun K X Y => by simp
 have hX1 : ∀ K X, (LO K G A n OUT ++ [X])[n + n * A + 1]? = some X := fun K X => by rw [← hLl K, List.getElem?_append_right (Nat.le_refl _), Nat.sub_self]; rfl
 have hX : ∀ K X Y, (LO K G A n OUT ++ [X, Y])[n + n * A + 1]? = some X := fun K X Y => by rw [← hLl K, List.getElem?_append_right (Nat.le_refl _), Nat.sub_self]; rfl
 have hY : ∀ K X Y, (LO K G A n OUT ++ [X, Y])[n + n * A + 1 + 1]? = some Y := fun K X Y => by rw [← hLl K, List.getElem?_append_right (by omega), show ∀ k : Nat, k + 1 - k = 1 from fun k => by omega]; rfl
 have hsY : ∀ K X Y Z, (LO K G A n OUT ++ [X, Y]).set (n + n * A + 1 + 1) Z = LO K G A n OUT ++ [X, Z] := fun K X Y Z => by rw [← hLl K, List.set_append_right _ _ (by omega), show ∀ k : Nat, k + 1 - k = 1 from fun k => by omega]; rfl
 refine kI0 29 [.cell 2 28] Tryd.func59 rfl rfl rfl (by simp) ?_
 intro s ⟨a0, hz⟩
 clear hz
 repeat' (first|refine nav ?_|(refine g0_ ?_; refine goD ?_)|(with_reducible refine gG ?_ ?_)|((with_reducible refine And.intro (fun h => ?_) (fun h => ?_)) <;> try (exfalso; omega))|(with_reducible refine andG ?_)|(refine And.intro ⟨[_], rfl⟩ ?_)|(refine And.intro ⟨[], by simp only [List.append_nil]⟩ ?_)|fail|simp (disch := (first|exact discB|fail)) only [push_cast, ↓reduceIte, reduceCtorEq, Nat.reduceAdd, Nat.reduceLT, Nat.reduceEqDiff, Nat.reduceLeDiff, Int.reduceAdd, Int.reduceLT, Int.reduceLE, Nat.reduceMul, a0, hLl, hap, hX1, hX, hY, hsY, hst.1, hst.2, hac.1, hac.2])
 refine go_loop rfl (fun mz s' H' => ∃ s : Nat, s ≤ n ∧ mz = n - s ∧ H' = (B0 :: B1 :: J1 :: .row 1 32 (ownR 5 A (some A) n) :: J2 :: (LO (kC G s 0) G A n OUT ++ [.row 4 28 [[.int .i64 A, .own 3 n n (some n), st, ac]], .row 4 28 [[.int .i64 0, .sl 0 [] (some 0), .sl 0 [] (some 0), .sl 0 [] (some 0)]]])) ∧ s' 1 = .ptr (n + n * A + 1 + 1 + 1 + 1 + 1 + 1) 0 0 1 ∧ s' 2 = .ptr (n + n * A + 1 + 1 + 1 + 1 + 1 + 1 + 1) 0 0 1 ∧ s' 7 = .own 3 n n (some n) ∧ s' 8 = .int .i64 n ∧ s' 9 = .int .i64 s) (m := n) (by first|exact wa0|fail) (Weak.refl _ _) ⟨0, by omega, by omega, by rw [LO_congr (K' := kC G 0 0) (fun s a _ _ => by simp [kC])], ?_⟩ ?_
 ·simp (disch := (first|exact discB|fail)) only [push_cast, ↓reduceIte, reduceCtorEq, Nat.reduceAdd, Nat.reduceLT, Nat.reduceEqDiff, Nat.reduceLeDiff, Int.reduceAdd, Int.reduceLT, Int.reduceLE, Nat.reduceMul, a0, hLl, hap, hX1, hX, hY, hsY, hst.1, hst.2, hac.1, hac.2]
 ·rintro mz s' H' ⟨s, hs, rfl, rfl, b1, b2, b7, b8, b9⟩
  rcases Nat.lt_or_ge s n with hlt|hge
  ·have hgOs := hgO s hlt
   have hrow := fun a T => kcw9 (K := kC G s a) (G := G) (A := A) (OUT := OUT) hlt T
   have hrl := fun a => xaq9 (K := kC G s a) (G := G) (A := A) (n := n) s
   repeat' (first|refine nav ?_|(refine g0_ ?_; refine goD ?_)|(with_reducible refine gG ?_ ?_)|((with_reducible refine And.intro (fun h => ?_) (fun h => ?_)) <;> try (exfalso; omega))|(with_reducible refine andG ?_)|(refine And.intro ⟨[_], rfl⟩ ?_)|(refine And.intro ⟨[], by simp only [List.append_nil]⟩ ?_)|fail|simp (disch := (first|exact discB|fail)) only [push_cast, ↓reduceIte, reduceCtorEq, Nat.reduceAdd, Nat.reduceLT, Nat.reduceEqDiff, Nat.reduceLeDiff, Int.reduceAdd, Int.reduceLT, Int.reduceLE, Nat.reduceMul, b1, b2, b7, b8, b9, hO, hgOs, hrow, hrl, hLl, hX, hY])
   refine go_loop rfl (fun mz s' H' => ∃ a : Nat, a ≤ A ∧ mz = A - a ∧ H' = (B0 :: B1 :: J1 :: .row 1 32 (ownR 5 A (some A) n) :: J2 :: (LO (kC G s a) G A n OUT ++ [.row 4 28 [[.int .i64 A, .own 3 n n (some n), st, ac]], .row 4 28 [[.int .i64 0, .sl 0 [] (some 0), .sl 0 [] (some 0), .sl 0 [] (some 0)]]])) ∧ s' 1 = .ptr (n + n * A + 1 + 1 + 1 + 1 + 1 + 1) 0 0 1 ∧ s' 2 = .ptr (n + n * A + 1 + 1 + 1 + 1 + 1 + 1 + 1) 0 0 1 ∧ s' 7 = .own 3 n n (some n) ∧ s' 8 = .int .i64 n ∧ s' 9 = .int .i64 s ∧ s' 4 = .own (s + 5) A A (some A) ∧ s' 13 = .own (s + 5) A A (some A) ∧ s' 14 = .int .i64 A ∧ s' 15 = .int .i64 a) (m := A) (by first|exact wa0|fail) (Weak.refl _ _) ⟨0, by omega, by omega, rfl, ?_⟩ ?_
   ·simp (disch := (first|exact discB|fail)) only [push_cast, ↓reduceIte, reduceCtorEq, Nat.reduceAdd, Nat.reduceLT, Nat.reduceEqDiff, Nat.reduceLeDiff, Int.reduceAdd, Int.reduceLT, Int.reduceLE, Nat.reduceMul, b1, b2, b7, b8, b9, hO, hgOs, hrow, hrl, hLl, hX, hY]
   ·clear b1 b2 b7 b8 b9
    rintro mz s' H' ⟨a, ha, rfl, rfl, b1, b2, b7, b8, b9, b4, b13, b14, b15⟩
    rcases Nat.lt_or_ge a A with hla|hga
    ·have hlst := fun T => qcx9 (K := kC G s a) (G := G) (OUT := OUT) hlt hla T
     have hrg := xbI9 (K := kC G s a) (G := G) (n := n) (s := s) hla
     have hset := fun k T => zcx9 (K := kC G s a) (G := G) (OUT := OUT) hlt hla k T
     have hcl := fun H hb => xaj9 (s * A + a + n + 6) (G s a).length (G s a).length 3 (ints (intN (G s a))) none H hb (by rw [za0, intN_len]) (Nat.le_refl _)
     have hcl := hcl (B0 :: B1 :: J1 :: .row 1 32 (ownR 5 A (some A) n) :: J2 :: (LO (kC G s a) G A n OUT ++ [.row 4 28 [[.int .i64 A, .own 3 n n (some n), st, ac]], .row 4 28 [[.int .i64 0, .sl 0 [] (some 0), .sl 0 [] (some 0), .sl 0 [] (some 0)]]])) (by simp [hlst])
     have hks := kdr9 G s a
     have hk0 : kC G s a s a = none := by simp [kC]
     have hil : (ints (intN (G s a))).length = (G s a).length := by rw [za0, intN_len]
     have hGl := hG s a
     repeat' (first|refine nav ?_|(refine g0_ ?_; refine goD ?_)|(with_reducible refine gG ?_ ?_)|((with_reducible refine And.intro (fun h => ?_) (fun h => ?_)) <;> try (exfalso; omega))|(with_reducible refine andG ?_)|(refine And.intro ⟨[_], rfl⟩ ?_)|(refine And.intro ⟨[], by simp only [List.append_nil]⟩ ?_)|(first|(refine ⟨_, _, hcl, ?_⟩)|(refine ⟨_, hcl, ?_⟩)|(refine ⟨_, fun _ => hcl, ?_⟩))|simp (disch := (first|exact discB|fail)) only [push_cast, ↓reduceIte, reduceCtorEq, Nat.reduceAdd, Nat.reduceLT, Nat.reduceEqDiff, Nat.reduceLeDiff, Int.reduceAdd, Int.reduceLT, Int.reduceLE, Nat.reduceMul, b1, b2, b7, b8, b9, b4, b13, b14, b15, hrow, hrl, hrg, hlst, hil, hk0, hset, hks])
     refine qa0 (A - (a + 1)) (by omega) (by first|exact wa0|fail) ⟨a + 1, by omega, rfl, rfl, ?_⟩
     simp (disch := (first|exact discB|fail)) only [push_cast, ↓reduceIte, reduceCtorEq, Nat.reduceAdd, Nat.reduceLT, Nat.reduceEqDiff, Nat.reduceLeDiff, Int.reduceAdd, Int.reduceLT, Int.reduceLE, Nat.reduceMul, b1, b2, b7, b8, b9, b4, b13, b14, b15, hrow, hrl, hrg, hlst, hil, hk0, hset, hks]
    ·obtain rfl : A = a := by omega
     repeat' (first|refine nav ?_|(refine g0_ ?_; refine goD ?_)|(with_reducible refine gG ?_ ?_)|((with_reducible refine And.intro (fun h => ?_) (fun h => ?_)) <;> try (exfalso; omega))|(with_reducible refine andG ?_)|(refine And.intro ⟨[_], rfl⟩ ?_)|(refine And.intro ⟨[], by simp only [List.append_nil]⟩ ?_)|fail|simp (disch := (first|exact discB|fail)) only [push_cast, ↓reduceIte, reduceCtorEq, Nat.reduceAdd, Nat.reduceLT, Nat.reduceEqDiff, Nat.reduceLeDiff, Int.reduceAdd, Int.reduceLT, Int.reduceLE, Nat.reduceMul, b1, b2, b7, b8, b9, b4, b13, b14, b15, hrow, hrl])
     refine qa0 (n - (s + 1)) (by omega) (by first|exact wa0|fail) ⟨s + 1, by omega, rfl, by rw [LO_congr (K' := kC G (s + 1) 0) (fun s' a' _ ha' => by unfold kC; have : (s' < s ∨ (s' = s ∧ a' < A)) ↔ (s' < s + 1 ∨ (s' = s + 1 ∧ a' < 0)) := (by omega); simp only [this])], ?_⟩
     simp (disch := (first|exact discB|fail)) only [push_cast, ↓reduceIte, reduceCtorEq, Nat.reduceAdd, Nat.reduceLT, Nat.reduceEqDiff, Nat.reduceLeDiff, Int.reduceAdd, Int.reduceLT, Int.reduceLE, Nat.reduceMul, b1, b2, b7, b8, b9, b4, b13, b14, b15, hrow, hrl]
  ·obtain rfl : n = s := by omega
   have hlast : LO (kC G n 0) G A n OUT = LO (fun s a => some (G s a).length) G A n OUT := LO_congr (fun s a hs _ => by simp [kC, hs])
   repeat' (first|refine nav ?_|(refine g0_ ?_; refine goD ?_)|(with_reducible refine gG ?_ ?_)|((with_reducible refine And.intro (fun h => ?_) (fun h => ?_)) <;> try (exfalso; omega))|(with_reducible refine andG ?_)|(refine And.intro ⟨[_], rfl⟩ ?_)|(refine And.intro ⟨[], by simp only [List.append_nil]⟩ ?_)|fail|simp (disch := (first|exact discB|fail)) only [push_cast, ↓reduceIte, reduceCtorEq, Nat.reduceAdd, Nat.reduceLT, Nat.reduceEqDiff, Nat.reduceLeDiff, Int.reduceAdd, Int.reduceLT, Int.reduceLE, Nat.reduceMul, b1, b2, b7, b8, b9, hX, hY, hsY, hst.1, hst.2, hac.1, hac.2])
   all_goals (rw [hlast]; first|done|exact ⟨hev, rfl⟩)
end Go.Proofs
namespace Go.Proofs
open Go Go.V
set_option linter.unusedVariables false
set_option linter.unusedSimpArgs false
set_option maxHeartbeats 0
theorem qds9 {n0 m : Nat} (s : Nat → AV) (B0 B1 J1 R J2 OUT : Blk) (A n : Nat) : Weak n0 (Lst m s) (B0 :: B1 :: J1 :: R :: J2 :: (kf0 1 26 (fun _ => nils A) n ++ [OUT])) (Lst m s) (B0 :: B1 :: J1 :: R :: J2 :: LO (fun _ _ => none) (fun _ _ => []) A n OUT) := by
 have h := xaa9 (n0 := n0) (n := m) s [B0, B1, J1, R, J2] [OUT] n A 1 1 26 3 (p := n + 6) (by simp; omega) (n * A) (Nat.le_refl _)
 have e : kf0 1 26 (xD0 (n + 6) A (n * A)) n = kf0 1 26 (rowO (fun _ _ => none) (fun _ _ => []) A n) n := zs0 fun s hs => xcl9 hs
 rw [e] at h
 exact h
section
variable {K : Nat → Nat → Option Nat} {G G' : Nat → Nat → List Nat} {A n : Nat} {OUT : Blk}
theorem xcx9 (h : ∀ s a, s < n → a < A → G s a = G' s a) : LO K G A n OUT = LO K G' A n OUT := by
 rw [LO, LO]
 have e1 : kf0 1 26 (rowO K G A n) n = kf0 1 26 (rowO K G' A n) n := zs0 fun s hs => by
  rw [rowO, rowO]
  exact qg0 fun a ha => by rw [h s a hs ha]
 have e2 : kf0 1 3 (lstO G A) (n * A) = kf0 1 3 (lstO G' A) (n * A) := zs0 fun q hq => by
  have hA : 0 < A := Nat.pos_of_ne_zero fun e => by subst e; simp at hq
  rw [lstO, lstO, h _ _ ((Nat.div_lt_iff_lt_mul hA).2 hq) (Nat.mod_lt _ hA)]
 rw [e1, e2]
theorem wcx9 {s : Nat} (hs : s < n) : (LO K G A n OUT)[s]? = some (.row 1 26 (rowO K G A n s)) := by
 have := kcw9 (K := K) (G := G) (A := A) (OUT := OUT) hs []; rwa [List.append_nil] at this
theorem zds9 : (LO K G A n OUT)[n]? = some OUT := by
 have := qdG9 (K := K) (G := G) (A := A) (n := n) (OUT := OUT) []; rwa [List.append_nil] at this
theorem xds9 {s a : Nat} (hs : s < n) (ha : a < A) : (LO K G A n OUT)[s * A + a + n + 1]? = some (.row 1 3 (ints (intN (G s a)))) := by
 have := qcx9 (K := K) (G := G) (OUT := OUT) hs ha []; rwa [List.append_nil] at this
theorem xdS9 {s a : Nat} (hs : s < n) (ha : a < A) (Y : Blk) : ((LO K G A n OUT).set (s * A + a + n + 1) Y)[s * A + a + n + 1]? = some Y := by
 rw [List.getElem?_set_self]
 rw [vcw9]
 have := q_lt hs ha; omega
theorem xdG9 {s a : Nat} (hs : s < n) (ha : a < A) (Y : Blk) : ((LO K G A n OUT).set (s * A + a + n + 1) Y)[s]? = some (.row 1 26 (rowO K G A n s)) := by
 rw [List.getElem?_set_ne (by omega), wcx9 hs]
theorem wdG9 {s a v : Nat} (hs : s < n) (ha : a < A) (c : AV) (hc : c = .own (s * A + a + n + 6) ((G s a).length + 1) ((G s a).length + 1) (K s a)) : ((LO K G A n OUT).set (s * A + a + n + 1) (.row 1 3 (ints (intN (G s a)) ++ [[.int .i64 (v : Int)]]))).set s (.row 1 26 ((rowO K G A n s).set a [c])) = LO K (upd2 G s a (G s a ++ [v])) A n OUT := by
 subst hc
 have e : s * A + a + n + 1 = n + (s * A + a + 1) := by omega
 have hA : 0 < A := by omega
 rw [vk0]
 rw [LO, e, List.set_append_right _ _ (by rw [rf_len]; omega), rf_len, Nat.add_sub_cancel_left, List.set_cons_succ, kck9, zbt9 _ _ hs, LO]
 congr 1
 ·refine zs0 fun s' _ => ?_
  unfold updF
  by_cases e2 : s' = s
  ·subst e2
   rw [if_pos rfl, rowO, xN0, rowO]
   refine qg0 fun a' _ => ?_
   unfold updF upd2
   by_cases e3 : a' = a
   ·subst e3; simp
   ·simp [e3]
  ·rw [if_neg e2, rowO, rowO]
   refine qg0 fun a' _ => ?_
   simp [upd2, e2]
 ·congr 1
  refine zs0 fun q hq => ?_
  unfold updF
  by_cases e2 : q = s * A + a
  ·subst e2
   rw [if_pos rfl, lstO, vdF9 ha, kdF9 ha, upd2, if_pos ⟨rfl, rfl⟩, kk0]
  ·rw [if_neg e2, lstO, lstO, upd2, if_neg]
   rintro ⟨h1, h2⟩
   exact e2 (by rw [← h1, ← h2, Nat.mul_comm]; exact (Nat.div_add_mod q A).symm)
end
def revB (l : List RC) (s a k t a' : Nat) : Bool := if a' < a then (lstC l s a').1.contains (t : Int) else if a' = a then ((lstC l s a).1.take k).contains (t : Int) else false
def revP (l : List RC) (s a k t a' : Nat) : List Nat := ((List.range s).filter fun s' => (lstC l s' a').1.contains (t : Int)) ++ (if revB l s a k t a' = true then [s] else [])
def revG (l : List RC) (t a : Nat) : List Nat := (List.range l.length).filter fun s' => (lstC l s' a).1.contains (t : Int)
theorem zcU9 (l : List RC) (s a k t a' : Nat) : (revP l s a k t a').length ≤ s + 1 := by
 have := List.length_filter_le (fun s' => (lstC l s' a').1.contains (t : Int)) (List.range s)
 rw [List.length_range] at this
 rw [revP, List.length_append]
 split
 ·rw [List.length_singleton]; omega
 ·rw [List.length_nil]; omega
theorem vdG9 (l : List RC) : revP l 0 0 0 = fun _ _ => [] := by
 funext t a
 simp [revP, revB]
theorem kdG9 {n : Int} {l : List RC} {s a k t : Nat} (hr : xf0 (lstC l s a).1 n = true) (hk : k < (lstC l s a).1.length) (ht : (lstC l s a).1.getD k 0 = (t : Int)) : upd2 (revP l s a k) t a (revP l s a k t a ++ [s]) = revP l s a (k + 1) := by
 have hget : (lstC l s a).1[k]? = some (t : Int) := by
  rw [List.getD_eq_getElem?_getD, List.getElem?_eq_getElem hk, Option.getD_some] at ht
  rw [List.getElem?_eq_getElem hk, ht]
 have htk : (lstC l s a).1.take (k + 1) = (lstC l s a).1.take k ++ [(t : Int)] := by rw [List.take_add_one, hget]; rfl
 have hnot : ((lstC l s a).1.take k).contains (t : Int) = false := by
  rw [Bool.eq_false_iff, Ne, List.contains_iff_mem]
  intro h
  have hs := kal9 hr
  rw [← List.take_append_drop (k + 1) (lstC l s a).1, htk, List.append_assoc, List.pairwise_append] at hs
  have := hs.2.2 (t : Int) h (t : Int) (by simp)
  omega
 funext t' a'
 unfold upd2
 by_cases h : t' = t ∧ a' = a
 ·obtain ⟨rfl, rfl⟩ := h
  rw [if_pos ⟨rfl, rfl⟩, revP, revP]
  unfold revB
  rw [if_neg (Nat.lt_irrefl _), if_pos rfl, if_neg (Nat.lt_irrefl _), if_pos rfl, hnot, htk]
  simp
 ·rw [if_neg h, revP, revP]
  congr 1
  have : revB l s a (k + 1) t' a' = revB l s a k t' a' := by
   unfold revB
   by_cases h1 : a' < a
   ·rw [if_pos h1, if_pos h1]
   ·rw [if_neg h1, if_neg h1]
    by_cases h2 : a' = a
    ·rw [if_pos h2, if_pos h2, htk]
     have h3 : t' ≠ t := fun e => h ⟨e, h2⟩
     have h4 : ¬ ((t' : Int) = (t : Int)) := by omega
     rw [Bool.eq_iff_iff]
     simp [List.contains_iff_mem, h4]
    ·rw [if_neg h2, if_neg h2]
  rw [this]
theorem qdH9 (l : List RC) (s a : Nat) : revP l s a (lstC l s a).1.length = revP l s (a + 1) 0 := by
 funext t a'
 rw [revP, revP]
 have : revB l s a (lstC l s a).1.length t a' = revB l s (a + 1) 0 t a' := by
  unfold revB
  rw [List.take_length]
  by_cases h1 : a' < a
  ·rw [if_pos h1, if_pos (by omega)]
  ·rw [if_neg h1]
   by_cases h2 : a' = a
   ·rw [if_pos h2, if_pos (by omega), h2]
   ·rw [if_neg h2, if_neg (by omega)]
    split <;> simp
 rw [this]
theorem zdH9 (l : List RC) (s A t a' : Nat) (ha : a' < A) : revP l s A 0 t a' = revP l (s + 1) 0 0 t a' := by
 rw [revP, revP, List.range_succ, List.filter_append]
 unfold revB
 rw [if_pos ha, if_neg (Nat.not_lt_zero _)]
 simp [List.filter_cons]
theorem xcU9 (l : List RC) : revP l l.length 0 0 = revG l := by
 funext t a
 simp [revP, revB, revG]
theorem wbI9 (l : List RC) (t a : Nat) : (revG l t a).length ≤ l.length := by
 have := List.length_filter_le (fun s' => (lstC l s' a).1.contains (t : Int)) (List.range l.length)
 rw [List.length_range] at this
 exact this
def revRC (A : Nat) (l : List RC) : List RC := (List.range l.length).map fun t => ((List.range A).map fun a => (intN (revG l t a), some (revG l t a).length), some A)
theorem kt0 (A : Nat) (l : List RC) : (revRC A l).length = l.length := by simp [revRC]
theorem close_own {H : List Blk} {d b n z : Nat} {t : TypeId} {c : Option Nat} {es : List (List AV)} (hb : H[b]? = some (.row z t es)) (hn : es.length = n) : qh0 H (d + 1) (.own b n n c) = .sl z (es.map fun e => e.map (qh0 H d)) c := by
 simp only [qh0, hb]
 rw [List.take_of_length_le (by omega)]
theorem ok_own {H : List Blk} {d b n z : Nat} {t : TypeId} {c : Option Nat} {es : List (List AV)} (hb : H[b]? = some (.row z t es)) (hn : es.length = n) (h : ∀ e ∈ es, ∀ x ∈ e, okC H d x = true) : okC H (d + 1) (.own b n n c) = true := by
 subst hn
 simp only [okC, zi0, shOf, hb, beq_self_eq_true, Bool.true_and, List.take_length]
 rw [List.all_eq_true]
 intro e he
 rw [List.all_eq_true]
 exact h e he
section
variable {G : Nat → Nat → List Nat} {A n : Nat} {OUT B0 B1 J1 J2 : Blk} {T : List Blk}
def HO (B0 B1 J1 J2 : Blk) (G : Nat → Nat → List Nat) (A n : Nat) (OUT : Blk) (T : List Blk) : List Blk := B0 :: B1 :: J1 :: .row 1 32 (ownR 5 A (some A) n) :: J2 :: (LO (fun s a => some (G s a).length) G A n OUT ++ T)
def clG (G : Nat → Nat → List Nat) (A n : Nat) : List RC := (List.range n).map fun t => ((List.range A).map fun a => (intN (G t a), some (G t a).length), some A)
theorem wcU9 : ((ownR 5 A (some A) n).all fun e => e.all (okC (HO B0 B1 J1 J2 G A n OUT T) 2)) = true ∧ ((ownR 5 A (some A) n).map fun e => e.map (qh0 (HO B0 B1 J1 J2 G A n OUT T) 2)) = kc0 (clG G A n) := by
 have h1 : ∀ s a, s < n → a < A → (HO B0 B1 J1 J2 G A n OUT T)[s * A + a + n + 6]? = some (.row 1 3 (ints (intN (G s a)))) := fun s a hs ha => by
  have := qcx9 (K := fun s a => some (G s a).length) (G := G) (OUT := OUT) hs ha T
  simpa [HO] using this
 have h2 : ∀ s, s < n → (HO B0 B1 J1 J2 G A n OUT T)[s + 5]? = some (.row 1 26 (rowO (fun s a => some (G s a).length) G A n s)) := fun s hs => by
  have := kcw9 (K := fun s a => some (G s a).length) (G := G) (A := A) (OUT := OUT) hs T
  simpa [HO] using this
 have h3 : (HO B0 B1 J1 J2 G A n OUT T)[3]? = some (.row 1 32 (ownR 5 A (some A) n)) := rfl
 have hl : ∀ s a, (ints (intN (G s a))).length = (G s a).length := fun s a => by rw [za0, intN_len]
 have c0 : ∀ es : List (List AV), (es.map fun e => e.map (qh0 (HO B0 B1 J1 J2 G A n OUT T) 0)) = es := fun es => by
  have h0 : qh0 (HO B0 B1 J1 J2 G A n OUT T) 0 = id := by funext v; simp [qh0]
  simp [h0]
 have k1 : ∀ s a, s < n → a < A → okC (HO B0 B1 J1 J2 G A n OUT T) 1 (.own (s * A + a + n + 6) (G s a).length (G s a).length (some (G s a).length)) = true ∧ qh0 (HO B0 B1 J1 J2 G A n OUT T) 1 (.own (s * A + a + n + 6) (G s a).length (G s a).length (some (G s a).length)) = .sl 1 (ints (intN (G s a))) (some (G s a).length) := fun s a hs ha => by
  refine ⟨ok_own (h1 s a hs ha) (hl s a) ?_, ?_⟩
  ·intro e he x hx
   simp only [ints, List.mem_map] at he
   obtain ⟨y, _, rfl⟩ := he
   rw [List.mem_singleton] at hx
   subst hx
   rfl
  ·rw [close_own (h1 s a hs ha) (hl s a), c0]
 have k2 : ∀ s, s < n → okC (HO B0 B1 J1 J2 G A n OUT T) 2 (.own (s + 5) A A (some A)) = true ∧ qh0 (HO B0 B1 J1 J2 G A n OUT T) 2 (.own (s + 5) A A (some A)) = .sl 1 (rowL ((List.range A).map fun a => (intN (G s a), some (G s a).length))) (some A) := fun s hs => by
  refine ⟨ok_own (h2 s hs) (xaq9 s) ?_, ?_⟩
  ·intro e he x hx
   simp only [rowO, xn0, List.mem_map, List.mem_range] at he
   obtain ⟨a, ha, rfl⟩ := he
   rw [List.mem_singleton] at hx
   subst hx
   exact (k1 s a hs ha).1
  ·rw [close_own (h2 s hs) (xaq9 s)]
   congr 1
   rw [rowO, xn0, List.map_map, rowL, List.map_map]
   refine List.map_congr_left fun a ha => ?_
   have := (k1 s a hs (List.mem_range.1 ha)).2
   simp only [Function.comp, List.map_cons, List.map_nil, this, lC]
 refine ⟨?_, ?_⟩
 ·rw [List.all_eq_true]
  intro e he
  rw [List.all_eq_true]
  intro x hx
  simp only [ownR, List.mem_map, List.mem_range] at he
  obtain ⟨s, hs, rfl⟩ := he
  rw [List.mem_singleton] at hx
  subst hx
  exact (k2 s hs).1
 ·rw [ownR, List.map_map, kc0, clG, List.map_map]
  refine List.map_congr_left fun s hs => ?_
  have := (k2 s (List.mem_range.1 hs)).2
  simp only [Function.comp, List.map_cons, List.map_nil, this, rC]
end
theorem wds9 (A : Nat) (l : List RC) : clG (revG l) A l.length = revRC A l := rfl
end Go.Proofs
