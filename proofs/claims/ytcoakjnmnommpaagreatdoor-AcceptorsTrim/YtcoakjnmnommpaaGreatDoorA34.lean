import Derived.Test.YtcoakjnmnommpaaGreatDoorA32
import Derived.Test.YtcoakjnmnommpaaGreatDoorV59
namespace Go.Proofs
open Go Go.V
set_option linter.unusedVariables false
set_option linter.unusedSimpArgs false
set_option maxHeartbeats 0
def plF (p A n s : Nat) : List (List AV) := zj0 (fun t => if t < s then .own (t + p) A A (some A) else .sl 0 [] (some 0)) n
theorem xcD9 (p A n s : Nat) : (plF p A n s).length = n := kI0 _ _
theorem xbN9 (p A n : Nat) : List.replicate n [AV.sl 0 [] (some 0)] = plF p A n 0 := by
 rw [wx0, plF]
 exact xe0 fun t _ => by rw [if_neg (by omega)]
theorem wcD9 (p A n s : Nat) : (plF p A n s).set s [.own (s + p) A A (some A)] = plF p A n (s + 1) := by
 rw [plF, zG0, plF]
 refine xe0 fun t _ => ?_
 unfold updF
 by_cases h : t = s
 ·subst h; rw [if_pos rfl, if_pos (by omega)]
 ·rw [if_neg h]
  have : t < s ↔ t < s + 1 := by omega
  simp only [this]
theorem vcD9 (p A n s : Nat) (h : s < n) : (plF p A n s).getD s [] = [.sl 0 [] (some 0)] := by
 rw [plF, vV0 h, if_neg (by omega)]
theorem kcD9 (p A n : Nat) : plF p A n n = ownR p A (some A) n := by
 rw [plF, ownR, zj0]
 exact List.map_congr_left fun t ht => by rw [if_pos (List.mem_range.1 ht)]
def nils (A : Nat) : List (List AV) := List.replicate A [.sl 0 [] (some 0)]
set_option maxRecDepth 100000 in
theorem kdz9 (A n : Nat) (hA : A ≤ 16) (hn : n ≤ 256) (B0 B1 : Blk) : qe0 Tryz.prog G0 33 [.int .i64 A, .int .i64 n] [B0, B1] (.agg [.int .i64 A, .own 3 n n (some n), .sl 0 [] (some 0), .sl 0 [] (some 0)])
  (B0 :: B1 :: .row 4 29 [[.int .i64 A, .own 3 n n (some n), .sl 0 [] (some 0), .sl 0 [] (some 0)]] :: .row 1 44 (ownR 5 A (some A) n) :: .row 4 29 [[.int .i64 A, .own 3 n n (some n), .sl 0 [] (some 0), .sl 0 [] (some 0)]] :: wd0 1 27 (fun _ => nils A) n) := by
 have hz := xbN9 5 A n
 have hzl := fun s => xcD9 5 A n s
 refine xI0 25 [.cell 4 29] Tryz.func33 rfl rfl rfl (by simp) ?_
 intro s ⟨a0, a1, hz⟩
 simp only [Nat.zero_add, Nat.reduceAdd] at a1
 clear hz
 repeat' (first|(first|refine nav ?_|(refine g0_ ?_; first|refine wa0 (dr := allQ) (p := [1, 0, 0, 1, 1, 0, 0, 1, 0, 1, 1]) [(17, 5), (18, 17)] [(21, none)] [] rfl rfl mixed (by kernel_rfl) ?_|refine goD ?_))|(with_reducible refine gG ?_ ?_)|((with_reducible refine And.intro (fun h => ?_) (fun h => ?_)) <;> try (exfalso; omega))|(with_reducible refine andG ?_)|fail|simp (disch := (first|exact za0|fail)) only [push_cast, simprocAttr, a0, a1, hz, hzl])
 refine go_loop rfl (fun mz s' H' => ∃ s : Nat, s ≤ n ∧ mz = n - s ∧ H' = (B0 :: B1 :: .row 4 29 [[.int .i64 0, .sl 0 [] (some 0), .sl 0 [] (some 0), .sl 0 [] (some 0)]] :: .row 1 44 (plF 5 A n s) :: .row 4 29 [[.int .i64 A, .own 3 n n (some n), .sl 0 [] (some 0), .sl 0 [] (some 0)]] :: wd0 1 27 (fun _ => nils A) s) ∧ s' 0 = .int .i64 A ∧ s' 4 = .ptr 2 0 0 1 ∧ s' 5 = .ptr 4 0 0 1 ∧ s' 12 = .own 3 n n (some n) ∧ s' 13 = .int .i64 n ∧ s' 14 = .int .i64 s) (m := n) (by first|exact xb0|fail) (Weak.refl _ _) ⟨0, by omega, by omega, by rw [zbw9], ?_⟩ ?_
 ·simp (disch := (first|exact za0|fail)) only [push_cast, simprocAttr, a0, a1, hz, hzl]
 ·rintro mz s' H' ⟨s, hs, rfl, rfl, b0, b4, b5, b12, b13, b14⟩
  have hrl := rf_len 1 27 (fun _ => nils A) s
  have hni : List.replicate A [AV.sl 0 [] (some 0)] = nils A := rfl
  rcases Nat.lt_or_ge s n with hlt|hge
  ·have hset := wcD9 5 A n s
   have hget := vcD9 5 A n s hlt
   have hsn := xbw9 (z := 1) (t := 27) (g := fun _ => nils A) (N := s)
   have hgX : ∀ X, (wd0 1 27 (fun _ => nils A) s ++ [X])[s]? = some X := fun X => by rw [qbj9]; rfl
   have hnl : (nils A).length = A := by simp [nils]
   have h5 : s + 1 + 1 + 1 + 1 + 1 = s + 5 := rfl
   repeat' (first|(first|refine nav ?_|(refine g0_ ?_; first|refine wa0 (dr := allQ) (p := [1, 0, 0, 1, 1, 0, 0, 1, 0, 1, 1]) [(17, 5), (18, 17)] [(21, none)] [] rfl rfl mixed (by kernel_rfl) ?_|refine goD ?_))|(with_reducible refine gG ?_ ?_)|((with_reducible refine And.intro (fun h => ?_) (fun h => ?_)) <;> try (exfalso; omega))|(with_reducible refine andG ?_)|fail|simp (disch := (first|exact za0|fail)) only [push_cast, simprocAttr, b0, b4, b5, b12, b13, b14, hzl, hrl, hget, hset, hni, hgX, hnl, h5])
   refine xa0 (n - (s + 1)) (by omega) (by first|exact xb0|fail) ⟨s + 1, by omega, rfl, by rw [← hsn], ?_⟩
   simp (disch := (first|exact za0|fail)) only [push_cast, simprocAttr, b0, b4, b5, b12, b13, b14, hzl, hrl, hget, hset, hni, hgX, hnl, h5]
  ·obtain rfl : n = s := by omega
   rw [kcD9] at *
   repeat' (first|(first|refine nav ?_|(refine g0_ ?_; first|refine wa0 (dr := allQ) (p := [1, 0, 0, 1, 1, 0, 0, 1, 0, 1, 1]) [(17, 5), (18, 17)] [(21, none)] [] rfl rfl mixed (by kernel_rfl) ?_|refine goD ?_))|(with_reducible refine gG ?_ ?_)|((with_reducible refine And.intro (fun h => ?_) (fun h => ?_)) <;> try (exfalso; omega))|(with_reducible refine andG ?_)|fail|simp (disch := (first|exact za0|fail)) only [push_cast, simprocAttr, b0, b4, b5, b12, b13, b14])
end Go.Proofs
namespace Go.Proofs
open Go Go.V
set_option linter.unusedVariables false
set_option linter.unusedSimpArgs false
set_option maxHeartbeats 0
set_option maxRecDepth 100000 in
theorem qcE9 (A n : Nat) (hA : A ≤ 16) (hn : n ≤ 256) (B0 B1 B2 B3 B4 B5 B6 B7 B8 : Blk) : qe0 Tryz.prog G0 33 [.int .i64 A, .int .i64 n] [B0, B1, B2, B3, B4, B5, B6, B7, B8] (.agg [.int .i64 A, .own 10 n n (some n), .sl 0 [] (some 0), .sl 0 [] (some 0)])
  (B0 :: B1 :: B2 :: B3 :: B4 :: B5 :: B6 :: B7 :: B8 :: .row 4 29 [[.int .i64 A, .own 10 n n (some n), .sl 0 [] (some 0), .sl 0 [] (some 0)]] :: .row 1 44 (ownR 12 A (some A) n) :: .row 4 29 [[.int .i64 A, .own 10 n n (some n), .sl 0 [] (some 0), .sl 0 [] (some 0)]] :: wd0 1 27 (fun _ => nils A) n) := by
 have hz := xbN9 12 A n
 have hzl := fun s => xcD9 12 A n s
 refine xI0 25 [.cell 4 29] Tryz.func33 rfl rfl rfl (by simp) ?_
 intro s ⟨a0, a1, hz⟩
 simp only [Nat.zero_add, Nat.reduceAdd] at a1
 clear hz
 repeat' (first|(first|refine nav ?_|(refine g0_ ?_; first|refine wa0 (dr := allQ) (p := [1, 0, 0, 1, 1, 0, 0, 1, 0, 1, 1]) [(17, 5), (18, 17)] [(21, none)] [] rfl rfl mixed (by kernel_rfl) ?_|refine goD ?_))|(with_reducible refine gG ?_ ?_)|((with_reducible refine And.intro (fun h => ?_) (fun h => ?_)) <;> try (exfalso; omega))|(with_reducible refine andG ?_)|fail|simp (disch := (first|exact za0|fail)) only [push_cast, simprocAttr, a0, a1, hz, hzl])
 refine go_loop rfl (fun mz s' H' => ∃ s : Nat, s ≤ n ∧ mz = n - s ∧ H' = (B0 :: B1 :: B2 :: B3 :: B4 :: B5 :: B6 :: B7 :: B8 :: .row 4 29 [[.int .i64 0, .sl 0 [] (some 0), .sl 0 [] (some 0), .sl 0 [] (some 0)]] :: .row 1 44 (plF 12 A n s) :: .row 4 29 [[.int .i64 A, .own 10 n n (some n), .sl 0 [] (some 0), .sl 0 [] (some 0)]] :: wd0 1 27 (fun _ => nils A) s) ∧ s' 0 = .int .i64 A ∧ s' 4 = .ptr 9 0 0 1 ∧ s' 5 = .ptr 11 0 0 1 ∧ s' 12 = .own 10 n n (some n) ∧ s' 13 = .int .i64 n ∧ s' 14 = .int .i64 s) (m := n) (by first|exact xb0|fail) (Weak.refl _ _) ⟨0, by omega, by omega, by rw [zbw9], ?_⟩ ?_
 ·simp (disch := (first|exact za0|fail)) only [push_cast, simprocAttr, a0, a1, hz, hzl]
 ·rintro mz s' H' ⟨s, hs, rfl, rfl, b0, b4, b5, b12, b13, b14⟩
  have hrl := rf_len 1 27 (fun _ => nils A) s
  have hni : List.replicate A [AV.sl 0 [] (some 0)] = nils A := rfl
  rcases Nat.lt_or_ge s n with hlt|hge
  ·have hset := wcD9 12 A n s
   have hget := vcD9 12 A n s hlt
   have hsn := xbw9 (z := 1) (t := 27) (g := fun _ => nils A) (N := s)
   have hgX : ∀ X, (wd0 1 27 (fun _ => nils A) s ++ [X])[s]? = some X := fun X => by rw [qbj9]; rfl
   have hnl : (nils A).length = A := by simp [nils]
   have h5 : s + 1 + 1 + 1 + 1 + 1 + 1 + 1 + 1 + 1 + 1 + 1 + 1 = s + 12 := rfl
   repeat' (first|(first|refine nav ?_|(refine g0_ ?_; first|refine wa0 (dr := allQ) (p := [1, 0, 0, 1, 1, 0, 0, 1, 0, 1, 1]) [(17, 5), (18, 17)] [(21, none)] [] rfl rfl mixed (by kernel_rfl) ?_|refine goD ?_))|(with_reducible refine gG ?_ ?_)|((with_reducible refine And.intro (fun h => ?_) (fun h => ?_)) <;> try (exfalso; omega))|(with_reducible refine andG ?_)|fail|simp (disch := (first|exact za0|fail)) only [push_cast, simprocAttr, b0, b4, b5, b12, b13, b14, hzl, hrl, hget, hset, hni, hgX, hnl, h5])
   refine xa0 (n - (s + 1)) (by omega) (by first|exact xb0|fail) ⟨s + 1, by omega, rfl, by rw [← hsn], ?_⟩
   simp (disch := (first|exact za0|fail)) only [push_cast, simprocAttr, b0, b4, b5, b12, b13, b14, hzl, hrl, hget, hset, hni, hgX, hnl, h5]
  ·obtain rfl : n = s := by omega
   rw [kcD9] at *
   repeat' (first|(first|refine nav ?_|(refine g0_ ?_; first|refine wa0 (dr := allQ) (p := [1, 0, 0, 1, 1, 0, 0, 1, 0, 1, 1]) [(17, 5), (18, 17)] [(21, none)] [] rfl rfl mixed (by kernel_rfl) ?_|refine goD ?_))|(with_reducible refine gG ?_ ?_)|((with_reducible refine And.intro (fun h => ?_) (fun h => ?_)) <;> try (exfalso; omega))|(with_reducible refine andG ?_)|fail|simp (disch := (first|exact za0|fail)) only [push_cast, simprocAttr, b0, b4, b5, b12, b13, b14])
end Go.Proofs
namespace Go.Proofs
open Go Go.V
set_option linter.unusedVariables false
set_option linter.unusedSimpArgs false
set_option maxHeartbeats 0
def rowO (K : Nat → Nat → Option Nat) (G : Nat → Nat → List Nat) (A n s : Nat) : List (List AV) := zj0 (fun a => .own (s * A + a + n + 6) (G s a).length (G s a).length (K s a)) A
def lstO (G : Nat → Nat → List Nat) (A q : Nat) : List (List AV) := ints (intN (G (q / A) (q % A)))
def LO (K : Nat → Nat → Option Nat) (G : Nat → Nat → List Nat) (A n : Nat) (OUT : Blk) : List Blk := wd0 1 27 (rowO K G A n) n ++ OUT :: wd0 1 3 (lstO G A) (n * A)
def upd2 {α : Type} (f : Nat → Nat → α) (s a : Nat) (v : α) : Nat → Nat → α := fun s' a' => if s' = s ∧ a' = a then v else f s' a'
section
variable {K : Nat → Nat → Option Nat} {G : Nat → Nat → List Nat} {A n : Nat} {OUT : Blk}
theorem q_lt {s a : Nat} (hs : s < n) (ha : a < A) : s * A + a < n * A := by
 have := Nat.mul_le_mul_right A (show s + 1 ≤ n from hs)
 rw [Nat.add_mul, Nat.one_mul] at this; omega
theorem vdQ9 {s a : Nat} (ha : a < A) : (s * A + a) / A = s := by
 rw [Nat.mul_comm, Nat.mul_add_div (by omega), Nat.div_eq_of_lt ha]; rfl
theorem kdQ9 {s a : Nat} (ha : a < A) : (s * A + a) % A = a := by
 rw [Nat.mul_comm, Nat.mul_add_mod, Nat.mod_eq_of_lt ha]
theorem zcE9 : (LO K G A n OUT).length = n + n * A + 1 := by simp [LO, rf_len]; omega
theorem xcE9 {s : Nat} (hs : s < n) (T : List Blk) : (LO K G A n OUT ++ T)[s]? = some (.row 1 27 (rowO K G A n s)) := by
 rw [LO, List.append_assoc]; exact qaz9 _ hs
theorem qdR9 (T : List Blk) : (LO K G A n OUT ++ T)[n]? = some OUT := by
 rw [LO, List.append_assoc, qbj9]; rfl
theorem wcE9 {s a : Nat} (hs : s < n) (ha : a < A) (T : List Blk) : (LO K G A n OUT ++ T)[s * A + a + n + 1]? = some (.row 1 3 (ints (intN (G s a)))) := by
 have e : s * A + a + n + 1 = n + (s * A + a + 1) := by omega
 rw [LO, List.append_assoc, e, zdM9, List.cons_append, List.getElem?_cons_succ, qaz9 _ (q_lt hs ha), lstO, vdQ9 ha, kdQ9 ha]
theorem vcE9 {s a : Nat} (hs : s < n) (ha : a < A) (k : Option Nat) (T : List Blk) : (LO K G A n OUT ++ T).set s (.row 1 27 ((rowO K G A n s).set a [.own (s * A + a + n + 6) (G s a).length (G s a).length k])) = LO (upd2 K s a k) G A n OUT ++ T := by
 rw [LO, List.append_assoc, zaX9 _ _ hs, LO, List.append_assoc]
 congr 1
 refine kr0 fun s' _ => ?_
 unfold updF
 by_cases e : s' = s
 ·subst e
  rw [if_pos rfl, rowO, zG0, rowO]
  refine xe0 fun a' _ => ?_
  unfold updF upd2
  by_cases e2 : a' = a
  ·subst e2; simp
  ·simp [e2]
 ·rw [if_neg e, rowO, rowO]
  refine xe0 fun a' _ => ?_
  simp [upd2, e]
theorem zas9 (s : Nat) : (rowO K G A n s).length = A := kI0 _ _
theorem wbN9 {s a : Nat} (ha : a < A) : (rowO K G A n s).getD a [] = [.own (s * A + a + n + 6) (G s a).length (G s a).length (K s a)] := vV0 ha
theorem LO_congr {K' : Nat → Nat → Option Nat} (h : ∀ s a, s < n → a < A → K s a = K' s a) : LO K G A n OUT = LO K' G A n OUT := by
 rw [LO, LO]
 congr 1
 refine kr0 fun s hs => ?_
 rw [rowO, rowO]
 exact xe0 fun a ha => by rw [h s a hs ha]
end
def kC (G : Nat → Nat → List Nat) (s a : Nat) : Nat → Nat → Option Nat := fun s' a' => if s' < s ∨ (s' = s ∧ a' < a) then some (G s' a').length else none
theorem qdA9 (G : Nat → Nat → List Nat) (s a : Nat) : upd2 (kC G s a) s a (some (G s a).length) = kC G s (a + 1) := by
 funext s' a'
 unfold upd2 kC
 by_cases h : s' = s ∧ a' = a
 ·obtain ⟨rfl, rfl⟩ := h; simp
 ·rw [if_neg h]
  have : (s' < s ∨ (s' = s ∧ a' < a)) ↔ (s' < s ∨ (s' = s ∧ a' < a + 1)) := by omega
  simp only [this]
set_option maxRecDepth 100000 in
theorem zdR9 (A n : Nat) (hA : A ≤ 16) (hn : n ≤ 256) (G : Nat → Nat → List Nat) (hG : ∀ s a, (G s a).length ≤ 256) (B0 B1 J1 J2 OUT : Blk) (st ac : AV) (hst : st.strip = st ∧ st.ok = true) (hac : ac.strip = ac ∧ ac.ok = true) (hev : eqvL [st, ac] [st, ac]) :
  qe0 Tryz.prog G0 36 [.agg [.int .i64 A, .own 3 n n (some n), st, ac]] (B0 :: B1 :: J1 :: .row 1 44 (ownR 5 A (some A) n) :: J2 :: LO (fun _ _ => none) G A n OUT) (.agg [.int .i64 A, .own 3 n n (some n), st, ac])
  (B0 :: B1 :: J1 :: .row 1 44 (ownR 5 A (some A) n) :: J2 :: (LO (fun s a => some (G s a).length) G A n OUT ++ [.row 4 29 [[.int .i64 A, .own 3 n n (some n), st, ac]], .row 4 29 [[.int .i64 A, .own 3 n n (some n), st, ac]]])) := by
 have hLl := fun K => zcE9 (K := K) (G := G) (A := A) (n := n) (OUT := OUT)
 have hO := wA0 5 A (some A) n
 have hgO := fun q (hq : q < n) => kay9 (b0 := 5) (I := A) (N := n) (k := q) (some A) hq
 have hap : ∀ K X Y, LO K G A n OUT ++ [X] ++ [Y] = LO K G A n OUT ++ [X, Y] := fun K X Y => by simp
 have hX1 : ∀ K X, (LO K G A n OUT ++ [X])[n + n * A + 1]? = some X := fun K X => by rw [← hLl K, List.getElem?_append_right (Nat.le_refl _), Nat.sub_self]; rfl
 have hX : ∀ K X Y, (LO K G A n OUT ++ [X, Y])[n + n * A + 1]? = some X := fun K X Y => by rw [← hLl K, List.getElem?_append_right (Nat.le_refl _), Nat.sub_self]; rfl
 have hY : ∀ K X Y, (LO K G A n OUT ++ [X, Y])[n + n * A + 1 + 1]? = some Y := fun K X Y => by rw [← hLl K, List.getElem?_append_right (by omega), show ∀ k : Nat, k + 1 - k = 1 from fun k => by omega]; rfl
 have hsY : ∀ K X Y Z, (LO K G A n OUT ++ [X, Y]).set (n + n * A + 1 + 1) Z = LO K G A n OUT ++ [X, Z] := fun K X Y Z => by rw [← hLl K, List.set_append_right _ _ (by omega), show ∀ k : Nat, k + 1 - k = 1 from fun k => by omega]; rfl
 refine xI0 29 [.cell 2 29] Tryz.func36 rfl rfl rfl (by simp) ?_
 intro s ⟨a0, hz⟩
 clear hz
 repeat' (first|refine nav ?_|(refine g0_ ?_; refine goD ?_)|(with_reducible refine gG ?_ ?_)|((with_reducible refine And.intro (fun h => ?_) (fun h => ?_)) <;> try (exfalso; omega))|(with_reducible refine andG ?_)|fail|simp (disch := (first|exact za0|fail)) only [push_cast, simprocAttr, a0, hLl, hap, hX1, hX, hY, hsY, hst.1, hst.2, hac.1, hac.2])
 refine go_loop rfl (fun mz s' H' => ∃ s : Nat, s ≤ n ∧ mz = n - s ∧ H' = (B0 :: B1 :: J1 :: .row 1 44 (ownR 5 A (some A) n) :: J2 :: (LO (kC G s 0) G A n OUT ++ [.row 4 29 [[.int .i64 A, .own 3 n n (some n), st, ac]], .row 4 29 [[.int .i64 0, .sl 0 [] (some 0), .sl 0 [] (some 0), .sl 0 [] (some 0)]]])) ∧ s' 1 = .ptr (n + n * A + 1 + 1 + 1 + 1 + 1 + 1) 0 0 1 ∧ s' 2 = .ptr (n + n * A + 1 + 1 + 1 + 1 + 1 + 1 + 1) 0 0 1 ∧ s' 7 = .own 3 n n (some n) ∧ s' 8 = .int .i64 n ∧ s' 9 = .int .i64 s) (m := n) (by first|exact xb0|fail) (Weak.refl _ _) ⟨0, by omega, by omega, by rw [LO_congr (K' := kC G 0 0) (fun s a _ _ => by simp [kC])], ?_⟩ ?_
 ·simp (disch := (first|exact za0|fail)) only [push_cast, simprocAttr, a0, hLl, hap, hX1, hX, hY, hsY, hst.1, hst.2, hac.1, hac.2]
 ·rintro mz s' H' ⟨s, hs, rfl, rfl, b1, b2, b7, b8, b9⟩
  rcases Nat.lt_or_ge s n with hlt|hge
  ·have hgOs := hgO s hlt
   have hrow := fun a T => xcE9 (K := kC G s a) (G := G) (A := A) (OUT := OUT) hlt T
   have hrl := fun a => zas9 (K := kC G s a) (G := G) (A := A) (n := n) s
   repeat' (first|refine nav ?_|(refine g0_ ?_; refine goD ?_)|(with_reducible refine gG ?_ ?_)|((with_reducible refine And.intro (fun h => ?_) (fun h => ?_)) <;> try (exfalso; omega))|(with_reducible refine andG ?_)|fail|simp (disch := (first|exact za0|fail)) only [push_cast, simprocAttr, b1, b2, b7, b8, b9, hO, hgOs, hrow, hrl, hLl, hX, hY])
   refine go_loop rfl (fun mz s' H' => ∃ a : Nat, a ≤ A ∧ mz = A - a ∧ H' = (B0 :: B1 :: J1 :: .row 1 44 (ownR 5 A (some A) n) :: J2 :: (LO (kC G s a) G A n OUT ++ [.row 4 29 [[.int .i64 A, .own 3 n n (some n), st, ac]], .row 4 29 [[.int .i64 0, .sl 0 [] (some 0), .sl 0 [] (some 0), .sl 0 [] (some 0)]]])) ∧ s' 1 = .ptr (n + n * A + 1 + 1 + 1 + 1 + 1 + 1) 0 0 1 ∧ s' 2 = .ptr (n + n * A + 1 + 1 + 1 + 1 + 1 + 1 + 1) 0 0 1 ∧ s' 7 = .own 3 n n (some n) ∧ s' 8 = .int .i64 n ∧ s' 9 = .int .i64 s ∧ s' 4 = .own (s + 5) A A (some A) ∧ s' 13 = .own (s + 5) A A (some A) ∧ s' 14 = .int .i64 A ∧ s' 15 = .int .i64 a) (m := A) (by first|exact xb0|fail) (Weak.refl _ _) ⟨0, by omega, by omega, rfl, ?_⟩ ?_
   ·simp (disch := (first|exact za0|fail)) only [push_cast, simprocAttr, b1, b2, b7, b8, b9, hO, hgOs, hrow, hrl, hLl, hX, hY]
   ·clear b1 b2 b7 b8 b9
    rintro mz s' H' ⟨a, ha, rfl, rfl, b1, b2, b7, b8, b9, b4, b13, b14, b15⟩
    rcases Nat.lt_or_ge a A with hla|hga
    ·have hlst := fun T => wcE9 (K := kC G s a) (G := G) (OUT := OUT) hlt hla T
     have hrg := wbN9 (K := kC G s a) (G := G) (n := n) (s := s) hla
     have hset := fun k T => vcE9 (K := kC G s a) (G := G) (OUT := OUT) hlt hla k T
     have hcl := fun H hb => zaP9 (s * A + a + n + 6) (G s a).length (G s a).length 3 (ints (intN (G s a))) none H hb (by rw [ka0, zb0]) (Nat.le_refl _)
     have hcl := hcl (B0 :: B1 :: J1 :: .row 1 44 (ownR 5 A (some A) n) :: J2 :: (LO (kC G s a) G A n OUT ++ [.row 4 29 [[.int .i64 A, .own 3 n n (some n), st, ac]], .row 4 29 [[.int .i64 0, .sl 0 [] (some 0), .sl 0 [] (some 0), .sl 0 [] (some 0)]]])) (by simp [hlst])
     have hks := qdA9 G s a
     have hk0 : kC G s a s a = none := by simp [kC]
     have hil : (ints (intN (G s a))).length = (G s a).length := by rw [ka0, zb0]
     have hGl := hG s a
     repeat' (first|refine nav ?_|(refine g0_ ?_; refine goD ?_)|(with_reducible refine gG ?_ ?_)|((with_reducible refine And.intro (fun h => ?_) (fun h => ?_)) <;> try (exfalso; omega))|(with_reducible refine andG ?_)|(first|(refine ⟨_, _, hcl, ?_⟩)|(refine ⟨_, hcl, ?_⟩)|(refine ⟨_, fun _ => hcl, ?_⟩))|simp (disch := (first|exact za0|fail)) only [push_cast, simprocAttr, b1, b2, b7, b8, b9, b4, b13, b14, b15, hrow, hrl, hrg, hlst, hil, hk0, hset, hks])
     refine xa0 (A - (a + 1)) (by omega) (by first|exact xb0|fail) ⟨a + 1, by omega, rfl, rfl, ?_⟩
     simp (disch := (first|exact za0|fail)) only [push_cast, simprocAttr, b1, b2, b7, b8, b9, b4, b13, b14, b15, hrow, hrl, hrg, hlst, hil, hk0, hset, hks]
    ·obtain rfl : A = a := by omega
     repeat' (first|refine nav ?_|(refine g0_ ?_; refine goD ?_)|(with_reducible refine gG ?_ ?_)|((with_reducible refine And.intro (fun h => ?_) (fun h => ?_)) <;> try (exfalso; omega))|(with_reducible refine andG ?_)|fail|simp (disch := (first|exact za0|fail)) only [push_cast, simprocAttr, b1, b2, b7, b8, b9, b4, b13, b14, b15, hrow, hrl])
     refine xa0 (n - (s + 1)) (by omega) (by first|exact xb0|fail) ⟨s + 1, by omega, rfl, by rw [LO_congr (K' := kC G (s + 1) 0) (fun s' a' _ ha' => by unfold kC; have : (s' < s ∨ (s' = s ∧ a' < A)) ↔ (s' < s + 1 ∨ (s' = s + 1 ∧ a' < 0)) := (by omega); simp only [this])], ?_⟩
     simp (disch := (first|exact za0|fail)) only [push_cast, simprocAttr, b1, b2, b7, b8, b9, b4, b13, b14, b15, hrow, hrl]
  ·obtain rfl : n = s := by omega
   have hlast : LO (kC G n 0) G A n OUT = LO (fun s a => some (G s a).length) G A n OUT := LO_congr (fun s a hs _ => by simp [kC, hs])
   repeat' (first|refine nav ?_|(refine g0_ ?_; refine goD ?_)|(with_reducible refine gG ?_ ?_)|((with_reducible refine And.intro (fun h => ?_) (fun h => ?_)) <;> try (exfalso; omega))|(with_reducible refine andG ?_)|fail|simp (disch := (first|exact za0|fail)) only [push_cast, simprocAttr, b1, b2, b7, b8, b9, hX, hY, hsY, hst.1, hst.2, hac.1, hac.2])
   all_goals (rw [hlast]; first|done|exact ⟨hev, rfl⟩)
end Go.Proofs
