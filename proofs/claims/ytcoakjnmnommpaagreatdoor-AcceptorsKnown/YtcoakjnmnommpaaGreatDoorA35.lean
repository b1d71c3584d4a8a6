import Derived.Test.YtcoakjnmnommpaaGreatDoorZ13
import Derived.Test.YtcoakjnmnommpaaGreatDoorAR3
import Derived.Test.YtcoakjnmnommpaaGreatDoorA30
namespace Go.Proofs
open Go Go.V
set_option linter.unusedVariables false
set_option linter.unusedSimpArgs false
set_option maxHeartbeats 0
def rowO (K : Nat → Nat → Option Nat) (G : Nat → Nat → List Nat) (A n s : Nat) : List (List AV) := qj0 (fun a => .own (s * A + a + n + 6) (G s a).length (G s a).length (K s a)) A
def lstO (G : Nat → Nat → List Nat) (A q : Nat) : List (List AV) := ints (intN (G (q / A) (q % A)))
def LO (K : Nat → Nat → Option Nat) (G : Nat → Nat → List Nat) (A n : Nat) (OUT : Blk) : List Blk := qe0 1 27 (rowO K G A n) n ++ OUT :: qe0 1 3 (lstO G A) (n * A)
def upd2 {α : Type} (f : Nat → Nat → α) (s a : Nat) (v : α) : Nat → Nat → α := fun s' a' => if s' = s ∧ a' = a then v else f s' a'
section
variable {K : Nat → Nat → Option Nat} {G : Nat → Nat → List Nat} {A n : Nat} {OUT : Blk}
theorem q_lt {s a : Nat} (hs : s < n) (ha : a < A) : s * A + a < n * A := by
 have := l'J A (show s + 1 ≤ n from hs);rw [l'O, Nat.one_mul] at this; omega
theorem qem9 {s a : Nat} (ha : a < A) : (s * A + a) / A = s := by
 rw [n'U, Nat.mul_add_div (by omega), z'L ha]; rfl
theorem zem9 {s a : Nat} (ha : a < A) : (s * A + a) % A = a := by
 rw [n'U, Nat.mul_add_mod, l'U ha]
theorem vcQ9 : (LO K G A n OUT).length = n + n * A + 1 := by simp [LO, rf_len]; omega
theorem kcQ9 {s : Nat} (hs : s < n) (T : List Blk) : (LO K G A n OUT ++ T)[s]? = some (.row 1 27 (rowO K G A n s)) := by
 rw [LO, l'A]; exact xaH9 _ hs
theorem xem9 (T : List Blk) : (LO K G A n OUT ++ T)[n]? = some OUT := by
 rw [LO, l'A, wbu9]; rfl
theorem qcR9 {s a : Nat} (hs : s < n) (ha : a < A) (T : List Blk) : (LO K G A n OUT ++ T)[s * A + a + n + 1]? = some (.row 1 3 (ints (intN (G s a)))) := by
 have e : s * A + a + n + 1 = n + (s * A + a + 1) := by omega
 rw [LO, l'A, e, keh9, List.cons_append, List.getElem?_cons_succ, xaH9 _ (q_lt hs ha), lstO, qem9 ha, zem9 ha]
theorem zcR9 {s a : Nat} (hs : s < n) (ha : a < A) (k : Option Nat) (T : List Blk) : (LO K G A n OUT ++ T).set s (.row 1 27 ((rowO K G A n s).set a [.own (s * A + a + n + 6) (G s a).length (G s a).length k])) = LO (upd2 K s a k) G A n OUT ++ T := by
 rw [LO, l'A, xbh9 _ _ hs, LO, l'A];congr 1
 refine wt0 fun s' _ => ?_;unfold updF;by_cases e : s' = s
 ·subst e;rw [if_pos rfl, rowO, wJ0, rowO];refine xf0 fun a' _ => ?_;unfold updF upd2;by_cases e2 : a' = a
  ·subst e2; simp
  ·simp [e2]
 ·rw [if_neg e, rowO, rowO];refine xf0 fun a' _ => ?_;simp [upd2, e]
theorem xaA9 (s : Nat) : (rowO K G A n s).length = A := kN0 _ _
theorem vbY9 {s a : Nat} (ha : a < A) : (rowO K G A n s).getD a [] = [.own (s * A + a + n + 6) (G s a).length (G s a).length (K s a)] := qaf9 ha
theorem LO_congr {K' : Nat → Nat → Option Nat} (h : ∀ s a, s < n → a < A → K s a = K' s a) : LO K G A n OUT = LO K' G A n OUT := by
 rw [LO, LO];congr 1
 refine wt0 fun s hs => ?_;rw [rowO, rowO];exact xf0 fun a ha => by rw [h s a hs ha]
end
def kC (G : Nat → Nat → List Nat) (s a : Nat) : Nat → Nat → Option Nat := fun s' a' => if s' < s ∨ (s' = s ∧ a' < a) then some (G s' a').length else none
theorem wdS9 (G : Nat → Nat → List Nat) (s a : Nat) : upd2 (kC G s a) s a (some (G s a).length) = kC G s (a + 1) := by
 funext s' a'
 unfold upd2 kC;by_cases h : s' = s ∧ a' = a
 ·obtain ⟨rfl, rfl⟩ := h; simp
 ·rw [if_neg h];have : (s' < s ∨ (s' = s ∧ a' < a)) ↔ (s' < s ∨ (s' = s ∧ a' < a + 1)) := by omega
  simp only [this]
set_option maxRecDepth 100000 in
theorem wem9 (A n : Nat) (hA : A ≤ 16) (hn : n ≤ 256) (G : Nat → Nat → List Nat) (hG : ∀ s a, (G s a).length ≤ 256) (B0 B1 J1 J2 OUT : Blk) (st ac : AV) (hst : st.strip = st ∧ st.ok = true) (hac : ac.strip = ac ∧ ac.ok = true) (hev : eqvL [st, ac] [st, ac]) :
  wd0 Tryz.prog G0 36 [.agg [.int .i64 A, .own 3 n n (some n), st, ac]] (B0 :: B1 :: J1 :: .row 1 44 (ownR 5 A (some A) n) :: J2 :: LO (fun _ _ => none) G A n OUT) (.agg [.int .i64 A, .own 3 n n (some n), st, ac])
  (B0 :: B1 :: J1 :: .row 1 44 (ownR 5 A (some A) n) :: J2 :: (LO (fun s a => some (G s a).length) G A n OUT ++ [.row 4 29 [[.int .i64 A, .own 3 n n (some n), st, ac]], .row 4 29 [[.int .i64 A, .own 3 n n (some n), st, ac]]])) := by
 have hLl := fun K => vcQ9 (K := K) (G := G) (A := A) (n := n) (OUT := OUT);have hO := zD0 5 A (some A) n;have hgO := fun q (hq : q < n) => zaH9 (b0 := 5) (I := A) (N := n) (k := q) (some A) hq;have hap : ∀ K X Y, LO K G A n OUT ++ [X] ++ [Y] = LO K G A n OUT ++ [X, Y] := fun K X Y => by simp
 have hX1 : ∀ K X, (LO K G A n OUT ++ [X])[n + n * A + 1]? = some X := fun K X => by rw [← hLl K, l'r (l'f _), n's]; rfl
 have hX : ∀ K X Y, (LO K G A n OUT ++ [X, Y])[n + n * A + 1]? = some X := fun K X Y => by rw [← hLl K, l'r (l'f _), n's]; rfl
 have hY : ∀ K X Y, (LO K G A n OUT ++ [X, Y])[n + n * A + 1 + 1]? = some Y := fun K X Y => by rw [← hLl K, l'r (by omega), show ∀ k : Nat, k + 1 - k = 1 from fun k => by omega]; rfl
 have hsY : ∀ K X Y Z, (LO K G A n OUT ++ [X, Y]).set (n + n * A + 1 + 1) Z = LO K G A n OUT ++ [X, Z] := fun K X Y Z => by rw [← hLl K, n'l _ _ (by omega), show ∀ k : Nat, k + 1 - k = 1 from fun k => by omega]; rfl
 refine zJ0 29 [.cell 2 29] Tryz.func36 rfl rfl rfl (by simp) ?_;intro s ⟨a0, hz⟩;clear hz;repeat' (first|refine nv ?_|(with_reducible first|refine gG ?_ ?_|refine ⟨fun h => ?_, fun h => ?_⟩ <;> try omega|refine andG ?_)|simp (disch := try exact qa0) only [push_cast, simprocAttr, a0, hLl, hap, hX1, hX, hY, hsY, hst.1, hst.2, hac.1, hac.2])
 refine go_loop rfl (fun mz s' H' => ∃ s : Nat, s ≤ n ∧ mz = n - s ∧ H' = (B0 :: B1 :: J1 :: .row 1 44 (ownR 5 A (some A) n) :: J2 :: (LO (kC G s 0) G A n OUT ++ [.row 4 29 [[.int .i64 A, .own 3 n n (some n), st, ac]], .row 4 29 [[.int .i64 0, .sl 0 [] (some 0), .sl 0 [] (some 0), .sl 0 [] (some 0)]]])) ∧ s' 1 = .ptr (n + n * A + 1 + 1 + 1 + 1 + 1 + 1) 0 0 1 ∧ s' 2 = .ptr (n + n * A + 1 + 1 + 1 + 1 + 1 + 1 + 1) 0 0 1 ∧ s' 7 = .own 3 n n (some n) ∧ s' 8 = .int .i64 n ∧ s' 9 = .int .i64 s) (m := n) (by first|exact va0|fail) (Weak.refl _ _) ⟨0, by omega, by omega, by rw [LO_congr (K' := kC G 0 0) (fun s a _ _ => by simp [kC])], ?_⟩ ?_
 ·simp (disch := try exact qa0) only [push_cast, simprocAttr, a0, hLl, hap, hX1, hX, hY, hsY, hst.1, hst.2, hac.1, hac.2]
 ·rintro mz s' H' ⟨s, hs, rfl, rfl, b1, b2, b7, b8, b9⟩;rcases l'i s n with hlt|hge
  ·have hgOs := hgO s hlt;have hrow := fun a T => kcQ9 (K := kC G s a) (G := G) (A := A) (OUT := OUT) hlt T;have hrl := fun a => xaA9 (K := kC G s a) (G := G) (A := A) (n := n) s;repeat' (first|refine nv ?_|(with_reducible first|refine gG ?_ ?_|refine ⟨fun h => ?_, fun h => ?_⟩ <;> try omega|refine andG ?_)|simp (disch := try exact qa0) only [push_cast, simprocAttr, b1, b2, b7, b8, b9, hO, hgOs, hrow, hrl, hLl, hX, hY])
   refine go_loop rfl (fun mz s' H' => ∃ a : Nat, a ≤ A ∧ mz = A - a ∧ H' = (B0 :: B1 :: J1 :: .row 1 44 (ownR 5 A (some A) n) :: J2 :: (LO (kC G s a) G A n OUT ++ [.row 4 29 [[.int .i64 A, .own 3 n n (some n), st, ac]], .row 4 29 [[.int .i64 0, .sl 0 [] (some 0), .sl 0 [] (some 0), .sl 0 [] (some 0)]]])) ∧ s' 1 = .ptr (n + n * A + 1 + 1 + 1 + 1 + 1 + 1) 0 0 1 ∧ s' 2 = .ptr (n + n * A + 1 + 1 + 1 + 1 + 1 + 1 + 1) 0 0 1 ∧ s' 7 = .own 3 n n (some n) ∧ s' 8 = .int .i64 n ∧ s' 9 = .int .i64 s ∧ s' 4 = .own (s + 5) A A (some A) ∧ s' 13 = .own (s + 5) A A (some A) ∧ s' 14 = .int .i64 A ∧ s' 15 = .int .i64 a) (m := A) (by first|exact va0|fail) (Weak.refl _ _) ⟨0, by omega, by omega, rfl, ?_⟩ ?_
   ·simp (disch := try exact qa0) only [push_cast, simprocAttr, b1, b2, b7, b8, b9, hO, hgOs, hrow, hrl, hLl, hX, hY]
   ·clear b1 b2 b7 b8 b9;rintro mz s' H' ⟨a, ha, rfl, rfl, b1, b2, b7, b8, b9, b4, b13, b14, b15⟩;rcases l'i a A with hla|hga
    ·have hlst := fun T => qcR9 (K := kC G s a) (G := G) (OUT := OUT) hlt hla T;have hrg := vbY9 (K := kC G s a) (G := G) (n := n) (s := s) hla;have hset := fun k T => zcR9 (K := kC G s a) (G := G) (OUT := OUT) hlt hla k T;have hcl := fun H hb => kas9 (s * A + a + n + 6) (G s a).length (G s a).length 3 (ints (intN (G s a))) none H hb (by rw [xa0, kc0]) (l'f _);have hcl := hcl (B0 :: B1 :: J1 :: .row 1 44 (ownR 5 A (some A) n) :: J2 :: (LO (kC G s a) G A n OUT ++ [.row 4 29 [[.int .i64 A, .own 3 n n (some n), st, ac]], .row 4 29 [[.int .i64 0, .sl 0 [] (some 0), .sl 0 [] (some 0), .sl 0 [] (some 0)]]])) (by simp [hlst]);have hks := wdS9 G s a;have hk0 : kC G s a s a = none := by simp [kC]
     have hil : (ints (intN (G s a))).length = (G s a).length := by rw [xa0, kc0]
     have hGl := hG s a;repeat' (first|refine nv ?_|(with_reducible first|refine gG ?_ ?_|refine ⟨fun h => ?_, fun h => ?_⟩ <;> try omega|refine andG ?_)|refine cl_ hcl ?_|simp (disch := try exact qa0) only [push_cast, simprocAttr, b1, b2, b7, b8, b9, b4, b13, b14, b15, hrow, hrl, hrg, hlst, hil, hk0, hset, hks])
     refine za0 (A - (a + 1)) (by omega) (by first|exact va0|fail) ⟨a + 1, by omega, rfl, rfl, ?_⟩;simp (disch := try exact qa0) only [push_cast, simprocAttr, b1, b2, b7, b8, b9, b4, b13, b14, b15, hrow, hrl, hrg, hlst, hil, hk0, hset, hks]
    ·obtain rfl : A = a := by omega
     repeat' (first|refine nv ?_|(with_reducible first|refine gG ?_ ?_|refine ⟨fun h => ?_, fun h => ?_⟩ <;> try omega|refine andG ?_)|simp (disch := try exact qa0) only [push_cast, simprocAttr, b1, b2, b7, b8, b9, b4, b13, b14, b15, hrow, hrl])
     refine za0 (n - (s + 1)) (by omega) (by first|exact va0|fail) ⟨s + 1, by omega, rfl, by rw [LO_congr (K' := kC G (s + 1) 0) (fun s' a' _ ha' => by unfold kC; have : (s' < s ∨ (s' = s ∧ a' < A)) ↔ (s' < s + 1 ∨ (s' = s + 1 ∧ a' < 0)) := (by omega); simp only [this])], ?_⟩;simp (disch := try exact qa0) only [push_cast, simprocAttr, b1, b2, b7, b8, b9, b4, b13, b14, b15, hrow, hrl]
  ·obtain rfl : n = s := by omega
   have hlast : LO (kC G n 0) G A n OUT = LO (fun s a => some (G s a).length) G A n OUT := LO_congr (fun s a hs _ => by simp [kC, hs]);repeat' (first|refine nv ?_|(with_reducible first|refine gG ?_ ?_|refine ⟨fun h => ?_, fun h => ?_⟩ <;> try omega|refine andG ?_)|simp (disch := try exact qa0) only [push_cast, simprocAttr, b1, b2, b7, b8, b9, hX, hY, hsY, hst.1, hst.2, hac.1, hac.2])
   all_goals (rw [hlast]; first|done|exact ⟨hev, rfl⟩)
theorem vdS9 {n0 m : Nat} (s : Nat → AV) (B0 B1 J1 R J2 OUT : Blk) (A n : Nat) : Weak n0 (Lst m s) (B0 :: B1 :: J1 :: R :: J2 :: (qe0 1 27 (fun _ => nils A) n ++ [OUT])) (Lst m s) (B0 :: B1 :: J1 :: R :: J2 :: LO (fun _ _ => none) (fun _ _ => []) A n OUT) := by
 have h := qal9 (n0 := n0) (n := m) s [B0, B1, J1, R, J2] [OUT] n A 1 1 27 3 (p := n + 6) (by simp; omega) (n * A) (l'f _);have e : qe0 1 27 (kJ0 (n + 6) A (n * A)) n = qe0 1 27 (rowO (fun _ _ => none) (fun _ _ => []) A n) n := wt0 fun s hs => zcE9 hs;rw [e] at h;exact h
section
variable {K : Nat → Nat → Option Nat} {G G' : Nat → Nat → List Nat} {A n : Nat} {OUT : Blk}
theorem xcR9 (h : ∀ s a, s < n → a < A → G s a = G' s a) : LO K G A n OUT = LO K G' A n OUT := by
 rw [LO, LO];have e1 : qe0 1 27 (rowO K G A n) n = qe0 1 27 (rowO K G' A n) n := wt0 fun s hs => by
  rw [rowO, rowO];exact xf0 fun a ha => by rw [h s a hs ha]
 have e2 : qe0 1 3 (lstO G A) (n * A) = qe0 1 3 (lstO G' A) (n * A) := wt0 fun q hq => by
  have hA : 0 < A := Nat.pos_of_ne_zero fun e => by subst e; simp at hq
  rw [lstO, lstO, h _ _ ((Nat.div_lt_iff_lt_mul hA).2 hq) (n'n _ hA)]
 rw [e1, e2]
theorem wcR9 {s : Nat} (hs : s < n) : (LO K G A n OUT)[s]? = some (.row 1 27 (rowO K G A n s)) := by
 have := kcQ9 (K := K) (G := G) (A := A) (OUT := OUT) hs []; rwa [l'R] at this
theorem kdS9 : (LO K G A n OUT)[n]? = some OUT := by
 have := xem9 (K := K) (G := G) (A := A) (n := n) (OUT := OUT) []; rwa [l'R] at this
theorem qdT9 {s a : Nat} (hs : s < n) (ha : a < A) : (LO K G A n OUT)[s * A + a + n + 1]? = some (.row 1 3 (ints (intN (G s a)))) := by
 have := qcR9 (K := K) (G := G) (OUT := OUT) hs ha []; rwa [l'R] at this
theorem veC9 {s a : Nat} (hs : s < n) (ha : a < A) (Y : Blk) : ((LO K G A n OUT).set (s * A + a + n + 1) Y)[s * A + a + n + 1]? = some Y := by
 rw [l't];rw [vcQ9];have := q_lt hs ha; omega
theorem vem9 {s a : Nat} (hs : s < n) (ha : a < A) (Y : Blk) : ((LO K G A n OUT).set (s * A + a + n + 1) Y)[s]? = some (.row 1 27 (rowO K G A n s)) := by
 rw [l's (by omega), wcR9 hs]
theorem kem9 {s a v : Nat} (hs : s < n) (ha : a < A) (c : AV) (hc : c = .own (s * A + a + n + 6) ((G s a).length + 1) ((G s a).length + 1) (K s a)) : ((LO K G A n OUT).set (s * A + a + n + 1) (.row 1 3 (ints (intN (G s a)) ++ [[.int .i64 (v : Int)]]))).set s (.row 1 27 ((rowO K G A n s).set a [c])) = LO K (upd2 G s a (G s a ++ [v])) A n OUT := by
 subst hc;have e : s * A + a + n + 1 = n + (s * A + a + 1) := by omega
 have hA : 0 < A := by omega
 rw [zy0];rw [LO, e, n'l _ _ (by rw [rf_len]; omega), rf_len, n'I, List.set_cons_succ, zdz9, xbh9 _ _ hs, LO];congr 1
 ·refine wt0 fun s' _ => ?_;unfold updF;by_cases e2 : s' = s
  ·subst e2;rw [if_pos rfl, rowO, wJ0, rowO];refine xf0 fun a' _ => ?_;unfold updF upd2;by_cases e3 : a' = a
   ·subst e3; simp
   ·simp [e3]
  ·rw [if_neg e2, rowO, rowO];refine xf0 fun a' _ => ?_;simp [upd2, e2]
 ·congr 1
  refine wt0 fun q hq => ?_;unfold updF;by_cases e2 : q = s * A + a
  ·subst e2;rw [if_pos rfl, lstO, qem9 ha, zem9 ha, upd2, if_pos ⟨rfl, rfl⟩, zL0]
  ·rw [if_neg e2, lstO, lstO, upd2, if_neg];rintro ⟨h1, h2⟩;exact e2 (by rw [← h1, ← h2, n'U]; exact (Nat.div_add_mod q A).symm)
end
def revB (l : List RC) (s a k t a' : Nat) : Bool := if a' < a then (lstC l s a').1.contains (t : Int) else if a' = a then ((lstC l s a).1.take k).contains (t : Int) else false
def revP (l : List RC) (s a k t a' : Nat) : List Nat := ((List.range s).filter fun s' => (lstC l s' a').1.contains (t : Int)) ++ (if revB l s a k t a' = true then [s] else [])
def revG (l : List RC) (t a : Nat) : List Nat := (List.range l.length).filter fun s' => (lstC l s' a).1.contains (t : Int)
theorem zdq9 (l : List RC) (s a k t a' : Nat) : (revP l s a k t a').length ≤ s + 1 := by
 have := n'a (fun s' => (lstC l s' a').1.contains (t : Int)) (List.range s);rw [n'p] at this;rw [revP, l'v];split
 ·rw [List.length_singleton]; omega
 ·rw [List.length_nil]; omega
theorem qen9 (l : List RC) : revP l 0 0 0 = fun _ _ => [] := by
 funext t a
 simp [revP, revB]
theorem zen9 {n : Int} {l : List RC} {s a k t : Nat} (hr : zf0 (lstC l s a).1 n = true) (hk : k < (lstC l s a).1.length) (ht : (lstC l s a).1.getD k 0 = (t : Int)) : upd2 (revP l s a k) t a (revP l s a k t a ++ [s]) = revP l s a (k + 1) := by
 have hget : (lstC l s a).1[k]? = some (t : Int) := by
  rw [l'b, l'e hk, Option.getD_some] at ht;rw [l'e hk, ht]
 have htk : (lstC l s a).1.take (k + 1) = (lstC l s a).1.take k ++ [(t : Int)] := by rw [List.take_add_one, hget]; rfl
 have hnot : ((lstC l s a).1.take k).contains (t : Int) = false := by
  rw [n'J, Ne, l'h];intro h;have hs := kav9 hr;rw [← l'Q (k + 1) (lstC l s a).1, htk, l'A, z'm] at hs;have := hs.2.2 (t : Int) h (t : Int) (by simp);omega
 funext t' a'
 unfold upd2;by_cases h : t' = t ∧ a' = a
 ·obtain ⟨rfl, rfl⟩ := h;rw [if_pos ⟨rfl, rfl⟩, revP, revP];unfold revB;rw [if_neg (Nat.lt_irrefl _), if_pos rfl, if_neg (Nat.lt_irrefl _), if_pos rfl, hnot, htk];simp
 ·rw [if_neg h, revP, revP];congr 1
  have : revB l s a (k + 1) t' a' = revB l s a k t' a' := by
   unfold revB;by_cases h1 : a' < a
   ·rw [if_pos h1, if_pos h1]
   ·rw [if_neg h1, if_neg h1];by_cases h2 : a' = a
    ·rw [if_pos h2, if_pos h2, htk];have h3 : t' ≠ t := fun e => h ⟨e, h2⟩;have h4 : ¬ ((t' : Int) = (t : Int)) := by omega
     rw [l'u];simp [l'h, h4]
    ·rw [if_neg h2, if_neg h2]
  rw [this]
theorem xen9 (l : List RC) (s a : Nat) : revP l s a (lstC l s a).1.length = revP l s (a + 1) 0 := by
 funext t a'
 rw [revP, revP];have : revB l s a (lstC l s a).1.length t a' = revB l s (a + 1) 0 t a' := by
  unfold revB;rw [l'x];by_cases h1 : a' < a
  ·rw [if_pos h1, if_pos (by omega)]
  ·rw [if_neg h1];by_cases h2 : a' = a
   ·rw [if_pos h2, if_pos (by omega), h2]
   ·rw [if_neg h2, if_neg (by omega)];split <;> simp
 rw [this]
theorem wen9 (l : List RC) (s A t a' : Nat) (ha : a' < A) : revP l s A 0 t a' = revP l (s + 1) 0 0 t a' := by
 rw [revP, revP, l'Z, n'w];unfold revB;rw [if_pos ha, if_neg (Nat.not_lt_zero _)];simp [n'H]
theorem xdq9 (l : List RC) : revP l l.length 0 0 = revG l := by
 funext t a
 simp [revP, revB, revG]
theorem kbY9 (l : List RC) (t a : Nat) : (revG l t a).length ≤ l.length := by
 have := n'a (fun s' => (lstC l s' a).1.contains (t : Int)) (List.range l.length);rw [n'p] at this;exact this
def km0 (A : Nat) (l : List RC) : List RC := (List.range l.length).map fun t => ((List.range A).map fun a => (intN (revG l t a), some (revG l t a).length), some A)
theorem wE0 (A : Nat) (l : List RC) : (km0 A l).length = l.length := by simp [km0]
theorem close_own {H : List Blk} {d b n z : Nat} {t : TypeId} {c : Option Nat} {es : List (List AV)} (hb : H[b]? = some (.row z t es)) (hn : es.length = n) : zh0 H (d + 1) (.own b n n c) = .sl z (es.map fun e => e.map (zh0 H d)) c := by
 simp only [zh0, hb];rw [l'k (by omega)]
theorem ok_own {H : List Blk} {d b n z : Nat} {t : TypeId} {c : Option Nat} {es : List (List AV)} (hb : H[b]? = some (.row z t es)) (hn : es.length = n) (h : ∀ e ∈ es, ∀ x ∈ e, okC H d x = true) : okC H (d + 1) (.own b n n c) = true := by
 subst hn;simp only [okC, zi0, shOf, hb, beq_self_eq_true, n'o, l'x];rw [l'j];intro e he;rw [l'j];exact h e he
section
variable {G : Nat → Nat → List Nat} {A n : Nat} {OUT B0 B1 J1 J2 : Blk} {T : List Blk}
def HO (B0 B1 J1 J2 : Blk) (G : Nat → Nat → List Nat) (A n : Nat) (OUT : Blk) (T : List Blk) : List Blk := B0 :: B1 :: J1 :: .row 1 44 (ownR 5 A (some A) n) :: J2 :: (LO (fun s a => some (G s a).length) G A n OUT ++ T)
def clG (G : Nat → Nat → List Nat) (A n : Nat) : List RC := (List.range n).map fun t => ((List.range A).map fun a => (intN (G t a), some (G t a).length), some A)
theorem wdq9 : ((ownR 5 A (some A) n).all fun e => e.all (okC (HO B0 B1 J1 J2 G A n OUT T) 2)) = true ∧ ((ownR 5 A (some A) n).map fun e => e.map (zh0 (HO B0 B1 J1 J2 G A n OUT T) 2)) = xe0 (clG G A n) := by
 have h1 : ∀ s a, s < n → a < A → (HO B0 B1 J1 J2 G A n OUT T)[s * A + a + n + 6]? = some (.row 1 3 (ints (intN (G s a)))) := fun s a hs ha => by
  have := qcR9 (K := fun s a => some (G s a).length) (G := G) (OUT := OUT) hs ha T;simpa [HO] using this
 have h2 : ∀ s, s < n → (HO B0 B1 J1 J2 G A n OUT T)[s + 5]? = some (.row 1 27 (rowO (fun s a => some (G s a).length) G A n s)) := fun s hs => by
  have := kcQ9 (K := fun s a => some (G s a).length) (G := G) (A := A) (OUT := OUT) hs T;simpa [HO] using this
 have h3 : (HO B0 B1 J1 J2 G A n OUT T)[3]? = some (.row 1 44 (ownR 5 A (some A) n)) := rfl;have hl : ∀ s a, (ints (intN (G s a))).length = (G s a).length := fun s a => by rw [xa0, kc0]
 have c0 : ∀ es : List (List AV), (es.map fun e => e.map (zh0 (HO B0 B1 J1 J2 G A n OUT T) 0)) = es := fun es => by
  have h0 : zh0 (HO B0 B1 J1 J2 G A n OUT T) 0 = id := by funext v; simp [zh0]
  simp [h0]
 have k1 : ∀ s a, s < n → a < A → okC (HO B0 B1 J1 J2 G A n OUT T) 1 (.own (s * A + a + n + 6) (G s a).length (G s a).length (some (G s a).length)) = true ∧ zh0 (HO B0 B1 J1 J2 G A n OUT T) 1 (.own (s * A + a + n + 6) (G s a).length (G s a).length (some (G s a).length)) = .sl 1 (ints (intN (G s a))) (some (G s a).length) := fun s a hs ha => by
  refine ⟨ok_own (h1 s a hs ha) (hl s a) ?_, ?_⟩
  ·intro e he x hx;simp only [ints, l'B] at he;obtain ⟨y, _, rfl⟩ := he;rw [l'N] at hx;subst hx;rfl
  ·rw [close_own (h1 s a hs ha) (hl s a), c0]
 have k2 : ∀ s, s < n → okC (HO B0 B1 J1 J2 G A n OUT T) 2 (.own (s + 5) A A (some A)) = true ∧ zh0 (HO B0 B1 J1 J2 G A n OUT T) 2 (.own (s + 5) A A (some A)) = .sl 1 (rowL ((List.range A).map fun a => (intN (G s a), some (G s a).length))) (some A) := fun s hs => by
  refine ⟨ok_own (h2 s hs) (xaA9 s) ?_, ?_⟩
  ·intro e he x hx;simp only [rowO, qj0, l'B, l'o] at he;obtain ⟨a, ha, rfl⟩ := he;rw [l'N] at hx;subst hx;exact (k1 s a hs ha).1
  ·rw [close_own (h2 s hs) (xaA9 s)];congr 1
   rw [rowO, qj0, n'k, rowL, n'k];refine l'L fun a ha => ?_;have := (k1 s a hs (l'o.1 ha)).2;simp only [Function.comp, List.map_cons, List.map_nil, this, lC]
 refine ⟨?_, ?_⟩
 ·rw [l'j];intro e he;rw [l'j];intro x hx;simp only [ownR, l'B, l'o] at he;obtain ⟨s, hs, rfl⟩ := he;rw [l'N] at hx;subst hx;exact (k2 s hs).1
 ·rw [ownR, n'k, xe0, clG, n'k];refine l'L fun s hs => ?_;have := (k2 s (l'o.1 hs)).2;simp only [Function.comp, List.map_cons, List.map_nil, this, rC]
end
theorem zdT9 (A : Nat) (l : List RC) : clG (revG l) A l.length = km0 A l := rfl
end Go.Proofs
