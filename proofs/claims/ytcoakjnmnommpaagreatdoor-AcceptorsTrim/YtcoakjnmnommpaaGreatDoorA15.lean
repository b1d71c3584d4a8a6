import Derived.Test.YtcoakjnmnommpaaGreatDoorA14
namespace Go.Proofs
open Go Go.V
set_option linter.unusedVariables false
set_option linter.unusedSimpArgs false
set_option maxHeartbeats 0
structure ND where
 sy : Nat
 many : Nat
 arcs : List (Nat × Nat × Nat)
 st : Nat
 ac : Nat
def ND.A (x : ND) : Nat := 1 + x.sy % 3
def ND.n (x : ND) : Nat := x.many % 7
def ND.hit (x : ND) (s a t : Nat) (e : Nat × Nat × Nat) : Bool := decide (e.1 % x.n = s) && (decide (e.2.1 % x.A = a) && decide (e.2.2 % x.n = t))
def ND.dK (x : ND) (s a t k : Nat) : Bool := (x.arcs.take k).any (x.hit s a t)
def ND.d (x : ND) (s a t : Nat) : Bool := x.dK s a t (min 60 x.arcs.length)
def ND.lst (x : ND) (s a t : Nat) : List Nat := (List.range t).filter fun t => x.d s a t
def ND.row (x : ND) (s a : Nat) : List LC := (List.range a).map fun a => (intN (x.lst s a x.n), none)
def ND.rows (x : ND) (s : Nat) : List RC := (List.range s).map fun s => (x.row s x.A, none)
structure ND.Ok (x : ND) : Prop where
 sy : x.sy < 256
 many : x.many < 256
 st : x.st < 256
 ac : x.ac < 256
 arcs : ∀ e ∈ x.arcs, e.1 < 256 ∧ e.2.1 < 256 ∧ e.2.2 < 256
 len : x.arcs.length ≤ 9223372036854775807
def zad9 (l : List (Nat × Nat × Nat)) : List (List AV) := l.map fun e => [.int .u8 (e.1 : Nat), .int .u8 (e.2.1 : Nat), .int .u8 (e.2.2 : Nat)]
theorem xbm9 (l : List (Nat × Nat × Nat)) : (zad9 l).length = l.length := by simp [zad9]
theorem zcc9 (l : List (Nat × Nat × Nat)) (k : Nat) (h : k < l.length) : (zad9 l).getD k [] = [.int .u8 ((l.getD k (0, 0, 0)).1 : Nat), .int .u8 ((l.getD k (0, 0, 0)).2.1 : Nat), .int .u8 ((l.getD k (0, 0, 0)).2.2 : Nat)] := by simp [zad9, h]
theorem zaO9 (p : Nat → Bool) (l : List (Nat × Nat × Nat)) : idsE p (zad9 l) = true := zr0 _ _ fun x => by simp [idsL, AV.ids]
def ndC (x : ND) (z : Nat) (c : Option Nat) : List AV := [.int .u8 x.sy, .int .u8 x.many, .sl z (zad9 x.arcs) c, .int .u8 x.st, .int .u8 x.ac]
theorem ND.dK_succ (x : ND) (s a t k : Nat) (h : k < x.arcs.length) : x.dK s a t (k + 1) = (x.dK s a t k || x.hit s a t (x.arcs.getD k (0, 0, 0))) := by
 rw [ND.dK, zg0 _ (0, 0, 0) k h, List.any_append, ← ND.dK]; simp
theorem ND.lst_succ (x : ND) (s a t : Nat) : x.lst s a (t + 1) = if x.d s a t = true then x.lst s a t ++ [t] else x.lst s a t := by
 rw [ND.lst, List.range_succ, List.filter_append, ← ND.lst]
 by_cases h : x.d s a t = true
 ·rw [if_pos h]; congr 1; simp only [List.filter_cons, h, if_pos, List.filter_nil]
 ·rw [if_neg h]
  have h2 : x.d s a t = false := by simpa using h
  simp [List.filter_cons, h2]
theorem ND.lst_len (x : ND) (s a t : Nat) : (x.lst s a t).length ≤ t := by
 have := List.length_filter_le (fun t : Nat => x.d s a t) (List.range t)
 rwa [List.length_range] at this
theorem ND.row_succ (x : ND) (s a : Nat) : x.row s (a + 1) = x.row s a ++ [(intN (x.lst s a x.n), none)] := by simp [ND.row, List.range_succ]
theorem ND.rows_succ (x : ND) (s : Nat) : x.rows (s + 1) = x.rows s ++ [(x.row s x.A, none)] := by simp [ND.rows, List.range_succ]
theorem ND.row_len (x : ND) (s a : Nat) : (x.row s a).length = a := by simp [ND.row]
theorem ND.rows_len (x : ND) (s : Nat) : (x.rows s).length = s := by simp [ND.rows]
set_option maxRecDepth 100000 in
theorem of9 (x : ND) (z : Nat) (c : Option Nat) (hx : x.Ok) (hz3 : x.arcs = [] ∨ z = 3) : PC Tryz.prog G0 6 [.agg (ndC x z c)] (nA x.A 1 (x.rows x.n) none 1 (intN (bitS x.st x.n)) none 1 (intN (bitS x.ac x.n)) none) := by
 have hA : 1 ≤ x.A ∧ x.A ≤ 3 := by unfold ND.A; omega
 have hn : x.n ≤ 6 := by unfold ND.n; omega
 have hs1 := wdh9 x.st x.n hx.st (by omega)
 have hs2 := wdh9 x.ac x.n hx.ac (by omega)
 have hal := xbm9 x.arcs
 have hida : ∀ p, idsE p (zad9 x.arcs) = true := fun p => zaO9 _ _
 have f1 : IntKind.i64.wrap (1 + IntKind.i64.wrap ((x.sy : Int).tmod 3)) = (x.A : Int) := by
  rw [show (x.sy : Int).tmod 3 = ((x.sy % 3 : Nat) : Int) from rfl, vaC9 ((x.sy % 3 : Nat) : Int) (by omega) (by omega), vaC9 _ (by omega) (by omega)]; unfold ND.A; omega
 have f2 : IntKind.i64.wrap ((x.many : Int).tmod 7) = (x.n : Int) := by
  rw [show (x.many : Int).tmod 7 = ((x.many % 7 : Nat) : Int) from rfl, vaC9 _ (by omega) (by omega)]; rfl
 unfold ndC
 generalize hSS : ints (intN (bitS x.st x.n)) = SS at *
 generalize hSF : ints (intN (bitS x.ac x.n)) = SF at *
 have hidS : ∀ p, idsE p SS = true := fun p => by rw [← hSS]; exact va0 _ _
 have hidF : ∀ p, idsE p SF = true := fun p => by rw [← hSF]; exact va0 _ _
 refine vd0 1 112 [.cell 2 29] Tryz.func6 rfl rfl rfl (by simp) ?_
 intro s ⟨a0, hz⟩
 clear hz
 repeat' (first|(first|refine nav ?_|(refine g0_ ?_; first|refine wa0 (dr := allQ) (p := [0, 1, 1]) [] [] [(10, 11)] rfl rfl mixed (by kernel_rfl) ?_|refine goD ?_))|(with_reducible refine gG ?_ ?_)|((with_reducible refine And.intro (fun h => ?_) (fun h => ?_)) <;> try (exfalso; omega))|(with_reducible refine andG ?_)|(first|(refine ⟨_, _, qa0 (hs1) (by (simp [idsL, idsE, AV.ids, Nat.add_zero])) _, ?_⟩)|(refine ⟨_, qa0 (hs1) (by (simp [idsL, idsE, AV.ids, Nat.add_zero])) _, ?_⟩)|(refine ⟨_, fun _ => qa0 (hs1) (by (simp [idsL, idsE, AV.ids, Nat.add_zero])) _, ?_⟩)|(refine ⟨_, _, qa0 (hs2) (by (simp [idsL, idsE, AV.ids, Nat.add_zero])) _, ?_⟩)|(refine ⟨_, qa0 (hs2) (by (simp [idsL, idsE, AV.ids, Nat.add_zero])) _, ?_⟩)|(refine ⟨_, fun _ => qa0 (hs2) (by (simp [idsL, idsE, AV.ids, Nat.add_zero])) _, ?_⟩))|simp (disch := (first|exact za0|fail)) only [push_cast, simprocAttr, a0, f1, f2])
 refine go_loop rfl (fun mz s' H' => ∃ s : Nat, s ≤ x.n ∧ mz = x.n - s ∧ H' = [.row 5 24 [[.int .u8 x.sy, .int .u8 x.many, .sl z (zad9 x.arcs) c, .int .u8 x.st, .int .u8 x.ac]], .row 4 29 [[.int .i64 0, .sl 0 [] (some 0), .sl 0 [] (some 0), .sl 0 [] (some 0)]], .row 4 29 [[.int .i64 x.A, .own 3 s s none, .sl 1 SS none, .sl 1 SF none]], .row 1 44 (xc0 (x.rows s))] ∧ s' 1 = .ptr 0 0 0 1 ∧ s' 2 = .ptr 1 0 0 1 ∧ s' 3 = .int .i64 x.A ∧ s' 4 = .int .i64 x.n ∧ s' 5 = .ptr 2 0 0 1 ∧ s' 6 = .int .i64 s) (m := x.n) (by first|exact xb0|fail) (vi0 (b := 2) (i := 0) (j := 1) (sz := 1) (ty := 44) rfl rfl rfl) ⟨0, by omega, by omega, by simp [ND.rows, waC9], ?_⟩ ?_
 ·simp (disch := (first|exact za0|fail)) only [push_cast, simprocAttr, a0, f1, f2]
 ·rintro mz s' H' ⟨s, hs, rfl, rfl, b1, b2, b3, b4, b5, b6⟩
  have hml : (xc0 (x.rows s)).length = s := by rw [we0, x.rows_len]
  have et : (xc0 (x.rows s)).take s = xc0 (x.rows s) := List.take_of_length_le (by omega)
  have ed : (xc0 (x.rows s)).drop (s + 1) = [] := List.drop_eq_nil_of_le (by omega)
  have hidR : ∀ p, idsE p (xc0 (x.rows s)) = true := fun p => wc0 _ _
  rcases Nat.lt_or_ge s x.n with hlt|hge
  ·have hsn := vai9 (x.rows s) (x.row s x.A, none)
   rw [← ND.rows_succ] at hsn
   repeat' (first|(first|refine nav ?_|(refine g0_ ?_; first|refine wa0 (dr := allQ) (p := [0, 1, 1]) [] [] [(10, 11)] rfl rfl mixed (by kernel_rfl) ?_|refine goD ?_))|(with_reducible refine gG ?_ ?_)|((with_reducible refine And.intro (fun h => ?_) (fun h => ?_)) <;> try (exfalso; omega))|(with_reducible refine andG ?_)|fail|simp (disch := (first|exact za0|fail)) only [push_cast, simprocAttr, b1, b2, b3, b4, b5, b6])
   refine go_loop rfl (fun mz s' H' => ∃ a : Nat, a ≤ x.A ∧ mz = x.A - a ∧ H' = [.row 5 24 [[.int .u8 x.sy, .int .u8 x.many, .sl z (zad9 x.arcs) c, .int .u8 x.st, .int .u8 x.ac]], .row 4 29 [[.int .i64 0, .sl 0 [] (some 0), .sl 0 [] (some 0), .sl 0 [] (some 0)]], .row 4 29 [[.int .i64 x.A, .own 3 s s none, .sl 1 SS none, .sl 1 SF none]], .row 1 44 (xc0 (x.rows s)), .row 1 27 (rowL (x.row s a))] ∧ s' 1 = .ptr 0 0 0 1 ∧ s' 2 = .ptr 1 0 0 1 ∧ s' 3 = .int .i64 x.A ∧ s' 4 = .int .i64 x.n ∧ s' 5 = .ptr 2 0 0 1 ∧ s' 6 = .int .i64 s ∧ s' 7 = .own 4 a a none ∧ s' 8 = .int .i64 a) (m := x.A) (by first|exact xb0|fail) (zp0 (t := 7) (sz := 1) (ty := 27) rfl) ⟨0, by omega, by omega, by simp [ND.row, xaY9], ?_⟩ ?_
   ·simp (disch := (first|exact za0|fail)) only [push_cast, simprocAttr, b1, b2, b3, b4, b5, b6]
   ·rintro mz s' H' ⟨a, ha, rfl, rfl, b1, b2, b3, b4, b5, b6, b7, b8⟩
    have hml2 : (rowL (x.row s a)).length = a := by rw [zc0, x.row_len]
    have et2 : (rowL (x.row s a)).take a = rowL (x.row s a) := List.take_of_length_le (by omega)
    have ed2 : (rowL (x.row s a)).drop (a + 1) = [] := List.drop_eq_nil_of_le (by omega)
    have hidL : ∀ p, idsE p (rowL (x.row s a)) = true := fun p => vf0 _ _
    rcases Nat.lt_or_ge a x.A with hlta|hgea
    ·have hsn2 := xac9 (x.row s a) (intN (x.lst s a x.n), none)
     rw [← ND.row_succ] at hsn2
     repeat' (first|(first|refine nav ?_|(refine g0_ ?_; first|refine wa0 (dr := allQ) (p := [0, 1, 1]) [] [] [(10, 11)] rfl rfl mixed (by kernel_rfl) ?_|refine goD ?_))|(with_reducible refine gG ?_ ?_)|((with_reducible refine And.intro (fun h => ?_) (fun h => ?_)) <;> try (exfalso; omega))|(with_reducible refine andG ?_)|fail|simp (disch := (first|exact za0|fail)) only [push_cast, simprocAttr, b1, b2, b3, b4, b5, b6, b7, b8])
     refine go_loop rfl (fun mz s' H' => ∃ t : Nat, t ≤ x.n ∧ mz = x.n - t ∧ H' = [.row 5 24 [[.int .u8 x.sy, .int .u8 x.many, .sl z (zad9 x.arcs) c, .int .u8 x.st, .int .u8 x.ac]], .row 4 29 [[.int .i64 0, .sl 0 [] (some 0), .sl 0 [] (some 0), .sl 0 [] (some 0)]], .row 4 29 [[.int .i64 x.A, .own 3 s s none, .sl 1 SS none, .sl 1 SF none]], .row 1 44 (xc0 (x.rows s)), .row 1 27 (rowL (x.row s a)), .row 1 3 (ints (intN (x.lst s a t)))] ∧ s' 1 = .ptr 0 0 0 1 ∧ s' 2 = .ptr 1 0 0 1 ∧ s' 3 = .int .i64 x.A ∧ s' 4 = .int .i64 x.n ∧ s' 5 = .ptr 2 0 0 1 ∧ s' 6 = .int .i64 s ∧ s' 7 = .own 4 a a none ∧ s' 8 = .int .i64 a ∧ s' 9 = .own 5 (x.lst s a t).length (x.lst s a t).length none ∧ s' 10 = .int .i64 t) (m := x.n) (by first|exact xb0|fail) (zp0 (t := 9) (sz := 1) (ty := 3) rfl) ⟨0, by omega, by omega, by simp [ND.lst, intN, vn0], ?_⟩ ?_
     ·simp (disch := (first|exact za0|fail)) only [push_cast, simprocAttr, b1, b2, b3, b4, b5, b6, b7, b8]
      rfl
     ·rintro mz s' H' ⟨t, ht, rfl, rfl, b1, b2, b3, b4, b5, b6, b7, b8, b9, b10⟩
      have hll := x.lst_len s a t
      have hml3 : (ints (intN (x.lst s a t))).length = (x.lst s a t).length := by rw [ka0, zb0]
      have et3 : (ints (intN (x.lst s a t))).take (x.lst s a t).length = ints (intN (x.lst s a t)) := List.take_of_length_le (by omega)
      have ed3 : (ints (intN (x.lst s a t))).drop ((x.lst s a t).length + 1) = [] := List.drop_eq_nil_of_le (by omega)
      rcases Nat.lt_or_ge t x.n with hltt|hget
      ·have hsu := x.lst_succ s a t
       have hsn3 := xm0 (intN (x.lst s a t)) (t : Int)
       rw [← zn0] at hsn3
       have hdd : x.dK s a t (min 60 x.arcs.length) = x.d s a t := rfl
       repeat' (first|(first|refine nav ?_|(refine g0_ ?_; first|refine wa0 (dr := allQ) (p := [0, 1, 1]) [] [] [(10, 11)] rfl rfl mixed (by kernel_rfl) ?_|refine goD ?_))|(with_reducible refine gG ?_ ?_)|((with_reducible refine And.intro (fun h => ?_) (fun h => ?_)) <;> try (exfalso; omega))|(with_reducible refine andG ?_)|fail|simp (disch := (first|exact za0|fail)) only [push_cast, simprocAttr, b1, b2, b3, b4, b5, b6, b7, b8, b9, b10])
       refine go_loop rfl (fun mz s' H' => ∃ k : Nat, k ≤ min 60 x.arcs.length ∧ mz = min 60 x.arcs.length - k ∧ H' = [.row 5 24 [[.int .u8 x.sy, .int .u8 x.many, .sl z (zad9 x.arcs) c, .int .u8 x.st, .int .u8 x.ac]], .row 4 29 [[.int .i64 0, .sl 0 [] (some 0), .sl 0 [] (some 0), .sl 0 [] (some 0)]], .row 4 29 [[.int .i64 x.A, .own 3 s s none, .sl 1 SS none, .sl 1 SF none]], .row 1 44 (xc0 (x.rows s)), .row 1 27 (rowL (x.row s a)), .row 1 3 (ints (intN (x.lst s a t)))] ∧ s' 1 = .ptr 0 0 0 1 ∧ s' 2 = .ptr 1 0 0 1 ∧ s' 3 = .int .i64 x.A ∧ s' 4 = .int .i64 x.n ∧ s' 5 = .ptr 2 0 0 1 ∧ s' 6 = .int .i64 s ∧ s' 7 = .own 4 a a none ∧ s' 8 = .int .i64 a ∧ s' 9 = .own 5 (x.lst s a t).length (x.lst s a t).length none ∧ s' 10 = .int .i64 t ∧ s' 11 = .int .i64 (if x.dK s a t k = true then 1 else 0) ∧ s' 12 = .int .i64 k) (m := min 60 x.arcs.length) (by first|exact xb0|fail) (Weak.refl _ _) ⟨0, by omega, by omega, rfl, ?_⟩ ?_
       ·simp (disch := (first|exact za0|fail)) only [push_cast, simprocAttr, b1, b2, b3, b4, b5, b6, b7, b8, b9, b10]
        rfl
       ·rintro mz s' H' ⟨k, hk, rfl, rfl, b1, b2, b3, b4, b5, b6, b7, b8, b9, b10, b11, b12⟩
        rcases Nat.lt_or_ge k (min 60 x.arcs.length) with hltk|hgek
        ·have hk1 : k < x.arcs.length := by omega
         have hk2 : k < 60 := by omega
         have hk3 : (k : Int) < 60 := by omega
         obtain rfl := hz3.resolve_left (by intro h; rw [h] at hk1; simp at hk1)
         have e1 := zcc9 x.arcs k hk1
         have hdk := x.dK_succ s a t k hk1
         obtain ⟨o1, o2, o3⟩ := hx.arcs _ (qd0 (d := (0, 0, 0)) hk1)
         generalize x.arcs.getD k (0, 0, 0) = e at *
         obtain ⟨e1', e2', e3'⟩ := e
         dsimp only at e1 o1 o2 o3
         have m1 : (e1' : Int).tmod x.n = ((e1' % x.n : Nat) : Int) := rfl
         have m2 : (e2' : Int).tmod x.A = ((e2' % x.A : Nat) : Int) := rfl
         have m3 : (e3' : Int).tmod x.n = ((e3' % x.n : Nat) : Int) := rfl
         have n0 : ¬ (x.n : Int) = 0 := by omega
         have n1 : ¬ x.n = 0 := by omega
         have n2 : ¬ (x.A : Int) = 0 := by omega
         have n3 : ¬ x.A = 0 := by omega
         simp only [ND.hit] at hdk
         generalize e1' % x.n = q1 at *
         generalize e2' % x.A = q2 at *
         generalize e3' % x.n = q3 at *
         by_cases g1 : q1 = s
         ·by_cases g2 : q2 = a
          ·by_cases g3 : q3 = t
           ·have hd1 : x.dK s a t (k + 1) = true := by rw [hdk]; simp [g1, g2, g3]
            repeat' (first|(first|refine nav ?_|(refine g0_ ?_; first|refine wa0 (dr := allQ) (p := [0, 1, 1]) [] [] [(10, 11)] rfl rfl mixed (by kernel_rfl) ?_|refine goD ?_))|(with_reducible refine gG ?_ ?_)|((with_reducible refine And.intro (fun h => ?_) (fun h => ?_)) <;> try (exfalso; omega))|(with_reducible refine andG ?_)|fail|simp (disch := (first|exact za0|fail)) only [push_cast, simprocAttr, b1, b2, b3, b4, b5, b6, b7, b8, b9, b10, b11, b12, hal, e1, m1, m2, m3, n0, n1, n2, n3, hk2, hk3, Int.reduceToNat, g1, g2, g3])
            refine xa0 (min 60 x.arcs.length - (k + 1)) (by omega) (by first|exact xb0|fail) ⟨k + 1, by omega, rfl, rfl, ?_⟩
            rw [hd1]
            simp (disch := (first|exact za0|fail)) only [push_cast, simprocAttr, b1, b2, b3, b4, b5, b6, b7, b8, b9, b10, b11, b12, hal, e1, m1, m2, m3, n0, n1, n2, n3, hk2, hk3, Int.reduceToNat, g1, g2, g3]
           ·have hd1 : x.dK s a t (k + 1) = x.dK s a t k := by rw [hdk]; simp [g3]
            repeat' (first|(first|refine nav ?_|(refine g0_ ?_; first|refine wa0 (dr := allQ) (p := [0, 1, 1]) [] [] [(10, 11)] rfl rfl mixed (by kernel_rfl) ?_|refine goD ?_))|(with_reducible refine gG ?_ ?_)|((with_reducible refine And.intro (fun h => ?_) (fun h => ?_)) <;> try (exfalso; omega))|(with_reducible refine andG ?_)|fail|simp (disch := (first|exact za0|fail)) only [push_cast, simprocAttr, b1, b2, b3, b4, b5, b6, b7, b8, b9, b10, b11, b12, hal, e1, m1, m2, m3, n0, n1, n2, n3, hk2, hk3, Int.reduceToNat, g1, g2, g3])
            refine xa0 (min 60 x.arcs.length - (k + 1)) (by omega) (by first|exact xb0|fail) ⟨k + 1, by omega, rfl, rfl, ?_⟩
            rw [hd1]
            simp (disch := (first|exact za0|fail)) only [push_cast, simprocAttr, b1, b2, b3, b4, b5, b6, b7, b8, b9, b10, b11, b12, hal, e1, m1, m2, m3, n0, n1, n2, n3, hk2, hk3, Int.reduceToNat, g1, g2, g3]
          ·have hd1 : x.dK s a t (k + 1) = x.dK s a t k := by rw [hdk]; simp [g2]
           repeat' (first|(first|refine nav ?_|(refine g0_ ?_; first|refine wa0 (dr := allQ) (p := [0, 1, 1]) [] [] [(10, 11)] rfl rfl mixed (by kernel_rfl) ?_|refine goD ?_))|(with_reducible refine gG ?_ ?_)|((with_reducible refine And.intro (fun h => ?_) (fun h => ?_)) <;> try (exfalso; omega))|(with_reducible refine andG ?_)|fail|simp (disch := (first|exact za0|fail)) only [push_cast, simprocAttr, b1, b2, b3, b4, b5, b6, b7, b8, b9, b10, b11, b12, hal, e1, m1, m2, m3, n0, n1, n2, n3, hk2, hk3, Int.reduceToNat, g1, g2])
           refine xa0 (min 60 x.arcs.length - (k + 1)) (by omega) (by first|exact xb0|fail) ⟨k + 1, by omega, rfl, rfl, ?_⟩
           rw [hd1]
           simp (disch := (first|exact za0|fail)) only [push_cast, simprocAttr, b1, b2, b3, b4, b5, b6, b7, b8, b9, b10, b11, b12, hal, e1, m1, m2, m3, n0, n1, n2, n3, hk2, hk3, Int.reduceToNat, g1, g2]
         ·have hd1 : x.dK s a t (k + 1) = x.dK s a t k := by rw [hdk]; simp [g1]
          repeat' (first|(first|refine nav ?_|(refine g0_ ?_; first|refine wa0 (dr := allQ) (p := [0, 1, 1]) [] [] [(10, 11)] rfl rfl mixed (by kernel_rfl) ?_|refine goD ?_))|(with_reducible refine gG ?_ ?_)|((with_reducible refine And.intro (fun h => ?_) (fun h => ?_)) <;> try (exfalso; omega))|(with_reducible refine andG ?_)|fail|simp (disch := (first|exact za0|fail)) only [push_cast, simprocAttr, b1, b2, b3, b4, b5, b6, b7, b8, b9, b10, b11, b12, hal, e1, m1, m2, m3, n0, n1, n2, n3, hk2, hk3, Int.reduceToNat, g1])
          refine xa0 (min 60 x.arcs.length - (k + 1)) (by omega) (by first|exact xb0|fail) ⟨k + 1, by omega, rfl, rfl, ?_⟩
          rw [hd1]
          simp (disch := (first|exact za0|fail)) only [push_cast, simprocAttr, b1, b2, b3, b4, b5, b6, b7, b8, b9, b10, b11, b12, hal, e1, m1, m2, m3, n0, n1, n2, n3, hk2, hk3, Int.reduceToNat, g1]
        ·obtain rfl : k = min 60 x.arcs.length := by omega
         rw [hdd] at b11
         obtain ⟨mm, hmm⟩ : ∃ mm, mm = min 60 x.arcs.length := ⟨_, rfl⟩
         rw [← hmm] at b12
         have hc : ¬ mm < x.arcs.length ∨ (mm < x.arcs.length ∧ ¬ (mm : Int) < 60 ∧ ¬ mm < 60) := by omega
         cases hd : x.d s a t with
         | true =>
          rw [hd, if_pos rfl] at b11 hsu
          rcases hc with h1|⟨h1, h2, h3⟩
          ·skip
           repeat' (first|(first|refine nav ?_|(refine g0_ ?_; first|refine wa0 (dr := allQ) (p := [0, 1, 1]) [] [] [(10, 11)] rfl rfl mixed (by kernel_rfl) ?_|refine goD ?_))|(with_reducible refine gG ?_ ?_)|((with_reducible refine And.intro (fun h => ?_) (fun h => ?_)) <;> try (exfalso; omega))|(with_reducible refine andG ?_)|fail|simp (disch := (first|exact za0|fail)) only [push_cast, simprocAttr, b1, b2, b3, b4, b5, b6, b7, b8, b9, b10, b11, b12, hal, h1, hml3, et3, ed3])
           refine xa0 (x.n - (t + 1)) (by omega) (by first|exact xb0|fail) ⟨t + 1, by omega, rfl, by rw [hsu, ← hsn3], ?_⟩
           rw [hsu]
           simp (disch := (first|exact za0|fail)) only [push_cast, simprocAttr, b1, b2, b3, b4, b5, b6, b7, b8, b9, b10, b11, b12, hal, h1, hml3, et3, ed3]
          ·skip
           repeat' (first|(first|refine nav ?_|(refine g0_ ?_; first|refine wa0 (dr := allQ) (p := [0, 1, 1]) [] [] [(10, 11)] rfl rfl mixed (by kernel_rfl) ?_|refine goD ?_))|(with_reducible refine gG ?_ ?_)|((with_reducible refine And.intro (fun h => ?_) (fun h => ?_)) <;> try (exfalso; omega))|(with_reducible refine andG ?_)|fail|simp (disch := (first|exact za0|fail)) only [push_cast, simprocAttr, b1, b2, b3, b4, b5, b6, b7, b8, b9, b10, b11, b12, hal, h1, h2, h3, hml3, et3, ed3])
           refine xa0 (x.n - (t + 1)) (by omega) (by first|exact xb0|fail) ⟨t + 1, by omega, rfl, by rw [hsu, ← hsn3], ?_⟩
           rw [hsu]
           simp (disch := (first|exact za0|fail)) only [push_cast, simprocAttr, b1, b2, b3, b4, b5, b6, b7, b8, b9, b10, b11, b12, hal, h1, h2, h3, hml3, et3, ed3]
         | false =>
          rw [hd, if_neg (by simp)] at b11 hsu
          rcases hc with h1|⟨h1, h2, h3⟩
          ·skip
           repeat' (first|(first|refine nav ?_|(refine g0_ ?_; first|refine wa0 (dr := allQ) (p := [0, 1, 1]) [] [] [(10, 11)] rfl rfl mixed (by kernel_rfl) ?_|refine goD ?_))|(with_reducible refine gG ?_ ?_)|((with_reducible refine And.intro (fun h => ?_) (fun h => ?_)) <;> try (exfalso; omega))|(with_reducible refine andG ?_)|fail|simp (disch := (first|exact za0|fail)) only [push_cast, simprocAttr, b1, b2, b3, b4, b5, b6, b7, b8, b9, b10, b11, b12, hal, h1, hml3, et3, ed3])
           refine xa0 (x.n - (t + 1)) (by omega) (by first|exact xb0|fail) ⟨t + 1, by omega, rfl, by rw [hsu], ?_⟩
           rw [hsu]
           simp (disch := (first|exact za0|fail)) only [push_cast, simprocAttr, b1, b2, b3, b4, b5, b6, b7, b8, b9, b10, b11, b12, hal, h1, hml3, et3, ed3]
          ·skip
           repeat' (first|(first|refine nav ?_|(refine g0_ ?_; first|refine wa0 (dr := allQ) (p := [0, 1, 1]) [] [] [(10, 11)] rfl rfl mixed (by kernel_rfl) ?_|refine goD ?_))|(with_reducible refine gG ?_ ?_)|((with_reducible refine And.intro (fun h => ?_) (fun h => ?_)) <;> try (exfalso; omega))|(with_reducible refine andG ?_)|fail|simp (disch := (first|exact za0|fail)) only [push_cast, simprocAttr, b1, b2, b3, b4, b5, b6, b7, b8, b9, b10, b11, b12, hal, h1, h2, h3, hml3, et3, ed3])
           refine xa0 (x.n - (t + 1)) (by omega) (by first|exact xb0|fail) ⟨t + 1, by omega, rfl, by rw [hsu], ?_⟩
           rw [hsu]
           simp (disch := (first|exact za0|fail)) only [push_cast, simprocAttr, b1, b2, b3, b4, b5, b6, b7, b8, b9, b10, b11, b12, hal, h1, h2, h3, hml3, et3, ed3]
      ·obtain rfl : t = x.n := by omega
       repeat' (first|(first|refine nav ?_|(refine g0_ ?_; first|refine wa0 (dr := allQ) (p := [0, 1, 1]) [] [] [(10, 11)] rfl rfl mixed (by kernel_rfl) ?_|refine goD ?_))|(with_reducible refine gG ?_ ?_)|((with_reducible refine And.intro (fun h => ?_) (fun h => ?_)) <;> try (exfalso; omega))|(with_reducible refine andG ?_)|fail|simp (disch := (first|exact za0|fail)) only [push_cast, simprocAttr, b1, b2, b3, b4, b5, b6, b7, b8, b9, b10, hml2, et2, ed2, hml3, et3])
       have hidI : ∀ p, idsE p (ints (intN (x.lst s a x.n))) = true := fun p => va0 _ _
       refine ql0 (x.A - (a + 1)) 5 (j := 5) rfl (by omega) (by first|exact xb0|fail) (by omega) (by simp [frzH]) (by simp [frzH, frzB, frz, Blk.below, idsE, idsL, AV.ids, qk0, qf0, hida, hidS, hidF, hidR, hidL, hidI, et3, hml3]) ⟨a + 1, by omega, rfl, ?_, ?_⟩
       ·rw [← hsn2]
        simp [frzH, frzB, frz, qk0, hida, hidS, hidF, hidR, hidL, hidI, et3, hml3, lC]
       ·simp (disch := (first|exact za0|fail)) only [push_cast, simprocAttr, b1, b2, b3, b4, b5, b6, b7, b8, xi0, frz, AV.ids, idsL]
    ·obtain rfl : a = x.A := by omega
     repeat' (first|(first|refine nav ?_|(refine g0_ ?_; first|refine wa0 (dr := allQ) (p := [0, 1, 1]) [] [] [(10, 11)] rfl rfl mixed (by kernel_rfl) ?_|refine goD ?_))|(with_reducible refine gG ?_ ?_)|((with_reducible refine And.intro (fun h => ?_) (fun h => ?_)) <;> try (exfalso; omega))|(with_reducible refine andG ?_)|fail|simp (disch := (first|exact za0|fail)) only [push_cast, simprocAttr, b1, b2, b3, b4, b5, b6, b7, b8, hml, et, ed, hml2, et2])
     refine ql0 (x.n - (s + 1)) 4 (j := 4) rfl (by omega) (by first|exact xb0|fail) (by omega) (by simp [frzH]) (by simp [frzH, frzB, frz, Blk.below, idsE, idsL, AV.ids, qk0, qf0, hida, hidS, hidF, hidR, hidL, et2, hml2]) ⟨s + 1, by omega, rfl, ?_, ?_⟩
     ·rw [← hsn]
      simp [frzH, frzB, frz, qk0, hida, hidS, hidF, hidR, hidL, et2, hml2, rC]
     ·simp (disch := (first|exact za0|fail)) only [push_cast, simprocAttr, b1, b2, b3, b4, b5, b6, xi0, frz, AV.ids, idsL]
  ·obtain rfl : s = x.n := by omega
   unfold nA
   rw [hSS, hSF]
   repeat' (first|(first|refine nav ?_|(refine g0_ ?_; first|refine wa0 (dr := allQ) (p := [0, 1, 1]) [] [] [(10, 11)] rfl rfl mixed (by kernel_rfl) ?_|refine goD ?_))|(with_reducible refine gG ?_ ?_)|((with_reducible refine And.intro (fun h => ?_) (fun h => ?_)) <;> try (exfalso; omega))|(with_reducible refine andG ?_)|fail|simp (disch := (first|exact za0|fail)) only [push_cast, simprocAttr, b1, b2, b3, b4, b5, b6, hml, et])
   exact ⟨hidS _, hidF _⟩
end Go.Proofs
