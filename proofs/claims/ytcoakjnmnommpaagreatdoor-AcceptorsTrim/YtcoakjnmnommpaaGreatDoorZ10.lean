import Derived.Test.YtcoakjnmnommpaaGreatDoorA36
import Derived.Test.YtcoakjnmnommpaaGreatDoorA20
import Derived.Test.YtcoakjnmnommpaaGreatDoorZ5
namespace Go.Proofs
open Go Go.V Go.RowKit
set_option linter.unusedVariables false
set_option linter.unusedSimpArgs false
set_option maxHeartbeats 0
set_option maxRecDepth 100000
def wp0 (l K : List Int) (k : Nat) : List Nat := (List.range k).filter fun i => l.contains (K.getD i 0)
theorem zce9 (l K : List Int) (k : Nat) : wp0 l K (k + 1) = if l.contains (K.getD k 0) = true then wp0 l K k ++ [k] else wp0 l K k := by
 rw [wp0, List.range_succ, List.filter_append, ← wp0]
 by_cases h : l.contains (K.getD k 0) = true
 ·rw [if_pos h]; congr 1; simp only [List.filter_cons, h, if_pos, List.filter_nil]
 ·rw [if_neg h]
  have h2 : l.contains (K.getD k 0) = false := by simpa using h
  simp only [List.filter_cons, h2, List.filter_nil]
  simp
theorem kad9 (l K : List Int) (k : Nat) : (wp0 l K k).length ≤ k := by
 have := List.length_filter_le (fun i : Nat => l.contains (K.getD i 0)) (List.range k)
 rwa [List.length_range] at this
theorem wcG9 (z : Nat) (l : List Int) (c : Option Nat) (zk : Nat) (K : List Int) (ck : Option Nat) (hz : l = [] ∨ z = 1) (hzk : K = [] ∨ zk = 1) (hl : l.length ≤ 1000000) (hk : K.length ≤ 1000000) :
  PC Tryz.prog G0 45 [.sl z (ints l) c, .sl zk (ints K) ck] (.sl 1 (ints (intN (wp0 l K K.length))) none) := by
 have hKl := ka0 K
 have e1 := kc0 K
 have hh := fun n => vby9 z l c n hz (by omega)
 have hidL : ∀ p, idsE p (ints l) = true := fun p => va0 _ _
 have hidK : ∀ p, idsE p (ints K) = true := fun p => va0 _ _
 generalize ints l = IL at *
 generalize hIK : ints K = IK at *
 refine vd0 1 25 [.tmp 4] Tryz.func45 rfl rfl rfl (by simp) ?_
 intro s ⟨a0, a1, hz⟩
 simp only [Nat.zero_add, Nat.reduceAdd] at a1
 clear hz
 repeat' (first|refine nav ?_|(refine g0_ ?_; refine goD ?_)|(with_reducible refine gG ?_ ?_)|((with_reducible refine And.intro (fun h => ?_) (fun h => ?_)) <;> try (exfalso; omega))|(with_reducible refine andG ?_)|fail|simp (disch := (first|exact za0|fail)) only [push_cast, simprocAttr, a0, a1, hKl])
 refine go_loop rfl (fun mz s' H' => ∃ k : Nat, k ≤ K.length ∧ mz = K.length - k ∧ H' = [.row 1 3 (ints (intN (wp0 l K k)))] ∧ s' 0 = .sl z IL c ∧ s' 1 = .sl zk IK ck ∧ s' 5 = .own 0 (wp0 l K k).length (wp0 l K k).length none ∧ s' 6 = .int .i64 k) (m := K.length) (by first|exact xb0|fail) (zp0 (t := 5) (sz := 1) (ty := 3) rfl) ⟨0, by omega, by omega, by simp [wp0, intN, vn0], ?_⟩ ?_
 ·simp (disch := (first|exact za0|fail)) only [push_cast, simprocAttr, a0, a1, hKl]
  rfl
 ·rintro mz s' H' ⟨k, hk', rfl, rfl, b0, b1, b5, b6⟩
  have hll := kad9 l K k
  have hml : (ints (intN (wp0 l K k))).length = (wp0 l K k).length := by rw [ka0, zb0]
  have et : (ints (intN (wp0 l K k))).take (wp0 l K k).length = ints (intN (wp0 l K k)) := List.take_of_length_le (by omega)
  have ed : (ints (intN (wp0 l K k))).drop ((wp0 l K k).length + 1) = [] := List.drop_eq_nil_of_le (by omega)
  rcases Nat.lt_or_ge k K.length with hlt|hge
  ·obtain rfl := hzk.resolve_left (by intro h; rw [h] at hlt; simp at hlt)
   have e1k := e1 k hlt
   have hhk := hh (K.getD k 0)
   have hsu := zce9 l K k
   have hsn := xm0 (intN (wp0 l K k)) (k : Int)
   rw [← zn0] at hsn
   generalize K.getD k 0 = q at *
   cases hc : l.contains q with
   | true =>
    rw [hc, if_pos rfl] at hhk hsu
    repeat' (first|refine nav ?_|(refine g0_ ?_; refine goD ?_)|(with_reducible refine gG ?_ ?_)|((with_reducible refine And.intro (fun h => ?_) (fun h => ?_)) <;> try (exfalso; omega))|(with_reducible refine andG ?_)|(first|(refine ⟨_, _, qa0 (hhk) (by (simp [idsL, idsE, AV.ids, hidL, hidK])) _, ?_⟩)|(refine ⟨_, qa0 (hhk) (by (simp [idsL, idsE, AV.ids, hidL, hidK])) _, ?_⟩)|(refine ⟨_, fun _ => qa0 (hhk) (by (simp [idsL, idsE, AV.ids, hidL, hidK])) _, ?_⟩))|simp (disch := (first|exact za0|fail)) only [push_cast, simprocAttr, b0, b1, b5, b6, hKl, e1k, hml, et, ed])
    refine xa0 (K.length - (k + 1)) (by omega) (by first|exact xb0|fail) ⟨k + 1, by omega, rfl, by rw [hsu, ← hsn], ?_⟩
    rw [hsu]
    simp (disch := (first|exact za0|fail)) only [push_cast, simprocAttr, b0, b1, b5, b6, hKl, e1k, hml, et, ed]
   | false =>
    rw [hc, if_neg (by simp)] at hhk hsu
    repeat' (first|refine nav ?_|(refine g0_ ?_; refine goD ?_)|(with_reducible refine gG ?_ ?_)|((with_reducible refine And.intro (fun h => ?_) (fun h => ?_)) <;> try (exfalso; omega))|(with_reducible refine andG ?_)|(first|(refine ⟨_, _, qa0 (hhk) (by (simp [idsL, idsE, AV.ids, hidL, hidK])) _, ?_⟩)|(refine ⟨_, qa0 (hhk) (by (simp [idsL, idsE, AV.ids, hidL, hidK])) _, ?_⟩)|(refine ⟨_, fun _ => qa0 (hhk) (by (simp [idsL, idsE, AV.ids, hidL, hidK])) _, ?_⟩))|simp (disch := (first|exact za0|fail)) only [push_cast, simprocAttr, b0, b1, b5, b6, hKl, e1k, hml, et, ed])
    refine xa0 (K.length - (k + 1)) (by omega) (by first|exact xb0|fail) ⟨k + 1, by omega, rfl, by rw [hsu], ?_⟩
    rw [hsu]
    simp (disch := (first|exact za0|fail)) only [push_cast, simprocAttr, b0, b1, b5, b6, hKl, e1k, hml, et, ed]
  ·obtain rfl : K.length = k := by omega
   repeat' (first|refine nav ?_|(refine g0_ ?_; refine goD ?_)|(with_reducible refine gG ?_ ?_)|((with_reducible refine And.intro (fun h => ?_) (fun h => ?_)) <;> try (exfalso; omega))|(with_reducible refine andG ?_)|fail|simp (disch := (first|exact za0|fail)) only [push_cast, simprocAttr, b0, b1, b5, b6, hKl, hml, et])
def rvK (l : List RC) (s a t : Nat) : List Nat := (List.range t).filter fun s' => (lstC l s' a).1.contains (s : Int)
def rvR (l : List RC) (s a : Nat) : List LC := (List.range a).map fun a => (intN (revG l s a), none)
def rvN (A : Nat) (l : List RC) (s : Nat) : List RC := (List.range s).map fun s => (rvR l s A, none)
theorem vdb9 (l : List RC) (s a t : Nat) : rvK l s a (t + 1) = if (lstC l t a).1.contains (s : Int) = true then rvK l s a t ++ [t] else rvK l s a t := by
 rw [rvK, List.range_succ, List.filter_append, ← rvK]
 by_cases h : (lstC l t a).1.contains (s : Int) = true
 ·rw [if_pos h]; congr 1; simp only [List.filter_cons, h, if_pos, List.filter_nil]
 ·rw [if_neg h]
  have h2 : (lstC l t a).1.contains (s : Int) = false := by simpa using h
  simp only [List.filter_cons, h2, List.filter_nil]
  simp
theorem wdB9 (l : List RC) (s a t : Nat) : (rvK l s a t).length ≤ t := by
 have := List.length_filter_le (fun s' => (lstC l s' a).1.contains (s : Int)) (List.range t)
 rwa [List.length_range] at this
theorem vcG9 (l : List RC) (s a : Nat) : rvK l s a l.length = revG l s a := rfl
theorem kdb9 (l : List RC) (s a : Nat) : rvR l s (a + 1) = rvR l s a ++ [(intN (revG l s a), none)] := by simp [rvR, List.range_succ]
theorem qdc9 (A : Nat) (l : List RC) (s : Nat) : rvN A l (s + 1) = rvN A l s ++ [(rvR l s A, none)] := by simp [rvN, List.range_succ]
theorem vdB9 (l : List RC) (s a : Nat) : (rvR l s a).length = a := by simp [rvR]
theorem zt0 (A : Nat) (l : List RC) (s : Nat) : (rvN A l s).length = s := by simp [rvN]
theorem xan9 (A : Nat) (zr : Nat) (l : List RC) (c : Option Nat) (zs : Nat) (st : List Int) (cs : Option Nat) (za : Nat) (ac : List Int) (ca : Option Nat) (hsz : SizeN zr l zs st za ac) (hok : OkNv A (rowsV l) st ac) :
  PC Tryz.prog G0 11 [nA A zr l c zs st cs za ac ca] (nA A 1 (rvN A l l.length) none za ac ca zs st cs) := by
 have hn := hok.n
 rw [qb0] at hn
 have hA1 := hok.a1
 have hA2 := hok.a2
 have hRl := we0 l
 have hg := zm0 l
 have hrow := fun s hs => hok.row (l := l) (s := s) hs
 have hbi := hsz.bi
 have hzl := hsz.zl
 have hidX : ∀ p, idsE p (xc0 l) = true := fun p => wc0 _ _
 have hidS : ∀ p, idsE p (ints st) = true := fun p => va0 _ _
 have hidF : ∀ p, idsE p (ints ac) = true := fun p => va0 _ _
 unfold nA
 generalize hRN : xc0 l = RN at *
 generalize ints st = SS at *
 generalize ints ac = SF at *
 refine vd0 1 62 [.cell 2 29] Tryz.func11 rfl rfl rfl (by simp) ?_
 intro s ⟨a0, hz⟩
 clear hz
 repeat' (first|refine nav ?_|(refine g0_ ?_; refine goD ?_)|(with_reducible refine gG ?_ ?_)|((with_reducible refine And.intro (fun h => ?_) (fun h => ?_)) <;> try (exfalso; omega))|(with_reducible refine andG ?_)|fail|simp (disch := (first|exact za0|fail)) only [push_cast, simprocAttr, a0, hRl])
 refine go_loop rfl (fun mz s' H' => ∃ s : Nat, s ≤ l.length ∧ mz = l.length - s ∧ H' = [.row 4 29 [[.int .i64 A, .sl zr RN c, .sl zs SS cs, .sl za SF ca]], .row 4 29 [[.int .i64 0, .sl 0 [] (some 0), .sl 0 [] (some 0), .sl 0 [] (some 0)]], .row 4 29 [[.int .i64 A, .own 3 s s none, .sl za SF ca, .sl zs SS cs]], .row 1 44 (xc0 (rvN A l s))] ∧ s' 1 = .ptr 0 0 0 1 ∧ s' 2 = .ptr 1 0 0 1 ∧ s' 3 = .ptr 2 0 0 1 ∧ s' 4 = .int .i64 s) (m := l.length) (by first|exact xb0|fail) (vi0 (b := 2) (i := 0) (j := 1) (sz := 1) (ty := 44) rfl rfl rfl) ⟨0, by omega, by omega, by simp [rvN, waC9], ?_⟩ ?_
 ·simp (disch := (first|exact za0|fail)) only [push_cast, simprocAttr, a0, hRl]
 ·rintro mz s' H' ⟨s, hs, rfl, rfl, b1, b2, b3, b4⟩
  have hml : (xc0 (rvN A l s)).length = s := by rw [we0, zt0]
  have et : (xc0 (rvN A l s)).take s = xc0 (rvN A l s) := List.take_of_length_le (by omega)
  have ed : (xc0 (rvN A l s)).drop (s + 1) = [] := List.drop_eq_nil_of_le (by omega)
  have hidR : ∀ p, idsE p (xc0 (rvN A l s)) = true := fun p => wc0 _ _
  rcases Nat.lt_or_ge s l.length with hlt|hge
  ·have hsn := vai9 (rvN A l s) (rvR l s A, none)
   rw [← qdc9] at hsn
   repeat' (first|refine nav ?_|(refine g0_ ?_; refine goD ?_)|(with_reducible refine gG ?_ ?_)|((with_reducible refine And.intro (fun h => ?_) (fun h => ?_)) <;> try (exfalso; omega))|(with_reducible refine andG ?_)|fail|simp (disch := (first|exact za0|fail)) only [push_cast, simprocAttr, b1, b2, b3, b4, hRl])
   refine go_loop rfl (fun mz s' H' => ∃ a : Nat, a ≤ A ∧ mz = A - a ∧ H' = [.row 4 29 [[.int .i64 A, .sl zr RN c, .sl zs SS cs, .sl za SF ca]], .row 4 29 [[.int .i64 0, .sl 0 [] (some 0), .sl 0 [] (some 0), .sl 0 [] (some 0)]], .row 4 29 [[.int .i64 A, .own 3 s s none, .sl za SF ca, .sl zs SS cs]], .row 1 44 (xc0 (rvN A l s)), .row 1 27 (rowL (rvR l s a))] ∧ s' 1 = .ptr 0 0 0 1 ∧ s' 2 = .ptr 1 0 0 1 ∧ s' 3 = .ptr 2 0 0 1 ∧ s' 4 = .int .i64 s ∧ s' 5 = .own 4 a a none ∧ s' 6 = .int .i64 a) (m := A) (by first|exact xb0|fail) (zp0 (t := 5) (sz := 1) (ty := 27) rfl) ⟨0, by omega, by omega, by simp [rvR, xaY9], ?_⟩ ?_
   ·simp (disch := (first|exact za0|fail)) only [push_cast, simprocAttr, b1, b2, b3, b4, hRl]
   ·rintro mz s' H' ⟨a, ha, rfl, rfl, b1, b2, b3, b4, b5, b6⟩
    have hml2 : (rowL (rvR l s a)).length = a := by rw [zc0, vdB9]
    have et2 : (rowL (rvR l s a)).take a = rowL (rvR l s a) := List.take_of_length_le (by omega)
    have ed2 : (rowL (rvR l s a)).drop (a + 1) = [] := List.drop_eq_nil_of_le (by omega)
    have hidL : ∀ p, idsE p (rowL (rvR l s a)) = true := fun p => vf0 _ _
    rcases Nat.lt_or_ge a A with hlta|hgea
    ·have hsn2 := xac9 (rvR l s a) (intN (revG l s a), none)
     rw [← kdb9] at hsn2
     repeat' (first|refine nav ?_|(refine g0_ ?_; refine goD ?_)|(with_reducible refine gG ?_ ?_)|((with_reducible refine And.intro (fun h => ?_) (fun h => ?_)) <;> try (exfalso; omega))|(with_reducible refine andG ?_)|fail|simp (disch := (first|exact za0|fail)) only [push_cast, simprocAttr, b1, b2, b3, b4, b5, b6])
     refine go_loop rfl (fun mz s' H' => ∃ t : Nat, t ≤ l.length ∧ mz = l.length - t ∧ H' = [.row 4 29 [[.int .i64 A, .sl zr RN c, .sl zs SS cs, .sl za SF ca]], .row 4 29 [[.int .i64 0, .sl 0 [] (some 0), .sl 0 [] (some 0), .sl 0 [] (some 0)]], .row 4 29 [[.int .i64 A, .own 3 s s none, .sl za SF ca, .sl zs SS cs]], .row 1 44 (xc0 (rvN A l s)), .row 1 27 (rowL (rvR l s a)), .row 1 3 (ints (intN (rvK l s a t)))] ∧ s' 1 = .ptr 0 0 0 1 ∧ s' 2 = .ptr 1 0 0 1 ∧ s' 3 = .ptr 2 0 0 1 ∧ s' 4 = .int .i64 s ∧ s' 5 = .own 4 a a none ∧ s' 6 = .int .i64 a ∧ s' 7 = .own 5 (rvK l s a t).length (rvK l s a t).length none ∧ s' 8 = .int .i64 t) (m := l.length) (by first|exact xb0|fail) (zp0 (t := 7) (sz := 1) (ty := 3) rfl) ⟨0, by omega, by omega, by simp [rvK, intN, vn0], ?_⟩ ?_
     ·simp (disch := (first|exact za0|fail)) only [push_cast, simprocAttr, b1, b2, b3, b4, b5, b6]
      rfl
     ·rintro mz s' H' ⟨t, ht, rfl, rfl, b1, b2, b3, b4, b5, b6, b7, b8⟩
      have hll := wdB9 l s a t
      have hml3 : (ints (intN (rvK l s a t))).length = (rvK l s a t).length := by rw [ka0, zb0]
      have et3 : (ints (intN (rvK l s a t))).take (rvK l s a t).length = ints (intN (rvK l s a t)) := List.take_of_length_le (by omega)
      have ed3 : (ints (intN (rvK l s a t))).drop ((rvK l s a t).length + 1) = [] := List.drop_eq_nil_of_le (by omega)
      rcases Nat.lt_or_ge t l.length with hltt|hget
      ·obtain rfl := hzl.resolve_left (by intro h; rw [h] at hltt; simp at hltt)
       have hsu := vdb9 l s a t
       have hsn3 := xm0 (intN (rvK l s a t)) (t : Int)
       rw [← zn0] at hsn3
       have e1 := hg t hltt
       have hrt := hrow t hltt
       have hbit := hbi t a hltt (by omega)
       unfold rC at e1
       have hlc : (l.getD t ([], none)).1.getD a ([], none) = lstC l t a := rfl
       have e2 := zh0 (l.getD t ([], none)).1 a (by omega)
       rw [hlc] at e2 hbit
       have hrl2 := zc0 (l.getD t ([], none)).1
       generalize (l.getD t ([], none)).2 = cr at *
       generalize (l.getD t ([], none)).1 = r at *
       unfold lC at e2
       generalize (lstC l t a).2 = cx at *
       generalize (lstC l t a).1 = xx at *
       have hh := vby9 1 xx cx s (.inr rfl) hbit
       cases hc : xx.contains (s : Int) with
       | true =>
        rw [hc, if_pos rfl] at hh hsu
        repeat' (first|refine nav ?_|(refine g0_ ?_; refine goD ?_)|(with_reducible refine gG ?_ ?_)|((with_reducible refine And.intro (fun h => ?_) (fun h => ?_)) <;> try (exfalso; omega))|(with_reducible refine andG ?_)|(first|(refine ⟨_, _, qa0 (hh) (by (simp [idsL, idsE, AV.ids, hidX, hidS, hidF, hidR, hidL])) _, ?_⟩)|(refine ⟨_, qa0 (hh) (by (simp [idsL, idsE, AV.ids, hidX, hidS, hidF, hidR, hidL])) _, ?_⟩)|(refine ⟨_, fun _ => qa0 (hh) (by (simp [idsL, idsE, AV.ids, hidX, hidS, hidF, hidR, hidL])) _, ?_⟩))|simp (disch := (first|exact za0|fail)) only [push_cast, simprocAttr, b1, b2, b3, b4, b5, b6, b7, b8, hRl, e1, hrl2, hrt, e2, hml3, et3, ed3])
        refine xa0 (l.length - (t + 1)) (by omega) (by first|exact xb0|fail) ⟨t + 1, by omega, rfl, by rw [hsu, ← hsn3], ?_⟩
        rw [hsu]
        simp (disch := (first|exact za0|fail)) only [push_cast, simprocAttr, b1, b2, b3, b4, b5, b6, b7, b8, hRl, e1, hrl2, hrt, e2, hml3, et3, ed3]
       | false =>
        rw [hc, if_neg (by simp)] at hh hsu
        repeat' (first|refine nav ?_|(refine g0_ ?_; refine goD ?_)|(with_reducible refine gG ?_ ?_)|((with_reducible refine And.intro (fun h => ?_) (fun h => ?_)) <;> try (exfalso; omega))|(with_reducible refine andG ?_)|(first|(refine ⟨_, _, qa0 (hh) (by (simp [idsL, idsE, AV.ids, hidX, hidS, hidF, hidR, hidL])) _, ?_⟩)|(refine ⟨_, qa0 (hh) (by (simp [idsL, idsE, AV.ids, hidX, hidS, hidF, hidR, hidL])) _, ?_⟩)|(refine ⟨_, fun _ => qa0 (hh) (by (simp [idsL, idsE, AV.ids, hidX, hidS, hidF, hidR, hidL])) _, ?_⟩))|simp (disch := (first|exact za0|fail)) only [push_cast, simprocAttr, b1, b2, b3, b4, b5, b6, b7, b8, hRl, e1, hrl2, hrt, e2, hml3, et3, ed3])
        refine xa0 (l.length - (t + 1)) (by omega) (by first|exact xb0|fail) ⟨t + 1, by omega, rfl, by rw [hsu], ?_⟩
        rw [hsu]
        simp (disch := (first|exact za0|fail)) only [push_cast, simprocAttr, b1, b2, b3, b4, b5, b6, b7, b8, hRl, e1, hrl2, hrt, e2, hml3, et3, ed3]
      ·obtain rfl : l.length = t := by omega
       rw [vcG9] at *
       repeat' (first|refine nav ?_|(refine g0_ ?_; refine goD ?_)|(with_reducible refine gG ?_ ?_)|((with_reducible refine And.intro (fun h => ?_) (fun h => ?_)) <;> try (exfalso; omega))|(with_reducible refine andG ?_)|fail|simp (disch := (first|exact za0|fail)) only [push_cast, simprocAttr, b1, b2, b3, b4, b5, b6, b7, b8, hRl, hml2, et2, ed2, hml3, et3])
       have hidI : ∀ p, idsE p (ints (intN (revG l s a))) = true := fun p => va0 _ _
       refine ql0 (A - (a + 1)) 5 (j := 5) rfl (by omega) (by first|exact xb0|fail) (by omega) (by simp [frzH]) (by simp [frzH, frzB, frz, Blk.below, idsE, idsL, AV.ids, qk0, qf0, hidX, hidS, hidF, hidR, hidL, hidI, et3, hml3]) ⟨a + 1, by omega, rfl, ?_, ?_⟩
       ·rw [← hsn2]
        simp [frzH, frzB, frz, qk0, hidX, hidS, hidF, hidR, hidL, hidI, et3, hml3, lC]
       ·simp (disch := (first|exact za0|fail)) only [push_cast, simprocAttr, b1, b2, b3, b4, b5, b6, xi0, frz, AV.ids, idsL]
    ·obtain rfl : A = a := by omega
     repeat' (first|refine nav ?_|(refine g0_ ?_; refine goD ?_)|(with_reducible refine gG ?_ ?_)|((with_reducible refine And.intro (fun h => ?_) (fun h => ?_)) <;> try (exfalso; omega))|(with_reducible refine andG ?_)|fail|simp (disch := (first|exact za0|fail)) only [push_cast, simprocAttr, b1, b2, b3, b4, b5, b6, hml, et, ed, hml2, et2])
     refine ql0 (l.length - (s + 1)) 4 (j := 4) rfl (by omega) (by first|exact xb0|fail) (by omega) (by simp [frzH]) (by simp [frzH, frzB, frz, Blk.below, idsE, idsL, AV.ids, qk0, qf0, hidX, hidS, hidF, hidR, hidL, et2, hml2]) ⟨s + 1, by omega, rfl, ?_, ?_⟩
     ·rw [← hsn]
      simp [frzH, frzB, frz, qk0, hidX, hidS, hidF, hidR, hidL, et2, hml2, rC]
     ·simp (disch := (first|exact za0|fail)) only [push_cast, simprocAttr, b1, b2, b3, b4, xi0, frz, AV.ids, idsL]
  ·obtain rfl : l.length = s := by omega
   repeat' (first|refine nav ?_|(refine g0_ ?_; refine goD ?_)|(with_reducible refine gG ?_ ?_)|((with_reducible refine And.intro (fun h => ?_) (fun h => ?_)) <;> try (exfalso; omega))|(with_reducible refine andG ?_)|fail|simp (disch := (first|exact za0|fail)) only [push_cast, simprocAttr, b1, b2, b3, b4, hRl, hml, et])
   exact ⟨hidF _, hidS _⟩
end Go.Proofs
namespace Go.Proofs
open Go Go.V Go.RowKit
set_option linter.unusedVariables false
set_option linter.unusedSimpArgs false
set_option maxHeartbeats 0
set_option maxRecDepth 100000
def addQ (o : List Nat) (t : Nat) : List Nat := if o.contains t = true then o else o ++ [t]
def zK0 (o l : List Nat) : List Nat := l.foldl addQ o
def rowQ (f : Nat → List Nat) (o : List Nat) (a : Nat) : List Nat := (List.range a).foldl (fun o a => zK0 o (f a)) o
def outQ (f : Nat → Nat → List Nat) (A : Nat) (S : List Nat) : Nat → List Nat
 | 0 => S
 | k + 1 => if k < (outQ f A S k).length then rowQ (f ((outQ f A S k).getD k 0)) (outQ f A S k) A else outQ f A S k
theorem xce9 (o l : List Nat) (k : Nat) (h : k < l.length) : zK0 o (l.take (k + 1)) = addQ (zK0 o (l.take k)) (l.getD k 0) := by
 rw [zK0, zg0 l 0 k h, List.foldl_append]; rfl
theorem qae9 (f : Nat → List Nat) (o : List Nat) (a : Nat) : rowQ f o (a + 1) = zK0 (rowQ f o a) (f a) := by
 rw [rowQ, List.range_succ, List.foldl_append]; rfl
structure kao9 (n : Nat) (P : Nat → Prop) (o : List Nat) : Prop where
 nd : o.Nodup
 lt : ∀ t ∈ o, t < n
 ok : ∀ t ∈ o, P t
theorem kcG9 {n : Nat} {P : Nat → Prop} {o : List Nat} {t : Nat} (h : kao9 n P o) (ht : t < n) (hp : P t) : kao9 n P (addQ o t) := by
 unfold addQ
 split
 ·exact h
 ·rename_i hc
  rw [List.contains_iff_mem] at hc
  refine ⟨?_, fun u hu => ?_, fun u hu => ?_⟩
  ·rw [List.nodup_append]
   exact ⟨h.nd, by simp, fun a ha b hb => by rw [List.mem_singleton.1 hb]; rintro rfl; exact hc ha⟩
  ·rcases List.mem_append.1 hu with q|q
   ·exact h.lt u q
   ·rw [List.mem_singleton.1 q]; exact ht
  ·rcases List.mem_append.1 hu with q|q
   ·exact h.ok u q
   ·rw [List.mem_singleton.1 q]; exact hp
theorem zdc9 (o : List Nat) (t : Nat) : ∃ r, addQ o t = o ++ r := by
 unfold addQ; split
 ·exact ⟨[], by simp⟩
 ·exact ⟨[t], rfl⟩
theorem xdc9 (o : List Nat) (t u : Nat) : u ∈ addQ o t ↔ u ∈ o ∨ u = t := by
 unfold addQ; split
 ·rename_i h
  rw [List.contains_iff_mem] at h
  exact ⟨.inl, fun q => q.elim id (fun q => q ▸ h)⟩
 ·rw [List.mem_append, List.mem_singleton]
theorem wbo9 (o : List Nat) : ∀ l : List Nat, ∃ r, zK0 o l = o ++ r := by
 intro l
 induction l generalizing o with
 | nil => exact ⟨[], by simp [zK0]⟩
 | cons t l ih =>
  obtain ⟨r1, h1⟩ := zdc9 o t
  obtain ⟨r2, h2⟩ := ih (addQ o t)
  exact ⟨r1 ++ r2, by show zK0 (addQ o t) l = _; rw [h2, h1, List.append_assoc]⟩
theorem qcH9 (o : List Nat) (u : Nat) : ∀ l : List Nat, u ∈ zK0 o l ↔ u ∈ o ∨ u ∈ l := by
 intro l
 induction l generalizing o with
 | nil => simp [zK0]
 | cons t l ih =>
  show u ∈ zK0 (addQ o t) l ↔ _
  rw [ih, xdc9, List.mem_cons, or_assoc]
theorem qak9 {n : Nat} {P : Nat → Prop} : ∀ {l o : List Nat}, kao9 n P o → (∀ t ∈ l, t < n ∧ P t) → kao9 n P (zK0 o l)
 | [], o, h, _ => h
 | t :: l, o, h, hl => qak9 (l := l) (kcG9 h (hl t List.mem_cons_self).1 (hl t List.mem_cons_self).2) fun u hu => hl u (List.mem_cons_of_mem _ hu)
theorem zba9 (f : Nat → List Nat) (o : List Nat) : ∀ a, ∃ r, rowQ f o a = o ++ r
 | 0 => ⟨[], by simp [rowQ]⟩
 | a + 1 => by
  obtain ⟨r1, h1⟩ := zba9 f o a
  obtain ⟨r2, h2⟩ := wbo9 (rowQ f o a) (f a)
  exact ⟨r1 ++ r2, by rw [qae9, h2, h1, List.append_assoc]⟩
theorem xbO9 (f : Nat → List Nat) (o : List Nat) (u : Nat) : ∀ a, u ∈ rowQ f o a ↔ u ∈ o ∨ ∃ b, b < a ∧ u ∈ f b
 | 0 => by simp [rowQ]
 | a + 1 => by
  rw [qae9, qcH9, xbO9 f o u a]
  constructor
  ·rintro ((h|⟨b, hb, h⟩)|h)
   ·exact .inl h
   ·exact .inr ⟨b, by omega, h⟩
   ·exact .inr ⟨a, by omega, h⟩
  ·rintro (h|⟨b, hb, h⟩)
   ·exact .inl (.inl h)
   ·by_cases hba : b = a
    ·subst hba; exact .inr h
    ·exact .inl (.inr ⟨b, by omega, h⟩)
theorem kaE9 {n : Nat} {P : Nat → Prop} {f : Nat → List Nat} {o : List Nat} (h : kao9 n P o) : ∀ a, (∀ b, b < a → ∀ t ∈ f b, t < n ∧ P t) → kao9 n P (rowQ f o a)
 | 0, _ => h
 | a + 1, hf => by
  rw [qae9]
  exact qak9 (kaE9 h a fun b hb => hf b (by omega)) (hf a (by omega))
section
variable {f : Nat → Nat → List Nat} {A n : Nat} {S : List Nat} {P : Nat → Prop}
theorem xba9 (k : Nat) : ∃ r, outQ f A S (k + 1) = outQ f A S k ++ r := by
 rw [outQ]; split
 ·exact zba9 _ _ A
 ·exact ⟨[], by simp⟩
theorem xN0 (h : kao9 n P S) (hf : ∀ s, s < n → P s → ∀ a, a < A → ∀ t ∈ f s a, t < n ∧ P t) : ∀ k, kao9 n P (outQ f A S k)
 | 0 => h
 | k + 1 => by
  have ih := xN0 h hf k
  rw [outQ]; split
  ·rename_i hk
   have hm := qd0 (d := 0) hk
   exact kaE9 ih A fun b hb => hf _ (ih.lt _ hm) (ih.ok _ hm) b hb
  ·exact ih
theorem was9 (h : kao9 n P S) (hf : ∀ s, s < n → P s → ∀ a, a < A → ∀ t ∈ f s a, t < n ∧ P t) (k : Nat) : (outQ f A S k).length ≤ n :=
 vA0 n _ (xN0 h hf k).nd (xN0 h hf k).lt
theorem vbo9 {k : Nat} (hk : (outQ f A S k).length ≤ k) : ∀ j, outQ f A S (k + j) = outQ f A S k
 | 0 => rfl
 | j + 1 => by
  have ih := vbo9 hk j
  rw [← Nat.add_assoc, outQ, ih, if_neg (by omega)]
theorem wbO9 {k m : Nat} (hk : (outQ f A S k).length ≤ k) (hm : k ≤ m) : outQ f A S m = outQ f A S k := by
 obtain ⟨j, rfl⟩ : ∃ j, m = k + j := ⟨m - k, by omega⟩
 exact vbo9 hk j
theorem kdB9 {k j : Nat} (h : j < (outQ f A S k).length) : (outQ f A S (k + 1)).getD j 0 = (outQ f A S k).getD j 0 := by
 obtain ⟨r, e⟩ := xba9 (f := f) (A := A) (S := S) k
 rw [e, List.getD_eq_getElem?_getD, List.getElem?_append_left h, ← List.getD_eq_getElem?_getD]
theorem wdc9 (k : Nat) : ∀ t ∈ S, t ∈ outQ f A S k := by
 induction k with
 | zero => exact fun t h => h
 | succ k ih =>
  obtain ⟨r, e⟩ := xba9 (f := f) (A := A) (S := S) k
  rw [e]; exact fun t h => List.mem_append_left _ (ih t h)
theorem qaF9 : ∀ k, ∀ j, j < k → j < (outQ f A S k).length → ∀ a, a < A → ∀ t ∈ f ((outQ f A S k).getD j 0) a, t ∈ outQ f A S k
 | 0, j, hj, _, _, _, _, _ => by omega
 | k + 1, j, hj, hl, a, ha, t, ht => by
  obtain ⟨r, e⟩ := xba9 (f := f) (A := A) (S := S) k
  by_cases hc : j < (outQ f A S k).length
  ·rw [kdB9 hc] at ht
   by_cases hjk : j < k
   ·rw [e]; exact List.mem_append_left _ (qaF9 k j hjk hc a ha t ht)
   ·obtain rfl : j = k := by omega
    rw [outQ, if_pos hc, xbO9]
    exact .inr ⟨a, ha, ht⟩
  ·exfalso
   by_cases hjk : k < (outQ f A S k).length
   ·omega
   ·rw [outQ, if_neg hjk] at hl; omega
end
end Go.Proofs
