import Derived.Test.YtcoakjnmnommpaaGreatDoorZ11
import Derived.Test.YtcoakjnmnommpaaGreatDoorZ10
namespace Go.Proofs
open Go Go.V Go.RowKit
set_option linter.unusedVariables false
set_option linter.unusedSimpArgs false
set_option maxHeartbeats 0
set_option maxRecDepth 100000
def kpK (H1 H2 : List Nat) (s : Nat) : List Nat := (List.range s).filter fun t => H1.contains t && H2.contains t
theorem vdc9 (H1 H2 : List Nat) (s : Nat) : kpK H1 H2 (s + 1) = if (H1.contains s && H2.contains s) = true then kpK H1 H2 s ++ [s] else kpK H1 H2 s := by
 rw [kpK, List.range_succ, List.filter_append, ← kpK]
 by_cases h : (H1.contains s && H2.contains s) = true
 ·rw [if_pos h]; congr 1; simp only [List.filter_cons, h, if_pos, List.filter_nil]
 ·rw [if_neg h]
  have h2 : (H1.contains s && H2.contains s) = false := by simpa using h
  simp only [List.filter_cons, h2, List.filter_nil]
  simp
theorem zdC9 (H1 H2 : List Nat) (s : Nat) : (kpK H1 H2 s).length ≤ s := by
 have := List.length_filter_le (fun t => H1.contains t && H2.contains t) (List.range s)
 rwa [List.length_range] at this
theorem qdT9 (H1 H2 : List Nat) (s : Nat) : ∀ t ∈ kpK H1 H2 s, t < s := fun t ht => List.mem_range.1 (List.mem_filter.1 ht).1
def tmR (l : List RC) (K : List Nat) (s a : Nat) : List LC := (List.range a).map fun a => (intN (wp0 (lstC l s a).1 (intN K) K.length), none)
def tmN (A : Nat) (l : List RC) (K : List Nat) (i : Nat) : List RC := (List.range i).map fun i => (tmR l K (K.getD i 0) A, none)
theorem kdc9 (l : List RC) (K : List Nat) (s a : Nat) : tmR l K s (a + 1) = tmR l K s a ++ [(intN (wp0 (lstC l s a).1 (intN K) K.length), none)] := by simp [tmR, List.range_succ]
theorem qdd9 (A : Nat) (l : List RC) (K : List Nat) (i : Nat) : tmN A l K (i + 1) = tmN A l K i ++ [(tmR l K (K.getD i 0) A, none)] := by simp [tmN, List.range_succ]
theorem xdC9 (l : List RC) (K : List Nat) (s a : Nat) : (tmR l K s a).length = a := by simp [tmR]
theorem zcH9 (A : Nat) (l : List RC) (K : List Nat) (i : Nat) : (tmN A l K i).length = i := by simp [tmN]
def kf0 (A : Nat) (l : List RC) (st ac : List Int) : List Nat := kpK (outQ (sucL l) A (natL st) l.length) (outQ (sucL (rvN A l l.length)) A (natL ac) l.length) l.length
theorem wbB9 (A : Nat) (l : List RC) {t : Nat} (ht : t < l.length) : (rowsV (rvN A l l.length)).getD t [] = (List.range A).map fun a => intN (revG l t a) := by
 simp [rowsV, rvN, rowV, rvR, ht, Function.comp_def]
theorem xcH9 {A : Nat} {l : List RC} {st ac : List Int} (h : OkNv A (rowsV l) st ac) : OkNv A (rowsV (rvN A l l.length)) ac st := by
 have hl : (rowsV (rvN A l l.length)).length = (rowsV l).length := by rw [qb0, qb0, zt0]
 have hl2 : (rowsV l).length = l.length := qb0 l
 refine ⟨h.a1, h.a2, by rw [hl]; exact h.n, by rw [hl]; exact h.ac, by rw [hl]; exact h.st, fun s hs => ?_, fun s a hs ha => ?_⟩
 ·rw [wbB9 A l (by omega)]; simp
 ·rw [wbB9 A l (by omega), hl, hl2]
  have : ((List.range A).map fun a => intN (revG l s a)).getD a [] = intN (revG l s a) := by simp [ha]
  rw [this]
  exact qj0 _ _
theorem vq0 {n : Nat} {S : List Nat} (h : FiltF n S) : S.Nodup := by
 obtain ⟨p, rfl⟩ := h
 exact List.Nodup.sublist List.filter_sublist List.nodup_range
theorem vbB9 {A : Nat} {l : List RC} {st ac : List Int} (h : OkNv A (rowsV l) st ac) {s a : Nat} (hs : s < l.length) (ha : a < A) : ∀ t ∈ sucL l s a, t < l.length := fun t ht => by
 obtain ⟨x, hx, rfl⟩ := List.mem_map.1 ht
 have := vc0 (h.lst hs ha) x hx
 omega
theorem wcH9 (A : Nat) (zr : Nat) (l : List RC) (c : Option Nat) (st : List Int) (cs : Option Nat) (ac : List Int) (ca : Option Nat) (hsz : SizeN zr l 1 st 1 ac) (hok : OkNv A (rowsV l) st ac) :
  PC Tryz.prog G0 12 [nA A zr l c 1 st cs 1 ac ca] (nA A 1 (tmN A l (kf0 A l st ac) (kf0 A l st ac).length) none 1 (intN (wp0 st (intN (kf0 A l st ac)) (kf0 A l st ac).length)) none 1 (intN (wp0 ac (intN (kf0 A l st ac)) (kf0 A l st ac).length)) none) := by
 have hn := hok.n
 rw [qb0] at hn
 have hA1 := hok.a1
 have hA2 := hok.a2
 have hRl := we0 l
 have hg := zm0 l
 have hrow := fun s hs => hok.row (l := l) (s := s) hs
 have hlst := fun s a hs ha => hok.lst (l := l) (s := s) (a := a) hs ha
 have hzl := hsz.zl
 have hF := kE0 hok
 have hNn : (nfOf (rowsV l) st ac).n = l.length := qb0 l
 rw [hNn] at hF
 have hst : intN (natL st) = st := ww0 fun x hx => (vc0 hok.st x hx).1
 have hac : intN (natL ac) = ac := ww0 fun x hx => (vc0 hok.ac x hx).1
 have hstl : st.length ≤ 256 := by have := xn0 hok.st; rw [qb0] at this; omega
 have hacl : ac.length ≤ 256 := by have := xn0 hok.ac; rw [qb0] at this; omega
 have hr1 := qaR9 A zr l c 1 st cs 1 ac ca hzl hok 1 (natL st) cs (.inr rfl) (vq0 hF.1) (fun t ht => hF.1.lt ht)
 rw [hst] at hr1
 have hrv := xan9 A zr l c 1 st cs 1 ac ca hsz hok
 have hr2 := qaR9 A 1 (rvN A l l.length) none 1 ac ca 1 st cs (.inr rfl) (xcH9 hok) 1 (natL ac) ca (.inr rfl) (vq0 hF.2) (fun t ht => by rw [zt0]; exact hF.2.lt ht)
 rw [hac, zt0] at hr2
 have hb1 : (outQ (sucL l) A (natL st) l.length).length ≤ 1000000 := by
  have := was9 (f := sucL l) (A := A) (n := l.length) (S := natL st) (P := fun _ => True) ⟨vq0 hF.1, fun t ht => hF.1.lt ht, fun _ _ => trivial⟩ (fun s hs _ a ha t ht => ⟨vbB9 hok hs ha t ht, trivial⟩) l.length
  omega
 have hb2 : (outQ (sucL (rvN A l l.length)) A (natL ac) l.length).length ≤ 1000000 := by
  have := was9 (f := sucL (rvN A l l.length)) (A := A) (n := l.length) (S := natL ac) (P := fun _ => True) ⟨vq0 hF.2, fun t ht => hF.2.lt ht, fun _ _ => trivial⟩ (fun s hs _ a ha t ht => ⟨by have := vbB9 (xcH9 hok) (by rw [zt0]; exact hs) ha t ht; rwa [zt0] at this, trivial⟩) l.length
  omega
 unfold kf0
 have hh1 := fun n => vby9 1 (intN (outQ (sucL l) A (natL st) l.length)) (capR (natL st)) n (.inr rfl) (by rw [zb0]; omega)
 have hh2 := fun n => vby9 1 (intN (outQ (sucL (rvN A l l.length)) A (natL ac) l.length)) (capR (natL ac)) n (.inr rfl) (by rw [zb0]; omega)
 have hc1 := vas9 (outQ (sucL l) A (natL st) l.length)
 have hc2 := vas9 (outQ (sucL (rvN A l l.length)) A (natL ac) l.length)
 have hid7 : ∀ p, idsE p (ints (intN (outQ (sucL l) A (natL st) l.length))) = true := fun p => va0 _ _
 have hid8 : ∀ p, idsE p (ints (intN (outQ (sucL (rvN A l l.length)) A (natL ac) l.length))) = true := fun p => va0 _ _
 generalize capR (natL st) = c1 at *
 generalize capR (natL ac) = c2 at *
 generalize outQ (sucL l) A (natL st) l.length = H1 at *
 generalize outQ (sucL (rvN A l l.length)) A (natL ac) l.length = H2 at *
 have hks := fun s => vdc9 H1 H2 s
 have hkl := fun s => zdC9 H1 H2 s
 have hklt := qdT9 H1 H2 l.length
 have hk1 := fun K (hK : K.length ≤ 256) => wcG9 1 st cs 1 (intN K) none (.inr rfl) (.inr rfl) (by omega) (by rw [zb0]; omega)
 have hk2 := fun K (hK : K.length ≤ 256) => wcG9 1 ac ca 1 (intN K) none (.inr rfl) (.inr rfl) (by omega) (by rw [zb0]; omega)
 have hidX : ∀ p, idsE p (xc0 l) = true := fun p => wc0 _ _
 have hidS : ∀ p, idsE p (ints st) = true := fun p => va0 _ _
 have hidF : ∀ p, idsE p (ints ac) = true := fun p => va0 _ _
 have hidV : ∀ p, idsE p (xc0 (rvN A l l.length)) = true := fun p => wc0 _ _
 unfold nA at *
 generalize hRN : xc0 l = RN at *
 generalize xc0 (rvN A l l.length) = RV at *
 generalize hSS : ints st = SS at *
 generalize hSF : ints ac = SF at *
 generalize ints (intN H1) = I1 at *
 generalize ints (intN H2) = I2 at *
 generalize hKd : kpK H1 H2 = KK at *
 have hm11 : IntKind.i64.wrap (1 * 1) = 1 := rfl
 have hm10 : IntKind.i64.wrap (1 * 0) = 0 := rfl
 have hm01 : IntKind.i64.wrap (0 * 1) = 0 := rfl
 have hm00 : IntKind.i64.wrap (0 * 0) = 0 := rfl
 refine vd0 1 85 [.cell 2 29] Tryz.func12 rfl rfl rfl (by simp) ?_
 intro s ⟨a0, hz⟩
 clear hz
 repeat' (first|(first|refine nav ?_|(refine g0_ ?_; first|refine wa0 (dr := allQ) (p := [0, 1, 1, 1, 1]) [] [] [(11, 12)] rfl rfl mixed (by kernel_rfl) ?_|refine goD ?_))|(with_reducible refine gG ?_ ?_)|((with_reducible refine And.intro (fun h => ?_) (fun h => ?_)) <;> try (exfalso; omega))|(with_reducible refine andG ?_)|(first|(refine ⟨_, _, qa0 (hr1) (by (simp [idsL, idsE, AV.ids, hidX, hidS, hidF, hidV, hid7, hid8])) _, ?_⟩)|(refine ⟨_, qa0 (hr1) (by (simp [idsL, idsE, AV.ids, hidX, hidS, hidF, hidV, hid7, hid8])) _, ?_⟩)|(refine ⟨_, fun _ => qa0 (hr1) (by (simp [idsL, idsE, AV.ids, hidX, hidS, hidF, hidV, hid7, hid8])) _, ?_⟩)|(refine ⟨_, _, qa0 (hrv) (by (simp [idsL, idsE, AV.ids, hidX, hidS, hidF, hidV, hid7, hid8])) _, ?_⟩)|(refine ⟨_, qa0 (hrv) (by (simp [idsL, idsE, AV.ids, hidX, hidS, hidF, hidV, hid7, hid8])) _, ?_⟩)|(refine ⟨_, fun _ => qa0 (hrv) (by (simp [idsL, idsE, AV.ids, hidX, hidS, hidF, hidV, hid7, hid8])) _, ?_⟩)|(refine ⟨_, _, qa0 (hr2) (by (simp [idsL, idsE, AV.ids, hidX, hidS, hidF, hidV, hid7, hid8])) _, ?_⟩)|(refine ⟨_, qa0 (hr2) (by (simp [idsL, idsE, AV.ids, hidX, hidS, hidF, hidV, hid7, hid8])) _, ?_⟩)|(refine ⟨_, fun _ => qa0 (hr2) (by (simp [idsL, idsE, AV.ids, hidX, hidS, hidF, hidV, hid7, hid8])) _, ?_⟩))|simp (disch := (first|exact za0|fail)) only [push_cast, simprocAttr, a0, hRl])
 refine go_loop rfl (fun mz s' H' => ∃ s : Nat, s ≤ l.length ∧ mz = l.length - s ∧ H' = [.row 4 29 [[.int .i64 A, .sl zr RN c, .sl 1 SS cs, .sl 1 SF ca]], .row 4 29 [[.int .i64 0, .sl 0 [] (some 0), .sl 0 [] (some 0), .sl 0 [] (some 0)]], .row 1 3 (ints (intN (KK s)))] ∧ s' 1 = .ptr 0 0 0 1 ∧ s' 2 = .ptr 1 0 0 1 ∧ s' 3 = .sl 1 I1 c1 ∧ s' 4 = .sl 1 I2 c2 ∧ s' 5 = .own 2 (KK s).length (KK s).length none ∧ s' 6 = .int .i64 s) (m := l.length) (by first|exact xb0|fail) (zp0 (t := 5) (sz := 1) (ty := 3) rfl) ⟨0, by omega, by omega, by rw [← hKd]; simp [kpK, intN, vn0], ?_⟩ ?_
 ·rw [← hKd]
  simp (disch := (first|exact za0|fail)) only [push_cast, simprocAttr, a0, hRl]
  rfl
 ·rintro mz s' H' ⟨s, hs, rfl, rfl, b1, b2, b3, b4, b5, b6⟩
  have hkls := hkl s
  have hml : (ints (intN (KK s))).length = (KK s).length := by rw [ka0, zb0]
  have et : (ints (intN (KK s))).take (KK s).length = ints (intN (KK s)) := List.take_of_length_le (by omega)
  have ed : (ints (intN (KK s))).drop ((KK s).length + 1) = [] := List.drop_eq_nil_of_le (by omega)
  have hidk : ∀ p, idsE p (ints (intN (KK s))) = true := fun p => va0 _ _
  rcases Nat.lt_or_ge s l.length with hlt|hge
  ·have hsu := hks s
   have hh1 := hh1 s
   have hh2 := hh2 s
   rw [hc1] at hh1
   rw [hc2] at hh2
   have hsn := xm0 (intN (KK s)) (s : Int)
   rw [← zn0] at hsn
   cases q1 : H1.contains s with
   | true =>
    rw [q1, if_pos rfl] at hh1
    cases q2 : H2.contains s with
    | true =>
     rw [q2, if_pos rfl] at hh2
     simp only [q1, q2, Bool.and_self, if_true] at hsu
     repeat' (first|(first|refine nav ?_|(refine g0_ ?_; first|refine wa0 (dr := allQ) (p := [0, 1, 1, 1, 1]) [] [] [(11, 12)] rfl rfl mixed (by kernel_rfl) ?_|refine goD ?_))|(with_reducible refine gG ?_ ?_)|((with_reducible refine And.intro (fun h => ?_) (fun h => ?_)) <;> try (exfalso; omega))|(with_reducible refine andG ?_)|(first|(refine ⟨_, _, qa0 (hh1) (by (simp [idsL, idsE, AV.ids, hidX, hidS, hidF, hid7, hid8, hidk])) _, ?_⟩)|(refine ⟨_, qa0 (hh1) (by (simp [idsL, idsE, AV.ids, hidX, hidS, hidF, hid7, hid8, hidk])) _, ?_⟩)|(refine ⟨_, fun _ => qa0 (hh1) (by (simp [idsL, idsE, AV.ids, hidX, hidS, hidF, hid7, hid8, hidk])) _, ?_⟩)|(refine ⟨_, _, qa0 (hh2) (by (simp [idsL, idsE, AV.ids, hidX, hidS, hidF, hid7, hid8, hidk])) _, ?_⟩)|(refine ⟨_, qa0 (hh2) (by (simp [idsL, idsE, AV.ids, hidX, hidS, hidF, hid7, hid8, hidk])) _, ?_⟩)|(refine ⟨_, fun _ => qa0 (hh2) (by (simp [idsL, idsE, AV.ids, hidX, hidS, hidF, hid7, hid8, hidk])) _, ?_⟩))|simp (disch := (first|exact za0|fail)) only [push_cast, simprocAttr, b1, b2, b3, b4, b5, b6, hRl, hm11, hml, et, ed])
     refine xa0 (l.length - (s + 1)) (by omega) (by first|exact xb0|fail) ⟨s + 1, by omega, rfl, by rw [hsu, ← hsn], ?_⟩
     rw [hsu]
     simp (disch := (first|exact za0|fail)) only [push_cast, simprocAttr, b1, b2, b3, b4, b5, b6, hRl, hm11, hml, et, ed]
    | false =>
     rw [q2, if_neg (by decide)] at hh2
     simp only [q1, q2, Bool.and_false, Bool.false_eq_true, if_false] at hsu
     repeat' (first|(first|refine nav ?_|(refine g0_ ?_; first|refine wa0 (dr := allQ) (p := [0, 1, 1, 1, 1]) [] [] [(11, 12)] rfl rfl mixed (by kernel_rfl) ?_|refine goD ?_))|(with_reducible refine gG ?_ ?_)|((with_reducible refine And.intro (fun h => ?_) (fun h => ?_)) <;> try (exfalso; omega))|(with_reducible refine andG ?_)|(first|(refine ⟨_, _, qa0 (hh1) (by (simp [idsL, idsE, AV.ids, hidX, hidS, hidF, hid7, hid8, hidk])) _, ?_⟩)|(refine ⟨_, qa0 (hh1) (by (simp [idsL, idsE, AV.ids, hidX, hidS, hidF, hid7, hid8, hidk])) _, ?_⟩)|(refine ⟨_, fun _ => qa0 (hh1) (by (simp [idsL, idsE, AV.ids, hidX, hidS, hidF, hid7, hid8, hidk])) _, ?_⟩)|(refine ⟨_, _, qa0 (hh2) (by (simp [idsL, idsE, AV.ids, hidX, hidS, hidF, hid7, hid8, hidk])) _, ?_⟩)|(refine ⟨_, qa0 (hh2) (by (simp [idsL, idsE, AV.ids, hidX, hidS, hidF, hid7, hid8, hidk])) _, ?_⟩)|(refine ⟨_, fun _ => qa0 (hh2) (by (simp [idsL, idsE, AV.ids, hidX, hidS, hidF, hid7, hid8, hidk])) _, ?_⟩))|simp (disch := (first|exact za0|fail)) only [push_cast, simprocAttr, b1, b2, b3, b4, b5, b6, hRl, hm10, hml, et, ed])
     refine xa0 (l.length - (s + 1)) (by omega) (by first|exact xb0|fail) ⟨s + 1, by omega, rfl, by rw [hsu], ?_⟩
     rw [hsu]
     simp (disch := (first|exact za0|fail)) only [push_cast, simprocAttr, b1, b2, b3, b4, b5, b6, hRl, hm10, hml, et, ed]
   | false =>
    rw [q1, if_neg (by decide)] at hh1
    simp only [q1, Bool.false_and, Bool.false_eq_true, if_false] at hsu
    cases q2 : H2.contains s with
    | true =>
     rw [q2, if_pos rfl] at hh2
     repeat' (first|(first|refine nav ?_|(refine g0_ ?_; first|refine wa0 (dr := allQ) (p := [0, 1, 1, 1, 1]) [] [] [(11, 12)] rfl rfl mixed (by kernel_rfl) ?_|refine goD ?_))|(with_reducible refine gG ?_ ?_)|((with_reducible refine And.intro (fun h => ?_) (fun h => ?_)) <;> try (exfalso; omega))|(with_reducible refine andG ?_)|(first|(refine ⟨_, _, qa0 (hh1) (by (simp [idsL, idsE, AV.ids, hidX, hidS, hidF, hid7, hid8, hidk])) _, ?_⟩)|(refine ⟨_, qa0 (hh1) (by (simp [idsL, idsE, AV.ids, hidX, hidS, hidF, hid7, hid8, hidk])) _, ?_⟩)|(refine ⟨_, fun _ => qa0 (hh1) (by (simp [idsL, idsE, AV.ids, hidX, hidS, hidF, hid7, hid8, hidk])) _, ?_⟩)|(refine ⟨_, _, qa0 (hh2) (by (simp [idsL, idsE, AV.ids, hidX, hidS, hidF, hid7, hid8, hidk])) _, ?_⟩)|(refine ⟨_, qa0 (hh2) (by (simp [idsL, idsE, AV.ids, hidX, hidS, hidF, hid7, hid8, hidk])) _, ?_⟩)|(refine ⟨_, fun _ => qa0 (hh2) (by (simp [idsL, idsE, AV.ids, hidX, hidS, hidF, hid7, hid8, hidk])) _, ?_⟩))|simp (disch := (first|exact za0|fail)) only [push_cast, simprocAttr, b1, b2, b3, b4, b5, b6, hRl, hm01, hml, et, ed])
     refine xa0 (l.length - (s + 1)) (by omega) (by first|exact xb0|fail) ⟨s + 1, by omega, rfl, by rw [hsu], ?_⟩
     rw [hsu]
     simp (disch := (first|exact za0|fail)) only [push_cast, simprocAttr, b1, b2, b3, b4, b5, b6, hRl, hm01, hml, et, ed]
    | false =>
     rw [q2, if_neg (by decide)] at hh2
     repeat' (first|(first|refine nav ?_|(refine g0_ ?_; first|refine wa0 (dr := allQ) (p := [0, 1, 1, 1, 1]) [] [] [(11, 12)] rfl rfl mixed (by kernel_rfl) ?_|refine goD ?_))|(with_reducible refine gG ?_ ?_)|((with_reducible refine And.intro (fun h => ?_) (fun h => ?_)) <;> try (exfalso; omega))|(with_reducible refine andG ?_)|(first|(refine ⟨_, _, qa0 (hh1) (by (simp [idsL, idsE, AV.ids, hidX, hidS, hidF, hid7, hid8, hidk])) _, ?_⟩)|(refine ⟨_, qa0 (hh1) (by (simp [idsL, idsE, AV.ids, hidX, hidS, hidF, hid7, hid8, hidk])) _, ?_⟩)|(refine ⟨_, fun _ => qa0 (hh1) (by (simp [idsL, idsE, AV.ids, hidX, hidS, hidF, hid7, hid8, hidk])) _, ?_⟩)|(refine ⟨_, _, qa0 (hh2) (by (simp [idsL, idsE, AV.ids, hidX, hidS, hidF, hid7, hid8, hidk])) _, ?_⟩)|(refine ⟨_, qa0 (hh2) (by (simp [idsL, idsE, AV.ids, hidX, hidS, hidF, hid7, hid8, hidk])) _, ?_⟩)|(refine ⟨_, fun _ => qa0 (hh2) (by (simp [idsL, idsE, AV.ids, hidX, hidS, hidF, hid7, hid8, hidk])) _, ?_⟩))|simp (disch := (first|exact za0|fail)) only [push_cast, simprocAttr, b1, b2, b3, b4, b5, b6, hRl, hm00, hml, et, ed])
     refine xa0 (l.length - (s + 1)) (by omega) (by first|exact xb0|fail) ⟨s + 1, by omega, rfl, by rw [hsu], ?_⟩
     rw [hsu]
     simp (disch := (first|exact za0|fail)) only [push_cast, simprocAttr, b1, b2, b3, b4, b5, b6, hRl, hm00, hml, et, ed]
  ·obtain rfl : l.length = s := by omega
   have hKl : (KK l.length).length ≤ 256 := by omega
   have hk1 := hk1 _ hKl
   have hk2 := hk2 _ hKl
   rw [zb0] at hk1 hk2
   generalize hKK : KK l.length = K at *
   refine xE0 (by trivial) ((xA0 (j := 2) (sz := 1) (t := 3) (es := ints (intN K)) rfl).trans (vF0 (m := 2) (by omega) (by simp [frzH]) (by simp [frzH, frzB, frz, Blk.below, idsE, idsL, AV.ids, qk0, qf0, hidX, hidS, hidF, hidk]))) ?_
   have hfz : (frzH 2 1 (ints (intN K)) [.row 4 29 [[.int .i64 A, .sl zr RN c, .sl 1 SS cs, .sl 1 SF ca]], .row 4 29 [[.int .i64 0, .sl 0 [] (some 0), .sl 0 [] (some 0), .sl 0 [] (some 0)]], .row 1 3 (ints (intN K))]).take 2 = [.row 4 29 [[.int .i64 A, .sl zr RN c, .sl 1 SS cs, .sl 1 SF ca]], .row 4 29 [[.int .i64 0, .sl 0 [] (some 0), .sl 0 [] (some 0), .sl 0 [] (some 0)]]] := by
    simp [frzH, frzB, frz, qk0, hidX, hidS, hidF]
   rw [hfz]
   have hKn : ∀ t ∈ K, t < l.length := hklt
   have hIl : (ints (intN K)).length = K.length := hml
   have hgK := kc0 (intN K)
   have hgn := qv0 K
   have hkk := fun xs cx (hx : xs.length ≤ 1000000) => wcG9 1 xs cx 1 (intN K) none (.inr rfl) (.inr rfl) hx (by rw [zb0]; omega)
   rw [zb0] at hgK
   simp only [zb0] at hkk
   generalize hKS : ints (intN (wp0 st (intN K) K.length)) = KS at *
   generalize hKF : ints (intN (wp0 ac (intN K) K.length)) = KF at *
   have hid9 : ∀ p, idsE p KS = true := fun p => by rw [← hKS]; exact va0 _ _
   have hid10 : ∀ p, idsE p KF = true := fun p => by rw [← hKF]; exact va0 _ _
   generalize hIK : ints (intN K) = IK at *
   repeat' (first|(first|refine nav ?_|(refine g0_ ?_; first|refine wa0 (dr := allQ) (p := [0, 1, 1, 1, 1]) [] [] [(11, 12)] rfl rfl mixed (by kernel_rfl) ?_|refine goD ?_))|(with_reducible refine gG ?_ ?_)|((with_reducible refine And.intro (fun h => ?_) (fun h => ?_)) <;> try (exfalso; omega))|(with_reducible refine andG ?_)|(first|(refine ⟨_, _, qa0 (hk1) (by (simp [idsL, idsE, AV.ids, hidX, hidS, hidF, hidk, hid9, hid10])) _, ?_⟩)|(refine ⟨_, qa0 (hk1) (by (simp [idsL, idsE, AV.ids, hidX, hidS, hidF, hidk, hid9, hid10])) _, ?_⟩)|(refine ⟨_, fun _ => qa0 (hk1) (by (simp [idsL, idsE, AV.ids, hidX, hidS, hidF, hidk, hid9, hid10])) _, ?_⟩)|(refine ⟨_, _, qa0 (hk2) (by (simp [idsL, idsE, AV.ids, hidX, hidS, hidF, hidk, hid9, hid10])) _, ?_⟩)|(refine ⟨_, qa0 (hk2) (by (simp [idsL, idsE, AV.ids, hidX, hidS, hidF, hidk, hid9, hid10])) _, ?_⟩)|(refine ⟨_, fun _ => qa0 (hk2) (by (simp [idsL, idsE, AV.ids, hidX, hidS, hidF, hidk, hid9, hid10])) _, ?_⟩))|simp (disch := (first|exact za0|fail)) only [push_cast, simprocAttr, b1, b2, b3, b4, b5, b6, hRl, xi0, frz, AV.ids, idsL, hidk, hid7, hid8, et, hIl])
   refine go_loop rfl (fun mz s' H' => ∃ i : Nat, i ≤ K.length ∧ mz = K.length - i ∧ H' = [.row 4 29 [[.int .i64 A, .sl zr RN c, .sl 1 SS cs, .sl 1 SF ca]], .row 4 29 [[.int .i64 0, .sl 0 [] (some 0), .sl 0 [] (some 0), .sl 0 [] (some 0)]], .row 4 29 [[.int .i64 A, .own 3 i i none, .sl 1 KS none, .sl 1 KF none]], .row 1 44 (xc0 (tmN A l K i))] ∧ s' 1 = .ptr 0 0 0 1 ∧ s' 2 = .ptr 1 0 0 1 ∧ s' 5 = .sl 1 IK none ∧ s' 7 = .ptr 2 0 0 1 ∧ s' 8 = .int .i64 i) (m := K.length) (by first|exact xb0|fail) (vi0 (b := 2) (i := 0) (j := 1) (sz := 1) (ty := 44) rfl rfl rfl) ⟨0, by omega, by omega, by simp [tmN, waC9], ?_⟩ ?_
   ·simp (disch := (first|exact za0|fail)) only [push_cast, simprocAttr, b1, b2, b3, b4, b5, b6, hRl, xi0, frz, AV.ids, idsL, hidk, hid7, hid8, et, hIl]
   ·clear b1 b2 b3 b4 b5 b6
    rintro mz s' H' ⟨i, hi, rfl, rfl, b1, b2, b5, b7, b8⟩
    have hml1 : (xc0 (tmN A l K i)).length = i := by rw [we0, zcH9]
    have et1 : (xc0 (tmN A l K i)).take i = xc0 (tmN A l K i) := List.take_of_length_le (by omega)
    have ed1 : (xc0 (tmN A l K i)).drop (i + 1) = [] := List.drop_eq_nil_of_le (by omega)
    have hidR : ∀ p, idsE p (xc0 (tmN A l K i)) = true := fun p => wc0 _ _
    rcases Nat.lt_or_ge i K.length with hlt|hge
    ·have hsn := vai9 (tmN A l K i) (tmR l K (K.getD i 0) A, none)
     rw [← qdd9] at hsn
     have hsl := hKn _ (qd0 (d := 0) hlt)
     obtain rfl := hzl.resolve_left (by intro h; rw [h] at hsl; simp at hsl)
     have eK := hgK i hlt
     rw [hgn i hlt] at eK
     generalize K.getD i 0 = s at *
     have e1 := hg s hsl
     have hrs := hrow s hsl
     have hls := fun a => hlst s a hsl
     have hlc : ∀ a, (l.getD s ([], none)).1.getD a ([], none) = lstC l s a := fun a => rfl
     have hgr := zh0 (l.getD s ([], none)).1
     have hrl := zc0 (l.getD s ([], none)).1
     unfold rC at e1
     generalize (l.getD s ([], none)).2 = cr at *
     generalize (l.getD s ([], none)).1 = r at *
     repeat' (first|(first|refine nav ?_|(refine g0_ ?_; first|refine wa0 (dr := allQ) (p := [0, 1, 1, 1, 1]) [] [] [(11, 12)] rfl rfl mixed (by kernel_rfl) ?_|refine goD ?_))|(with_reducible refine gG ?_ ?_)|((with_reducible refine And.intro (fun h => ?_) (fun h => ?_)) <;> try (exfalso; omega))|(with_reducible refine andG ?_)|fail|simp (disch := (first|exact za0|fail)) only [push_cast, simprocAttr, b1, b2, b5, b7, b8, hIl])
     refine go_loop rfl (fun mz s' H' => ∃ a : Nat, a ≤ A ∧ mz = A - a ∧ H' = [.row 4 29 [[.int .i64 A, .sl 1 RN c, .sl 1 SS cs, .sl 1 SF ca]], .row 4 29 [[.int .i64 0, .sl 0 [] (some 0), .sl 0 [] (some 0), .sl 0 [] (some 0)]], .row 4 29 [[.int .i64 A, .own 3 i i none, .sl 1 KS none, .sl 1 KF none]], .row 1 44 (xc0 (tmN A l K i)), .row 1 27 (rowL (tmR l K s a))] ∧ s' 1 = .ptr 0 0 0 1 ∧ s' 2 = .ptr 1 0 0 1 ∧ s' 5 = .sl 1 IK none ∧ s' 7 = .ptr 2 0 0 1 ∧ s' 8 = .int .i64 i ∧ s' 9 = .own 4 a a none ∧ s' 10 = .int .i64 a) (m := A) (by first|exact xb0|fail) (zp0 (t := 9) (sz := 1) (ty := 27) rfl) ⟨0, by omega, by omega, by simp [tmR, xaY9], ?_⟩ ?_
     ·simp (disch := (first|exact za0|fail)) only [push_cast, simprocAttr, b1, b2, b5, b7, b8, hIl]
     ·clear b1 b2 b5 b7 b8
      rintro mz s' H' ⟨a, ha, rfl, rfl, b1, b2, b5, b7, b8, b9, b10⟩
      have hml2 : (rowL (tmR l K s a)).length = a := by rw [zc0, xdC9]
      have et2 : (rowL (tmR l K s a)).take a = rowL (tmR l K s a) := List.take_of_length_le (by omega)
      have ed2 : (rowL (tmR l K s a)).drop (a + 1) = [] := List.drop_eq_nil_of_le (by omega)
      have hidL : ∀ p, idsE p (rowL (tmR l K s a)) = true := fun p => vf0 _ _
      rcases Nat.lt_or_ge a A with hla|hga
      ·have hsn2 := xac9 (tmR l K s a) (intN (wp0 (lstC l s a).1 (intN K) K.length), none)
       rw [← kdc9] at hsn2
       have e2 := hgr a (by omega)
       rw [hlc a] at e2
       unfold lC at e2 hsn2
       have hkc := hkk (lstC l s a).1 (lstC l s a).2 (by have := xn0 (hls a hla); omega)
       repeat' (first|(first|refine nav ?_|(refine g0_ ?_; first|refine wa0 (dr := allQ) (p := [0, 1, 1, 1, 1]) [] [] [(11, 12)] rfl rfl mixed (by kernel_rfl) ?_|refine goD ?_))|(with_reducible refine gG ?_ ?_)|((with_reducible refine And.intro (fun h => ?_) (fun h => ?_)) <;> try (exfalso; omega))|(with_reducible refine andG ?_)|(first|(refine ⟨_, _, qa0 (hkc) (by (simp [idsL, idsE, AV.ids, hidX, hidS, hidF, hidk, hid9, hid10, hidR, hidL])) _, ?_⟩)|(refine ⟨_, qa0 (hkc) (by (simp [idsL, idsE, AV.ids, hidX, hidS, hidF, hidk, hid9, hid10, hidR, hidL])) _, ?_⟩)|(refine ⟨_, fun _ => qa0 (hkc) (by (simp [idsL, idsE, AV.ids, hidX, hidS, hidF, hidk, hid9, hid10, hidR, hidL])) _, ?_⟩))|simp (disch := (first|exact za0|fail)) only [push_cast, simprocAttr, b1, b2, b5, b7, b8, b9, b10, hRl, eK, e1, hrl, hrs, e2, hIl, hml2, et2, ed2])
       refine xa0 (A - (a + 1)) (by omega) (by first|exact xb0|fail) ⟨a + 1, by omega, rfl, by rw [← hsn2], ?_⟩
       simp (disch := (first|exact za0|fail)) only [push_cast, simprocAttr, b1, b2, b5, b7, b8, b9, b10, hRl, eK, e1, hrl, hrs, e2, hIl, hml2, et2, ed2]
      ·obtain rfl : A = a := by omega
       repeat' (first|(first|refine nav ?_|(refine g0_ ?_; first|refine wa0 (dr := allQ) (p := [0, 1, 1, 1, 1]) [] [] [(11, 12)] rfl rfl mixed (by kernel_rfl) ?_|refine goD ?_))|(with_reducible refine gG ?_ ?_)|((with_reducible refine And.intro (fun h => ?_) (fun h => ?_)) <;> try (exfalso; omega))|(with_reducible refine andG ?_)|fail|simp (disch := (first|exact za0|fail)) only [push_cast, simprocAttr, b1, b2, b5, b7, b8, b9, b10, hml1, et1, ed1, hml2, et2])
       refine ql0 (K.length - (i + 1)) 4 (j := 4) rfl (by omega) (by first|exact xb0|fail) (by omega) (by simp [frzH]) (by simp [frzH, frzB, frz, Blk.below, idsE, idsL, AV.ids, qk0, qf0, hidX, hidS, hidF, hidk, hid9, hid10, hidR, hidL, et2, hml2]) ⟨i + 1, by omega, rfl, ?_, ?_⟩
       ·rw [← hsn]
        simp [frzH, frzB, frz, qk0, hidX, hidS, hidF, hidk, hid9, hid10, hidR, hidL, et2, hml2, rC]
       ·simp (disch := (first|exact za0|fail)) only [push_cast, simprocAttr, b1, b2, b5, b7, b8, xi0, frz, AV.ids, idsL, hidk]
    ·obtain rfl : K.length = i := by omega
     repeat' (first|(first|refine nav ?_|(refine g0_ ?_; first|refine wa0 (dr := allQ) (p := [0, 1, 1, 1, 1]) [] [] [(11, 12)] rfl rfl mixed (by kernel_rfl) ?_|refine goD ?_))|(with_reducible refine gG ?_ ?_)|((with_reducible refine And.intro (fun h => ?_) (fun h => ?_)) <;> try (exfalso; omega))|(with_reducible refine andG ?_)|fail|simp (disch := (first|exact za0|fail)) only [push_cast, simprocAttr, b1, b2, b5, b7, b8, hIl, hml1, et1])
     exact ⟨hid9 _, hid10 _⟩
end Go.Proofs
