import Derived.Test.YtcoakjnmnommpaaGreatDoorA35
namespace Go.Proofs
open Go Go.V
set_option linter.unusedVariables false
set_option linter.unusedSimpArgs false
set_option maxHeartbeats 0
theorem xn0 {l : List Int} {n : Nat} (h : zf0 l n = true) : l.length ≤ n := by
 rw [← ww0 (fun x hx => (vc0 h x hx).1), zb0, qw0 h]
 have := List.length_filter_le (fun t : Nat => l.contains (t : Int)) (List.range n)
 rwa [List.length_range] at this
set_option maxRecDepth 100000 in
theorem zaE9 (A : Nat) (zr : Nat) (l : List RC) (c : Option Nat) (zs : Nat) (st : List Int) (cs : Option Nat) (za : Nat) (ac : List Int) (ca : Option Nat) (hsz : SizeN zr l zs st za ac) (hok : OkNv A (rowsV l) st ac) :
  PC Tryz.prog G0 8 [nA A zr l c zs st cs za ac ca] (.tup [nA A 1 (xh0 A l) (some l.length) 1 ac (some ac.length) 1 st (some st.length), .int .i64 0]) := by
 have hck := hsz.check (sym := A) (c := c) (cs := cs) (ca := ca)
 rw [xaB9 hok] at hck
 have hn := hok.n
 rw [qb0] at hn
 have hA1 := hok.a1
 have hA2 := hok.a2
 have hRl := we0 l
 have hidR : ∀ p, idsE p (xc0 l) = true := fun p => wc0 _ _
 have hidS : ∀ p, idsE p (ints st) = true := fun p => va0 _ _
 have hidA : ∀ p, idsE p (ints ac) = true := fun p => va0 _ _
 have hstl : st.length ≤ 256 := by
  have := xn0 hok.st; rw [qb0] at this; omega
 have hacl : ac.length ≤ 256 := by
  have := xn0 hok.ac; rw [qb0] at this; omega
 have hc1 := zcD9 za ac ca hsz.zac (by omega)
 have hc2 := zcD9 zs st cs hsz.zst (by omega)
 have hk1 := fun H => qaQ9 za ac H
 have hk2 := fun H => qaQ9 zs st H
 have hg := fun s h => zm0 l s h
 have hrow := fun s h => hok.row (l := l) (s := s) h
 have hlst := fun s a h1 h2 => hok.lst (l := l) (s := s) (a := a) h1 h2
 have hbl := fun B0 B1 => kdz9 A l.length hA2 hn B0 B1
 have hHO := fun B0 B1 J1 J2 OUT T => xda9 (G := revG l) (A := A) (n := l.length) (OUT := OUT) (B0 := B0) (B1 := B1) (J1 := J1) (J2 := J2) (T := T)
 rw [vdA9] at hHO
 have hR0 := vdR9 l
 have hcl59 := fun B0 B1 J1 J2 OUT s1 s2 h1 h2 h3 => zdR9 A l.length hA2 hn (revG l) (fun s a => Nat.le_trans (xas9 l s a) hn) B0 B1 J1 J2 OUT s1 s2 h1 h2 h3
 unfold nA at *
 have hzr := hsz.zl
 have hlen : l.length = (xc0 l).length := hRl.symm
 generalize hNN : l.length = n at *
 generalize hRN : xc0 l = RN at *
 generalize hIS : ints st = IS at *
 generalize hIA : ints ac = IA at *
 have hnl := rf_len 1 27 (fun _ => nils A) n
 have hgX : ∀ X, (wd0 1 27 (fun _ => nils A) n ++ [X])[n]? = some X := fun X => by rw [qbj9]; rfl
 have hsX : ∀ X Y, (wd0 1 27 (fun _ => nils A) n ++ [X]).set n Y = wd0 1 27 (fun _ => nils A) n ++ [Y] := fun X Y => by
  rw [List.set_append_right _ _ (by rw [rf_len]; exact Nat.le_refl _), rf_len, Nat.sub_self]; rfl
 refine vd0 3 78 [.cell 2 29, .tmp 3] Tryz.func8 rfl rfl rfl (by simp) ?_
 intro s ⟨a0, hz⟩
 clear hz
 repeat' (first|(first|refine nav ?_|(refine g0_ ?_; first|refine wa0 (dr := allQ) (p := [1, 0, 0, 1, 1, 0, 0, 1, 1, 0, 0, 1, 1, 0, 0, 1, 1, 0, 0, 1, 1, 0, 0, 1, 0, 1, 1, 1, 1]) [(55, 5), (56, 55), (58, 56), (59, 58)] [(71, some 68)] [] rfl rfl mixed (by kernel_rfl) ?_|refine goD ?_))|(with_reducible refine gG ?_ ?_)|((with_reducible refine And.intro (fun h => ?_) (fun h => ?_)) <;> try (exfalso; omega))|(with_reducible refine andG ?_)|(first|(refine ⟨_, _, qa0 (hck) (by (simp [idsL, idsE, AV.ids, hidR, hidS, hidA])) _, ?_⟩)|(refine ⟨_, qa0 (hck) (by (simp [idsL, idsE, AV.ids, hidR, hidS, hidA])) _, ?_⟩)|(refine ⟨_, fun _ => qa0 (hck) (by (simp [idsL, idsE, AV.ids, hidR, hidS, hidA])) _, ?_⟩)|(refine ⟨_, _, hbl _ _, ?_⟩)|(refine ⟨_, hbl _ _, ?_⟩)|(refine ⟨_, fun _ => hbl _ _, ?_⟩)|(refine ⟨_, _, qa0 (hc1) (by (simp [idsL, idsE, AV.ids, hidR, hidS, hidA])) _, ?_⟩)|(refine ⟨_, qa0 (hc1) (by (simp [idsL, idsE, AV.ids, hidR, hidS, hidA])) _, ?_⟩)|(refine ⟨_, fun _ => qa0 (hc1) (by (simp [idsL, idsE, AV.ids, hidR, hidS, hidA])) _, ?_⟩)|(refine ⟨_, _, qa0 (hc2) (by (simp [idsL, idsE, AV.ids, hidR, hidS, hidA])) _, ?_⟩)|(refine ⟨_, qa0 (hc2) (by (simp [idsL, idsE, AV.ids, hidR, hidS, hidA])) _, ?_⟩)|(refine ⟨_, fun _ => qa0 (hc2) (by (simp [idsL, idsE, AV.ids, hidR, hidS, hidA])) _, ?_⟩)|(refine ⟨_, _, hk1 _, ?_⟩)|(refine ⟨_, hk1 _, ?_⟩)|(refine ⟨_, fun _ => hk1 _, ?_⟩)|(refine ⟨_, _, hk2 _, ?_⟩)|(refine ⟨_, hk2 _, ?_⟩)|(refine ⟨_, fun _ => hk2 _, ?_⟩))|simp (disch := (first|exact za0|fail)) only [push_cast, simprocAttr, a0, hRl, hnl, hgX, hsX])
 refine go_loop rfl (fun mz s' H' => ∃ s : Nat, s ≤ n ∧ mz = n - s ∧ H' = (.row 4 29 [[.int .i64 A, .sl zr RN c, .sl zs IS cs, .sl za IA ca]] :: .row 4 29 [[.int .i64 0, .sl 0 [] (some 0), .sl 0 [] (some 0), .sl 0 [] (some 0)]] :: .row 4 29 [[.int .i64 A, .own 3 n n (some n), .sl 0 [] (some 0), .sl 0 [] (some 0)]] :: .row 1 44 (ownR 5 A (some A) n) :: .row 4 29 [[.int .i64 A, .own 3 n n (some n), .sl 0 [] (some 0), .sl 0 [] (some 0)]] :: LO (fun _ _ => none) (revP l s 0 0) A n (.row 4 29 [[.int .i64 A, .own 3 n n (some n), .sl 1 IA (some ac.length), .sl 1 IS (some st.length)]])) ∧ s' 1 = .ptr 0 0 0 1 ∧ s' 2 = .ptr 1 0 0 1 ∧ s' 5 = .ptr (n + 5) 0 0 1 ∧ s' 35 = .sl zr RN c ∧ s' 36 = .int .i64 n ∧ s' 37 = .int .i64 s) (m := n) (by first|exact xb0|fail) (zdA9 _ _ _ _ _ _ _ A n) ⟨0, by omega, by omega, by rw [hR0], ?_⟩ ?_
 ·simp (disch := (first|exact za0|fail)) only [push_cast, simprocAttr, a0, hRl, hnl, hgX, hsX]
 ·rintro mz s' H' ⟨s, hs, rfl, rfl, b1, b2, b5, b35, b36, b37⟩
  have hLl := fun G => zcE9 (K := fun _ _ => none) (G := G) (A := A) (n := n) (OUT := (.row 4 29 [[.int .i64 A, .own 3 n n (some n), .sl 1 IA (some ac.length), .sl 1 IS (some st.length)]]))
  have hLo := fun G => xdA9 (K := fun _ _ => none) (G := G) (A := A) (n := n) (OUT := (.row 4 29 [[.int .i64 A, .own 3 n n (some n), .sl 1 IA (some ac.length), .sl 1 IS (some st.length)]]))
  rcases Nat.lt_or_ge s n with hlt|hge
  ·obtain rfl := hzr.resolve_left (by intro h; rw [h] at hNN; simp at hNN; omega)
   have e1 := hg s (by omega)
   have hrl := hrow s (by omega)
   have hls := fun a => hlst s a (by omega)
   have hbi := hsz.bi s
   have hvk := fun a k t => kdR9 (n := (n : Int)) (l := l) (s := s) (a := a) (k := k) (t := t)
   have hva := fun a => qdS9 l s a
   have hvl := fun k t a a' => qda9 l s a k t a'
   have hvs : LO (fun _ _ => none) (revP l s A 0) A n (.row 4 29 [[.int .i64 A, .own 3 n n (some n), .sl 1 IA (some ac.length), .sl 1 IS (some st.length)]]) = LO (fun _ _ => none) (revP l (s + 1) 0 0) A n (.row 4 29 [[.int .i64 A, .own 3 n n (some n), .sl 1 IA (some ac.length), .sl 1 IS (some st.length)]]) := kcE9 fun t a _ ha => zdS9 l s A t a ha
   unfold lstC at hls hvk hva
   generalize hr : l.getD s ([], none) = r at *
   unfold rC at e1
   have hrl2 := zc0 r.1
   rw [hrl] at hrl2
   have e2 := fun a h => zh0 r.1 a h
   repeat' (first|(first|refine nav ?_|(refine g0_ ?_; first|refine wa0 (dr := allQ) (p := [1, 0, 0, 1, 1, 0, 0, 1, 1, 0, 0, 1, 1, 0, 0, 1, 1, 0, 0, 1, 1, 0, 0, 1, 0, 1, 1, 1, 1]) [(55, 5), (56, 55), (58, 56), (59, 58)] [(71, some 68)] [] rfl rfl mixed (by kernel_rfl) ?_|refine goD ?_))|(with_reducible refine gG ?_ ?_)|((with_reducible refine And.intro (fun h => ?_) (fun h => ?_)) <;> try (exfalso; omega))|(with_reducible refine andG ?_)|(first|(refine ⟨_, _, qa0 (hck) (by (simp [idsL, idsE, AV.ids, hidR, hidS, hidA])) _, ?_⟩)|(refine ⟨_, qa0 (hck) (by (simp [idsL, idsE, AV.ids, hidR, hidS, hidA])) _, ?_⟩)|(refine ⟨_, fun _ => qa0 (hck) (by (simp [idsL, idsE, AV.ids, hidR, hidS, hidA])) _, ?_⟩)|(refine ⟨_, _, hbl _ _, ?_⟩)|(refine ⟨_, hbl _ _, ?_⟩)|(refine ⟨_, fun _ => hbl _ _, ?_⟩)|(refine ⟨_, _, qa0 (hc1) (by (simp [idsL, idsE, AV.ids, hidR, hidS, hidA])) _, ?_⟩)|(refine ⟨_, qa0 (hc1) (by (simp [idsL, idsE, AV.ids, hidR, hidS, hidA])) _, ?_⟩)|(refine ⟨_, fun _ => qa0 (hc1) (by (simp [idsL, idsE, AV.ids, hidR, hidS, hidA])) _, ?_⟩)|(refine ⟨_, _, qa0 (hc2) (by (simp [idsL, idsE, AV.ids, hidR, hidS, hidA])) _, ?_⟩)|(refine ⟨_, qa0 (hc2) (by (simp [idsL, idsE, AV.ids, hidR, hidS, hidA])) _, ?_⟩)|(refine ⟨_, fun _ => qa0 (hc2) (by (simp [idsL, idsE, AV.ids, hidR, hidS, hidA])) _, ?_⟩)|(refine ⟨_, _, hk1 _, ?_⟩)|(refine ⟨_, hk1 _, ?_⟩)|(refine ⟨_, fun _ => hk1 _, ?_⟩)|(refine ⟨_, _, hk2 _, ?_⟩)|(refine ⟨_, hk2 _, ?_⟩)|(refine ⟨_, fun _ => hk2 _, ?_⟩))|simp (disch := (first|exact za0|fail)) only [push_cast, simprocAttr, b1, b2, b5, b35, b36, b37, e1, hRl, hrl2, hrl])
   refine go_loop rfl (fun mz s' H' => ∃ a : Nat, a ≤ A ∧ mz = A - a ∧ H' = (.row 4 29 [[.int .i64 A, .sl 1 RN c, .sl zs IS cs, .sl za IA ca]] :: .row 4 29 [[.int .i64 0, .sl 0 [] (some 0), .sl 0 [] (some 0), .sl 0 [] (some 0)]] :: .row 4 29 [[.int .i64 A, .own 3 n n (some n), .sl 0 [] (some 0), .sl 0 [] (some 0)]] :: .row 1 44 (ownR 5 A (some A) n) :: .row 4 29 [[.int .i64 A, .own 3 n n (some n), .sl 0 [] (some 0), .sl 0 [] (some 0)]] :: LO (fun _ _ => none) (revP l s a 0) A n (.row 4 29 [[.int .i64 A, .own 3 n n (some n), .sl 1 IA (some ac.length), .sl 1 IS (some st.length)]])) ∧ s' 1 = .ptr 0 0 0 1 ∧ s' 2 = .ptr 1 0 0 1 ∧ s' 5 = .ptr (n + 5) 0 0 1 ∧ s' 35 = .sl 1 RN c ∧ s' 36 = .int .i64 n ∧ s' 37 = .int .i64 s ∧ s' 6 = .int .i64 s ∧ s' 7 = .sl 1 (rowL r.1) r.2 ∧ s' 42 = .sl 1 (rowL r.1) r.2 ∧ s' 43 = .int .i64 A ∧ s' 44 = .int .i64 a) (m := A) (by first|exact xb0|fail) (Weak.refl _ _) ⟨0, by omega, by omega, rfl, ?_⟩ ?_
   ·simp (disch := (first|exact za0|fail)) only [push_cast, simprocAttr, b1, b2, b5, b35, b36, b37, e1, hRl, hrl2, hrl]
   ·clear b1 b2 b5 b35 b36 b37
    rintro mz s' H' ⟨a, ha, rfl, rfl, b1, b2, b5, b35, b36, b37, b6, b7, b42, b43, b44⟩
    rcases Nat.lt_or_ge a A with hla|hga
    ·have e3 := e2 a (by omega)
     have hri := hls a hla
     have hva := hva a
     have hvk := hvk a
     generalize r.1.getD a ([], none) = x at *
     unfold lC at e3
     have hxl := ka0 x.1
     have hxl2 : x.1.length ≤ 256 := by have := xn0 hri; omega
     have e4 := fun k h => kc0 x.1 k h
     repeat' (first|(first|refine nav ?_|(refine g0_ ?_; first|refine wa0 (dr := allQ) (p := [1, 0, 0, 1, 1, 0, 0, 1, 1, 0, 0, 1, 1, 0, 0, 1, 1, 0, 0, 1, 1, 0, 0, 1, 0, 1, 1, 1, 1]) [(55, 5), (56, 55), (58, 56), (59, 58)] [(71, some 68)] [] rfl rfl mixed (by kernel_rfl) ?_|refine goD ?_))|(with_reducible refine gG ?_ ?_)|((with_reducible refine And.intro (fun h => ?_) (fun h => ?_)) <;> try (exfalso; omega))|(with_reducible refine andG ?_)|(first|(refine ⟨_, _, qa0 (hck) (by (simp [idsL, idsE, AV.ids, hidR, hidS, hidA])) _, ?_⟩)|(refine ⟨_, qa0 (hck) (by (simp [idsL, idsE, AV.ids, hidR, hidS, hidA])) _, ?_⟩)|(refine ⟨_, fun _ => qa0 (hck) (by (simp [idsL, idsE, AV.ids, hidR, hidS, hidA])) _, ?_⟩)|(refine ⟨_, _, hbl _ _, ?_⟩)|(refine ⟨_, hbl _ _, ?_⟩)|(refine ⟨_, fun _ => hbl _ _, ?_⟩)|(refine ⟨_, _, qa0 (hc1) (by (simp [idsL, idsE, AV.ids, hidR, hidS, hidA])) _, ?_⟩)|(refine ⟨_, qa0 (hc1) (by (simp [idsL, idsE, AV.ids, hidR, hidS, hidA])) _, ?_⟩)|(refine ⟨_, fun _ => qa0 (hc1) (by (simp [idsL, idsE, AV.ids, hidR, hidS, hidA])) _, ?_⟩)|(refine ⟨_, _, qa0 (hc2) (by (simp [idsL, idsE, AV.ids, hidR, hidS, hidA])) _, ?_⟩)|(refine ⟨_, qa0 (hc2) (by (simp [idsL, idsE, AV.ids, hidR, hidS, hidA])) _, ?_⟩)|(refine ⟨_, fun _ => qa0 (hc2) (by (simp [idsL, idsE, AV.ids, hidR, hidS, hidA])) _, ?_⟩)|(refine ⟨_, _, hk1 _, ?_⟩)|(refine ⟨_, hk1 _, ?_⟩)|(refine ⟨_, fun _ => hk1 _, ?_⟩)|(refine ⟨_, _, hk2 _, ?_⟩)|(refine ⟨_, hk2 _, ?_⟩)|(refine ⟨_, fun _ => hk2 _, ?_⟩))|simp (disch := (first|exact za0|fail)) only [push_cast, simprocAttr, b1, b2, b5, b35, b36, b37, b6, b7, b42, b43, b44, e3, hrl2, hxl])
     refine go_loop rfl (fun mz s' H' => ∃ k : Nat, k ≤ x.1.length ∧ mz = x.1.length - k ∧ H' = (.row 4 29 [[.int .i64 A, .sl 1 RN c, .sl zs IS cs, .sl za IA ca]] :: .row 4 29 [[.int .i64 0, .sl 0 [] (some 0), .sl 0 [] (some 0), .sl 0 [] (some 0)]] :: .row 4 29 [[.int .i64 A, .own 3 n n (some n), .sl 0 [] (some 0), .sl 0 [] (some 0)]] :: .row 1 44 (ownR 5 A (some A) n) :: .row 4 29 [[.int .i64 A, .own 3 n n (some n), .sl 0 [] (some 0), .sl 0 [] (some 0)]] :: LO (fun _ _ => none) (revP l s a k) A n (.row 4 29 [[.int .i64 A, .own 3 n n (some n), .sl 1 IA (some ac.length), .sl 1 IS (some st.length)]])) ∧ s' 1 = .ptr 0 0 0 1 ∧ s' 2 = .ptr 1 0 0 1 ∧ s' 5 = .ptr (n + 5) 0 0 1 ∧ s' 35 = .sl 1 RN c ∧ s' 36 = .int .i64 n ∧ s' 37 = .int .i64 s ∧ s' 6 = .int .i64 s ∧ s' 7 = .sl 1 (rowL r.1) r.2 ∧ s' 42 = .sl 1 (rowL r.1) r.2 ∧ s' 43 = .int .i64 A ∧ s' 44 = .int .i64 a ∧ s' 8 = .int .i64 a ∧ s' 9 = .sl 1 (ints x.1) x.2 ∧ s' 49 = .sl 1 (ints x.1) x.2 ∧ s' 50 = .int .i64 x.1.length ∧ s' 51 = .int .i64 k) (m := x.1.length) (by first|exact xb0|fail) (Weak.refl _ _) ⟨0, by omega, by omega, rfl, ?_⟩ ?_
     ·simp (disch := (first|exact za0|fail)) only [push_cast, simprocAttr, b1, b2, b5, b35, b36, b37, b6, b7, b42, b43, b44, e3, hrl2, hxl]
     ·clear b1 b2 b5 b35 b36 b37 b6 b7 b42 b43 b44
      rintro mz s' H' ⟨k, hk, rfl, rfl, b1, b2, b5, b35, b36, b37, b6, b7, b42, b43, b44, b8, b9, b49, b50, b51⟩
      rcases Nat.lt_or_ge k x.1.length with hlk|hgk
      ·have e5 := e4 k hlk
       have hrg := vc0 hri (x.1.getD k 0) (by rw [List.getD_eq_getElem?_getD, List.getElem?_eq_getElem hlk]; exact List.getElem_mem _)
       have hvk := fun t h => hvk k t hri hlk h
       generalize hto : x.1.getD k 0 = to at *
       obtain ⟨t, rfl⟩ : ∃ t : Nat, to = (t : Int) := ⟨to.toNat, by omega⟩
       have htn : t < n := by omega
       have hvk := hvk t rfl
       have hvl := hvl k t a a
       have hL1 := qcF9 (K := fun _ _ => none) (G := revP l s a k) (A := A) (OUT := (.row 4 29 [[.int .i64 A, .own 3 n n (some n), .sl 1 IA (some ac.length), .sl 1 IS (some st.length)]])) htn
       have hL2 := wdA9 (K := fun _ _ => none) (G := revP l s a k) (OUT := (.row 4 29 [[.int .i64 A, .own 3 n n (some n), .sl 1 IA (some ac.length), .sl 1 IS (some st.length)]])) htn hla
       have hL3 := fun c hc => wdR9 (K := fun _ _ => none) (G := revP l s a k) (OUT := (.row 4 29 [[.int .i64 A, .own 3 n n (some n), .sl 1 IA (some ac.length), .sl 1 IS (some st.length)]])) (v := s) htn hla c hc
       have hL4 := fun Y => qeg9 (K := fun _ _ => none) (G := revP l s a k) (OUT := (.row 4 29 [[.int .i64 A, .own 3 n n (some n), .sl 1 IA (some ac.length), .sl 1 IS (some st.length)]])) htn hla Y
       have hL5 := fun Y => xdR9 (K := fun _ _ => none) (G := revP l s a k) (OUT := (.row 4 29 [[.int .i64 A, .own 3 n n (some n), .sl 1 IA (some ac.length), .sl 1 IS (some st.length)]])) htn hla Y
       have hG := wbN9 (K := fun _ _ => none) (G := revP l s a k) (n := n) (s := t) hla
       have hGl := zas9 (K := fun _ _ => none) (G := revP l s a k) (A := A) (n := n) t
       have hOl := wA0 5 A (some A) n
       have hOg := kay9 (b0 := 5) (I := A) (N := n) (k := t) (some A) htn
       have hil : (ints (intN (revP l s a k t a))).length = (revP l s a k t a).length := by rw [ka0, zb0]
       rw [hvk] at hL3
       repeat' (first|(first|refine nav ?_|(refine g0_ ?_; first|refine wa0 (dr := allQ) (p := [1, 0, 0, 1, 1, 0, 0, 1, 1, 0, 0, 1, 1, 0, 0, 1, 1, 0, 0, 1, 1, 0, 0, 1, 0, 1, 1, 1, 1]) [(55, 5), (56, 55), (58, 56), (59, 58)] [(71, some 68)] [] rfl rfl mixed (by kernel_rfl) ?_|refine goD ?_))|(with_reducible refine gG ?_ ?_)|((with_reducible refine And.intro (fun h => ?_) (fun h => ?_)) <;> try (exfalso; omega))|(with_reducible refine andG ?_)|fail|simp (disch := (first|exact za0|fail)) only [push_cast, simprocAttr, b1, b2, b5, b35, b36, b37, b6, b7, b42, b43, b44, b8, b9, b49, b50, b51, e5, hxl, hLo, hLl, hL1, hL2, hL4, hL5, hG, hGl, hOl, hOg, hil])
       refine xa0 (x.1.length - (k + 1)) (by omega) (by first|exact xb0|fail) ⟨k + 1, by omega, rfl, by rw [hL3 _ rfl], ?_⟩
       simp (disch := (first|exact za0|fail)) only [push_cast, simprocAttr, b1, b2, b5, b35, b36, b37, b6, b7, b42, b43, b44, b8, b9, b49, b50, b51, e5, hxl, hLo, hLl, hL1, hL2, hL4, hL5, hG, hGl, hOl, hOg, hil]
      ·obtain rfl : x.1.length = k := by omega
       rw [hva]
       repeat' (first|(first|refine nav ?_|(refine g0_ ?_; first|refine wa0 (dr := allQ) (p := [1, 0, 0, 1, 1, 0, 0, 1, 1, 0, 0, 1, 1, 0, 0, 1, 1, 0, 0, 1, 1, 0, 0, 1, 0, 1, 1, 1, 1]) [(55, 5), (56, 55), (58, 56), (59, 58)] [(71, some 68)] [] rfl rfl mixed (by kernel_rfl) ?_|refine goD ?_))|(with_reducible refine gG ?_ ?_)|((with_reducible refine And.intro (fun h => ?_) (fun h => ?_)) <;> try (exfalso; omega))|(with_reducible refine andG ?_)|fail|simp (disch := (first|exact za0|fail)) only [push_cast, simprocAttr, b1, b2, b5, b35, b36, b37, b6, b7, b42, b43, b44, b8, b9, b49, b50, b51])
       refine xa0 (A - (a + 1)) (by omega) (by first|exact xb0|fail) ⟨a + 1, by omega, rfl, rfl, ?_⟩
       simp (disch := (first|exact za0|fail)) only [push_cast, simprocAttr, b1, b2, b5, b35, b36, b37, b6, b7, b42, b43, b44, b8, b9, b49, b50, b51]
    ·obtain rfl : A = a := by omega
     rw [hvs]
     repeat' (first|(first|refine nav ?_|(refine g0_ ?_; first|refine wa0 (dr := allQ) (p := [1, 0, 0, 1, 1, 0, 0, 1, 1, 0, 0, 1, 1, 0, 0, 1, 1, 0, 0, 1, 1, 0, 0, 1, 0, 1, 1, 1, 1]) [(55, 5), (56, 55), (58, 56), (59, 58)] [(71, some 68)] [] rfl rfl mixed (by kernel_rfl) ?_|refine goD ?_))|(with_reducible refine gG ?_ ?_)|((with_reducible refine And.intro (fun h => ?_) (fun h => ?_)) <;> try (exfalso; omega))|(with_reducible refine andG ?_)|fail|simp (disch := (first|exact za0|fail)) only [push_cast, simprocAttr, b1, b2, b5, b35, b36, b37, b6, b7, b42, b43, b44])
     refine xa0 (n - (s + 1)) (by omega) (by first|exact xb0|fail) ⟨s + 1, by omega, rfl, rfl, ?_⟩
     simp (disch := (first|exact za0|fail)) only [push_cast, simprocAttr, b1, b2, b5, b35, b36, b37, b6, b7, b42, b43, b44]
  ·obtain rfl : n = s := by omega
   rw [← hNN] at *
   rw [zda9] at *
   have hcl := hcl59 (.row 4 29 [[.int .i64 A, .sl zr RN c, .sl zs IS cs, .sl za IA ca]]) (.row 4 29 [[.int .i64 0, .sl 0 [] (some 0), .sl 0 [] (some 0), .sl 0 [] (some 0)]]) (.row 4 29 [[.int .i64 A, .own 3 l.length l.length (some l.length), .sl 0 [] (some 0), .sl 0 [] (some 0)]]) (.row 4 29 [[.int .i64 A, .own 3 l.length l.length (some l.length), .sl 0 [] (some 0), .sl 0 [] (some 0)]]) (.row 4 29 [[.int .i64 A, .own 3 l.length l.length (some l.length), .sl 1 IA (some ac.length), .sl 1 IS (some st.length)]]) (.sl 1 IA (some ac.length)) (.sl 1 IS (some st.length)) ⟨rfl, rfl⟩ ⟨rfl, rfl⟩ (by simp [eqvL, AV.eqv])
   have hOl := wA0 5 A (some A) l.length
   have hOt := vbi9 (b0 := 5) (I := A) (N := l.length) (n := l.length) (some A) (Nat.le_refl _)
   repeat' (first|(first|refine nav ?_|(refine g0_ ?_; first|refine wa0 (dr := allQ) (p := [1, 0, 0, 1, 1, 0, 0, 1, 1, 0, 0, 1, 1, 0, 0, 1, 1, 0, 0, 1, 1, 0, 0, 1, 0, 1, 1, 1, 1]) [(55, 5), (56, 55), (58, 56), (59, 58)] [(71, some 68)] [] rfl rfl mixed (by kernel_rfl) ?_|refine goD ?_))|(with_reducible refine gG ?_ ?_)|((with_reducible refine And.intro (fun h => ?_) (fun h => ?_)) <;> try (exfalso; omega))|(with_reducible refine andG ?_)|(first|(refine ⟨_, _, hcl, ?_⟩)|(refine ⟨_, hcl, ?_⟩)|(refine ⟨_, fun _ => hcl, ?_⟩))|simp (disch := (first|exact za0|fail)) only [push_cast, simprocAttr, b1, b2, b5, b35, b36, b37, hLo, hLl, hOl, hOt])
   have hfin := hHO (.row 4 29 [[.int .i64 A, .sl zr RN c, .sl zs IS cs, .sl za IA ca]]) (.row 4 29 [[.int .i64 A, .own 3 l.length l.length (some l.length), .sl 1 IA (some ac.length), .sl 1 IS (some st.length)]]) (.row 4 29 [[.int .i64 A, .own 3 l.length l.length (some l.length), .sl 0 [] (some 0), .sl 0 [] (some 0)]]) (.row 4 29 [[.int .i64 A, .own 3 l.length l.length (some l.length), .sl 0 [] (some 0), .sl 0 [] (some 0)]]) (.row 4 29 [[.int .i64 A, .own 3 l.length l.length (some l.length), .sl 1 IA (some ac.length), .sl 1 IS (some st.length)]]) [.row 4 29 [[.int .i64 A, .own 3 l.length l.length (some l.length), .sl 1 IA (some ac.length), .sl 1 IS (some st.length)]], .row 4 29 [[.int .i64 A, .own 3 l.length l.length (some l.length), .sl 1 IA (some ac.length), .sl 1 IS (some st.length)]]]
   unfold HO at hfin
   exact ⟨⟨hfin.1, hidA _, hidS _⟩, hfin.2⟩
end Go.Proofs
