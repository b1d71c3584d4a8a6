import Derived.Test.YtcoakjnmnommpaaGreatDoorA18
import Derived.Test.YtcoakjnmnommpaaGreatDoorA15
import Derived.Test.YtcoakjnmnommpaaGreatDoorAR3
import Derived.Test.YtcoakjnmnommpaaGreatDoorV59
namespace Go.Proofs
open Go Go.V
set_option linter.unusedVariables false
set_option linter.unusedSimpArgs false
theorem zN0 (S : List Nat) : natL (intN S) = S := by
 rw [natL, intN, List.map_map]
 exact (List.map_congr_left fun x _ => Int.toNat_natCast x).trans (List.map_id S)
theorem qcX9 (x : ND) (s a : Nat) (c : Option Nat) : rowV (x.row s a, c) = (List.range a).map fun a => intN (x.lst s a x.n) := by simp [rowV, ND.row]
theorem vaO9 (x : ND) (s : Nat) : rowsV (x.rows s) = (List.range s).map fun s => (List.range x.A).map fun a => intN (x.lst s a x.n) := by
 simp [rowsV, ND.rows, qcX9]
theorem qj0 (n : Nat) (p : Nat → Bool) : zf0 (intN ((List.range n).filter p)) n = true := qbl9 n p
theorem ND.okN (x : ND) : OkNv x.A (rowsV (x.rows x.n)) (intN (bitS x.st x.n)) (intN (bitS x.ac x.n)) := by
 have hl : (rowsV (x.rows x.n)).length = x.n := by rw [qb0, x.rows_len]
 have hn : x.n ≤ 6 := by unfold ND.n; omega
 refine ⟨by unfold ND.A; omega, by unfold ND.A; omega, by omega, ?_, ?_, ?_, ?_⟩
 ·rw [hl]; exact qj0 _ _
 ·rw [hl]; exact qj0 _ _
 ·intro s hs
  rw [hl] at hs
  rw [vaO9]; simp [hs]
 ·intro s a hs ha
  rw [hl] at hs ⊢
  rw [vaO9]
  simp [hs, ha]
  exact qj0 _ _
theorem ND.nN (x : ND) : x.n ≤ 6 ∧ 1 ≤ x.A ∧ x.A ≤ 3 := by unfold ND.n ND.A; omega
theorem ND.row_get (x : ND) (s : Nat) (hs : s < x.n) : (x.rows x.n).getD s ([], none) = (x.row s x.A, none) := by simp [ND.rows, hs]
theorem ND.lst_get (x : ND) (s a : Nat) (hs : s < x.n) (ha : a < x.A) : lstC (x.rows x.n) s a = (intN (x.lst s a x.n), none) := by
 rw [lstC, x.row_get s hs]; simp [ND.row, ha]
theorem ND.sizeN (x : ND) : SizeN 1 (x.rows x.n) 1 (intN (bitS x.st x.n)) 1 (intN (bitS x.ac x.n)) := by
 obtain ⟨h1, h2, h3⟩ := x.nN
 have hb := fun b => xbL9 b x.n
 refine ⟨.inr rfl, .inr rfl, .inr rfl, ?_, ?_, ?_, ?_, ?_⟩
 ·rw [x.rows_len]; omega
 ·rw [zb0]; have := hb x.st; omega
 ·rw [zb0]; have := hb x.ac; omega
 ·intro s hs
  rw [x.rows_len] at hs
  rw [x.row_get s hs, x.row_len]; omega
 ·intro s a hs ha
  rw [x.rows_len] at hs
  rw [x.row_get s hs, x.row_len] at ha
  have := x.lst_get s a hs ha
  rw [lstC] at this
  rw [this, zb0]
  have := x.lst_len s a x.n
  omega
def ND.nf (x : ND) : Nf := nfOf (rowsV (x.rows x.n)) (intN (bitS x.st x.n)) (intN (bitS x.ac x.n))
theorem kE0 {A : Nat} {rows : List (List (List Int))} {st ac : List Int} (h : OkNv A rows st ac) : FiltF (nfOf rows st ac).n (nfOf rows st ac).S ∧ FiltF (nfOf rows st ac).n (nfOf rows st ac).F :=
 ⟨(qaC9 h.st).filt, (qaC9 h.ac).filt⟩
theorem xaZ9 (x : Nf) (hS : FiltF x.n x.S) (A i : Nat) : ∀ S ∈ (stX (stepN x) eqL A x.S i).1, FiltF x.n S :=
 waA9 (stepN x) eqL A (P := FiltF x.n) x.S hS (fun S _ a _ => qaB9 x S a) i
theorem FiltF.wlt {n : Nat} {S : List Nat} (h : FiltF n S) (hn : n ≤ 8) : wP (pS S) 0 < 256 := by
 refine Nat.lt_pow_two_of_testBit (n := 8) _ fun b hb => ?_
 by_cases h64 : b < 64
 ·rw [xj0 _ _ _ (by decide) h64, pS, Bool.eq_false_iff]
  intro q
  have := h.lt (List.contains_iff_mem.1 q)
  omega
 ·exact Nat.testBit_lt_two_pow (Nat.lt_of_lt_of_le (qo0 _ _) (Nat.pow_le_pow_right (by decide) (by omega)))
theorem FiltF.winj {n : Nat} {S T : List Nat} (h : FiltF n S) (h2 : FiltF n T) (hn : n ≤ 64) (e : wP (pS S) 0 = wP (pS T) 0) : S = T := by
 refine h.ext h2 fun s hs => ?_
 have h1 := xj0 (pS S) 0 s (by decide) (by omega)
 have h3 := xj0 (pS T) 0 s (by decide) (by omega)
 rw [e, h3] at h1
 simp only [pS, Nat.mul_zero, Nat.zero_add] at h1
 rw [← List.contains_iff_mem, ← List.contains_iff_mem, h1]
theorem wcc9 (x : Nf) (hS : FiltF x.n x.S) (hn : x.n ≤ 8) (A i : Nat) : (stX (stepN x) eqL A x.S i).1.length ≤ 256 :=
 qW0 (eqv := eqL) (fun S => wP (pS S) 0) 256 _ (fun S hS' => (xaZ9 x hS A i S hS').wlt hn) (fun S hS' T hT' e => by
  rw [(xaZ9 x hS A i S hS').winj (xaZ9 x hS A i T hT') (by omega) e]; exact zar9 T) (zab9 (stepN x) eqL A x.S i)
end Go.Proofs
namespace Go.Proofs
open Go Go.V
set_option linter.unusedVariables false
set_option linter.unusedSimpArgs false
def shB (b v n : Nat) : Nat → Nat
 | 0 => 0
 | k + 1 => shB b v n k ||| (((b >>> k) &&& 1) <<< ((k + v) % n))
def aK (x : ND) (v s a k : Nat) : List (Nat × Nat × Nat) := ((x.lst s a x.n).take k).map fun t => ((s + v) % x.n, a, (t + v) % x.n)
def aA (x : ND) (v s a : Nat) : List (Nat × Nat × Nat) := (List.range a).flatMap fun a => aK x v s a (x.lst s a x.n).length
def aS (x : ND) (v s : Nat) : List (Nat × Nat × Nat) := (List.range s).flatMap fun s => aA x v s x.A
def ND.shift (x : ND) (v : Nat) : ND := ⟨x.sy, x.many, aS x v x.n, shB x.st v x.n x.n, shB x.ac v x.n x.n⟩
end Go.Proofs
namespace Go.Proofs
open Go Go.V
set_option linter.unusedVariables false
set_option linter.unusedSimpArgs false
set_option maxHeartbeats 0
set_option maxRecDepth 100000
theorem kaO9 (b n h : Nat) (t : TypeId) (es : List (List AV)) (c : Option Nat) (H : List Blk) (hb : H[b]? = some (.row 1 t es)) (hh : h = es.length) (hn : n ≤ h) : qe0 Tryz.prog G0 55 [.own b n h c] H (.own b n h (some n)) H := by
 subst hh
 refine xI0 9 [.tmp 2] Tryz.func55 rfl rfl rfl (by simp) ?_
 intro s ⟨a0, hz⟩
 clear hz
 repeat' (first|refine nav ?_|(refine g0_ ?_; refine goD ?_)|(with_reducible refine gG ?_ ?_)|((with_reducible refine And.intro (fun h => ?_) (fun h => ?_)) <;> try (exfalso; omega))|(with_reducible refine andG ?_)|fail|simp (disch := (first|exact za0|fail)) only [push_cast, simprocAttr, a0, hb])
theorem qaP9 (b n h : Nat) (t : TypeId) (es : List (List AV)) (c : Option Nat) (H : List Blk) (hb : H[b]? = some (.row 1 t es)) (hh : h = es.length) (hn : n ≤ h) : qe0 Tryz.prog G0 56 [.own b n h c] H (.own b n h (some n)) H := by
 subst hh
 refine xI0 9 [.tmp 2] Tryz.func56 rfl rfl rfl (by simp) ?_
 intro s ⟨a0, hz⟩
 clear hz
 repeat' (first|refine nav ?_|(refine g0_ ?_; refine goD ?_)|(with_reducible refine gG ?_ ?_)|((with_reducible refine And.intro (fun h => ?_) (fun h => ?_)) <;> try (exfalso; omega))|(with_reducible refine andG ?_)|fail|simp (disch := (first|exact za0|fail)) only [push_cast, simprocAttr, a0, hb])
theorem zaP9 (b n h : Nat) (t : TypeId) (es : List (List AV)) (c : Option Nat) (H : List Blk) (hb : H[b]? = some (.row 1 t es)) (hh : h = es.length) (hn : n ≤ h) : qe0 Tryz.prog G0 34 [.own b n h c] H (.own b n h (some n)) H := by
 subst hh
 refine xI0 9 [.tmp 2] Tryz.func34 rfl rfl rfl (by simp) ?_
 intro s ⟨a0, hz⟩
 clear hz
 repeat' (first|refine nav ?_|(refine g0_ ?_; refine goD ?_)|(with_reducible refine gG ?_ ?_)|((with_reducible refine And.intro (fun h => ?_) (fun h => ?_)) <;> try (exfalso; omega))|(with_reducible refine andG ?_)|fail|simp (disch := (first|exact za0|fail)) only [push_cast, simprocAttr, a0, hb])
theorem xdi9 (z : Nat) (es : List (List AV)) (c : Option Nat) (H : List Blk) (hs : es = [] ∨ z = 1) (hid : ∀ p, idsE p es = true) : qe0 Tryz.prog G0 34 [.sl z es c] H (.sl z es (some es.length)) H := by
 rcases hs with rfl|rfl
 ·refine xI0 9 [.tmp 2] Tryz.func34 rfl rfl rfl (by simp) ?_
  intro s ⟨a0, hz⟩
  clear hz
  repeat' (first|refine nav ?_|(refine g0_ ?_; refine goD ?_)|(with_reducible refine gG ?_ ?_)|((with_reducible refine And.intro (fun h => ?_) (fun h => ?_)) <;> try (exfalso; omega))|(with_reducible refine andG ?_)|fail|simp (disch := (first|exact za0|fail)) only [push_cast, simprocAttr, a0])
 ·refine xI0 9 [.tmp 2] Tryz.func34 rfl rfl rfl (by simp) ?_
  intro s ⟨a0, hz⟩
  clear hz
  repeat' (first|refine nav ?_|(refine g0_ ?_; refine goD ?_)|(with_reducible refine gG ?_ ?_)|((with_reducible refine And.intro (fun h => ?_) (fun h => ?_)) <;> try (exfalso; omega))|(with_reducible refine andG ?_)|fail|simp (disch := (first|exact za0|fail)) only [push_cast, simprocAttr, a0, List.take_length, List.drop_zero])
structure xdy9 (l : List RC) : Prop where
 r : ∀ s, s < l.length → (l.getD s ([], none)).2 = some (l.getD s ([], none)).1.length
 i : ∀ s a, s < l.length → a < (l.getD s ([], none)).1.length → ((l.getD s ([], none)).1.getD a ([], none)).2 = some ((l.getD s ([], none)).1.getD a ([], none)).1.length
theorem wdi9 (sym : Int) (zr : Nat) (l : List RC) (zs : Nat) (st : List Int) (za : Nat) (ac : List Int) (hsz : SizeN zr l zs st za ac) (hroom : xdy9 l) :
  PC Tryz.prog G0 13 [nA sym zr l (some l.length) zs st (some st.length) za ac (some ac.length)] (.int .i64 0) := by
 have hRl := we0 l
 have hSl := ka0 st
 have hAl := ka0 ac
 have hidR : ∀ p, idsE p (xc0 l) = true := fun p => wc0 _ _
 have hg := fun s h => zm0 l s h
 have hl := hsz.bl
 have hst := hsz.bst
 have hac := hsz.bac
 unfold nA
 generalize hRN : xc0 l = RN at *
 refine vd0 0 83 [.tmp 2] Tryz.func13 rfl rfl rfl (by simp) ?_
 intro s ⟨a0, hz⟩
 clear hz
 repeat' (first|refine nav ?_|(refine g0_ ?_; refine goD ?_)|(with_reducible refine gG ?_ ?_)|((with_reducible refine And.intro (fun h => ?_) (fun h => ?_)) <;> try (exfalso; omega))|(with_reducible refine andG ?_)|fail|simp (disch := (first|exact za0|fail)) only [push_cast, simprocAttr, a0, hRl, hSl, hAl, Int.sub_self, Int.add_sub_cancel, Int.zero_add])
 refine go_loop rfl (fun mz s' H' => ∃ s : Nat, s ≤ l.length ∧ mz = l.length - s ∧ H' = [.row 4 29 [[.int .i64 sym, .sl zr RN (some l.length), .sl zs (ints st) (some st.length), .sl za (ints ac) (some ac.length)]]] ∧ s' 1 = .ptr 0 0 0 1 ∧ s' 3 = .int .i64 0 ∧ s' 4 = .int .i64 s) (m := l.length) (by first|exact xb0|fail) (Weak.refl _ _) ⟨0, by omega, by omega, rfl, ?_⟩ ?_
 ·simp (disch := (first|exact za0|fail)) only [push_cast, simprocAttr, a0, hRl, hSl, hAl, Int.sub_self, Int.add_sub_cancel, Int.zero_add]
 ·rintro mz s' H' ⟨s, hs, rfl, rfl, b1, b3, b4⟩
  rcases Nat.lt_or_ge s l.length with hlt|hge
  ·obtain rfl := hsz.zl.resolve_left (by intro h; rw [h] at hlt; simp at hlt)
   have e1 := hg s hlt
   have hr1 := hroom.r s hlt
   have hr2 := fun a => hroom.i s a hlt
   have hr3 := hsz.br s hlt
   have hr4 := fun a => hsz.bi s a hlt
   generalize l.getD s ([], none) = r at *
   unfold rC at e1
   rw [hr1] at e1
   have hrl := zc0 r.1
   have e2 := fun a h => zh0 r.1 a h
   have hidr : ∀ p, idsE p (rowL r.1) = true := fun p => vf0 _ _
   repeat' (first|refine nav ?_|(refine g0_ ?_; refine goD ?_)|(with_reducible refine gG ?_ ?_)|((with_reducible refine And.intro (fun h => ?_) (fun h => ?_)) <;> try (exfalso; omega))|(with_reducible refine andG ?_)|fail|simp (disch := (first|exact za0|fail)) only [push_cast, simprocAttr, b1, b3, b4, e1, hRl, hrl, Int.sub_self, Int.add_zero])
   refine go_loop rfl (fun mz s' H' => ∃ a : Nat, a ≤ r.1.length ∧ mz = r.1.length - a ∧ H' = [.row 4 29 [[.int .i64 sym, .sl 1 RN (some l.length), .sl zs (ints st) (some st.length), .sl za (ints ac) (some ac.length)]]] ∧ s' 1 = .ptr 0 0 0 1 ∧ s' 3 = .int .i64 0 ∧ s' 4 = .int .i64 s ∧ s' 5 = .int .i64 a) (m := r.1.length) (by first|exact xb0|fail) (Weak.refl _ _) ⟨0, by omega, by omega, rfl, ?_⟩ ?_
   ·simp (disch := (first|exact za0|fail)) only [push_cast, simprocAttr, b1, b3, b4, e1, hRl, hrl, Int.sub_self, Int.add_zero]
   ·rintro mz s' H' ⟨a, ha, rfl, rfl, b1, b3, b4, b5⟩
    rcases Nat.lt_or_ge a r.1.length with hla|hga
    ·have e3 := e2 a hla
     have hr5 := hr2 a hla
     have hr6 := hr4 a hla
     generalize r.1.getD a ([], none) = x at *
     unfold lC at e3
     rw [hr5] at e3
     have hxl := ka0 x.1
     repeat' (first|refine nav ?_|(refine g0_ ?_; refine goD ?_)|(with_reducible refine gG ?_ ?_)|((with_reducible refine And.intro (fun h => ?_) (fun h => ?_)) <;> try (exfalso; omega))|(with_reducible refine andG ?_)|fail|simp (disch := (first|exact za0|fail)) only [push_cast, simprocAttr, b1, b3, b4, b5, e1, e3, hRl, hrl, hxl, Int.sub_self, Int.add_zero])
     refine xa0 (r.1.length - (a + 1)) (by omega) (by first|exact xb0|fail) ⟨a + 1, by omega, rfl, rfl, ?_⟩
     simp (disch := (first|exact za0|fail)) only [push_cast, simprocAttr, b1, b3, b4, b5, e1, e3, hRl, hrl, hxl, Int.sub_self, Int.add_zero]
    ·obtain rfl : a = r.1.length := by omega
     repeat' (first|refine nav ?_|(refine g0_ ?_; refine goD ?_)|(with_reducible refine gG ?_ ?_)|((with_reducible refine And.intro (fun h => ?_) (fun h => ?_)) <;> try (exfalso; omega))|(with_reducible refine andG ?_)|fail|simp (disch := (first|exact za0|fail)) only [push_cast, simprocAttr, b1, b3, b4, b5, e1, hRl, hrl])
     refine xa0 (l.length - (s + 1)) (by omega) (by first|exact xb0|fail) ⟨s + 1, by omega, rfl, rfl, ?_⟩
     simp (disch := (first|exact za0|fail)) only [push_cast, simprocAttr, b1, b3, b4, b5, e1, hRl, hrl]
  ·obtain rfl : s = l.length := by omega
   repeat' (first|refine nav ?_|(refine g0_ ?_; refine goD ?_)|(with_reducible refine gG ?_ ?_)|((with_reducible refine And.intro (fun h => ?_) (fun h => ?_)) <;> try (exfalso; omega))|(with_reducible refine andG ?_)|fail|simp (disch := (first|exact za0|fail)) only [push_cast, simprocAttr, b1, b3, b4, hRl])
theorem xdP9 : PC Tryz.prog G0 49 [] (nA 2 1 [([([0, 1], some 2), ([0], some 1)], some 2), ([([], some 0), ([2], some 1)], some 2), ([([], some 0), ([], some 0)], some 2)] (some 3) 1 [0] (some 1) 1 [2] (some 1)) := by
 refine qdW9 (r := .agg [.int .i64 2, .sl 1 [[.sl 1 [[.sl 1 [[.int .i64 0], [.int .i64 1]] (some 2)], [.sl 1 [[.int .i64 0]] (some 1)]] (some 2)], [.sl 1 [[.sl 0 [] (some 0)], [.sl 1 [[.int .i64 2]] (some 1)]] (some 2)], [.sl 1 [[.sl 0 [] (some 0)], [.sl 0 [] (some 0)]] (some 2)]] (some 3), .sl 1 [[.int .i64 0]] (some 1), .sl 1 [[.int .i64 2]] (some 1)]) ?_ rfl
 refine vd0 2 11 [.cell 0 29] Tryz.func49 rfl rfl rfl (by simp) ?_
 intro s hz
 clear hz
 repeat' (first|((first|refine nav ?_|(refine g0_ ?_; refine goD ?_)) <;> (try simp (disch := (first|exact za0|fail)) only [push_cast, simprocAttr, Nat.add_zero]))|(with_reducible refine gG ?_ ?_)|((with_reducible refine And.intro (fun h => ?_) (fun h => ?_)) <;> try (exfalso; omega))|(with_reducible refine andG ?_)|fail|simp (disch := (first|exact za0|fail)) only [push_cast, simprocAttr, Nat.add_zero])
end Go.Proofs
