import Derived.Test.YtcoakjnmnommpaaGreatDoorA1
namespace Go.Proofs
open Go Go.V
set_option linter.unusedVariables false
set_option linter.unusedSimpArgs false
set_option maxHeartbeats 0
theorem qb0 (l : List RC) : (rowsV l).length = l.length := by simp [rowsV]
theorem xw0 (l : List RC) (s : Nat) (h : s < l.length) : (rowsV l).getD s [] = rowV (l.getD s ([], none)) := by simp [rowsV, h]
theorem wac9 (r : RC) : (rowV r).length = r.1.length := by simp [rowV]
theorem wJ0 (r : RC) (a : Nat) (h : a < r.1.length) : (rowV r).getD a [] = (r.1.getD a ([], none)).1 := by simp [rowV, h]
theorem cN3 {sym : Int} {l : List RC} {st ac : List Int} (h : 16 < sym ∨ 256 < l.length) : zs0 sym (rowsV l) st ac = 3 := by
 rw [zs0, if_pos (by rw [qb0]; exact h)]
theorem cN1 {sym : Int} {l : List RC} {st ac : List Int} (h : ¬ (16 < sym ∨ 256 < l.length)) (h2 : sym < 1 ∨ zf0 st l.length = false ∨ zf0 ac l.length = false) : zs0 sym (rowsV l) st ac = 1 := by
 rw [zs0, if_neg (by rw [qb0]; exact h), if_pos]
 rw [qb0]
 rcases h2 with q|q|q
 ·exact .inl q
 ·exact .inr (.inl q)
 ·exact .inr (.inr (.inl q))
theorem cN1r {sym : Int} {l : List RC} {st ac : List Int} (h : ¬ (16 < sym ∨ 256 < l.length)) {s : Nat} (hs : s < l.length) (h2 : qD0 sym l.length (rowV (l.getD s ([], none))) = false) : zs0 sym (rowsV l) st ac = 1 := by
 rw [zs0, if_neg (by rw [qb0]; exact h), if_pos]
 rw [qb0]
 refine .inr (.inr (.inr ?_))
 rw [List.all_eq_false]
 refine ⟨_, qd0 (d := []) (i := s) (by rw [qb0]; exact hs), ?_⟩
 rw [xw0 l s hs, h2]; decide
theorem cN0 {sym : Int} {l : List RC} {st ac : List Int} (h : ¬ (16 < sym ∨ 256 < l.length)) (h1 : ¬ sym < 1) (h2 : zf0 st l.length = true) (h3 : zf0 ac l.length = true) (h4 : ∀ s, s < l.length → qD0 sym l.length (rowV (l.getD s ([], none))) = true) : zs0 sym (rowsV l) st ac = 0 := by
 rw [zs0, if_neg (by rw [qb0]; exact h), if_neg]
 rw [qb0]
 simp only [not_or, Bool.not_eq_false]
 refine ⟨h1, h2, h3, ?_⟩
 rw [List.all_eq_true]
 intro r hr
 obtain ⟨s, hs, rfl⟩ := List.getElem_of_mem hr
 have hs' : s < l.length := by rw [qb0] at hs; exact hs
 have := h4 s hs'
 rw [← xw0 l s hs', List.getD_eq_getElem?_getD, List.getElem?_eq_getElem hs] at this
 exact this
theorem xcw9 {sym n : Int} {r : RC} (h : (r.1.length : Int) ≠ sym) : qD0 sym n (rowV r) = false := by
 rw [qD0, wac9, decide_eq_false h]; rfl
theorem zcV9 {sym n : Int} {r : RC} {a : Nat} (ha : a < r.1.length) (h : zf0 (r.1.getD a ([], none)).1 n = false) : qD0 sym n (rowV r) = false := by
 rw [qD0]
 have : (rowV r).all (fun l => zf0 l n) = false := by
  rw [List.all_eq_false]
  exact ⟨_, qd0 (d := []) (i := a) (by rw [wac9]; exact ha), by rw [wJ0 r a ha, h]; decide⟩
 rw [this, Bool.and_false]
theorem wcw9 {sym n : Int} {r : RC} (h : (r.1.length : Int) = sym) (h2 : ∀ a, a < r.1.length → zf0 (r.1.getD a ([], none)).1 n = true) : qD0 sym n (rowV r) = true := by
 rw [qD0, wac9, decide_eq_true h, Bool.true_and, List.all_eq_true]
 intro l hl
 obtain ⟨a, ha, rfl⟩ := List.getElem_of_mem hl
 have ha' : a < r.1.length := by rw [wac9] at ha; exact ha
 have := h2 a ha'
 rw [← wJ0 r a ha', List.getD_eq_getElem?_getD, List.getElem?_eq_getElem ha] at this
 exact this
set_option maxRecDepth 100000 in
theorem xca9 (sym : Int) (zr : Nat) (l : List RC) (c : Option Nat) (zs : Nat) (st : List Int) (cs : Option Nat) (za : Nat) (ac : List Int) (ca : Option Nat) (hzr : l = [] ∨ zr = 1) (hzs : st = [] ∨ zs = 1) (hza : ac = [] ∨ za = 1)
  (hl : l.length ≤ 9223372036854775807) (hst : st.length ≤ 9223372036854775807) (hac : ac.length ≤ 9223372036854775807) (hr : ∀ s, s < l.length → (l.getD s ([], none)).1.length ≤ 9223372036854775807) (hi : ∀ s a, s < l.length → a < (l.getD s ([], none)).1.length → ((l.getD s ([], none)).1.getD a ([], none)).1.length ≤ 9223372036854775807) :
  PC Tryz.prog G0 20 [nA sym zr l c zs st cs za ac ca] (.int .i64 (zs0 sym (rowsV l) st ac)) := by
 have hz := qcw9 sym l.length
 have h62s := zcw9 zs st cs l.length hzs hst
 have h62a := zcw9 za ac ca l.length hza hac
 have hRl := we0 l
 have hidR : ∀ p, idsE p (xc0 l) = true := fun p => wc0 _ _
 have hidS : ∀ p, idsE p (ints st) = true := fun p => va0 _ _
 have hidA : ∀ p, idsE p (ints ac) = true := fun p => va0 _ _
 have hg := fun s h => zm0 l s h
 unfold nA
 by_cases h16 : 16 < sym ∨ 256 < l.length
 ·rw [cN3 h16]
  rw [if_pos (by omega)] at hz
  generalize xc0 l = RN at *
  refine vd0 0 60 [.tmp 2] Tryz.func20 rfl rfl rfl (by simp) ?_
  intro s ⟨a0, hz⟩
  clear hz
  repeat' (first|refine nav ?_|(refine g0_ ?_; refine goD ?_)|(with_reducible refine gG ?_ ?_)|((with_reducible refine And.intro (fun h => ?_) (fun h => ?_)) <;> try (exfalso; omega))|(with_reducible refine andG ?_)|(first|(refine ⟨_, _, qa0 (hz) (by (simp [idsL, idsE, AV.ids, hidR, hidS, hidA])) _, ?_⟩)|(refine ⟨_, qa0 (hz) (by (simp [idsL, idsE, AV.ids, hidR, hidS, hidA])) _, ?_⟩)|(refine ⟨_, fun _ => qa0 (hz) (by (simp [idsL, idsE, AV.ids, hidR, hidS, hidA])) _, ?_⟩))|simp (disch := (first|exact za0|fail)) only [push_cast, simprocAttr, a0, hRl])
 ·rw [if_neg (by omega)] at hz
  by_cases hb : sym < 1 ∨ zf0 st l.length = false ∨ zf0 ac l.length = false
  ·rw [cN1 h16 hb]
   generalize xc0 l = RN at *
   by_cases h1 : sym < 1
   ·skip
    refine vd0 0 60 [.tmp 2] Tryz.func20 rfl rfl rfl (by simp) ?_
    intro s ⟨a0, hz⟩
    clear hz
    repeat' (first|refine nav ?_|(refine g0_ ?_; refine goD ?_)|(with_reducible refine gG ?_ ?_)|((with_reducible refine And.intro (fun h => ?_) (fun h => ?_)) <;> try (exfalso; omega))|(with_reducible refine andG ?_)|(first|(refine ⟨_, _, qa0 (hz) (by (simp [idsL, idsE, AV.ids, hidR, hidS, hidA])) _, ?_⟩)|(refine ⟨_, qa0 (hz) (by (simp [idsL, idsE, AV.ids, hidR, hidS, hidA])) _, ?_⟩)|(refine ⟨_, fun _ => qa0 (hz) (by (simp [idsL, idsE, AV.ids, hidR, hidS, hidA])) _, ?_⟩)|(refine ⟨AV.bool true, ?_⟩; refine xbE9 ?_))|simp (disch := (first|exact za0|fail)) only [push_cast, simprocAttr, a0, hRl, h1])
   ·cases h2 : zf0 st l.length with
    | false =>
     rw [h2] at h62s
     refine vd0 0 60 [.tmp 2] Tryz.func20 rfl rfl rfl (by simp) ?_
     intro s ⟨a0, hz⟩
     clear hz
     repeat' (first|refine nav ?_|(refine g0_ ?_; refine goD ?_)|(with_reducible refine gG ?_ ?_)|((with_reducible refine And.intro (fun h => ?_) (fun h => ?_)) <;> try (exfalso; omega))|(with_reducible refine andG ?_)|(first|(refine ⟨_, _, qa0 (hz) (by (simp [idsL, idsE, AV.ids, hidR, hidS, hidA])) _, ?_⟩)|(refine ⟨_, qa0 (hz) (by (simp [idsL, idsE, AV.ids, hidR, hidS, hidA])) _, ?_⟩)|(refine ⟨_, fun _ => qa0 (hz) (by (simp [idsL, idsE, AV.ids, hidR, hidS, hidA])) _, ?_⟩)|(refine ⟨_, _, qa0 (h62s) (by (simp [idsL, idsE, AV.ids, hidR, hidS, hidA])) _, ?_⟩)|(refine ⟨_, qa0 (h62s) (by (simp [idsL, idsE, AV.ids, hidR, hidS, hidA])) _, ?_⟩)|(refine ⟨_, fun _ => qa0 (h62s) (by (simp [idsL, idsE, AV.ids, hidR, hidS, hidA])) _, ?_⟩)|(refine ⟨AV.bool true, ?_⟩; refine xbE9 ?_))|simp (disch := (first|exact za0|fail)) only [push_cast, simprocAttr, a0, hRl, h1])
    | true =>
     rw [h2] at h62s
     have h3 : zf0 ac l.length = false := by rcases hb with q|q|q; exact absurd q h1; rw [h2] at q; cases q; exact q
     rw [h3] at h62a
     refine vd0 0 60 [.tmp 2] Tryz.func20 rfl rfl rfl (by simp) ?_
     intro s ⟨a0, hz⟩
     clear hz
     repeat' (first|refine nav ?_|(refine g0_ ?_; refine goD ?_)|(with_reducible refine gG ?_ ?_)|((with_reducible refine And.intro (fun h => ?_) (fun h => ?_)) <;> try (exfalso; omega))|(with_reducible refine andG ?_)|(first|(refine ⟨_, _, qa0 (hz) (by (simp [idsL, idsE, AV.ids, hidR, hidS, hidA])) _, ?_⟩)|(refine ⟨_, qa0 (hz) (by (simp [idsL, idsE, AV.ids, hidR, hidS, hidA])) _, ?_⟩)|(refine ⟨_, fun _ => qa0 (hz) (by (simp [idsL, idsE, AV.ids, hidR, hidS, hidA])) _, ?_⟩)|(refine ⟨_, _, qa0 (h62s) (by (simp [idsL, idsE, AV.ids, hidR, hidS, hidA])) _, ?_⟩)|(refine ⟨_, qa0 (h62s) (by (simp [idsL, idsE, AV.ids, hidR, hidS, hidA])) _, ?_⟩)|(refine ⟨_, fun _ => qa0 (h62s) (by (simp [idsL, idsE, AV.ids, hidR, hidS, hidA])) _, ?_⟩)|(refine ⟨_, _, qa0 (h62a) (by (simp [idsL, idsE, AV.ids, hidR, hidS, hidA])) _, ?_⟩)|(refine ⟨_, qa0 (h62a) (by (simp [idsL, idsE, AV.ids, hidR, hidS, hidA])) _, ?_⟩)|(refine ⟨_, fun _ => qa0 (h62a) (by (simp [idsL, idsE, AV.ids, hidR, hidS, hidA])) _, ?_⟩))|simp (disch := (first|exact za0|fail)) only [push_cast, simprocAttr, a0, hRl, h1])
  ·have h1 : ¬ sym < 1 := fun q => hb (.inl q)
   have h2 : zf0 st l.length = true := by cases q : zf0 st l.length; exact absurd (.inr (.inl q)) hb; rfl
   have h3 : zf0 ac l.length = true := by cases q : zf0 ac l.length; exact absurd (.inr (.inr q)) hb; rfl
   rw [h2] at h62s
   rw [h3] at h62a
   have hc1 := fun s hs h => cN1r (st := st) (ac := ac) h16 (s := s) hs h
   have hc0 := cN0 (st := st) (ac := ac) h16 h1 h2 h3
   generalize xc0 l = RN at *
   generalize zs0 sym (rowsV l) st ac = R at *
   refine vd0 0 60 [.tmp 2] Tryz.func20 rfl rfl rfl (by simp) ?_
   intro s ⟨a0, hz⟩
   clear hz
   repeat' (first|refine nav ?_|(refine g0_ ?_; refine goD ?_)|(with_reducible refine gG ?_ ?_)|((with_reducible refine And.intro (fun h => ?_) (fun h => ?_)) <;> try (exfalso; omega))|(with_reducible refine andG ?_)|(first|(refine ⟨_, _, qa0 (hz) (by (simp [idsL, idsE, AV.ids, hidR, hidS, hidA])) _, ?_⟩)|(refine ⟨_, qa0 (hz) (by (simp [idsL, idsE, AV.ids, hidR, hidS, hidA])) _, ?_⟩)|(refine ⟨_, fun _ => qa0 (hz) (by (simp [idsL, idsE, AV.ids, hidR, hidS, hidA])) _, ?_⟩)|(refine ⟨_, _, qa0 (h62s) (by (simp [idsL, idsE, AV.ids, hidR, hidS, hidA])) _, ?_⟩)|(refine ⟨_, qa0 (h62s) (by (simp [idsL, idsE, AV.ids, hidR, hidS, hidA])) _, ?_⟩)|(refine ⟨_, fun _ => qa0 (h62s) (by (simp [idsL, idsE, AV.ids, hidR, hidS, hidA])) _, ?_⟩)|(refine ⟨_, _, qa0 (h62a) (by (simp [idsL, idsE, AV.ids, hidR, hidS, hidA])) _, ?_⟩)|(refine ⟨_, qa0 (h62a) (by (simp [idsL, idsE, AV.ids, hidR, hidS, hidA])) _, ?_⟩)|(refine ⟨_, fun _ => qa0 (h62a) (by (simp [idsL, idsE, AV.ids, hidR, hidS, hidA])) _, ?_⟩))|simp (disch := (first|exact za0|fail)) only [push_cast, simprocAttr, a0, hRl, h1])
   refine go_loop rfl (fun mz s' H' => ∃ k : Nat, k ≤ l.length ∧ mz = l.length - k ∧ H' = [.row 4 29 [[.int .i64 sym, .sl zr RN c, .sl zs (ints st) cs, .sl za (ints ac) ca]]] ∧ s' 1 = .ptr 0 0 0 1 ∧ s' 3 = .int .i64 l.length ∧ s' 37 = .sl zr RN c ∧ s' 38 = .int .i64 l.length ∧ s' 39 = .int .i64 k ∧ (∀ j, j < k → qD0 sym l.length (rowV (l.getD j ([], none))) = true)) (m := l.length) (by first|exact xb0|fail) (Weak.refl _ _) ⟨0, by omega, by omega, rfl, ?_⟩ ?_
   ·refine ⟨?_, ?_, ?_, ?_, ?_, fun j hj => by omega⟩
    all_goals simp (disch := (first|exact za0|fail)) only [push_cast, simprocAttr, a0, hRl, h1]
   ·rintro mz s' H' ⟨k, hk, rfl, rfl, b1, b3, b37, b38, b39, ik⟩
    rcases Nat.lt_or_ge k l.length with hlt|hge
    ·obtain rfl := hzr.resolve_left (by intro h; rw [h] at hlt; simp at hlt)
     have e1 := hg k hlt
     have hc1 := hc1 k hlt
     have hsn := kai9 (P := fun j => qD0 sym l.length (rowV (l.getD j ([], none))) = true) (k := k) ik
     have hrk := hr k hlt
     have hik := fun a => hi k a hlt
     generalize l.getD k ([], none) = r at *
     have hrl := zc0 r.1
     have hidr : ∀ p, idsE p (rowL r.1) = true := fun p => vf0 _ _
     have e2 := fun a h => zh0 r.1 a h
     unfold rC at e1
     by_cases hrs : (r.1.length : Int) = sym
     ·skip
      repeat' (first|refine nav ?_|(refine g0_ ?_; refine goD ?_)|(with_reducible refine gG ?_ ?_)|((with_reducible refine And.intro (fun h => ?_) (fun h => ?_)) <;> try (exfalso; omega))|(with_reducible refine andG ?_)|(first|(refine ⟨_, _, qa0 (hz) (by (simp [idsL, idsE, AV.ids, hidR, hidS, hidA])) _, ?_⟩)|(refine ⟨_, qa0 (hz) (by (simp [idsL, idsE, AV.ids, hidR, hidS, hidA])) _, ?_⟩)|(refine ⟨_, fun _ => qa0 (hz) (by (simp [idsL, idsE, AV.ids, hidR, hidS, hidA])) _, ?_⟩)|(refine ⟨_, _, qa0 (h62s) (by (simp [idsL, idsE, AV.ids, hidR, hidS, hidA])) _, ?_⟩)|(refine ⟨_, qa0 (h62s) (by (simp [idsL, idsE, AV.ids, hidR, hidS, hidA])) _, ?_⟩)|(refine ⟨_, fun _ => qa0 (h62s) (by (simp [idsL, idsE, AV.ids, hidR, hidS, hidA])) _, ?_⟩)|(refine ⟨_, _, qa0 (h62a) (by (simp [idsL, idsE, AV.ids, hidR, hidS, hidA])) _, ?_⟩)|(refine ⟨_, qa0 (h62a) (by (simp [idsL, idsE, AV.ids, hidR, hidS, hidA])) _, ?_⟩)|(refine ⟨_, fun _ => qa0 (h62a) (by (simp [idsL, idsE, AV.ids, hidR, hidS, hidA])) _, ?_⟩))|simp (disch := (first|exact za0|fail)) only [push_cast, simprocAttr, b1, b3, b37, b38, b39, e1, hrl, hrs])
      refine go_loop rfl (fun mz s' H' => ∃ a : Nat, a ≤ r.1.length ∧ mz = r.1.length - a ∧ H' = [.row 4 29 [[.int .i64 sym, .sl 1 RN c, .sl zs (ints st) cs, .sl za (ints ac) ca]]] ∧ s' 1 = .ptr 0 0 0 1 ∧ s' 3 = .int .i64 l.length ∧ s' 37 = .sl 1 RN c ∧ s' 38 = .int .i64 l.length ∧ s' 39 = .int .i64 k ∧ s' 48 = .sl 1 (rowL r.1) r.2 ∧ s' 49 = .int .i64 r.1.length ∧ s' 50 = .int .i64 a ∧ (∀ j, j < a → zf0 (r.1.getD j ([], none)).1 l.length = true)) (m := r.1.length) (by first|exact xb0|fail) (Weak.refl _ _) ⟨0, by omega, by omega, rfl, ?_⟩ ?_
      ·refine ⟨?_, ?_, ?_, ?_, ?_, ?_, ?_, ?_, fun j hj => by omega⟩
       all_goals simp (disch := (first|exact za0|fail)) only [push_cast, simprocAttr, b1, b3, b37, b38, b39, e1, hrl, hrs]
      ·rintro mz s' H' ⟨a, ha, rfl, rfl, b1, b3, b37, b38, b39, b48, b49, b50, ia⟩
       rcases Nat.lt_or_ge a r.1.length with hla|hga
       ·have e3 := e2 a hla
        have hno := hc1
        have hsa := kai9 (P := fun j => zf0 (r.1.getD j ([], none)).1 l.length = true) (k := a) ia
        have hrn := zcV9 (sym := sym) (n := l.length) (r := r) hla
        have hia := hik a hla
        have h62 := fun h => zcw9 1 (r.1.getD a ([], none)).1 (r.1.getD a ([], none)).2 l.length (.inr rfl) h
        have h62 := h62 hia
        generalize r.1.getD a ([], none) = x at *
        unfold lC at e3
        have hidx : ∀ p, idsE p (ints x.1) = true := fun p => va0 _ _
        cases hx : zf0 x.1 l.length with
        | true =>
         rw [hx] at h62
         have hsa := hsa hx
         repeat' (first|refine nav ?_|(refine g0_ ?_; refine goD ?_)|(with_reducible refine gG ?_ ?_)|((with_reducible refine And.intro (fun h => ?_) (fun h => ?_)) <;> try (exfalso; omega))|(with_reducible refine andG ?_)|(first|(refine ⟨_, _, qa0 (h62) (by (simp [idsL, idsE, AV.ids, hidR, hidS, hidA])) _, ?_⟩)|(refine ⟨_, qa0 (h62) (by (simp [idsL, idsE, AV.ids, hidR, hidS, hidA])) _, ?_⟩)|(refine ⟨_, fun _ => qa0 (h62) (by (simp [idsL, idsE, AV.ids, hidR, hidS, hidA])) _, ?_⟩))|simp (disch := (first|exact za0|fail)) only [push_cast, simprocAttr, b1, b3, b37, b38, b39, b48, b49, b50, e3, hrl])
         refine xa0 (r.1.length - (a + 1)) (by omega) (by first|exact xb0|fail) ⟨a + 1, by omega, rfl, rfl, ?_, ?_, ?_, ?_, ?_, ?_, ?_, ?_, hsa⟩
         all_goals simp (disch := (first|exact za0|fail)) only [push_cast, simprocAttr, b1, b3, b37, b38, b39, b48, b49, b50, e3, hrl]
        | false =>
         rw [hx] at h62
         rw [hc1 (hrn hx)]
         repeat' (first|refine nav ?_|(refine g0_ ?_; refine goD ?_)|(with_reducible refine gG ?_ ?_)|((with_reducible refine And.intro (fun h => ?_) (fun h => ?_)) <;> try (exfalso; omega))|(with_reducible refine andG ?_)|(first|(refine ⟨_, _, qa0 (h62) (by (simp [idsL, idsE, AV.ids, hidR, hidS, hidA])) _, ?_⟩)|(refine ⟨_, qa0 (h62) (by (simp [idsL, idsE, AV.ids, hidR, hidS, hidA])) _, ?_⟩)|(refine ⟨_, fun _ => qa0 (h62) (by (simp [idsL, idsE, AV.ids, hidR, hidS, hidA])) _, ?_⟩))|simp (disch := (first|exact za0|fail)) only [push_cast, simprocAttr, b1, b3, b37, b38, b39, b48, b49, b50, e3, hrl])
       ·obtain rfl : a = r.1.length := by omega
        have hsn := hsn (wcw9 hrs ia)
        repeat' (first|refine nav ?_|(refine g0_ ?_; refine goD ?_)|(with_reducible refine gG ?_ ?_)|((with_reducible refine And.intro (fun h => ?_) (fun h => ?_)) <;> try (exfalso; omega))|(with_reducible refine andG ?_)|fail|simp (disch := (first|exact za0|fail)) only [push_cast, simprocAttr, b1, b3, b37, b38, b39, b48, b49, b50, hrl])
        refine xa0 (l.length - (k + 1)) (by omega) (by first|exact xb0|fail) ⟨k + 1, by omega, rfl, rfl, ?_, ?_, ?_, ?_, ?_, hsn⟩
        all_goals simp (disch := (first|exact za0|fail)) only [push_cast, simprocAttr, b1, b3, b37, b38, b39, b48, b49, b50, hrl]
     ·rw [hc1 (xcw9 hrs)]
      repeat' (first|refine nav ?_|(refine g0_ ?_; refine goD ?_)|(with_reducible refine gG ?_ ?_)|((with_reducible refine And.intro (fun h => ?_) (fun h => ?_)) <;> try (exfalso; omega))|(with_reducible refine andG ?_)|fail|simp (disch := (first|exact za0|fail)) only [push_cast, simprocAttr, b1, b3, b37, b38, b39, e1, hrl, hrs])
    ·obtain rfl : k = l.length := by omega
     rw [hc0 ik]
     repeat' (first|refine nav ?_|(refine g0_ ?_; refine goD ?_)|(with_reducible refine gG ?_ ?_)|((with_reducible refine And.intro (fun h => ?_) (fun h => ?_)) <;> try (exfalso; omega))|(with_reducible refine andG ?_)|fail|simp (disch := (first|exact za0|fail)) only [push_cast, simprocAttr, b1, b3, b37, b38, b39])
end Go.Proofs
