import Derived.Test.YtcoakjnmnommpaaGreatDoorA1
namespace Go.Proofs
open Go Go.V
set_option linter.unusedVariables false
set_option linter.unusedSimpArgs false
set_option maxHeartbeats 0
def vm0 (l : List LC) : List (List Int) := l.map Prod.fst
theorem kg0 (l : List LC) : (vm0 l).length = l.length := by simp [vm0]
theorem vac9 (l : List LC) (s : Nat) (h : s < l.length) : (vm0 l).getD s [] = (l.getD s ([], none)).1 := by simp [vm0, h]
def toOk (n x : Int) : Bool := decide (0 ≤ x) && decide (x < n)
theorem qaj9 (sym n : Int) (r : List Int) : wG0 sym n r = (decide ((r.length : Int) = sym) && r.all (toOk n)) := rfl
theorem cD3 {sym : Int} {l : List LC} {m : Nat} (h : 16 < sym ∨ 256 < l.length) : vl0 sym (vm0 l) m = 3 := by
 rw [vl0, if_pos (by rw [kg0]; exact h)]
theorem cD1 {sym : Int} {l : List LC} {m : Nat} (h : ¬ (16 < sym ∨ 256 < l.length)) (h2 : sym < 1 ∨ l.length < 1 ∨ m ≠ l.length) : vl0 sym (vm0 l) m = 1 := by
 rw [vl0, if_neg (by rw [kg0]; exact h), if_pos]
 rw [kg0]
 rcases h2 with q|q|q
 ·exact .inl q
 ·exact .inr (.inl q)
 ·exact .inr (.inr (.inl q))
theorem cD1r {sym : Int} {l : List LC} {m : Nat} (h : ¬ (16 < sym ∨ 256 < l.length)) {s : Nat} (hs : s < l.length) (h2 : wG0 sym l.length (l.getD s ([], none)).1 = false) : vl0 sym (vm0 l) m = 1 := by
 rw [vl0, if_neg (by rw [kg0]; exact h), if_pos]
 rw [kg0]
 refine .inr (.inr (.inr ?_))
 rw [List.all_eq_false]
 refine ⟨_, qd0 (d := []) (i := s) (by rw [kg0]; exact hs), ?_⟩
 rw [vac9 l s hs, h2]; decide
theorem cD0 {sym : Int} {l : List LC} {m : Nat} (h : ¬ (16 < sym ∨ 256 < l.length)) (h1 : ¬ sym < 1) (h2 : ¬ l.length < 1) (h3 : m = l.length) (h4 : ∀ s, s < l.length → wG0 sym l.length (l.getD s ([], none)).1 = true) : vl0 sym (vm0 l) m = 0 := by
 rw [vl0, if_neg (by rw [kg0]; exact h), if_neg]
 rw [kg0]
 simp only [not_or, Bool.not_eq_false, ne_eq, Classical.not_not]
 refine ⟨h1, h2, h3, ?_⟩
 rw [List.all_eq_true]
 intro r hr
 obtain ⟨s, hs, rfl⟩ := List.getElem_of_mem hr
 have hs' : s < l.length := by rw [kg0] at hs; exact hs
 have := h4 s hs'
 rw [← vac9 l s hs', List.getD_eq_getElem?_getD, List.getElem?_eq_getElem hs] at this
 exact this
theorem wca9 {sym n : Int} {r : List Int} (h : (r.length : Int) ≠ sym) : wG0 sym n r = false := by
 rw [qaj9, decide_eq_false h]; rfl
theorem vcw9 {sym n : Int} {r : List Int} {a : Nat} (ha : a < r.length) (h : toOk n (r.getD a 0) = false) : wG0 sym n r = false := by
 have : r.all (toOk n) = false := by
  rw [List.all_eq_false]
  exact ⟨_, qd0 (d := 0) (i := a) ha, by rw [h]; decide⟩
 rw [qaj9, this, Bool.and_false]
theorem vca9 {sym n : Int} {r : List Int} (h : (r.length : Int) = sym) (h2 : ∀ a, a < r.length → toOk n (r.getD a 0) = true) : wG0 sym n r = true := by
 rw [qaj9, decide_eq_true h, Bool.true_and, List.all_eq_true]
 intro x hx
 obtain ⟨a, ha, rfl⟩ := List.getElem_of_mem hx
 have := h2 a ha
 rw [List.getD_eq_getElem?_getD, List.getElem?_eq_getElem ha] at this
 exact this
set_option maxRecDepth 100000 in
theorem kcw9 (sym : Int) (zr : Nat) (l : List LC) (c : Option Nat) (za : Nat) (ac : List Bool) (ca : Option Nat) (hzr : l = [] ∨ zr = 1)
  (hl : l.length ≤ 9223372036854775807) (hac : ac.length ≤ 9223372036854775807) (hr : ∀ s, s < l.length → (l.getD s ([], none)).1.length ≤ 9223372036854775807) :
  PC Tryz.prog G0 21 [dA sym zr l c za ac ca] (.int .i64 (vl0 sym (vm0 l) ac.length)) := by
 have hz := qcw9 sym l.length
 have hRl := zc0 l
 have hAl := xg0 ac
 have hidR : ∀ p, idsE p (rowL l) = true := fun p => vf0 _ _
 have hidA : ∀ p, idsE p (kd0 ac) = true := fun p => zi0 _ _
 have hg := fun s h => zh0 l s h
 unfold dA
 by_cases h16 : 16 < sym ∨ 256 < l.length
 ·rw [cD3 h16]
  rw [if_pos (by omega)] at hz
  generalize rowL l = RN at *
  generalize kd0 ac = BA at *
  refine vd0 0 60 [.tmp 2] Tryz.func21 rfl rfl rfl (by simp) ?_
  intro s ⟨a0, hz⟩
  clear hz
  repeat' (first|refine nav ?_|(refine g0_ ?_; refine goD ?_)|(with_reducible refine gG ?_ ?_)|((with_reducible refine And.intro (fun h => ?_) (fun h => ?_)) <;> try (exfalso; omega))|(with_reducible refine andG ?_)|(first|(refine ⟨_, _, qa0 (hz) (by (simp [idsL, idsE, AV.ids, hidR, hidA])) _, ?_⟩)|(refine ⟨_, qa0 (hz) (by (simp [idsL, idsE, AV.ids, hidR, hidA])) _, ?_⟩)|(refine ⟨_, fun _ => qa0 (hz) (by (simp [idsL, idsE, AV.ids, hidR, hidA])) _, ?_⟩))|simp (disch := (first|exact za0|fail)) only [push_cast, simprocAttr, a0, hRl])
 ·rw [if_neg (by omega)] at hz
  by_cases hb : sym < 1 ∨ l.length < 1 ∨ ac.length ≠ l.length
  ·rw [cD1 h16 hb]
   generalize rowL l = RN at *
   generalize kd0 ac = BA at *
   by_cases h1 : sym < 1
   ·skip
    refine vd0 0 60 [.tmp 2] Tryz.func21 rfl rfl rfl (by simp) ?_
    intro s ⟨a0, hz⟩
    clear hz
    repeat' (first|refine nav ?_|(refine g0_ ?_; refine goD ?_)|(with_reducible refine gG ?_ ?_)|((with_reducible refine And.intro (fun h => ?_) (fun h => ?_)) <;> try (exfalso; omega))|(with_reducible refine andG ?_)|(first|(refine ⟨_, _, qa0 (hz) (by (simp [idsL, idsE, AV.ids, hidR, hidA])) _, ?_⟩)|(refine ⟨_, qa0 (hz) (by (simp [idsL, idsE, AV.ids, hidR, hidA])) _, ?_⟩)|(refine ⟨_, fun _ => qa0 (hz) (by (simp [idsL, idsE, AV.ids, hidR, hidA])) _, ?_⟩))|simp (disch := (first|exact za0|fail)) only [push_cast, simprocAttr, a0, hRl, h1])
   ·by_cases h2 : l.length < 1
    ·have h2' : (l.length : Int) < 1 := by omega
     refine vd0 0 60 [.tmp 2] Tryz.func21 rfl rfl rfl (by simp) ?_
     intro s ⟨a0, hz⟩
     clear hz
     repeat' (first|refine nav ?_|(refine g0_ ?_; refine goD ?_)|(with_reducible refine gG ?_ ?_)|((with_reducible refine And.intro (fun h => ?_) (fun h => ?_)) <;> try (exfalso; omega))|(with_reducible refine andG ?_)|(first|(refine ⟨_, _, qa0 (hz) (by (simp [idsL, idsE, AV.ids, hidR, hidA])) _, ?_⟩)|(refine ⟨_, qa0 (hz) (by (simp [idsL, idsE, AV.ids, hidR, hidA])) _, ?_⟩)|(refine ⟨_, fun _ => qa0 (hz) (by (simp [idsL, idsE, AV.ids, hidR, hidA])) _, ?_⟩))|simp (disch := (first|exact za0|fail)) only [push_cast, simprocAttr, a0, hRl, h1, h2'])
    ·have h2' : ¬ (l.length : Int) < 1 := by omega
     have h3 : ¬ ((ac.length : Int) = l.length) := by omega
     have h3' : ¬ (ac.length = l.length) := by omega
     refine vd0 0 60 [.tmp 2] Tryz.func21 rfl rfl rfl (by simp) ?_
     intro s ⟨a0, hz⟩
     clear hz
     repeat' (first|refine nav ?_|(refine g0_ ?_; refine goD ?_)|(with_reducible refine gG ?_ ?_)|((with_reducible refine And.intro (fun h => ?_) (fun h => ?_)) <;> try (exfalso; omega))|(with_reducible refine andG ?_)|(first|(refine ⟨_, _, qa0 (hz) (by (simp [idsL, idsE, AV.ids, hidR, hidA])) _, ?_⟩)|(refine ⟨_, qa0 (hz) (by (simp [idsL, idsE, AV.ids, hidR, hidA])) _, ?_⟩)|(refine ⟨_, fun _ => qa0 (hz) (by (simp [idsL, idsE, AV.ids, hidR, hidA])) _, ?_⟩))|simp (disch := (first|exact za0|fail)) only [push_cast, simprocAttr, a0, hRl, hAl, h1, h2', h3, h3'])
  ·have h1 : ¬ sym < 1 := fun q => hb (.inl q)
   have h2 : ¬ l.length < 1 := fun q => hb (.inr (.inl q))
   have h2' : ¬ (l.length : Int) < 1 := by omega
   have h3 : ac.length = l.length := Classical.byContradiction fun q => hb (.inr (.inr q))
   have hc1 := fun s hs h => cD1r (m := ac.length) h16 (s := s) hs h
   have hc0 := cD0 h16 h1 h2 h3
   generalize rowL l = RN at *
   generalize kd0 ac = BA at *
   generalize vl0 sym (vm0 l) ac.length = R at *
   refine vd0 0 60 [.tmp 2] Tryz.func21 rfl rfl rfl (by simp) ?_
   intro s ⟨a0, hz⟩
   clear hz
   repeat' (first|refine nav ?_|(refine g0_ ?_; refine goD ?_)|(with_reducible refine gG ?_ ?_)|((with_reducible refine And.intro (fun h => ?_) (fun h => ?_)) <;> try (exfalso; omega))|(with_reducible refine andG ?_)|(first|(refine ⟨_, _, qa0 (hz) (by (simp [idsL, idsE, AV.ids, hidR, hidA])) _, ?_⟩)|(refine ⟨_, qa0 (hz) (by (simp [idsL, idsE, AV.ids, hidR, hidA])) _, ?_⟩)|(refine ⟨_, fun _ => qa0 (hz) (by (simp [idsL, idsE, AV.ids, hidR, hidA])) _, ?_⟩))|simp (disch := (first|exact za0|fail)) only [push_cast, simprocAttr, a0, hRl, hAl, h1, h2', h3])
   refine go_loop rfl (fun mz s' H' => ∃ k : Nat, k ≤ l.length ∧ mz = l.length - k ∧ H' = [.row 3 47 [[.int .i64 sym, .sl zr RN c, .sl za BA ca]]] ∧ s' 1 = .ptr 0 0 0 1 ∧ s' 3 = .int .i64 l.length ∧ s' 34 = .sl zr RN c ∧ s' 35 = .int .i64 l.length ∧ s' 36 = .int .i64 k ∧ (∀ j, j < k → wG0 sym l.length (l.getD j ([], none)).1 = true)) (m := l.length) (by first|exact xb0|fail) (Weak.refl _ _) ⟨0, by omega, by omega, rfl, ?_⟩ ?_
   ·refine ⟨?_, ?_, ?_, ?_, ?_, fun j hj => by omega⟩
    all_goals simp (disch := (first|exact za0|fail)) only [push_cast, simprocAttr, a0, hRl, hAl, h1, h2', h3]
   ·rintro mz s' H' ⟨k, hk, rfl, rfl, b1, b3, b34, b35, b36, ik⟩
    rcases Nat.lt_or_ge k l.length with hlt|hge
    ·obtain rfl := hzr.resolve_left (by intro h; rw [h] at hlt; simp at hlt)
     have e1 := hg k hlt
     have hc1 := hc1 k hlt
     have hsn := kai9 (P := fun j => wG0 sym l.length (l.getD j ([], none)).1 = true) (k := k) ik
     have hrk := hr k hlt
     generalize l.getD k ([], none) = r at *
     have hrl := ka0 r.1
     have e2 := fun a h => kc0 r.1 a h
     unfold lC at e1
     by_cases hrs : (r.1.length : Int) = sym
     ·skip
      repeat' (first|refine nav ?_|(refine g0_ ?_; refine goD ?_)|(with_reducible refine gG ?_ ?_)|((with_reducible refine And.intro (fun h => ?_) (fun h => ?_)) <;> try (exfalso; omega))|(with_reducible refine andG ?_)|(first|(refine ⟨_, _, qa0 (hz) (by (simp [idsL, idsE, AV.ids, hidR, hidA])) _, ?_⟩)|(refine ⟨_, qa0 (hz) (by (simp [idsL, idsE, AV.ids, hidR, hidA])) _, ?_⟩)|(refine ⟨_, fun _ => qa0 (hz) (by (simp [idsL, idsE, AV.ids, hidR, hidA])) _, ?_⟩))|simp (disch := (first|exact za0|fail)) only [push_cast, simprocAttr, b1, b3, b34, b35, b36, e1, hrl, hrs])
      refine go_loop rfl (fun mz s' H' => ∃ a : Nat, a ≤ r.1.length ∧ mz = r.1.length - a ∧ H' = [.row 3 47 [[.int .i64 sym, .sl 1 RN c, .sl za BA ca]]] ∧ s' 1 = .ptr 0 0 0 1 ∧ s' 3 = .int .i64 l.length ∧ s' 34 = .sl 1 RN c ∧ s' 35 = .int .i64 l.length ∧ s' 36 = .int .i64 k ∧ s' 45 = .sl 1 (ints r.1) r.2 ∧ s' 46 = .int .i64 r.1.length ∧ s' 47 = .int .i64 a ∧ (∀ j, j < a → toOk l.length (r.1.getD j 0) = true)) (m := r.1.length) (by first|exact xb0|fail) (Weak.refl _ _) ⟨0, by omega, by omega, rfl, ?_⟩ ?_
      ·refine ⟨?_, ?_, ?_, ?_, ?_, ?_, ?_, ?_, fun j hj => by omega⟩
       all_goals simp (disch := (first|exact za0|fail)) only [push_cast, simprocAttr, b1, b3, b34, b35, b36, e1, hrl, hrs]
      ·rintro mz s' H' ⟨a, ha, rfl, rfl, b1, b3, b34, b35, b36, b45, b46, b47, ia⟩
       rcases Nat.lt_or_ge a r.1.length with hla|hga
       ·have e3 := e2 a hla
        have hsa := kai9 (P := fun j => toOk l.length (r.1.getD j 0) = true) (k := a) ia
        have hrn := vcw9 (sym := sym) (n := l.length) (r := r.1) hla
        generalize r.1.getD a 0 = x at *
        by_cases hx1 : x < 0
        ·rw [hc1 (hrn (by rw [toOk, decide_eq_false (by omega)]; rfl))]
         repeat' (first|refine nav ?_|(refine g0_ ?_; refine goD ?_)|(with_reducible refine gG ?_ ?_)|((with_reducible refine And.intro (fun h => ?_) (fun h => ?_)) <;> try (exfalso; omega))|(with_reducible refine andG ?_)|(first|(refine ⟨_, _, qa0 (hz) (by (simp [idsL, idsE, AV.ids, hidR, hidA])) _, ?_⟩)|(refine ⟨_, qa0 (hz) (by (simp [idsL, idsE, AV.ids, hidR, hidA])) _, ?_⟩)|(refine ⟨_, fun _ => qa0 (hz) (by (simp [idsL, idsE, AV.ids, hidR, hidA])) _, ?_⟩))|simp (disch := (first|exact za0|fail)) only [push_cast, simprocAttr, b1, b3, b34, b35, b36, b45, b46, b47, e3, hrl, hx1])
        ·by_cases hx2 : (l.length : Int) ≤ x
         ·rw [hc1 (hrn (by rw [toOk, decide_eq_false (show ¬ x < l.length by omega), Bool.and_false]))]
          repeat' (first|refine nav ?_|(refine g0_ ?_; refine goD ?_)|(with_reducible refine gG ?_ ?_)|((with_reducible refine And.intro (fun h => ?_) (fun h => ?_)) <;> try (exfalso; omega))|(with_reducible refine andG ?_)|(first|(refine ⟨_, _, qa0 (hz) (by (simp [idsL, idsE, AV.ids, hidR, hidA])) _, ?_⟩)|(refine ⟨_, qa0 (hz) (by (simp [idsL, idsE, AV.ids, hidR, hidA])) _, ?_⟩)|(refine ⟨_, fun _ => qa0 (hz) (by (simp [idsL, idsE, AV.ids, hidR, hidA])) _, ?_⟩))|simp (disch := (first|exact za0|fail)) only [push_cast, simprocAttr, b1, b3, b34, b35, b36, b45, b46, b47, e3, hrl, hx1, hx2])
         ·have hsa := hsa (by rw [toOk, decide_eq_true (by omega), decide_eq_true (by omega)]; rfl)
          repeat' (first|refine nav ?_|(refine g0_ ?_; refine goD ?_)|(with_reducible refine gG ?_ ?_)|((with_reducible refine And.intro (fun h => ?_) (fun h => ?_)) <;> try (exfalso; omega))|(with_reducible refine andG ?_)|(first|(refine ⟨_, _, qa0 (hz) (by (simp [idsL, idsE, AV.ids, hidR, hidA])) _, ?_⟩)|(refine ⟨_, qa0 (hz) (by (simp [idsL, idsE, AV.ids, hidR, hidA])) _, ?_⟩)|(refine ⟨_, fun _ => qa0 (hz) (by (simp [idsL, idsE, AV.ids, hidR, hidA])) _, ?_⟩))|simp (disch := (first|exact za0|fail)) only [push_cast, simprocAttr, b1, b3, b34, b35, b36, b45, b46, b47, e3, hrl, hx1, hx2])
          refine xa0 (r.1.length - (a + 1)) (by omega) (by first|exact xb0|fail) ⟨a + 1, by omega, rfl, rfl, ?_, ?_, ?_, ?_, ?_, ?_, ?_, ?_, hsa⟩
          all_goals simp (disch := (first|exact za0|fail)) only [push_cast, simprocAttr, b1, b3, b34, b35, b36, b45, b46, b47, e3, hrl, hx1, hx2]
       ·obtain rfl : a = r.1.length := by omega
        have hsn := hsn (vca9 hrs ia)
        repeat' (first|refine nav ?_|(refine g0_ ?_; refine goD ?_)|(with_reducible refine gG ?_ ?_)|((with_reducible refine And.intro (fun h => ?_) (fun h => ?_)) <;> try (exfalso; omega))|(with_reducible refine andG ?_)|(first|(refine ⟨_, _, qa0 (hz) (by (simp [idsL, idsE, AV.ids, hidR, hidA])) _, ?_⟩)|(refine ⟨_, qa0 (hz) (by (simp [idsL, idsE, AV.ids, hidR, hidA])) _, ?_⟩)|(refine ⟨_, fun _ => qa0 (hz) (by (simp [idsL, idsE, AV.ids, hidR, hidA])) _, ?_⟩))|simp (disch := (first|exact za0|fail)) only [push_cast, simprocAttr, b1, b3, b34, b35, b36, b45, b46, b47, hrl])
        refine xa0 (l.length - (k + 1)) (by omega) (by first|exact xb0|fail) ⟨k + 1, by omega, rfl, rfl, ?_, ?_, ?_, ?_, ?_, hsn⟩
        all_goals simp (disch := (first|exact za0|fail)) only [push_cast, simprocAttr, b1, b3, b34, b35, b36, b45, b46, b47, hrl]
     ·rw [hc1 (wca9 hrs)]
      repeat' (first|refine nav ?_|(refine g0_ ?_; refine goD ?_)|(with_reducible refine gG ?_ ?_)|((with_reducible refine And.intro (fun h => ?_) (fun h => ?_)) <;> try (exfalso; omega))|(with_reducible refine andG ?_)|(first|(refine ⟨_, _, qa0 (hz) (by (simp [idsL, idsE, AV.ids, hidR, hidA])) _, ?_⟩)|(refine ⟨_, qa0 (hz) (by (simp [idsL, idsE, AV.ids, hidR, hidA])) _, ?_⟩)|(refine ⟨_, fun _ => qa0 (hz) (by (simp [idsL, idsE, AV.ids, hidR, hidA])) _, ?_⟩))|simp (disch := (first|exact za0|fail)) only [push_cast, simprocAttr, b1, b3, b34, b35, b36, e1, hrl, hrs])
    ·obtain rfl : k = l.length := by omega
     rw [hc0 ik]
     repeat' (first|refine nav ?_|(refine g0_ ?_; refine goD ?_)|(with_reducible refine gG ?_ ?_)|((with_reducible refine And.intro (fun h => ?_) (fun h => ?_)) <;> try (exfalso; omega))|(with_reducible refine andG ?_)|(first|(refine ⟨_, _, qa0 (hz) (by (simp [idsL, idsE, AV.ids, hidR, hidA])) _, ?_⟩)|(refine ⟨_, qa0 (hz) (by (simp [idsL, idsE, AV.ids, hidR, hidA])) _, ?_⟩)|(refine ⟨_, fun _ => qa0 (hz) (by (simp [idsL, idsE, AV.ids, hidR, hidA])) _, ?_⟩))|simp (disch := (first|exact za0|fail)) only [push_cast, simprocAttr, b1, b3, b34, b35, b36])
end Go.Proofs
namespace Go.Proofs
open Go Go.V
set_option linter.unusedVariables false
set_option linter.unusedSimpArgs false
set_option maxHeartbeats 0
theorem xcV9 (l : List Int) (n : Nat) (m : Nat) : inL (l ++ [(n : Int)]) m = (inL l m || decide (m = n)) := by
 rw [Bool.eq_iff_iff]
 simp [inL, Int.natCast_inj]
theorem xdw9 (m : Nat) : inL [] m = false := rfl
theorem wcV9 {p q : Nat → Bool} {n : Nat} (hn : n < 256) (hq : ∀ m, q m = (p m || decide (m = n))) : setL q = [.int .u64 (if n / 64 = 0 then wP p 0 ||| 2 ^ (n % 64) else wP p 0 : Nat), .int .u64 (if n / 64 = 1 then wP p 1 ||| 2 ^ (n % 64) else wP p 1 : Nat), .int .u64 (if n / 64 = 2 then wP p 2 ||| 2 ^ (n % 64) else wP p 2 : Nat), .int .u64 (if n / 64 = 3 then wP p 3 ||| 2 ^ (n % 64) else wP p 3 : Nat)] := by
 have e : q = fun m => p m || decide (m = n) := funext hq
 rw [e, setL, xbJ9 p n hn 0 (by decide), xbJ9 p n hn 1 (by decide), xbJ9 p n hn 2 (by decide), xbJ9 p n hn 3 (by decide)]
 simp only [eq_comm]
set_option maxRecDepth 100000 in
theorem wdw9 (b z : Nat) (l : List Int) (c : Option Nat) (H : List Blk) (p : Nat → Bool) (hz : l = [] ∨ z = 1) (hl : l.length ≤ 9223372036854775807) (hr : ∀ x ∈ l, 0 ≤ x ∧ x < 256) (hb : H[b]? = some (.row 4 68 [setL p])) :
  qe0 Tryz.prog G0 67 [.ptr b 0 0 1, .sl z (ints l) c] H (.tup []) (H.set b (.row 4 68 [setL fun n => p n || inL l n])) := by
 have hil := ka0 l
 have hlt := (List.getElem?_eq_some_iff.1 hb).1
 have hself : H.set b (.row 4 68 [setL p]) = H := by
  obtain ⟨h1, h2⟩ := List.getElem?_eq_some_iff.1 hb
  rw [← h2, List.set_getElem_self]
 have hget : ∀ X, (H.set b X)[b]? = some X := fun X => List.getElem?_set_self hlt
 have hset : ∀ X Y : Blk, (H.set b X).set b Y = H.set b Y := fun X Y => List.set_set ..
 refine xI0 25 [] Tryz.func67 rfl rfl rfl (by simp) ?_
 intro s ⟨a0, a1, hz⟩
 simp only [Nat.zero_add, Nat.reduceAdd] at a1
 clear hz
 repeat' (first|refine nav ?_|(refine g0_ ?_; refine goD ?_)|(with_reducible refine gG ?_ ?_)|((with_reducible refine And.intro (fun h => ?_) (fun h => ?_)) <;> try (exfalso; omega))|(with_reducible refine andG ?_)|fail|simp (disch := (first|exact za0|fail)) only [push_cast, simprocAttr, a0, a1, hil])
 refine go_loop rfl (fun mz s' H' => ∃ k : Nat, k ≤ l.length ∧ mz = l.length - k ∧ H' = H.set b (.row 4 68 [setL fun n => p n || inL (l.take k) n]) ∧ s' 0 = .ptr b 0 0 1 ∧ s' 6 = .sl z (ints l) c ∧ s' 7 = .int .i64 l.length ∧ s' 8 = .int .i64 k) (m := l.length) (by first|exact xb0|fail) (Weak.refl _ _) ⟨0, by omega, by omega, by simp [xdw9, hself], ?_⟩ ?_
 ·simp (disch := (first|exact za0|fail)) only [push_cast, simprocAttr, a0, a1, hil]
 ·rintro mz s' H' ⟨k, hk, rfl, rfl, b0, b6, b7, b8⟩
  rcases Nat.lt_or_ge k l.length with hltk|hge
  ·obtain rfl := hz.resolve_left (by intro h; rw [h] at hltk; simp at hltk)
   have e1 := kc0 l k hltk
   have hx := hr _ (qd0 (d := 0) hltk)
   have htk := zg0 l 0 k hltk
   obtain ⟨n, hn⟩ : ∃ n : Nat, l.getD k 0 = n := ⟨(l.getD k 0).toNat, by omega⟩
   rw [hn] at e1 hx htk
   have hq2 : ∀ m, (p m || inL (l.take (k + 1)) m) = ((p m || inL (l.take k) m) || decide (m = n)) := fun m => by rw [htk, xcV9, Bool.or_assoc]
   have hput := wcV9 (p := fun m => p m || inL (l.take k) m) (q := fun m => p m || inL (l.take (k + 1)) m) (n := n) (by omega) hq2
   have hwl := fun i => qo0 (fun m => p m || inL (l.take k) m) i
   have hd2 : (n : Int).tmod 64 = ((n % 64 : Nat) : Int) := rfl
   have hr64 : n % 64 < 64 := Nat.mod_lt _ (by decide)
   have hp64 : 2 ^ (n % 64) < 2 ^ 64 := Nat.pow_lt_pow_right (by decide) hr64
   have hsh := xee9 (n % 64) hr64
   have hor := fun i => kM0 (wP (fun m => p m || inL (l.take k) m) i) (2 ^ (n % 64)) (hwl i) hp64
   have hq4 : n / 64 = 0 ∨ n / 64 = 1 ∨ n / 64 = 2 ∨ n / 64 = 3 := by omega
   have hd0 : (n : Int).tdiv 64 = ((n / 64 : Nat) : Int) := rfl
   clear htk hr e1
   have e1 := kc0 l k hltk
   rw [hn] at e1
   have hsL : setL (fun m => p m || inL (l.take k) m) = [.int .u64 (wP (fun m => p m || inL (l.take k) m) 0 : Nat), .int .u64 (wP (fun m => p m || inL (l.take k) m) 1 : Nat), .int .u64 (wP (fun m => p m || inL (l.take k) m) 2 : Nat), .int .u64 (wP (fun m => p m || inL (l.take k) m) 3 : Nat)] := rfl
   have hshE : IntKind.u64.wrap (1 * 2 ^ min ((n : Int) % 64).toNat IntKind.u64.bits) = ((2 ^ (n % 64) : Nat) : Int) := hsh
   rw [hsL]
   rcases hq4 with h4|h4|h4|h4
   ·have hdq : (n : Int).tdiv 64 = 0 := by rw [hd0, h4]; rfl
    simp only [h4, Nat.reduceEqDiff, ↓reduceIte, reduceIte] at hput
    repeat' (first|refine nav ?_|(refine g0_ ?_; refine goD ?_)|(with_reducible refine gG ?_ ?_)|((with_reducible refine And.intro (fun h => ?_) (fun h => ?_)) <;> try (exfalso; omega))|(with_reducible refine andG ?_)|fail|simp (disch := (first|exact za0|fail)) only [push_cast, simprocAttr, b0, b6, b7, b8, e1, hil, hget, hset, hdq, hd2, Int.reduceToNat])
    refine xa0 (l.length - (k + 1)) (by omega) (by first|exact xb0|fail) ⟨k + 1, by omega, rfl, ?_, ?_⟩
    ·rw [hput, hshE, hor]
    ·simp (disch := (first|exact za0|fail)) only [push_cast, simprocAttr, b0, b6, b7, b8, e1, hil, hget, hset, hdq, hd2, Int.reduceToNat]
   ·have hdq : (n : Int).tdiv 64 = 1 := by rw [hd0, h4]; rfl
    simp only [h4, Nat.reduceEqDiff, ↓reduceIte, reduceIte] at hput
    repeat' (first|refine nav ?_|(refine g0_ ?_; refine goD ?_)|(with_reducible refine gG ?_ ?_)|((with_reducible refine And.intro (fun h => ?_) (fun h => ?_)) <;> try (exfalso; omega))|(with_reducible refine andG ?_)|fail|simp (disch := (first|exact za0|fail)) only [push_cast, simprocAttr, b0, b6, b7, b8, e1, hil, hget, hset, hdq, hd2, Int.reduceToNat])
    refine xa0 (l.length - (k + 1)) (by omega) (by first|exact xb0|fail) ⟨k + 1, by omega, rfl, ?_, ?_⟩
    ·rw [hput, hshE, hor]
    ·simp (disch := (first|exact za0|fail)) only [push_cast, simprocAttr, b0, b6, b7, b8, e1, hil, hget, hset, hdq, hd2, Int.reduceToNat]
   ·have hdq : (n : Int).tdiv 64 = 2 := by rw [hd0, h4]; rfl
    simp only [h4, Nat.reduceEqDiff, ↓reduceIte, reduceIte] at hput
    repeat' (first|refine nav ?_|(refine g0_ ?_; refine goD ?_)|(with_reducible refine gG ?_ ?_)|((with_reducible refine And.intro (fun h => ?_) (fun h => ?_)) <;> try (exfalso; omega))|(with_reducible refine andG ?_)|fail|simp (disch := (first|exact za0|fail)) only [push_cast, simprocAttr, b0, b6, b7, b8, e1, hil, hget, hset, hdq, hd2, Int.reduceToNat])
    refine xa0 (l.length - (k + 1)) (by omega) (by first|exact xb0|fail) ⟨k + 1, by omega, rfl, ?_, ?_⟩
    ·rw [hput, hshE, hor]
    ·simp (disch := (first|exact za0|fail)) only [push_cast, simprocAttr, b0, b6, b7, b8, e1, hil, hget, hset, hdq, hd2, Int.reduceToNat]
   ·have hdq : (n : Int).tdiv 64 = 3 := by rw [hd0, h4]; rfl
    simp only [h4, Nat.reduceEqDiff, ↓reduceIte, reduceIte] at hput
    repeat' (first|refine nav ?_|(refine g0_ ?_; refine goD ?_)|(with_reducible refine gG ?_ ?_)|((with_reducible refine And.intro (fun h => ?_) (fun h => ?_)) <;> try (exfalso; omega))|(with_reducible refine andG ?_)|fail|simp (disch := (first|exact za0|fail)) only [push_cast, simprocAttr, b0, b6, b7, b8, e1, hil, hget, hset, hdq, hd2, Int.reduceToNat])
    refine xa0 (l.length - (k + 1)) (by omega) (by first|exact xb0|fail) ⟨k + 1, by omega, rfl, ?_, ?_⟩
    ·rw [hput, hshE, hor]
    ·simp (disch := (first|exact za0|fail)) only [push_cast, simprocAttr, b0, b6, b7, b8, e1, hil, hget, hset, hdq, hd2, Int.reduceToNat]
  ·obtain rfl : k = l.length := by omega
   rw [List.take_of_length_le (Nat.le_refl _)]
   repeat' (first|refine nav ?_|(refine g0_ ?_; refine goD ?_)|(with_reducible refine gG ?_ ?_)|((with_reducible refine And.intro (fun h => ?_) (fun h => ?_)) <;> try (exfalso; omega))|(with_reducible refine andG ?_)|fail|simp (disch := (first|exact za0|fail)) only [push_cast, simprocAttr, b0, b6, b7, b8])
end Go.Proofs
