import Derived.Test.YtcoakjnmnommpaaDoorA1
namespace Go.Proofs
open Go Go.V
set_option linter.unusedVariables false
set_option linter.unusedSimpArgs false
set_option maxHeartbeats 0
theorem kb0 (l : List RC) : (rowsV l).length = l.length := by simp [rowsV]
theorem vy0 (l : List RC) (s : Nat) (h : s < l.length) : (rowsV l).getD s [] = rowV (l.getD s ([], none)) := by simp [rowsV, h]
theorem vac9 (r : RC) : (rowV r).length = r.1.length := by simp [rowV]
theorem vO0 (r : RC) (a : Nat) (h : a < r.1.length) : (rowV r).getD a [] = (r.1.getD a ([], none)).1 := by simp [rowV, h]
theorem cN3 {sym : Int} {l : List RC} {st ac : List Int} (h : 16 < sym ∨ 256 < l.length) : xp0 sym (rowsV l) st ac = 3 := by
 rw [xp0, if_pos (by rw [kb0]; exact h)]
theorem cN1 {sym : Int} {l : List RC} {st ac : List Int} (h : ¬ (16 < sym ∨ 256 < l.length)) (h2 : sym < 1 ∨ xf0 st l.length = false ∨ xf0 ac l.length = false) : xp0 sym (rowsV l) st ac = 1 := by
 rw [xp0, if_neg (by rw [kb0]; exact h), if_pos]
 rw [kb0]
 rcases h2 with q|q|q
 ·exact .inl q
 ·exact .inr (.inl q)
 ·exact .inr (.inr (.inl q))
theorem cN1r {sym : Int} {l : List RC} {st ac : List Int} (h : ¬ (16 < sym ∨ 256 < l.length)) {s : Nat} (hs : s < l.length) (h2 : vA0 sym l.length (rowV (l.getD s ([], none))) = false) : xp0 sym (rowsV l) st ac = 1 := by
 rw [xp0, if_neg (by rw [kb0]; exact h), if_pos]
 rw [kb0]
 refine .inr (.inr (.inr ?_))
 rw [List.all_eq_false]
 refine ⟨_, kd0 (d := []) (i := s) (by rw [kb0]; exact hs), ?_⟩
 rw [vy0 l s hs, h2]; decide
theorem cN0 {sym : Int} {l : List RC} {st ac : List Int} (h : ¬ (16 < sym ∨ 256 < l.length)) (h1 : ¬ sym < 1) (h2 : xf0 st l.length = true) (h3 : xf0 ac l.length = true) (h4 : ∀ s, s < l.length → vA0 sym l.length (rowV (l.getD s ([], none))) = true) : xp0 sym (rowsV l) st ac = 0 := by
 rw [xp0, if_neg (by rw [kb0]; exact h), if_neg]
 rw [kb0]
 simp only [not_or, Bool.not_eq_false]
 refine ⟨h1, h2, h3, ?_⟩
 rw [List.all_eq_true]
 intro r hr
 obtain ⟨s, hs, rfl⟩ := List.getElem_of_mem hr
 have hs' : s < l.length := by rw [kb0] at hs; exact hs
 have := h4 s hs'
 rw [← vy0 l s hs', List.getD_eq_getElem?_getD, List.getElem?_eq_getElem hs] at this
 exact this
theorem kcp9 {sym n : Int} {r : RC} (h : (r.1.length : Int) ≠ sym) : vA0 sym n (rowV r) = false := by
 rw [vA0, vac9, decide_eq_false h]; rfl
theorem xcO9 {sym n : Int} {r : RC} {a : Nat} (ha : a < r.1.length) (h : xf0 (r.1.getD a ([], none)).1 n = false) : vA0 sym n (rowV r) = false := by
 rw [vA0]
 have : (rowV r).all (fun l => xf0 l n) = false := by
  rw [List.all_eq_false]
  exact ⟨_, kd0 (d := []) (i := a) (by rw [vac9]; exact ha), by rw [vO0 r a ha, h]; decide⟩
 rw [this, Bool.and_false]
theorem qcq9 {sym n : Int} {r : RC} (h : (r.1.length : Int) = sym) (h2 : ∀ a, a < r.1.length → xf0 (r.1.getD a ([], none)).1 n = true) : vA0 sym n (rowV r) = true := by
 rw [vA0, vac9, decide_eq_true h, Bool.true_and, List.all_eq_true]
 intro l hl
 obtain ⟨a, ha, rfl⟩ := List.getElem_of_mem hl
 have ha' : a < r.1.length := by rw [vac9] at ha; exact ha
 have := h2 a ha'
 rw [← vO0 r a ha', List.getD_eq_getElem?_getD, List.getElem?_eq_getElem ha] at this
 exact this
set_option maxRecDepth 100000 in
theorem kbT9 (sym : Int) (zr : Nat) (l : List RC) (c : Option Nat) (zs : Nat) (st : List Int) (cs : Option Nat) (za : Nat) (ac : List Int) (ca : Option Nat) (hzr : l = [] ∨ zr = 1) (hzs : st = [] ∨ zs = 1) (hza : ac = [] ∨ za = 1)
  (hl : l.length ≤ 140737488355328) (hst : st.length ≤ 140737488355328) (hac : ac.length ≤ 140737488355328) (hr : ∀ s, s < l.length → (l.getD s ([], none)).1.length ≤ 140737488355328) (hi : ∀ s a, s < l.length → a < (l.getD s ([], none)).1.length → ((l.getD s ([], none)).1.getD a ([], none)).1.length ≤ 140737488355328) :
  PC Tryd.prog G0 31 [nA sym zr l c zs st cs za ac ca] (.int .i64 (xp0 sym (rowsV l) st ac)) := by
 have hz := wcp9 sym l.length
 have h62s := vcp9 zs st cs l.length hzs hst
 have h62a := vcp9 za ac ca l.length hza hac
 have hRl := wh0 l
 have hidR : ∀ p, idsE p (kc0 l) = true := fun p => ke0 _ _
 have hidS : ∀ p, idsE p (ints st) = true := fun p => qb0 _ _
 have hidA : ∀ p, idsE p (ints ac) = true := fun p => qb0 _ _
 have hg := fun s h => zw0 l s h
 unfold nA
 by_cases h16 : 16 < sym ∨ 256 < l.length
 ·rw [cN3 h16]
  rw [if_pos (by omega)] at hz
  generalize kc0 l = RN at *
  refine wd0 0 60 [.tmp 2] Tryd.func31 rfl rfl rfl (by simp) ?_
  intro s ⟨a0, hz⟩
  clear hz
  repeat' (first|refine nav ?_|(refine g0_ ?_; refine goD ?_)|(with_reducible refine gG ?_ ?_)|((with_reducible refine And.intro (fun h => ?_) (fun h => ?_)) <;> try (exfalso; omega))|(with_reducible refine andG ?_)|(refine And.intro ⟨[_], rfl⟩ ?_)|(refine And.intro ⟨[], by simp only [List.append_nil]⟩ ?_)|(first|(refine ⟨_, _, pc_lift (hz) (by (simp [idsL, idsE, AV.ids, hidR, hidS, hidA])) _, ?_⟩)|(refine ⟨_, pc_lift (hz) (by (simp [idsL, idsE, AV.ids, hidR, hidS, hidA])) _, ?_⟩)|(refine ⟨_, fun _ => pc_lift (hz) (by (simp [idsL, idsE, AV.ids, hidR, hidS, hidA])) _, ?_⟩))|simp (disch := (first|exact discB|fail)) only [push_cast, ↓reduceIte, reduceCtorEq, Nat.reduceAdd, Nat.reduceLT, Nat.reduceEqDiff, Nat.reduceLeDiff, Int.reduceAdd, Int.reduceLT, Int.reduceLE, Nat.reduceMul, a0, hRl])
 ·rw [if_neg (by omega)] at hz
  by_cases hb : sym < 1 ∨ xf0 st l.length = false ∨ xf0 ac l.length = false
  ·rw [cN1 h16 hb]
   generalize kc0 l = RN at *
   by_cases h1 : sym < 1
   ·skip
    refine wd0 0 60 [.tmp 2] Tryd.func31 rfl rfl rfl (by simp) ?_
    intro s ⟨a0, hz⟩
    clear hz
    repeat' (first|refine nav ?_|(refine g0_ ?_; refine goD ?_)|(with_reducible refine gG ?_ ?_)|((with_reducible refine And.intro (fun h => ?_) (fun h => ?_)) <;> try (exfalso; omega))|(with_reducible refine andG ?_)|(refine And.intro ⟨[_], rfl⟩ ?_)|(refine And.intro ⟨[], by simp only [List.append_nil]⟩ ?_)|(first|(refine ⟨_, _, pc_lift (hz) (by (simp [idsL, idsE, AV.ids, hidR, hidS, hidA])) _, ?_⟩)|(refine ⟨_, pc_lift (hz) (by (simp [idsL, idsE, AV.ids, hidR, hidS, hidA])) _, ?_⟩)|(refine ⟨_, fun _ => pc_lift (hz) (by (simp [idsL, idsE, AV.ids, hidR, hidS, hidA])) _, ?_⟩)|(refine ⟨AV.bool true, ?_⟩; refine qau9 ?_))|simp (disch := (first|exact discB|fail)) only [push_cast, ↓reduceIte, reduceCtorEq, Nat.reduceAdd, Nat.reduceLT, Nat.reduceEqDiff, Nat.reduceLeDiff, Int.reduceAdd, Int.reduceLT, Int.reduceLE, Nat.reduceMul, a0, hRl, h1])
   ·cases h2 : xf0 st l.length with
    | false =>
     rw [h2] at h62s
     refine wd0 0 60 [.tmp 2] Tryd.func31 rfl rfl rfl (by simp) ?_
     intro s ⟨a0, hz⟩
     clear hz
     repeat' (first|refine nav ?_|(refine g0_ ?_; refine goD ?_)|(with_reducible refine gG ?_ ?_)|((with_reducible refine And.intro (fun h => ?_) (fun h => ?_)) <;> try (exfalso; omega))|(with_reducible refine andG ?_)|(refine And.intro ⟨[_], rfl⟩ ?_)|(refine And.intro ⟨[], by simp only [List.append_nil]⟩ ?_)|(first|(refine ⟨_, _, pc_lift (hz) (by (simp [idsL, idsE, AV.ids, hidR, hidS, hidA])) _, ?_⟩)|(refine ⟨_, pc_lift (hz) (by (simp [idsL, idsE, AV.ids, hidR, hidS, hidA])) _, ?_⟩)|(refine ⟨_, fun _ => pc_lift (hz) (by (simp [idsL, idsE, AV.ids, hidR, hidS, hidA])) _, ?_⟩)|(refine ⟨_, _, pc_lift (h62s) (by (simp [idsL, idsE, AV.ids, hidR, hidS, hidA])) _, ?_⟩)|(refine ⟨_, pc_lift (h62s) (by (simp [idsL, idsE, AV.ids, hidR, hidS, hidA])) _, ?_⟩)|(refine ⟨_, fun _ => pc_lift (h62s) (by (simp [idsL, idsE, AV.ids, hidR, hidS, hidA])) _, ?_⟩)|(refine ⟨AV.bool true, ?_⟩; refine qau9 ?_))|simp (disch := (first|exact discB|fail)) only [push_cast, ↓reduceIte, reduceCtorEq, Nat.reduceAdd, Nat.reduceLT, Nat.reduceEqDiff, Nat.reduceLeDiff, Int.reduceAdd, Int.reduceLT, Int.reduceLE, Nat.reduceMul, a0, hRl, h1])
    | true =>
     rw [h2] at h62s
     have h3 : xf0 ac l.length = false := by rcases hb with q|q|q; exact absurd q h1; rw [h2] at q; cases q; exact q
     rw [h3] at h62a
     refine wd0 0 60 [.tmp 2] Tryd.func31 rfl rfl rfl (by simp) ?_
     intro s ⟨a0, hz⟩
     clear hz
     repeat' (first|refine nav ?_|(refine g0_ ?_; refine goD ?_)|(with_reducible refine gG ?_ ?_)|((with_reducible refine And.intro (fun h => ?_) (fun h => ?_)) <;> try (exfalso; omega))|(with_reducible refine andG ?_)|(refine And.intro ⟨[_], rfl⟩ ?_)|(refine And.intro ⟨[], by simp only [List.append_nil]⟩ ?_)|(first|(refine ⟨_, _, pc_lift (hz) (by (simp [idsL, idsE, AV.ids, hidR, hidS, hidA])) _, ?_⟩)|(refine ⟨_, pc_lift (hz) (by (simp [idsL, idsE, AV.ids, hidR, hidS, hidA])) _, ?_⟩)|(refine ⟨_, fun _ => pc_lift (hz) (by (simp [idsL, idsE, AV.ids, hidR, hidS, hidA])) _, ?_⟩)|(refine ⟨_, _, pc_lift (h62s) (by (simp [idsL, idsE, AV.ids, hidR, hidS, hidA])) _, ?_⟩)|(refine ⟨_, pc_lift (h62s) (by (simp [idsL, idsE, AV.ids, hidR, hidS, hidA])) _, ?_⟩)|(refine ⟨_, fun _ => pc_lift (h62s) (by (simp [idsL, idsE, AV.ids, hidR, hidS, hidA])) _, ?_⟩)|(refine ⟨_, _, pc_lift (h62a) (by (simp [idsL, idsE, AV.ids, hidR, hidS, hidA])) _, ?_⟩)|(refine ⟨_, pc_lift (h62a) (by (simp [idsL, idsE, AV.ids, hidR, hidS, hidA])) _, ?_⟩)|(refine ⟨_, fun _ => pc_lift (h62a) (by (simp [idsL, idsE, AV.ids, hidR, hidS, hidA])) _, ?_⟩))|simp (disch := (first|exact discB|fail)) only [push_cast, ↓reduceIte, reduceCtorEq, Nat.reduceAdd, Nat.reduceLT, Nat.reduceEqDiff, Nat.reduceLeDiff, Int.reduceAdd, Int.reduceLT, Int.reduceLE, Nat.reduceMul, a0, hRl, h1])
  ·have h1 : ¬ sym < 1 := fun q => hb (.inl q)
   have h2 : xf0 st l.length = true := by cases q : xf0 st l.length; exact absurd (.inr (.inl q)) hb; rfl
   have h3 : xf0 ac l.length = true := by cases q : xf0 ac l.length; exact absurd (.inr (.inr q)) hb; rfl
   rw [h2] at h62s
   rw [h3] at h62a
   have hc1 := fun s hs h => cN1r (st := st) (ac := ac) h16 (s := s) hs h
   have hc0 := cN0 (st := st) (ac := ac) h16 h1 h2 h3
   generalize kc0 l = RN at *
   generalize xp0 sym (rowsV l) st ac = R at *
   refine wd0 0 60 [.tmp 2] Tryd.func31 rfl rfl rfl (by simp) ?_
   intro s ⟨a0, hz⟩
   clear hz
   repeat' (first|refine nav ?_|(refine g0_ ?_; refine goD ?_)|(with_reducible refine gG ?_ ?_)|((with_reducible refine And.intro (fun h => ?_) (fun h => ?_)) <;> try (exfalso; omega))|(with_reducible refine andG ?_)|(refine And.intro ⟨[_], rfl⟩ ?_)|(refine And.intro ⟨[], by simp only [List.append_nil]⟩ ?_)|(first|(refine ⟨_, _, pc_lift (hz) (by (simp [idsL, idsE, AV.ids, hidR, hidS, hidA])) _, ?_⟩)|(refine ⟨_, pc_lift (hz) (by (simp [idsL, idsE, AV.ids, hidR, hidS, hidA])) _, ?_⟩)|(refine ⟨_, fun _ => pc_lift (hz) (by (simp [idsL, idsE, AV.ids, hidR, hidS, hidA])) _, ?_⟩)|(refine ⟨_, _, pc_lift (h62s) (by (simp [idsL, idsE, AV.ids, hidR, hidS, hidA])) _, ?_⟩)|(refine ⟨_, pc_lift (h62s) (by (simp [idsL, idsE, AV.ids, hidR, hidS, hidA])) _, ?_⟩)|(refine ⟨_, fun _ => pc_lift (h62s) (by (simp [idsL, idsE, AV.ids, hidR, hidS, hidA])) _, ?_⟩)|(refine ⟨_, _, pc_lift (h62a) (by (simp [idsL, idsE, AV.ids, hidR, hidS, hidA])) _, ?_⟩)|(refine ⟨_, pc_lift (h62a) (by (simp [idsL, idsE, AV.ids, hidR, hidS, hidA])) _, ?_⟩)|(refine ⟨_, fun _ => pc_lift (h62a) (by (simp [idsL, idsE, AV.ids, hidR, hidS, hidA])) _, ?_⟩))|simp (disch := (first|exact discB|fail)) only [push_cast, ↓reduceIte, reduceCtorEq, Nat.reduceAdd, Nat.reduceLT, Nat.reduceEqDiff, Nat.reduceLeDiff, Int.reduceAdd, Int.reduceLT, Int.reduceLE, Nat.reduceMul, a0, hRl, h1])
   refine go_loop rfl (fun mz s' H' => ∃ k : Nat, k ≤ l.length ∧ mz = l.length - k ∧ H' = [.row 4 28 [[.int .i64 sym, .sl zr RN c, .sl zs (ints st) cs, .sl za (ints ac) ca]]] ∧ s' 1 = .ptr 0 0 0 1 ∧ s' 3 = .int .i64 l.length ∧ s' 37 = .sl zr RN c ∧ s' 38 = .int .i64 l.length ∧ s' 39 = .int .i64 k ∧ (∀ j, j < k → vA0 sym l.length (rowV (l.getD j ([], none))) = true)) (m := l.length) (by first|exact wa0|fail) (Weak.refl _ _) ⟨0, by omega, by omega, rfl, ?_⟩ ?_
   ·refine ⟨?_, ?_, ?_, ?_, ?_, fun j hj => by omega⟩
    all_goals simp (disch := (first|exact discB|fail)) only [push_cast, ↓reduceIte, reduceCtorEq, Nat.reduceAdd, Nat.reduceLT, Nat.reduceEqDiff, Nat.reduceLeDiff, Int.reduceAdd, Int.reduceLT, Int.reduceLE, Nat.reduceMul, a0, hRl, h1]
   ·rintro mz s' H' ⟨k, hk, rfl, rfl, b1, b3, b37, b38, b39, ik⟩
    rcases Nat.lt_or_ge k l.length with hlt|hge
    ·obtain rfl := hzr.resolve_left (by intro h; rw [h] at hlt; simp at hlt)
     have e1 := hg k hlt
     have hc1 := hc1 k hlt
     have hsn := wV0 (P := fun j => vA0 sym l.length (rowV (l.getD j ([], none))) = true) (k := k) ik
     have hrk := hr k hlt
     have hik := fun a => hi k a hlt
     generalize l.getD k ([], none) = r at *
     have hrl := wb0 r.1
     have hidr : ∀ p, idsE p (rowL r.1) = true := fun p => qc0 _ _
     have e2 := fun a h => xg0 r.1 a h
     unfold rC at e1
     by_cases hrs : (r.1.length : Int) = sym
     ·skip
      repeat' (first|refine nav ?_|(refine g0_ ?_; refine goD ?_)|(with_reducible refine gG ?_ ?_)|((with_reducible refine And.intro (fun h => ?_) (fun h => ?_)) <;> try (exfalso; omega))|(with_reducible refine andG ?_)|(refine And.intro ⟨[_], rfl⟩ ?_)|(refine And.intro ⟨[], by simp only [List.append_nil]⟩ ?_)|(first|(refine ⟨_, _, pc_lift (hz) (by (simp [idsL, idsE, AV.ids, hidR, hidS, hidA])) _, ?_⟩)|(refine ⟨_, pc_lift (hz) (by (simp [idsL, idsE, AV.ids, hidR, hidS, hidA])) _, ?_⟩)|(refine ⟨_, fun _ => pc_lift (hz) (by (simp [idsL, idsE, AV.ids, hidR, hidS, hidA])) _, ?_⟩)|(refine ⟨_, _, pc_lift (h62s) (by (simp [idsL, idsE, AV.ids, hidR, hidS, hidA])) _, ?_⟩)|(refine ⟨_, pc_lift (h62s) (by (simp [idsL, idsE, AV.ids, hidR, hidS, hidA])) _, ?_⟩)|(refine ⟨_, fun _ => pc_lift (h62s) (by (simp [idsL, idsE, AV.ids, hidR, hidS, hidA])) _, ?_⟩)|(refine ⟨_, _, pc_lift (h62a) (by (simp [idsL, idsE, AV.ids, hidR, hidS, hidA])) _, ?_⟩)|(refine ⟨_, pc_lift (h62a) (by (simp [idsL, idsE, AV.ids, hidR, hidS, hidA])) _, ?_⟩)|(refine ⟨_, fun _ => pc_lift (h62a) (by (simp [idsL, idsE, AV.ids, hidR, hidS, hidA])) _, ?_⟩))|simp (disch := (first|exact discB|fail)) only [push_cast, ↓reduceIte, reduceCtorEq, Nat.reduceAdd, Nat.reduceLT, Nat.reduceEqDiff, Nat.reduceLeDiff, Int.reduceAdd, Int.reduceLT, Int.reduceLE, Nat.reduceMul, b1, b3, b37, b38, b39, e1, hrl, hrs])
      refine go_loop rfl (fun mz s' H' => ∃ a : Nat, a ≤ r.1.length ∧ mz = r.1.length - a ∧ H' = [.row 4 28 [[.int .i64 sym, .sl 1 RN c, .sl zs (ints st) cs, .sl za (ints ac) ca]]] ∧ s' 1 = .ptr 0 0 0 1 ∧ s' 3 = .int .i64 l.length ∧ s' 37 = .sl 1 RN c ∧ s' 38 = .int .i64 l.length ∧ s' 39 = .int .i64 k ∧ s' 48 = .sl 1 (rowL r.1) r.2 ∧ s' 49 = .int .i64 r.1.length ∧ s' 50 = .int .i64 a ∧ (∀ j, j < a → xf0 (r.1.getD j ([], none)).1 l.length = true)) (m := r.1.length) (by first|exact wa0|fail) (Weak.refl _ _) ⟨0, by omega, by omega, rfl, ?_⟩ ?_
      ·refine ⟨?_, ?_, ?_, ?_, ?_, ?_, ?_, ?_, fun j hj => by omega⟩
       all_goals simp (disch := (first|exact discB|fail)) only [push_cast, ↓reduceIte, reduceCtorEq, Nat.reduceAdd, Nat.reduceLT, Nat.reduceEqDiff, Nat.reduceLeDiff, Int.reduceAdd, Int.reduceLT, Int.reduceLE, Nat.reduceMul, b1, b3, b37, b38, b39, e1, hrl, hrs]
      ·rintro mz s' H' ⟨a, ha, rfl, rfl, b1, b3, b37, b38, b39, b48, b49, b50, ia⟩
       rcases Nat.lt_or_ge a r.1.length with hla|hga
       ·have e3 := e2 a hla
        have hno := hc1
        have hsa := wV0 (P := fun j => xf0 (r.1.getD j ([], none)).1 l.length = true) (k := a) ia
        have hrn := xcO9 (sym := sym) (n := l.length) (r := r) hla
        have hia := hik a hla
        have h62 := fun h => vcp9 1 (r.1.getD a ([], none)).1 (r.1.getD a ([], none)).2 l.length (.inr rfl) h
        have h62 := h62 hia
        generalize r.1.getD a ([], none) = x at *
        unfold lC at e3
        have hidx : ∀ p, idsE p (ints x.1) = true := fun p => qb0 _ _
        cases hx : xf0 x.1 l.length with
        | true =>
         rw [hx] at h62
         have hsa := hsa hx
         repeat' (first|refine nav ?_|(refine g0_ ?_; refine goD ?_)|(with_reducible refine gG ?_ ?_)|((with_reducible refine And.intro (fun h => ?_) (fun h => ?_)) <;> try (exfalso; omega))|(with_reducible refine andG ?_)|(refine And.intro ⟨[_], rfl⟩ ?_)|(refine And.intro ⟨[], by simp only [List.append_nil]⟩ ?_)|(first|(refine ⟨_, _, pc_lift (h62) (by (simp [idsL, idsE, AV.ids, hidR, hidS, hidA])) _, ?_⟩)|(refine ⟨_, pc_lift (h62) (by (simp [idsL, idsE, AV.ids, hidR, hidS, hidA])) _, ?_⟩)|(refine ⟨_, fun _ => pc_lift (h62) (by (simp [idsL, idsE, AV.ids, hidR, hidS, hidA])) _, ?_⟩))|simp (disch := (first|exact discB|fail)) only [push_cast, ↓reduceIte, reduceCtorEq, Nat.reduceAdd, Nat.reduceLT, Nat.reduceEqDiff, Nat.reduceLeDiff, Int.reduceAdd, Int.reduceLT, Int.reduceLE, Nat.reduceMul, b1, b3, b37, b38, b39, b48, b49, b50, e3, hrl])
         refine qa0 (r.1.length - (a + 1)) (by omega) (by first|exact wa0|fail) ⟨a + 1, by omega, rfl, rfl, ?_, ?_, ?_, ?_, ?_, ?_, ?_, ?_, hsa⟩
         all_goals simp (disch := (first|exact discB|fail)) only [push_cast, ↓reduceIte, reduceCtorEq, Nat.reduceAdd, Nat.reduceLT, Nat.reduceEqDiff, Nat.reduceLeDiff, Int.reduceAdd, Int.reduceLT, Int.reduceLE, Nat.reduceMul, b1, b3, b37, b38, b39, b48, b49, b50, e3, hrl]
        | false =>
         rw [hx] at h62
         rw [hc1 (hrn hx)]
         repeat' (first|refine nav ?_|(refine g0_ ?_; refine goD ?_)|(with_reducible refine gG ?_ ?_)|((with_reducible refine And.intro (fun h => ?_) (fun h => ?_)) <;> try (exfalso; omega))|(with_reducible refine andG ?_)|(refine And.intro ⟨[_], rfl⟩ ?_)|(refine And.intro ⟨[], by simp only [List.append_nil]⟩ ?_)|(first|(refine ⟨_, _, pc_lift (h62) (by (simp [idsL, idsE, AV.ids, hidR, hidS, hidA])) _, ?_⟩)|(refine ⟨_, pc_lift (h62) (by (simp [idsL, idsE, AV.ids, hidR, hidS, hidA])) _, ?_⟩)|(refine ⟨_, fun _ => pc_lift (h62) (by (simp [idsL, idsE, AV.ids, hidR, hidS, hidA])) _, ?_⟩))|simp (disch := (first|exact discB|fail)) only [push_cast, ↓reduceIte, reduceCtorEq, Nat.reduceAdd, Nat.reduceLT, Nat.reduceEqDiff, Nat.reduceLeDiff, Int.reduceAdd, Int.reduceLT, Int.reduceLE, Nat.reduceMul, b1, b3, b37, b38, b39, b48, b49, b50, e3, hrl])
       ·obtain rfl : a = r.1.length := by omega
        have hsn := hsn (qcq9 hrs ia)
        repeat' (first|refine nav ?_|(refine g0_ ?_; refine goD ?_)|(with_reducible refine gG ?_ ?_)|((with_reducible refine And.intro (fun h => ?_) (fun h => ?_)) <;> try (exfalso; omega))|(with_reducible refine andG ?_)|(refine And.intro ⟨[_], rfl⟩ ?_)|(refine And.intro ⟨[], by simp only [List.append_nil]⟩ ?_)|fail|simp (disch := (first|exact discB|fail)) only [push_cast, ↓reduceIte, reduceCtorEq, Nat.reduceAdd, Nat.reduceLT, Nat.reduceEqDiff, Nat.reduceLeDiff, Int.reduceAdd, Int.reduceLT, Int.reduceLE, Nat.reduceMul, b1, b3, b37, b38, b39, b48, b49, b50, hrl])
        refine qa0 (l.length - (k + 1)) (by omega) (by first|exact wa0|fail) ⟨k + 1, by omega, rfl, rfl, ?_, ?_, ?_, ?_, ?_, hsn⟩
        all_goals simp (disch := (first|exact discB|fail)) only [push_cast, ↓reduceIte, reduceCtorEq, Nat.reduceAdd, Nat.reduceLT, Nat.reduceEqDiff, Nat.reduceLeDiff, Int.reduceAdd, Int.reduceLT, Int.reduceLE, Nat.reduceMul, b1, b3, b37, b38, b39, b48, b49, b50, hrl]
     ·rw [hc1 (kcp9 hrs)]
      repeat' (first|refine nav ?_|(refine g0_ ?_; refine goD ?_)|(with_reducible refine gG ?_ ?_)|((with_reducible refine And.intro (fun h => ?_) (fun h => ?_)) <;> try (exfalso; omega))|(with_reducible refine andG ?_)|(refine And.intro ⟨[_], rfl⟩ ?_)|(refine And.intro ⟨[], by simp only [List.append_nil]⟩ ?_)|fail|simp (disch := (first|exact discB|fail)) only [push_cast, ↓reduceIte, reduceCtorEq, Nat.reduceAdd, Nat.reduceLT, Nat.reduceEqDiff, Nat.reduceLeDiff, Int.reduceAdd, Int.reduceLT, Int.reduceLE, Nat.reduceMul, b1, b3, b37, b38, b39, e1, hrl, hrs])
    ·obtain rfl : k = l.length := by omega
     rw [hc0 ik]
     repeat' (first|refine nav ?_|(refine g0_ ?_; refine goD ?_)|(with_reducible refine gG ?_ ?_)|((with_reducible refine And.intro (fun h => ?_) (fun h => ?_)) <;> try (exfalso; omega))|(with_reducible refine andG ?_)|(refine And.intro ⟨[_], rfl⟩ ?_)|(refine And.intro ⟨[], by simp only [List.append_nil]⟩ ?_)|fail|simp (disch := (first|exact discB|fail)) only [push_cast, ↓reduceIte, reduceCtorEq, Nat.reduceAdd, Nat.reduceLT, Nat.reduceEqDiff, Nat.reduceLeDiff, Int.reduceAdd, Int.reduceLT, Int.reduceLE, Nat.reduceMul, b1, b3, b37, b38, b39])
end Go.Proofs
