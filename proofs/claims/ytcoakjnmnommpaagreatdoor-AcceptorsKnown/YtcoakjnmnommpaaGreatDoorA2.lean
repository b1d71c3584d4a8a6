import Derived.Test.YtcoakjnmnommpaaGreatDoorAT
import Derived.Test.YtcoakjnmnommpaaGreatDoorV33
import Derived.Test.YtcoakjnmnommpaaGreatDoorV51
import Derived.Test.YtcoakjnmnommpaaGreatDoorV70
import Derived.Test.YtcoakjnmnommpaaGreatDoorAR3
import Derived.Shelf.Spec.TrailingZeros
namespace Go.Proofs
open Go Go.V
set_option linter.unusedVariables false
set_option linter.unusedSimpArgs false
def tzG : List AV := Lib.deBruijn64tab.map fun v => .int .u8 (v : Nat)
def G0 : Glob := fun g => match g with|0 => some tzG|1 => some qdz9|2 => some [.anyi .i64]|3 => some [.err]|4 => some [.err]|_ => none
def ints (xs : List Int) : List (List AV) := xs.map fun x => [.int .i64 x]
abbrev LC := List Int × Option Nat
def lC (x : LC) : List AV := [.sl 1 (ints x.1) x.2]
def rowL (r : List LC) : List (List AV) := r.map lC
abbrev RC := List LC × Option Nat
def rC (r : RC) : List AV := [.sl 1 (rowL r.1) r.2]
def xe0 (l : List RC) : List (List AV) := l.map rC
def qb0 (l : List Bool) : List (List AV) := l.map fun b => [.bool b]
theorem xa0 (xs : List Int) : (ints xs).length = xs.length := by simp [ints]
theorem zb0 (r : List LC) : (rowL r).length = r.length := by simp [rowL]
theorem vh0 (l : List RC) : (xe0 l).length = l.length := by simp [xe0]
theorem zc0 (l : List Bool) : (qb0 l).length = l.length := by simp [qb0]
theorem xc0 (xs : List Int) (k : Nat) (h : k < xs.length) : (ints xs).getD k [] = [.int .i64 (xs.getD k 0)] := by simp [ints, h]
theorem xg0 (r : List LC) (k : Nat) (h : k < r.length) : (rowL r).getD k [] = lC (r.getD k ([], none)) := by simp [rowL, h]
theorem qq0 (l : List RC) (k : Nat) (h : k < l.length) : (xe0 l).getD k [] = rC (l.getD k ([], none)) := by simp [xe0, h]
theorem ql0 (l : List Bool) (k : Nat) (h : k < l.length) : (qb0 l).getD k [] = [.bool (l.getD k false)] := by simp [qb0, h]
theorem wa0 (p : Nat → Bool) (xs : List Int) : idsE p (ints xs) = true := xA0 _ _ fun x => by simp [idsL, AV.ids]
theorem vc0 (p : Nat → Bool) (r : List LC) : idsE p (rowL r) = true := xA0 _ _ fun x => by simp [lC, idsL, AV.ids, wa0]
theorem ze0 (p : Nat → Bool) (l : List RC) : idsE p (xe0 l) = true := xA0 _ _ fun x => by simp [rC, idsL, AV.ids, vc0]
theorem zd0 (p : Nat → Bool) (l : List Bool) : idsE p (qb0 l) = true := xA0 _ _ fun x => by simp [idsL, AV.ids]
theorem qaL9 (p : Nat → Bool) (a b : List (List AV)) : idsE p (a ++ b) = (idsE p a && idsE p b) := by
 induction a with
 | nil => simp [idsE]
 | cons x xs ih => simp [idsE, ih, Bool.and_assoc]
theorem zu0 : ints [] = [] := rfl
theorem xdl9 : rowL [] = [] := rfl
theorem kcH9 : xe0 [] = [] := rfl
theorem zy0 (xs : List Int) (x : Int) : ints xs ++ [[.int .i64 x]] = ints (xs ++ [x]) := by simp [ints]
theorem qby9 (r : List LC) (x : LC) : rowL r ++ [lC x] = rowL (r ++ [x]) := by simp [rowL]
theorem wcl9 (l : List RC) (x : RC) : xe0 l ++ [rC x] = xe0 (l ++ [x]) := by simp [xe0]
theorem vcl9 (l : List Bool) (b : Bool) : qb0 l ++ [[.bool b]] = qb0 (l ++ [b]) := by simp [qb0]
theorem xbj9 (xs : List Int) (k : Nat) (v : Int) : (ints xs).set k [.int .i64 v] = ints (xs.set k v) := by rw [ints, ints, List.map_set]
theorem zby9 (l : List Bool) (k : Nat) (b : Bool) : (qb0 l).set k [.bool b] = qb0 (l.set k b) := by rw [qb0, qb0, List.map_set]
theorem wbj9 (n : Nat) (b : Int) : List.replicate n [AV.int .i64 b] = ints (List.replicate n b) := by simp [ints]
theorem qcI9 (n : Nat) (b : Bool) : List.replicate n [AV.bool b] = qb0 (List.replicate n b) := by simp [qb0]
theorem zw0 {p : Nat → Bool} {es : List (List AV)} (h : idsE p es = true) : (es.all fun e => e.all fun x => AV.ids p x) = true := by
 have hl : ∀ e : List AV, idsL p e = true → (e.all fun x => AV.ids p x) = true := fun e => by
  induction e with
  | nil => intro _; rfl
  | cons x xs ih => intro h; rw [idsL, l'a] at h; rw [List.all_cons, h.1, ih h.2]; rfl
 induction es with
 | nil => rfl
 | cons e es ih => rw [idsE, l'a] at h; rw [List.all_cons, hl e h.1, ih h.2]; rfl
theorem wdl9 (p : Nat → Bool) (xs : List Int) : ((ints xs).all fun e => e.all fun x => AV.ids p x) = true := zw0 (wa0 p xs)
theorem vdl9 (p : Nat → Bool) (r : List LC) : ((rowL r).all fun e => e.all fun x => AV.ids p x) = true := zw0 (vc0 p r)
theorem zcI9 (p : Nat → Bool) (l : List RC) : ((xe0 l).all fun e => e.all fun x => AV.ids p x) = true := zw0 (ze0 p l)
theorem xcI9 (p : Nat → Bool) (l : List Bool) : ((qb0 l).all fun e => e.all fun x => AV.ids p x) = true := zw0 (zd0 p l)
theorem qR0 (n : Int) (h1 : -9223372036854775808 ≤ n) (h2 : n < 9223372036854775808) : IntKind.i64.wrap n = n := by rw [IntKind.wrap_i64]; omega
theorem kaf9 {P : Nat → Prop} {k : Nat} (h : ∀ j, j < k → P j) (hk : P k) : ∀ j, j < k + 1 → P j := fun j hj => by
 rcases l'i j k with q|q
 ·exact h j q
 ·obtain rfl : j = k := by omega
  exact hk
theorem xm0 {α β : Type} (f : α → β) (l : List α) (d : α) (k : Nat) (h : k < l.length) : (l.take (k + 1)).map f = (l.take k).map f ++ [f (l.getD k d)] := by
 rw [n'b h, z'g]; simp [h]
theorem xd0 {α : Type} (l : List α) (d : α) (k : Nat) (h : k < l.length) : l.take (k + 1) = l.take k ++ [l.getD k d] := by
 rw [n'b h]; simp [h]
def setL (p : Nat → Bool) : List AV := [.int .u64 (wP p 0 : Nat), .int .u64 (wP p 1 : Nat), .int .u64 (wP p 2 : Nat), .int .u64 (wP p 3 : Nat)]
def rowV (r : RC) : List (List Int) := r.1.map Prod.fst
def rowsV (l : List RC) : List (List (List Int)) := l.map rowV
def nA (sym : Int) (zr : Nat) (l : List RC) (c : Option Nat) (zs : Nat) (st : List Int) (cs : Option Nat) (za : Nat) (ac : List Int) (ca : Option Nat) : AV := .agg [.int .i64 sym, .sl zr (xe0 l) c, .sl zs (ints st) cs, .sl za (ints ac) ca]
def dA (sym : Int) (zr : Nat) (l : List LC) (c : Option Nat) (za : Nat) (ac : List Bool) (ca : Option Nat) : AV := .agg [.int .i64 sym, .sl zr (rowL l) c, .sl za (qb0 ac) ca]
theorem lenS {α : Type} : (∀ (l : List α) (i : Nat) (a : α), (l.set i a).length = l.length) ∧ (∀ l : List α, l.reverse.length = l.length) ∧ (∀ (n : Nat) (a : α), (List.replicate n a).length = n) ∧ (∀ l r : List α, (l ++ r).length = l.length + r.length) ∧ (∀ (a : α) (l : List α), (a :: l).length = l.length + 1) ∧ (([] : List α).length = 0) ∧ (∀ (n : Nat) (l : List α), (l.take n).length = min n l.length) ∧ (∀ (n : Nat) (l : List α), (l.drop n).length = l.length - n) := by
 refine ⟨?_, ?_, ?_, ?_, ?_, ?_, ?_, ?_⟩ <;> intros <;> simp
theorem lenF : (∀ xs, (ints xs).length = xs.length) ∧ (∀ r, (rowL r).length = r.length) ∧ (∀ l, (xe0 l).length = l.length) ∧ (∀ l, (qb0 l).length = l.length) := ⟨xa0, zb0, vh0, zc0⟩
theorem va0 {p : Prop} (h : p := by first|trivial|((repeat' apply And.intro) <;> first|trivial|assumption|omega|(simp only [maxLen]; omega)|(simp only [lenF, lenS, l'w, maxLen] <;> omega))) : p := h
theorem qa0 {p : Prop} (h : p := by first|omega|(simp only [lenF, lenS, l'w]; omega)) : p := h
attribute [simp] wa0 vc0 ze0 zd0 qaL9
attribute [push_cast] wdl9 vdl9 zcI9 xcI9 xa0 zb0 vh0 zc0 qR0 Bool.eq_true_or_eq_false_self Bool.eq_false_or_eq_true_self Bool.not_or_self Bool.or_not_self Bool.and_self Bool.or_self Bool.not_not Bool.and_not_self Bool.not_and_self
attribute [push_cast] ti1 ti2 ti3 ti4 ti5 ti9 ti21 ti25 ti26 ti27 ti29 ti32 ti40 ti44 ti45 ti47 ti66 ti68 et68 ti84 ti85 ti93 ti95 ti97 kes9 qet9 zet9 xet9 wet9 vet9 ket9 qeu9 zeu9 xeu9 weu9 veu9 keu9 qev9 zev9 xev9 wev9 vev9 kev9 qew9 zew9 xew9 wew9 vew9 kew9 qex9 zex9 xex9 wex9 en4 en8 en9 en10 en14 en16 en17 en18 en19 en20 en21 en22 en23 en24 en25 en26 en27 en28 en29 en30 en31 en33 en34 en35 en36 en37 en38 en39 en40 en41 en42 en43 en46 en47 en48 en49 en50 en51 en52 en53 en54 en55 en56 en57 en58 en59 en60 en61 en62 en63 en64 en65 en66 en67 en68 en69 en70 en71 en72 en73 en74 en75 en76 en77 en78 en79 en80 en82 en83 en84 en85 en86 en87 en88 en89 en90 en91 en92 en93 en94 en96 en97 en98 en99 vex9 kex9 qey9 zey9 xey9 wey9 vey9 key9 qez9 zez9 xez9 wez9 vez9 kez9 qeA9 zeA9 xeA9 weA9
set_option maxHeartbeats 0
set_option maxRecDepth 100000 in
theorem wcI9 (a b : Int) : PC Tryz.prog G0 53 [.int .i64 a, .int .i64 b] (.int .i64 (if 16 < a ∨ 256 < b then 3 else 0)) := by
 by_cases h1 : 16 < a
 ·rw [if_pos (.inl h1)];refine qc0 0 11 [.tmp 4] Tryz.func53 rfl rfl rfl (by simp) ?_;intro s ⟨a0, a1, hz⟩;simp only [l'm, Nat.reduceAdd] at a1;clear hz;repeat' (first|refine nv ?_|(with_reducible first|refine gG ?_ ?_|refine ⟨fun h => ?_, fun h => ?_⟩ <;> try omega|refine andG ?_)|simp (disch := try exact qa0) only [push_cast, simprocAttr, a0, a1, h1])
 ·by_cases h2 : 256 < b
  ·rw [if_pos (.inr h2)];refine qc0 0 11 [.tmp 4] Tryz.func53 rfl rfl rfl (by simp) ?_;intro s ⟨a0, a1, hz⟩;simp only [l'm, Nat.reduceAdd] at a1;clear hz;repeat' (first|refine nv ?_|(with_reducible first|refine gG ?_ ?_|refine ⟨fun h => ?_, fun h => ?_⟩ <;> try omega|refine andG ?_)|simp (disch := try exact qa0) only [push_cast, simprocAttr, a0, a1, h1, h2])
  ·rw [if_neg (by omega)];refine qc0 0 11 [.tmp 4] Tryz.func53 rfl rfl rfl (by simp) ?_;intro s ⟨a0, a1, hz⟩;simp only [l'm, Nat.reduceAdd] at a1;clear hz;repeat' (first|refine nv ?_|(with_reducible first|refine gG ?_ ?_|refine ⟨fun h => ?_, fun h => ?_⟩ <;> try omega|refine andG ?_)|simp (disch := try exact qa0) only [push_cast, simprocAttr, a0, a1, h1, h2])
set_option maxRecDepth 100000 in
theorem vcI9 (z : Nat) (l : List Int) (c : Option Nat) (n : Int) (hz : l = [] ∨ z = 1) (hl : l.length ≤ 9223372036854775807) : PC Tryz.prog G0 54 [.sl z (ints l) c, .int .i64 n] (.bool (zf0 l n)) := by
 have hil := xa0 l;refine qc0 0 35 [.tmp 4] Tryz.func54 rfl rfl rfl (by simp) ?_;intro s ⟨a0, a1, hz⟩;simp only [l'm, Nat.reduceAdd] at a1;clear hz;repeat' (first|refine nv ?_|(with_reducible first|refine gG ?_ ?_|refine ⟨fun h => ?_, fun h => ?_⟩ <;> try omega|refine andG ?_)|simp (disch := try exact qa0) only [push_cast, simprocAttr, a0, a1, hil])
 refine go_loop rfl (fun mz s' H' => ∃ k : Nat, k ≤ l.length ∧ mz = l.length - k ∧ H' = [] ∧ s' 0 = .sl z (ints l) c ∧ s' 1 = .int .i64 n ∧ s' 7 = .sl z (ints l) c ∧ s' 8 = .int .i64 l.length ∧ s' 9 = .int .i64 k ∧ (∀ j, j < k → okI l n j = true)) (m := l.length) (by first|exact va0|fail) (Weak.refl _ _) ⟨0, by omega, by omega, rfl, ?_⟩ ?_
 ·refine ⟨?_, ?_, ?_, ?_, ?_, fun j hj => by omega⟩;all_goals simp (disch := try exact qa0) only [push_cast, simprocAttr, a0, a1, hil]
 ·rintro mz s' H' ⟨k, hk, rfl, rfl, b0, b1, b7, b8, b9, ik⟩;rcases l'i k l.length with hlt|hge
  ·obtain rfl := hz.resolve_left (by intro h; rw [h] at hlt; simp at hlt);have e1 := xc0 l k hlt;have e2 := xc0 l (k - 1) (by omega);have hno := kbU9 (n := n) hlt;have hsn := kaf9 (P := fun j => okI l n j = true) (k := k) ik;have hok : okI l n k = (decide (0 ≤ l.getD k 0) && (decide (l.getD k 0 < n) && (decide (k = 0) || decide (l.getD (k - 1) 0 < l.getD k 0)))) := rfl;rw [hok] at hno hsn;generalize l.getD k 0 = x at *;generalize l.getD (k - 1) 0 = y at *;by_cases h1 : x < 0
   ·rw [hno (by rw [decide_eq_false (by omega)]; rfl)];repeat' (first|refine nv ?_|(with_reducible first|refine gG ?_ ?_|refine ⟨fun h => ?_, fun h => ?_⟩ <;> try omega|refine andG ?_)|simp (disch := try exact qa0) only [push_cast, simprocAttr, b0, b1, b7, b8, b9, e1, h1, hil])
   ·by_cases h2 : n ≤ x
    ·rw [hno (by rw [decide_eq_true (by omega), decide_eq_false (by omega)]; rfl)];repeat' (first|refine nv ?_|(with_reducible first|refine gG ?_ ?_|refine ⟨fun h => ?_, fun h => ?_⟩ <;> try omega|refine andG ?_)|simp (disch := try exact qa0) only [push_cast, simprocAttr, b0, b1, b7, b8, b9, e1, h1, h2, hil])
    ·rcases n'G k with rfl|hk0
     ·have h3 := hsn (by simp; omega);repeat' (first|refine nv ?_|(with_reducible first|refine gG ?_ ?_|refine ⟨fun h => ?_, fun h => ?_⟩ <;> try omega|refine andG ?_)|simp (disch := try exact qa0) only [push_cast, simprocAttr, b0, b1, b7, b8, b9, e1, h1, h2, hil])
      refine za0 (l.length - (0 + 1)) (by omega) (by first|exact va0|fail) ⟨0 + 1, by omega, rfl, rfl, ?_, ?_, ?_, ?_, ?_, h3⟩;all_goals simp (disch := try exact qa0) only [push_cast, simprocAttr, b0, b1, b7, b8, b9, e1, h1, h2, hil]
     ·have hj3 : ((k : Int) - 1).toNat = k - 1 := by omega
      have hj4 : 0 ≤ (k : Int) - 1 := by omega
      have hj5 : (k : Int) - 1 < l.length := by omega
      by_cases h3 : x ≤ y
      ·rw [hno (by rw [decide_eq_true (by omega), decide_eq_true (by omega), decide_eq_false (by omega), decide_eq_false (by omega)]; rfl)];repeat' (first|refine nv ?_|(with_reducible first|refine gG ?_ ?_|refine ⟨fun h => ?_, fun h => ?_⟩ <;> try omega|refine andG ?_)|simp (disch := try exact qa0) only [push_cast, simprocAttr, b0, b1, b7, b8, b9, e1, e2, h1, h2, h3, hj3, hj4, hj5, hil, hk0])
      ·have h4 := hsn (by simp; omega);repeat' (first|refine nv ?_|(with_reducible first|refine gG ?_ ?_|refine ⟨fun h => ?_, fun h => ?_⟩ <;> try omega|refine andG ?_)|simp (disch := try exact qa0) only [push_cast, simprocAttr, b0, b1, b7, b8, b9, e1, e2, h1, h2, h3, hj3, hj4, hj5, hil, hk0])
       refine za0 (l.length - (k + 1)) (by omega) (by first|exact va0|fail) ⟨k + 1, by omega, rfl, rfl, ?_, ?_, ?_, ?_, ?_, h4⟩;all_goals simp (disch := try exact qa0) only [push_cast, simprocAttr, b0, b1, b7, b8, b9, e1, e2, h1, h2, h3, hj3, hj4, hj5, hil, hk0]
  ·obtain rfl : k = l.length := by omega
   rw [vaJ9 ik];repeat' (first|refine nv ?_|(with_reducible first|refine gG ?_ ?_|refine ⟨fun h => ?_, fun h => ?_⟩ <;> try omega|refine andG ?_)|simp (disch := try exact qa0) only [push_cast, simprocAttr, b0, b1, b7, b8, b9, hil])
theorem wb0 (l : List RC) : (rowsV l).length = l.length := by simp [rowsV]
theorem qL0 (l : List RC) (s : Nat) (h : s < l.length) : (rowsV l).getD s [] = rowV (l.getD s ([], none)) := by simp [rowsV, h]
theorem vam9 (r : RC) : (rowV r).length = r.1.length := by simp [rowV]
theorem kam9 (r : RC) (a : Nat) (h : a < r.1.length) : (rowV r).getD a [] = (r.1.getD a ([], none)).1 := by simp [rowV, h]
theorem cN3 {sym : Int} {l : List RC} {st ac : List Int} (h : 16 < sym ∨ 256 < l.length) : wh0 sym (rowsV l) st ac = 3 := by
 rw [wh0, if_pos (by rw [wb0]; exact h)]
theorem cN1 {sym : Int} {l : List RC} {st ac : List Int} (h : ¬ (16 < sym ∨ 256 < l.length)) (h2 : sym < 1 ∨ zf0 st l.length = false ∨ zf0 ac l.length = false) : wh0 sym (rowsV l) st ac = 1 := by
 rw [wh0, if_neg (by rw [wb0]; exact h), if_pos];rw [wb0];rcases h2 with q|q|q
 ·exact .inl q
 ·exact .inr (.inl q)
 ·exact .inr (.inr (.inl q))
theorem cN1r {sym : Int} {l : List RC} {st ac : List Int} (h : ¬ (16 < sym ∨ 256 < l.length)) {s : Nat} (hs : s < l.length) (h2 : vG0 sym l.length (rowV (l.getD s ([], none))) = false) : wh0 sym (rowsV l) st ac = 1 := by
 rw [wh0, if_neg (by rw [wb0]; exact h), if_pos];rw [wb0];refine .inr (.inr (.inr ?_));rw [z'i];refine ⟨_, wc0 (d := []) (i := s) (by rw [wb0]; exact hs), ?_⟩;rw [qL0 l s hs, h2]; decide
theorem cN0 {sym : Int} {l : List RC} {st ac : List Int} (h : ¬ (16 < sym ∨ 256 < l.length)) (h1 : ¬ sym < 1) (h2 : zf0 st l.length = true) (h3 : zf0 ac l.length = true) (h4 : ∀ s, s < l.length → vG0 sym l.length (rowV (l.getD s ([], none))) = true) : wh0 sym (rowsV l) st ac = 0 := by
 rw [wh0, if_neg (by rw [wb0]; exact h), if_neg];rw [wb0];simp only [not_or, n'B];refine ⟨h1, h2, h3, ?_⟩;rw [l'j];intro r hr;obtain ⟨s, hs, rfl⟩ := l'G hr;have hs' : s < l.length := by rw [wb0] at hs; exact hs
 have := h4 s hs';rw [← qL0 l s hs', l'b, l'e hs] at this;exact this
theorem xby9 {sym n : Int} {r : RC} (h : (r.1.length : Int) ≠ sym) : vG0 sym n (rowV r) = false := by
 rw [vG0, vam9, decide_eq_false h]; rfl
theorem vbV9 {sym n : Int} {r : RC} {a : Nat} (ha : a < r.1.length) (h : zf0 (r.1.getD a ([], none)).1 n = false) : vG0 sym n (rowV r) = false := by
 rw [vG0];have : (rowV r).all (fun l => zf0 l n) = false := by
  rw [z'i];exact ⟨_, wc0 (d := []) (i := a) (by rw [vam9]; exact ha), by rw [kam9 r a ha, h]; decide⟩
 rw [this, z'q]
theorem wby9 {sym n : Int} {r : RC} (h : (r.1.length : Int) = sym) (h2 : ∀ a, a < r.1.length → zf0 (r.1.getD a ([], none)).1 n = true) : vG0 sym n (rowV r) = true := by
 rw [vG0, vam9, decide_eq_true h, n'o, l'j];intro l hl;obtain ⟨a, ha, rfl⟩ := l'G hl;have ha' : a < r.1.length := by rw [vam9] at ha; exact ha
 have := h2 a ha';rw [← kam9 r a ha', l'b, l'e ha] at this;exact this
set_option maxRecDepth 100000 in
theorem kcl9 (sym : Int) (zr : Nat) (l : List RC) (c : Option Nat) (zs : Nat) (st : List Int) (cs : Option Nat) (za : Nat) (ac : List Int) (ca : Option Nat) (hzr : l = [] ∨ zr = 1) (hzs : st = [] ∨ zs = 1) (hza : ac = [] ∨ za = 1)
  (hl : l.length ≤ 9223372036854775807) (hst : st.length ≤ 9223372036854775807) (hac : ac.length ≤ 9223372036854775807) (hr : ∀ s, s < l.length → (l.getD s ([], none)).1.length ≤ 9223372036854775807) (hi : ∀ s a, s < l.length → a < (l.getD s ([], none)).1.length → ((l.getD s ([], none)).1.getD a ([], none)).1.length ≤ 9223372036854775807) :
  PC Tryz.prog G0 20 [nA sym zr l c zs st cs za ac ca] (.int .i64 (wh0 sym (rowsV l) st ac)) := by
 have hz := wcI9 sym l.length;have h62s := vcI9 zs st cs l.length hzs hst;have h62a := vcI9 za ac ca l.length hza hac;have hRl := vh0 l;have hidR : ∀ p, idsE p (xe0 l) = true := fun p => ze0 _ _;have hidS : ∀ p, idsE p (ints st) = true := fun p => wa0 _ _;have hidA : ∀ p, idsE p (ints ac) = true := fun p => wa0 _ _;have hg := fun s h => qq0 l s h;unfold nA;by_cases h16 : 16 < sym ∨ 256 < l.length
 ·rw [cN3 h16];rw [if_pos (by omega)] at hz;generalize xe0 l = RN at *;refine qc0 0 60 [.tmp 2] Tryz.func20 rfl rfl rfl (by simp) ?_;intro s ⟨a0, hz⟩;clear hz;repeat' (first|refine nv ?_|(with_reducible first|refine gG ?_ ?_|refine ⟨fun h => ?_, fun h => ?_⟩ <;> try omega|refine andG ?_)|refine cp_ hz ?_ (hi := by (simp [idsL, idsE, AV.ids, hidR, hidS, hidA]))|simp (disch := try exact qa0) only [push_cast, simprocAttr, a0, hRl])
 ·rw [if_neg (by omega)] at hz;by_cases hb : sym < 1 ∨ zf0 st l.length = false ∨ zf0 ac l.length = false
  ·rw [cN1 h16 hb];generalize xe0 l = RN at *;by_cases h1 : sym < 1
   ·skip
    refine qc0 0 60 [.tmp 2] Tryz.func20 rfl rfl rfl (by simp) ?_;intro s ⟨a0, hz⟩;clear hz;repeat' (first|refine nv ?_|(with_reducible first|refine gG ?_ ?_|refine ⟨fun h => ?_, fun h => ?_⟩ <;> try omega|refine andG ?_)|refine cp_ hz ?_ (hi := by (simp [idsL, idsE, AV.ids, hidR, hidS, hidA]))|(refine ⟨AV.bool true, ?_⟩; refine wC0 ?_)|simp (disch := try exact qa0) only [push_cast, simprocAttr, a0, hRl, h1])
   ·cases h2 : zf0 st l.length with
    | false =>
     rw [h2] at h62s;refine qc0 0 60 [.tmp 2] Tryz.func20 rfl rfl rfl (by simp) ?_;intro s ⟨a0, hz⟩;clear hz;repeat' (first|refine nv ?_|(with_reducible first|refine gG ?_ ?_|refine ⟨fun h => ?_, fun h => ?_⟩ <;> try omega|refine andG ?_)|refine cp_ hz ?_ (hi := by (simp [idsL, idsE, AV.ids, hidR, hidS, hidA]))|refine cp_ h62s ?_ (hi := by (simp [idsL, idsE, AV.ids, hidR, hidS, hidA]))|(refine ⟨AV.bool true, ?_⟩; refine wC0 ?_)|simp (disch := try exact qa0) only [push_cast, simprocAttr, a0, hRl, h1])
    | true =>
     rw [h2] at h62s;have h3 : zf0 ac l.length = false := by rcases hb with q|q|q; exact absurd q h1; rw [h2] at q; cases q; exact q
     rw [h3] at h62a;refine qc0 0 60 [.tmp 2] Tryz.func20 rfl rfl rfl (by simp) ?_;intro s ⟨a0, hz⟩;clear hz;repeat' (first|refine nv ?_|(with_reducible first|refine gG ?_ ?_|refine ⟨fun h => ?_, fun h => ?_⟩ <;> try omega|refine andG ?_)|refine cp_ hz ?_ (hi := by (simp [idsL, idsE, AV.ids, hidR, hidS, hidA]))|refine cp_ h62s ?_ (hi := by (simp [idsL, idsE, AV.ids, hidR, hidS, hidA]))|refine cp_ h62a ?_ (hi := by (simp [idsL, idsE, AV.ids, hidR, hidS, hidA]))|simp (disch := try exact qa0) only [push_cast, simprocAttr, a0, hRl, h1])
  ·have h1 : ¬ sym < 1 := fun q => hb (.inl q);have h2 : zf0 st l.length = true := by cases q : zf0 st l.length; exact absurd (.inr (.inl q)) hb; rfl
   have h3 : zf0 ac l.length = true := by cases q : zf0 ac l.length; exact absurd (.inr (.inr q)) hb; rfl
   rw [h2] at h62s;rw [h3] at h62a;have hc1 := fun s hs h => cN1r (st := st) (ac := ac) h16 (s := s) hs h;have hc0 := cN0 (st := st) (ac := ac) h16 h1 h2 h3;generalize xe0 l = RN at *;generalize wh0 sym (rowsV l) st ac = R at *;refine qc0 0 60 [.tmp 2] Tryz.func20 rfl rfl rfl (by simp) ?_;intro s ⟨a0, hz⟩;clear hz;repeat' (first|refine nv ?_|(with_reducible first|refine gG ?_ ?_|refine ⟨fun h => ?_, fun h => ?_⟩ <;> try omega|refine andG ?_)|refine cp_ hz ?_ (hi := by (simp [idsL, idsE, AV.ids, hidR, hidS, hidA]))|refine cp_ h62s ?_ (hi := by (simp [idsL, idsE, AV.ids, hidR, hidS, hidA]))|refine cp_ h62a ?_ (hi := by (simp [idsL, idsE, AV.ids, hidR, hidS, hidA]))|simp (disch := try exact qa0) only [push_cast, simprocAttr, a0, hRl, h1])
   refine go_loop rfl (fun mz s' H' => ∃ k : Nat, k ≤ l.length ∧ mz = l.length - k ∧ H' = [.row 4 29 [[.int .i64 sym, .sl zr RN c, .sl zs (ints st) cs, .sl za (ints ac) ca]]] ∧ s' 1 = .ptr 0 0 0 1 ∧ s' 3 = .int .i64 l.length ∧ s' 37 = .sl zr RN c ∧ s' 38 = .int .i64 l.length ∧ s' 39 = .int .i64 k ∧ (∀ j, j < k → vG0 sym l.length (rowV (l.getD j ([], none))) = true)) (m := l.length) (by first|exact va0|fail) (Weak.refl _ _) ⟨0, by omega, by omega, rfl, ?_⟩ ?_
   ·refine ⟨?_, ?_, ?_, ?_, ?_, fun j hj => by omega⟩;all_goals simp (disch := try exact qa0) only [push_cast, simprocAttr, a0, hRl, h1]
   ·rintro mz s' H' ⟨k, hk, rfl, rfl, b1, b3, b37, b38, b39, ik⟩;rcases l'i k l.length with hlt|hge
    ·obtain rfl := hzr.resolve_left (by intro h; rw [h] at hlt; simp at hlt);have e1 := hg k hlt;have hc1 := hc1 k hlt;have hsn := kaf9 (P := fun j => vG0 sym l.length (rowV (l.getD j ([], none))) = true) (k := k) ik;have hrk := hr k hlt;have hik := fun a => hi k a hlt;generalize l.getD k ([], none) = r at *;have hrl := zb0 r.1;have hidr : ∀ p, idsE p (rowL r.1) = true := fun p => vc0 _ _;have e2 := fun a h => xg0 r.1 a h;unfold rC at e1;by_cases hrs : (r.1.length : Int) = sym
     ·skip
      repeat' (first|refine nv ?_|(with_reducible first|refine gG ?_ ?_|refine ⟨fun h => ?_, fun h => ?_⟩ <;> try omega|refine andG ?_)|refine cp_ hz ?_ (hi := by (simp [idsL, idsE, AV.ids, hidR, hidS, hidA]))|refine cp_ h62s ?_ (hi := by (simp [idsL, idsE, AV.ids, hidR, hidS, hidA]))|refine cp_ h62a ?_ (hi := by (simp [idsL, idsE, AV.ids, hidR, hidS, hidA]))|simp (disch := try exact qa0) only [push_cast, simprocAttr, b1, b3, b37, b38, b39, e1, hrl, hrs])
      refine go_loop rfl (fun mz s' H' => ∃ a : Nat, a ≤ r.1.length ∧ mz = r.1.length - a ∧ H' = [.row 4 29 [[.int .i64 sym, .sl 1 RN c, .sl zs (ints st) cs, .sl za (ints ac) ca]]] ∧ s' 1 = .ptr 0 0 0 1 ∧ s' 3 = .int .i64 l.length ∧ s' 37 = .sl 1 RN c ∧ s' 38 = .int .i64 l.length ∧ s' 39 = .int .i64 k ∧ s' 48 = .sl 1 (rowL r.1) r.2 ∧ s' 49 = .int .i64 r.1.length ∧ s' 50 = .int .i64 a ∧ (∀ j, j < a → zf0 (r.1.getD j ([], none)).1 l.length = true)) (m := r.1.length) (by first|exact va0|fail) (Weak.refl _ _) ⟨0, by omega, by omega, rfl, ?_⟩ ?_
      ·refine ⟨?_, ?_, ?_, ?_, ?_, ?_, ?_, ?_, fun j hj => by omega⟩;all_goals simp (disch := try exact qa0) only [push_cast, simprocAttr, b1, b3, b37, b38, b39, e1, hrl, hrs]
      ·rintro mz s' H' ⟨a, ha, rfl, rfl, b1, b3, b37, b38, b39, b48, b49, b50, ia⟩;rcases l'i a r.1.length with hla|hga
       ·have e3 := e2 a hla;have hno := hc1;have hsa := kaf9 (P := fun j => zf0 (r.1.getD j ([], none)).1 l.length = true) (k := a) ia;have hrn := vbV9 (sym := sym) (n := l.length) (r := r) hla;have hia := hik a hla;have h62 := fun h => vcI9 1 (r.1.getD a ([], none)).1 (r.1.getD a ([], none)).2 l.length (.inr rfl) h;have h62 := h62 hia;generalize r.1.getD a ([], none) = x at *;unfold lC at e3;have hidx : ∀ p, idsE p (ints x.1) = true := fun p => wa0 _ _;cases hx : zf0 x.1 l.length with
        | true =>
         rw [hx] at h62;have hsa := hsa hx;repeat' (first|refine nv ?_|(with_reducible first|refine gG ?_ ?_|refine ⟨fun h => ?_, fun h => ?_⟩ <;> try omega|refine andG ?_)|refine cp_ h62 ?_ (hi := by (simp [idsL, idsE, AV.ids, hidR, hidS, hidA]))|simp (disch := try exact qa0) only [push_cast, simprocAttr, b1, b3, b37, b38, b39, b48, b49, b50, e3, hrl])
         refine za0 (r.1.length - (a + 1)) (by omega) (by first|exact va0|fail) ⟨a + 1, by omega, rfl, rfl, ?_, ?_, ?_, ?_, ?_, ?_, ?_, ?_, hsa⟩;all_goals simp (disch := try exact qa0) only [push_cast, simprocAttr, b1, b3, b37, b38, b39, b48, b49, b50, e3, hrl]
        | false =>
         rw [hx] at h62;rw [hc1 (hrn hx)];repeat' (first|refine nv ?_|(with_reducible first|refine gG ?_ ?_|refine ⟨fun h => ?_, fun h => ?_⟩ <;> try omega|refine andG ?_)|refine cp_ h62 ?_ (hi := by (simp [idsL, idsE, AV.ids, hidR, hidS, hidA]))|simp (disch := try exact qa0) only [push_cast, simprocAttr, b1, b3, b37, b38, b39, b48, b49, b50, e3, hrl])
       ·obtain rfl : a = r.1.length := by omega
        have hsn := hsn (wby9 hrs ia);repeat' (first|refine nv ?_|(with_reducible first|refine gG ?_ ?_|refine ⟨fun h => ?_, fun h => ?_⟩ <;> try omega|refine andG ?_)|simp (disch := try exact qa0) only [push_cast, simprocAttr, b1, b3, b37, b38, b39, b48, b49, b50, hrl])
        refine za0 (l.length - (k + 1)) (by omega) (by first|exact va0|fail) ⟨k + 1, by omega, rfl, rfl, ?_, ?_, ?_, ?_, ?_, hsn⟩;all_goals simp (disch := try exact qa0) only [push_cast, simprocAttr, b1, b3, b37, b38, b39, b48, b49, b50, hrl]
     ·rw [hc1 (xby9 hrs)];repeat' (first|refine nv ?_|(with_reducible first|refine gG ?_ ?_|refine ⟨fun h => ?_, fun h => ?_⟩ <;> try omega|refine andG ?_)|simp (disch := try exact qa0) only [push_cast, simprocAttr, b1, b3, b37, b38, b39, e1, hrl, hrs])
    ·obtain rfl : k = l.length := by omega
     rw [hc0 ik];repeat' (first|refine nv ?_|(with_reducible first|refine gG ?_ ?_|refine ⟨fun h => ?_, fun h => ?_⟩ <;> try omega|refine andG ?_)|simp (disch := try exact qa0) only [push_cast, simprocAttr, b1, b3, b37, b38, b39])
end Go.Proofs
