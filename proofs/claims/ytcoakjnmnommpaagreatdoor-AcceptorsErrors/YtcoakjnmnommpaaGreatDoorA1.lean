import Derived.Test.YtcoakjnmnommpaaGreatDoorAT
import Derived.Test.YtcoakjnmnommpaaGreatDoorV34
import Derived.Test.YtcoakjnmnommpaaGreatDoorV59
import Derived.Test.YtcoakjnmnommpaaGreatDoorAR3
import Derived.Shelf.Spec.TrailingZeros
namespace Go.Proofs
open Go Go.V
set_option linter.unusedVariables false
set_option linter.unusedSimpArgs false
def tzG : List AV := Lib.deBruijn64tab.map fun v => .int .u8 (v : Nat)
def G0 : Glob := fun g => match g with|0 => some tzG|1 => some pow10G|2 => some [.anyi .i64]|3 => some [.err]|4 => some [.err]|_ => none
def ints (xs : List Int) : List (List AV) := xs.map fun x => [.int .i64 x]
abbrev LC := List Int × Option Nat
def lC (x : LC) : List AV := [.sl 1 (ints x.1) x.2]
def rowL (r : List LC) : List (List AV) := r.map lC
abbrev RC := List LC × Option Nat
def rC (r : RC) : List AV := [.sl 1 (rowL r.1) r.2]
def rowsN (l : List RC) : List (List AV) := l.map rC
def bools (l : List Bool) : List (List AV) := l.map fun b => [.bool b]
theorem length_ints (xs : List Int) : (ints xs).length = xs.length := by simp [ints]
theorem length_rowL (r : List LC) : (rowL r).length = r.length := by simp [rowL]
theorem length_rowsN (l : List RC) : (rowsN l).length = l.length := by simp [rowsN]
theorem length_bools (l : List Bool) : (bools l).length = l.length := by simp [bools]
theorem getD_ints (xs : List Int) (k : Nat) (h : k < xs.length) : (ints xs).getD k [] = [.int .i64 (xs.getD k 0)] := by simp [ints, h]
theorem getD_rowL (r : List LC) (k : Nat) (h : k < r.length) : (rowL r).getD k [] = lC (r.getD k ([], none)) := by simp [rowL, h]
theorem getD_rowsN (l : List RC) (k : Nat) (h : k < l.length) : (rowsN l).getD k [] = rC (l.getD k ([], none)) := by simp [rowsN, h]
theorem getD_bools (l : List Bool) (k : Nat) (h : k < l.length) : (bools l).getD k [] = [.bool (l.getD k false)] := by simp [bools, h]
theorem idsE_ints (p : Nat → Bool) (xs : List Int) : idsE p (ints xs) = true := idsE_map _ _ fun x => by simp [idsL, AV.ids]
theorem idsE_rowL (p : Nat → Bool) (r : List LC) : idsE p (rowL r) = true := idsE_map _ _ fun x => by simp [lC, idsL, AV.ids, idsE_ints]
theorem idsE_rowsN (p : Nat → Bool) (l : List RC) : idsE p (rowsN l) = true := idsE_map _ _ fun x => by simp [rC, idsL, AV.ids, idsE_rowL]
theorem idsE_bools (p : Nat → Bool) (l : List Bool) : idsE p (bools l) = true := idsE_map _ _ fun x => by simp [idsL, AV.ids]
theorem idsE_append (p : Nat → Bool) (a b : List (List AV)) : idsE p (a ++ b) = (idsE p a && idsE p b) := by
 induction a with
 | nil => simp [idsE]
 | cons x xs ih => simp [idsE, ih, Bool.and_assoc]
theorem ints_nil : ints [] = [] := rfl
theorem rowL_nil : rowL [] = [] := rfl
theorem rowsN_nil : rowsN [] = [] := rfl
theorem ints_snoc (xs : List Int) (x : Int) : ints xs ++ [[.int .i64 x]] = ints (xs ++ [x]) := by simp [ints]
theorem rowL_snoc (r : List LC) (x : LC) : rowL r ++ [lC x] = rowL (r ++ [x]) := by simp [rowL]
theorem rowsN_snoc (l : List RC) (x : RC) : rowsN l ++ [rC x] = rowsN (l ++ [x]) := by simp [rowsN]
theorem bools_snoc (l : List Bool) (b : Bool) : bools l ++ [[.bool b]] = bools (l ++ [b]) := by simp [bools]
theorem ints_set (xs : List Int) (k : Nat) (v : Int) : (ints xs).set k [.int .i64 v] = ints (xs.set k v) := by rw [ints, ints, List.map_set]
theorem bools_set (l : List Bool) (k : Nat) (b : Bool) : (bools l).set k [.bool b] = bools (l.set k b) := by rw [bools, bools, List.map_set]
theorem ints_rep (n : Nat) (b : Int) : List.replicate n [AV.int .i64 b] = ints (List.replicate n b) := by simp [ints]
theorem bools_rep (n : Nat) (b : Bool) : List.replicate n [AV.bool b] = bools (List.replicate n b) := by simp [bools]
theorem all_of_idsE {p : Nat → Bool} {es : List (List AV)} (h : idsE p es = true) : (es.all fun e => e.all fun x => AV.ids p x) = true := by
 have hl : ∀ e : List AV, idsL p e = true → (e.all fun x => AV.ids p x) = true := fun e => by
  induction e with
  | nil => intro _; rfl
  | cons x xs ih => intro h; rw [idsL, Bool.and_eq_true] at h; rw [List.all_cons, h.1, ih h.2]; rfl
 induction es with
 | nil => rfl
 | cons e es ih => rw [idsE, Bool.and_eq_true] at h; rw [List.all_cons, hl e h.1, ih h.2]; rfl
theorem all_ints (p : Nat → Bool) (xs : List Int) : ((ints xs).all fun e => e.all fun x => AV.ids p x) = true := all_of_idsE (idsE_ints p xs)
theorem all_rowL (p : Nat → Bool) (r : List LC) : ((rowL r).all fun e => e.all fun x => AV.ids p x) = true := all_of_idsE (idsE_rowL p r)
theorem all_rowsN (p : Nat → Bool) (l : List RC) : ((rowsN l).all fun e => e.all fun x => AV.ids p x) = true := all_of_idsE (idsE_rowsN p l)
theorem all_bools (p : Nat → Bool) (l : List Bool) : ((bools l).all fun e => e.all fun x => AV.ids p x) = true := all_of_idsE (idsE_bools p l)
theorem wrap64 (n : Int) (h1 : -9223372036854775808 ≤ n) (h2 : n < 9223372036854775808) : IntKind.i64.wrap n = n := by rw [IntKind.wrap_i64]; omega
theorem snocB {P : Nat → Prop} {k : Nat} (h : ∀ j, j < k → P j) (hk : P k) : ∀ j, j < k + 1 → P j := fun j hj => by
 rcases Nat.lt_or_ge j k with q|q
 ·exact h j q
 ·obtain rfl : j = k := by omega
  exact hk
theorem take_succ_map {α β : Type} (f : α → β) (l : List α) (d : α) (k : Nat) (h : k < l.length) : (l.take (k + 1)).map f = (l.take k).map f ++ [f (l.getD k d)] := by
 rw [List.take_succ_eq_append_getElem h, List.map_append]; simp [h]
theorem take_succ_snoc {α : Type} (l : List α) (d : α) (k : Nat) (h : k < l.length) : l.take (k + 1) = l.take k ++ [l.getD k d] := by
 rw [List.take_succ_eq_append_getElem h]; simp [h]
def setL (p : Nat → Bool) : List AV := [.int .u64 (wP p 0 : Nat), .int .u64 (wP p 1 : Nat), .int .u64 (wP p 2 : Nat), .int .u64 (wP p 3 : Nat)]
def rowV (r : RC) : List (List Int) := r.1.map Prod.fst
def rowsV (l : List RC) : List (List (List Int)) := l.map rowV
def nA (sym : Int) (zr : Nat) (l : List RC) (c : Option Nat) (zs : Nat) (st : List Int) (cs : Option Nat) (za : Nat) (ac : List Int) (ca : Option Nat) : AV := .agg [.int .i64 sym, .sl zr (rowsN l) c, .sl zs (ints st) cs, .sl za (ints ac) ca]
def dA (sym : Int) (zr : Nat) (l : List LC) (c : Option Nat) (za : Nat) (ac : List Bool) (ca : Option Nat) : AV := .agg [.int .i64 sym, .sl zr (rowL l) c, .sl za (bools ac) ca]
theorem lenS {α : Type} : (∀ (l : List α) (i : Nat) (a : α), (l.set i a).length = l.length) ∧ (∀ l : List α, l.reverse.length = l.length) ∧ (∀ (n : Nat) (a : α), (List.replicate n a).length = n) ∧ (∀ l r : List α, (l ++ r).length = l.length + r.length) ∧ (∀ (a : α) (l : List α), (a :: l).length = l.length + 1) ∧ (([] : List α).length = 0) ∧ (∀ (n : Nat) (l : List α), (l.take n).length = min n l.length) ∧ (∀ (n : Nat) (l : List α), (l.drop n).length = l.length - n) := by
 refine ⟨?_, ?_, ?_, ?_, ?_, ?_, ?_, ?_⟩ <;> intros <;> simp
theorem lenF : (∀ xs, (ints xs).length = xs.length) ∧ (∀ r, (rowL r).length = r.length) ∧ (∀ l, (rowsN l).length = l.length) ∧ (∀ l, (bools l).length = l.length) := ⟨length_ints, length_rowL, length_rowsN, length_bools⟩
theorem sideB {p : Prop} (h : p := by first|trivial|((repeat' apply And.intro) <;> first|trivial|assumption|omega|(simp only [maxLen]; omega)|(simp only [lenF, lenS, List.length_map, maxLen] <;> omega))) : p := h
theorem discB {p : Prop} (h : p := by first|omega|(simp only [lenF, lenS, List.length_map]; omega)) : p := h
attribute [simp] idsE_ints idsE_rowL idsE_rowsN idsE_bools idsE_append
attribute [push_cast] all_ints all_rowL all_rowsN all_bools length_ints length_rowL length_rowsN length_bools wrap64 Bool.eq_true_or_eq_false_self Bool.eq_false_or_eq_true_self Bool.not_or_self Bool.or_not_self Bool.and_self Bool.or_self Bool.not_not Bool.and_not_self Bool.not_and_self
attribute [push_cast] ti1 ti2 ti3 ti4 ti5 ti9 ti21 ti25 ti26 ti27 ti29 ti32 ti40 ti44 ti45 ti47 ti66 ti68 et68 ti84 ti85 ti93 ti95 ti97 ti102 ti104 ti105 ti111 ti115 ti116 ti119 et119 ti130 et130 ti137 ti140 ti145 et145 ti146 ti147 et147 ti153 ti156 et156 ti158 et158 ti159 et159 ti163 ti165 et165 ti166 et166 en8 en9 en10 en14 en16 en17 en18 en19 en20 en21 en22 en23 en24 en25 en26 en27 en28 en30 en33 en34 en35 en36 en37 en38 en39 en40 en41 en42 en43 en46 en47 en48 en49 en50 en51 en52 en53 en54 en55 en56 en57 en58 en59 en60 en61 en62 en63 en65 en66 en67 en68 en69 en70 en71 en72 en73 en74 en77 en78 en79 en80 en82 en83 en84 en85 en86 en87 en88 en89 en90 en91 en92 en93 en94 en96 en97 en98 en99 en100 en101 en102 en103 en104 en105 en106 en107 en108 en110 en111 en112 en113 en114 en115 en117 en118 en119
end Go.Proofs
namespace Go.Proofs
open Go Go.V
set_option linter.unusedVariables false
set_option linter.unusedSimpArgs false
set_option maxHeartbeats 0
set_option maxRecDepth 100000 in
theorem goD {ρ : Bool} {G : Glob} {n0 n : Nat} {body : Code} {p : List Nat} {Q : PostS} {B : Prop} {s : Nat → AV} {H : List Blk} (h : Acc ρ Tryz.prog G n0 n allQ body p Q 0 B s H) (hs : isRegion (atR body p) = true := by rfl) (hd : drawOf (atR body p) = true := by rfl) (ho : orderOk allQ (opsOf (atR body p)) = true := by first | assumption | kernel_rfl) : Go ρ Tryz.prog G n0 n body p Q B s H := go_draw (dr := allQ) hs hd mixed ho h
theorem appG {p q : Prop} (k : q) (h : p := by first | exact ⟨[_], rfl⟩ | exact ⟨[], by simp only [List.append_nil]⟩) : p ∧ q := ⟨h, k⟩
theorem gG {ρ ρ' : Bool} {P P' : Program} {G G' : Glob} {n0 n0' n n' : Nat} {body body' : Code} {p p' : List Nat} {Q Q' : PostS} {s s' : Nat → AV} {H H' : List Blk} (h1 : Go ρ P G n0 n body p Q True s H) (h2 : Go ρ' P' G' n0' n' body' p' Q' True s' H') : At ρ P G n0 n body p Q s H ∧ At ρ' P' G' n0' n' body' p' Q' s' H' := ⟨h1.2, h2.2⟩
theorem sizes61 (a b : Int) : PC Tryz.prog G0 53 [.int .i64 a, .int .i64 b] (.int .i64 (if 16 < a ∨ 256 < b then 3 else 0)) := by
 by_cases h1 : 16 < a
 ·rw [if_pos (.inl h1)]
  refine pc_go 0 11 [.tmp 4] Tryz.func53 rfl rfl rfl (by simp) ?_
  intro s ⟨a0, a1, hz⟩
  simp only [Nat.zero_add, Nat.reduceAdd] at a1
  clear hz
  repeat' (first|refine nav ?_|(refine g0_ ?_; refine goD ?_)|(with_reducible refine gG ?_ ?_)|((with_reducible refine And.intro (fun h => ?_) (fun h => ?_)) <;> try (exfalso; omega))|(with_reducible refine andG ?_)|refine appG ?_|fail|simp (disch := (first|exact discB|fail)) only [push_cast, ↓reduceIte, reduceIte, reduceCtorEq, Nat.reduceAdd, Nat.reduceLT, Nat.reduceEqDiff, Nat.reduceLeDiff, Int.reduceAdd, Int.reduceLT, Int.reduceLE, Nat.reduceMul, a0, a1, h1])
 ·by_cases h2 : 256 < b
  ·rw [if_pos (.inr h2)]
   refine pc_go 0 11 [.tmp 4] Tryz.func53 rfl rfl rfl (by simp) ?_
   intro s ⟨a0, a1, hz⟩
   simp only [Nat.zero_add, Nat.reduceAdd] at a1
   clear hz
   repeat' (first|refine nav ?_|(refine g0_ ?_; refine goD ?_)|(with_reducible refine gG ?_ ?_)|((with_reducible refine And.intro (fun h => ?_) (fun h => ?_)) <;> try (exfalso; omega))|(with_reducible refine andG ?_)|refine appG ?_|fail|simp (disch := (first|exact discB|fail)) only [push_cast, ↓reduceIte, reduceIte, reduceCtorEq, Nat.reduceAdd, Nat.reduceLT, Nat.reduceEqDiff, Nat.reduceLeDiff, Int.reduceAdd, Int.reduceLT, Int.reduceLE, Nat.reduceMul, a0, a1, h1, h2])
  ·rw [if_neg (by omega)]
   refine pc_go 0 11 [.tmp 4] Tryz.func53 rfl rfl rfl (by simp) ?_
   intro s ⟨a0, a1, hz⟩
   simp only [Nat.zero_add, Nat.reduceAdd] at a1
   clear hz
   repeat' (first|refine nav ?_|(refine g0_ ?_; refine goD ?_)|(with_reducible refine gG ?_ ?_)|((with_reducible refine And.intro (fun h => ?_) (fun h => ?_)) <;> try (exfalso; omega))|(with_reducible refine andG ?_)|refine appG ?_|fail|simp (disch := (first|exact discB|fail)) only [push_cast, ↓reduceIte, reduceIte, reduceCtorEq, Nat.reduceAdd, Nat.reduceLT, Nat.reduceEqDiff, Nat.reduceLeDiff, Int.reduceAdd, Int.reduceLT, Int.reduceLE, Nat.reduceMul, a0, a1, h1, h2])
set_option maxRecDepth 100000 in
theorem list62 (z : Nat) (l : List Int) (c : Option Nat) (n : Int) (hz : l = [] ∨ z = 1) (hl : l.length ≤ 9223372036854775807) : PC Tryz.prog G0 54 [.sl z (ints l) c, .int .i64 n] (.bool (risesL l n)) := by
 have hil := length_ints l
 refine pc_go 0 35 [.tmp 4] Tryz.func54 rfl rfl rfl (by simp) ?_
 intro s ⟨a0, a1, hz⟩
 simp only [Nat.zero_add, Nat.reduceAdd] at a1
 clear hz
 repeat' (first|refine nav ?_|(refine g0_ ?_; refine goD ?_)|(with_reducible refine gG ?_ ?_)|((with_reducible refine And.intro (fun h => ?_) (fun h => ?_)) <;> try (exfalso; omega))|(with_reducible refine andG ?_)|refine appG ?_|fail|simp (disch := (first|exact discB|fail)) only [push_cast, ↓reduceIte, reduceIte, reduceCtorEq, Nat.reduceAdd, Nat.reduceLT, Nat.reduceEqDiff, Nat.reduceLeDiff, Int.reduceAdd, Int.reduceLT, Int.reduceLE, Nat.reduceMul, a0, a1, hil])
 refine go_loop rfl (fun mz s' H' => ∃ k : Nat, k ≤ l.length ∧ mz = l.length - k ∧ H' = [] ∧ s' 0 = .sl z (ints l) c ∧ s' 1 = .int .i64 n ∧ s' 7 = .sl z (ints l) c ∧ s' 8 = .int .i64 l.length ∧ s' 9 = .int .i64 k ∧ (∀ j, j < k → okI l n j = true)) (m := l.length) (by first|exact sideB|fail) (Weak.refl _ _) ⟨0, by omega, by omega, rfl, ?_⟩ ?_
 ·refine ⟨?_, ?_, ?_, ?_, ?_, fun j hj => by omega⟩
  all_goals simp (disch := (first|exact discB|fail)) only [push_cast, ↓reduceIte, reduceIte, reduceCtorEq, Nat.reduceAdd, Nat.reduceLT, Nat.reduceEqDiff, Nat.reduceLeDiff, Int.reduceAdd, Int.reduceLT, Int.reduceLE, Nat.reduceMul, a0, a1, hil]
 ·rintro mz s' H' ⟨k, hk, rfl, rfl, b0, b1, b7, b8, b9, ik⟩
  rcases Nat.lt_or_ge k l.length with hlt|hge
  ·obtain rfl := hz.resolve_left (by intro h; rw [h] at hlt; simp at hlt)
   have e1 := getD_ints l k hlt
   have e2 := getD_ints l (k - 1) (by omega)
   have hno := rises_no (n := n) hlt
   have hsn := snocB (P := fun j => okI l n j = true) (k := k) ik
   have hok : okI l n k = (decide (0 ≤ l.getD k 0) && (decide (l.getD k 0 < n) && (decide (k = 0) || decide (l.getD (k - 1) 0 < l.getD k 0)))) := rfl
   rw [hok] at hno hsn
   generalize l.getD k 0 = x at *
   generalize l.getD (k - 1) 0 = y at *
   by_cases h1 : x < 0
   ·rw [hno (by rw [decide_eq_false (by omega)]; rfl)]
    repeat' (first|refine nav ?_|(refine g0_ ?_; refine goD ?_)|(with_reducible refine gG ?_ ?_)|((with_reducible refine And.intro (fun h => ?_) (fun h => ?_)) <;> try (exfalso; omega))|(with_reducible refine andG ?_)|refine appG ?_|fail|simp (disch := (first|exact discB|fail)) only [push_cast, ↓reduceIte, reduceIte, reduceCtorEq, Nat.reduceAdd, Nat.reduceLT, Nat.reduceEqDiff, Nat.reduceLeDiff, Int.reduceAdd, Int.reduceLT, Int.reduceLE, Nat.reduceMul, b0, b1, b7, b8, b9, e1, h1, hil])
   ·by_cases h2 : n ≤ x
    ·rw [hno (by rw [decide_eq_true (by omega), decide_eq_false (by omega)]; rfl)]
     repeat' (first|refine nav ?_|(refine g0_ ?_; refine goD ?_)|(with_reducible refine gG ?_ ?_)|((with_reducible refine And.intro (fun h => ?_) (fun h => ?_)) <;> try (exfalso; omega))|(with_reducible refine andG ?_)|refine appG ?_|fail|simp (disch := (first|exact discB|fail)) only [push_cast, ↓reduceIte, reduceIte, reduceCtorEq, Nat.reduceAdd, Nat.reduceLT, Nat.reduceEqDiff, Nat.reduceLeDiff, Int.reduceAdd, Int.reduceLT, Int.reduceLE, Nat.reduceMul, b0, b1, b7, b8, b9, e1, h1, h2, hil])
    ·rcases Nat.eq_zero_or_pos k with rfl|hk0
     ·have h3 := hsn (by simp; omega)
      repeat' (first|refine nav ?_|(refine g0_ ?_; refine goD ?_)|(with_reducible refine gG ?_ ?_)|((with_reducible refine And.intro (fun h => ?_) (fun h => ?_)) <;> try (exfalso; omega))|(with_reducible refine andG ?_)|refine appG ?_|fail|simp (disch := (first|exact discB|fail)) only [push_cast, ↓reduceIte, reduceIte, reduceCtorEq, Nat.reduceAdd, Nat.reduceLT, Nat.reduceEqDiff, Nat.reduceLeDiff, Int.reduceAdd, Int.reduceLT, Int.reduceLE, Nat.reduceMul, b0, b1, b7, b8, b9, e1, h1, h2, hil])
      refine out_round (l.length - (0 + 1)) (by omega) (by first|exact sideB|fail) ⟨0 + 1, by omega, rfl, rfl, ?_, ?_, ?_, ?_, ?_, h3⟩
      all_goals simp (disch := (first|exact discB|fail)) only [push_cast, ↓reduceIte, reduceIte, reduceCtorEq, Nat.reduceAdd, Nat.reduceLT, Nat.reduceEqDiff, Nat.reduceLeDiff, Int.reduceAdd, Int.reduceLT, Int.reduceLE, Nat.reduceMul, b0, b1, b7, b8, b9, e1, h1, h2, hil]
     ·have hj3 : ((k : Int) - 1).toNat = k - 1 := by omega
      have hj4 : 0 ≤ (k : Int) - 1 := by omega
      have hj5 : (k : Int) - 1 < l.length := by omega
      by_cases h3 : x ≤ y
      ·rw [hno (by rw [decide_eq_true (by omega), decide_eq_true (by omega), decide_eq_false (by omega), decide_eq_false (by omega)]; rfl)]
       repeat' (first|refine nav ?_|(refine g0_ ?_; refine goD ?_)|(with_reducible refine gG ?_ ?_)|((with_reducible refine And.intro (fun h => ?_) (fun h => ?_)) <;> try (exfalso; omega))|(with_reducible refine andG ?_)|refine appG ?_|fail|simp (disch := (first|exact discB|fail)) only [push_cast, ↓reduceIte, reduceIte, reduceCtorEq, Nat.reduceAdd, Nat.reduceLT, Nat.reduceEqDiff, Nat.reduceLeDiff, Int.reduceAdd, Int.reduceLT, Int.reduceLE, Nat.reduceMul, b0, b1, b7, b8, b9, e1, e2, h1, h2, h3, hj3, hj4, hj5, hil, hk0])
      ·have h4 := hsn (by simp; omega)
       repeat' (first|refine nav ?_|(refine g0_ ?_; refine goD ?_)|(with_reducible refine gG ?_ ?_)|((with_reducible refine And.intro (fun h => ?_) (fun h => ?_)) <;> try (exfalso; omega))|(with_reducible refine andG ?_)|refine appG ?_|fail|simp (disch := (first|exact discB|fail)) only [push_cast, ↓reduceIte, reduceIte, reduceCtorEq, Nat.reduceAdd, Nat.reduceLT, Nat.reduceEqDiff, Nat.reduceLeDiff, Int.reduceAdd, Int.reduceLT, Int.reduceLE, Nat.reduceMul, b0, b1, b7, b8, b9, e1, e2, h1, h2, h3, hj3, hj4, hj5, hil, hk0])
       refine out_round (l.length - (k + 1)) (by omega) (by first|exact sideB|fail) ⟨k + 1, by omega, rfl, rfl, ?_, ?_, ?_, ?_, ?_, h4⟩
       all_goals simp (disch := (first|exact discB|fail)) only [push_cast, ↓reduceIte, reduceIte, reduceCtorEq, Nat.reduceAdd, Nat.reduceLT, Nat.reduceEqDiff, Nat.reduceLeDiff, Int.reduceAdd, Int.reduceLT, Int.reduceLE, Nat.reduceMul, b0, b1, b7, b8, b9, e1, e2, h1, h2, h3, hj3, hj4, hj5, hil, hk0]
  ·obtain rfl : k = l.length := by omega
   rw [rises_yes ik]
   repeat' (first|refine nav ?_|(refine g0_ ?_; refine goD ?_)|(with_reducible refine gG ?_ ?_)|((with_reducible refine And.intro (fun h => ?_) (fun h => ?_)) <;> try (exfalso; omega))|(with_reducible refine andG ?_)|refine appG ?_|fail|simp (disch := (first|exact discB|fail)) only [push_cast, ↓reduceIte, reduceIte, reduceCtorEq, Nat.reduceAdd, Nat.reduceLT, Nat.reduceEqDiff, Nat.reduceLeDiff, Int.reduceAdd, Int.reduceLT, Int.reduceLE, Nat.reduceMul, b0, b1, b7, b8, b9, hil])
end Go.Proofs
