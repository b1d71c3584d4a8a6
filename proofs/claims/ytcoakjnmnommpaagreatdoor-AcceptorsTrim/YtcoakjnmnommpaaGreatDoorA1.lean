import Derived.Test.YtcoakjnmnommpaaGreatDoorAT
import Derived.Test.YtcoakjnmnommpaaGreatDoorV34
import Derived.Test.YtcoakjnmnommpaaGreatDoorV59
import Derived.Test.YtcoakjnmnommpaaGreatDoorAR3
import Derived.Shelf.Spec.TrailingZeros
namespace Go.Proofs
open Go Go.V
set_option linter.unusedVariables false
set_option linter.unusedSimpArgs false
def tzG : List AV := Lib.deBruijn64tab.map fun v => .int .u8 (v : Nat)
def G0 : Glob := fun g => match g with|0 => some tzG|1 => some wdg9|2 => some [.anyi .i64]|3 => some [.err]|4 => some [.err]|_ => none
def ints (xs : List Int) : List (List AV) := xs.map fun x => [.int .i64 x]
abbrev LC := List Int × Option Nat
def lC (x : LC) : List AV := [.sl 1 (ints x.1) x.2]
def rowL (r : List LC) : List (List AV) := r.map lC
abbrev RC := List LC × Option Nat
def rC (r : RC) : List AV := [.sl 1 (rowL r.1) r.2]
def xc0 (l : List RC) : List (List AV) := l.map rC
def kd0 (l : List Bool) : List (List AV) := l.map fun b => [.bool b]
theorem ka0 (xs : List Int) : (ints xs).length = xs.length := by simp [ints]
theorem zc0 (r : List LC) : (rowL r).length = r.length := by simp [rowL]
theorem we0 (l : List RC) : (xc0 l).length = l.length := by simp [xc0]
theorem xg0 (l : List Bool) : (kd0 l).length = l.length := by simp [kd0]
theorem kc0 (xs : List Int) (k : Nat) (h : k < xs.length) : (ints xs).getD k [] = [.int .i64 (xs.getD k 0)] := by simp [ints, h]
theorem zh0 (r : List LC) (k : Nat) (h : k < r.length) : (rowL r).getD k [] = lC (r.getD k ([], none)) := by simp [rowL, h]
theorem zm0 (l : List RC) (k : Nat) (h : k < l.length) : (xc0 l).getD k [] = rC (l.getD k ([], none)) := by simp [xc0, h]
theorem ky0 (l : List Bool) (k : Nat) (h : k < l.length) : (kd0 l).getD k [] = [.bool (l.getD k false)] := by simp [kd0, h]
theorem va0 (p : Nat → Bool) (xs : List Int) : idsE p (ints xs) = true := zr0 _ _ fun x => by simp [idsL, AV.ids]
theorem vf0 (p : Nat → Bool) (r : List LC) : idsE p (rowL r) = true := zr0 _ _ fun x => by simp [lC, idsL, AV.ids, va0]
theorem wc0 (p : Nat → Bool) (l : List RC) : idsE p (xc0 l) = true := zr0 _ _ fun x => by simp [rC, idsL, AV.ids, vf0]
theorem zi0 (p : Nat → Bool) (l : List Bool) : idsE p (kd0 l) = true := zr0 _ _ fun x => by simp [idsL, AV.ids]
theorem xaC9 (p : Nat → Bool) (a b : List (List AV)) : idsE p (a ++ b) = (idsE p a && idsE p b) := by
 induction a with
 | nil => simp [idsE]
 | cons x xs ih => simp [idsE, ih, Bool.and_assoc]
theorem vn0 : ints [] = [] := rfl
theorem xaY9 : rowL [] = [] := rfl
theorem waC9 : xc0 [] = [] := rfl
theorem xm0 (xs : List Int) (x : Int) : ints xs ++ [[.int .i64 x]] = ints (xs ++ [x]) := by simp [ints]
theorem xac9 (r : List LC) (x : LC) : rowL r ++ [lC x] = rowL (r ++ [x]) := by simp [rowL]
theorem vai9 (l : List RC) (x : RC) : xc0 l ++ [rC x] = xc0 (l ++ [x]) := by simp [xc0]
theorem zca9 (l : List Bool) (b : Bool) : kd0 l ++ [[.bool b]] = kd0 (l ++ [b]) := by simp [kd0]
theorem waY9 (xs : List Int) (k : Nat) (v : Int) : (ints xs).set k [.int .i64 v] = ints (xs.set k v) := by rw [ints, ints, List.map_set]
theorem xcv9 (l : List Bool) (k : Nat) (b : Bool) : (kd0 l).set k [.bool b] = kd0 (l.set k b) := by rw [kd0, kd0, List.map_set]
theorem vaY9 (n : Nat) (b : Int) : List.replicate n [AV.int .i64 b] = ints (List.replicate n b) := by simp [ints]
theorem wcv9 (n : Nat) (b : Bool) : List.replicate n [AV.bool b] = kd0 (List.replicate n b) := by simp [kd0]
theorem qB0 {p : Nat → Bool} {es : List (List AV)} (h : idsE p es = true) : (es.all fun e => e.all fun x => AV.ids p x) = true := by
 have hl : ∀ e : List AV, idsL p e = true → (e.all fun x => AV.ids p x) = true := fun e => by
  induction e with
  | nil => intro _; rfl
  | cons x xs ih => intro h; rw [idsL, Bool.and_eq_true] at h; rw [List.all_cons, h.1, ih h.2]; rfl
 induction es with
 | nil => rfl
 | cons e es ih => rw [idsE, Bool.and_eq_true] at h; rw [List.all_cons, hl e h.1, ih h.2]; rfl
theorem wbK9 (p : Nat → Bool) (xs : List Int) : ((ints xs).all fun e => e.all fun x => AV.ids p x) = true := qB0 (va0 p xs)
theorem qcV9 (p : Nat → Bool) (r : List LC) : ((rowL r).all fun e => e.all fun x => AV.ids p x) = true := qB0 (vf0 p r)
theorem vcv9 (p : Nat → Bool) (l : List RC) : ((xc0 l).all fun e => e.all fun x => AV.ids p x) = true := qB0 (wc0 p l)
theorem kcv9 (p : Nat → Bool) (l : List Bool) : ((kd0 l).all fun e => e.all fun x => AV.ids p x) = true := qB0 (zi0 p l)
theorem vaC9 (n : Int) (h1 : -9223372036854775808 ≤ n) (h2 : n < 9223372036854775808) : IntKind.i64.wrap n = n := by rw [IntKind.wrap_i64]; omega
theorem kai9 {P : Nat → Prop} {k : Nat} (h : ∀ j, j < k → P j) (hk : P k) : ∀ j, j < k + 1 → P j := fun j hj => by
 rcases Nat.lt_or_ge j k with q|q
 ·exact h j q
 ·obtain rfl : j = k := by omega
  exact hk
theorem ks0 {α β : Type} (f : α → β) (l : List α) (d : α) (k : Nat) (h : k < l.length) : (l.take (k + 1)).map f = (l.take k).map f ++ [f (l.getD k d)] := by
 rw [List.take_succ_eq_append_getElem h, List.map_append]; simp [h]
theorem zg0 {α : Type} (l : List α) (d : α) (k : Nat) (h : k < l.length) : l.take (k + 1) = l.take k ++ [l.getD k d] := by
 rw [List.take_succ_eq_append_getElem h]; simp [h]
def setL (p : Nat → Bool) : List AV := [.int .u64 (wP p 0 : Nat), .int .u64 (wP p 1 : Nat), .int .u64 (wP p 2 : Nat), .int .u64 (wP p 3 : Nat)]
def rowV (r : RC) : List (List Int) := r.1.map Prod.fst
def rowsV (l : List RC) : List (List (List Int)) := l.map rowV
def nA (sym : Int) (zr : Nat) (l : List RC) (c : Option Nat) (zs : Nat) (st : List Int) (cs : Option Nat) (za : Nat) (ac : List Int) (ca : Option Nat) : AV := .agg [.int .i64 sym, .sl zr (xc0 l) c, .sl zs (ints st) cs, .sl za (ints ac) ca]
def dA (sym : Int) (zr : Nat) (l : List LC) (c : Option Nat) (za : Nat) (ac : List Bool) (ca : Option Nat) : AV := .agg [.int .i64 sym, .sl zr (rowL l) c, .sl za (kd0 ac) ca]
theorem lenS {α : Type} : (∀ (l : List α) (i : Nat) (a : α), (l.set i a).length = l.length) ∧ (∀ l : List α, l.reverse.length = l.length) ∧ (∀ (n : Nat) (a : α), (List.replicate n a).length = n) ∧ (∀ l r : List α, (l ++ r).length = l.length + r.length) ∧ (∀ (a : α) (l : List α), (a :: l).length = l.length + 1) ∧ (([] : List α).length = 0) ∧ (∀ (n : Nat) (l : List α), (l.take n).length = min n l.length) ∧ (∀ (n : Nat) (l : List α), (l.drop n).length = l.length - n) := by
 refine ⟨?_, ?_, ?_, ?_, ?_, ?_, ?_, ?_⟩ <;> intros <;> simp
theorem lenF : (∀ xs, (ints xs).length = xs.length) ∧ (∀ r, (rowL r).length = r.length) ∧ (∀ l, (xc0 l).length = l.length) ∧ (∀ l, (kd0 l).length = l.length) := ⟨ka0, zc0, we0, xg0⟩
theorem xb0 {p : Prop} (h : p := by first|trivial|((repeat' apply And.intro) <;> first|trivial|assumption|omega|(simp only [maxLen]; omega)|(simp only [lenF, lenS, List.length_map, maxLen] <;> omega))) : p := h
theorem za0 {p : Prop} (h : p := by first|omega|(simp only [lenF, lenS, List.length_map]; omega)) : p := h
attribute [simp] va0 vf0 wc0 zi0 xaC9
attribute [push_cast] wbK9 qcV9 vcv9 kcv9 ka0 zc0 we0 xg0 vaC9 Bool.eq_true_or_eq_false_self Bool.eq_false_or_eq_true_self Bool.not_or_self Bool.or_not_self Bool.and_self Bool.or_self Bool.not_not Bool.and_not_self Bool.not_and_self
attribute [push_cast] ti1 ti2 ti3 ti4 ti5 ti9 ti21 ti22 ti24 ti25 ti26 ti27 ti29 ti32 ti40 ti44 ti45 ti47 ti64 et64 ti66 ti68 et68 ti84 ti85 ti93 ti95 ti97 zdW9 xdW9 wdW9 vdW9 kdW9 qdX9 zdX9 xdX9 wdX9 vdX9 kdX9 qdY9 zdY9 xdY9 wdY9 vdY9 kdY9 qdZ9 zdZ9 xdZ9 wdZ9 vdZ9 kdZ9 qea9 zea9 xea9 wea9 vea9 kea9 en6 en7 en8 en9 en10 en11 en12 en13 en14 en15 en16 en17 en20 en21 en23 en25 en27 en30 en32 en33 en34 en35 en36 en37 en38 en39 en40 en41 en42 en43 en44 en45 en46 en47 en48 en49 en50 en53 en54 en55 en56 en57 en58 en60 en61 en62 en63 en65 en66 en67 en68 en69 en70 en71 en72 en73 en74 en77 en78 en79 en80 en82 en83 en84 en85 en86 en87 en88 en89 en90 en91 en92 en93 en94 en96 en97 en98 en99 qeb9 zeb9 xeb9 web9 veb9 keb9 qec9 zec9 xec9 wec9 vec9 kec9 qed9 zed9 xed9 wed9 ved9 ked9
end Go.Proofs
namespace Go.Proofs
open Go Go.V
set_option linter.unusedVariables false
set_option linter.unusedSimpArgs false
set_option maxHeartbeats 0
set_option maxRecDepth 100000 in
theorem goD {ρ : Bool} {G : Glob} {n0 n : Nat} {body : Code} {p : List Nat} {Q : wm0} {B : Prop} {s : Nat → AV} {H : List Blk} (h : Acc ρ Tryz.prog G n0 n allQ body p Q 0 B s H) (hs : wY0 (atR body p) = true := by rfl) (hd : xbf9 (atR body p) = true := by rfl) (ho : qaw9 allQ (kk0 (atR body p)) = true := by first | assumption | kernel_rfl) : Go ρ Tryz.prog G n0 n body p Q B s H := zaV9 (dr := allQ) hs hd mixed ho h
theorem appG {p q : Prop} (k : q) (h : p := by first | exact ⟨[_], rfl⟩ | exact ⟨[], by simp only [List.append_nil]⟩) : p ∧ q := ⟨h, k⟩
theorem gG {ρ ρ' : Bool} {P P' : Program} {G G' : Glob} {n0 n0' n n' : Nat} {body body' : Code} {p p' : List Nat} {Q Q' : wm0} {s s' : Nat → AV} {H H' : List Blk} (h1 : Go ρ P G n0 n body p Q True s H) (h2 : Go ρ' P' G' n0' n' body' p' Q' True s' H') : At ρ P G n0 n body p Q s H ∧ At ρ' P' G' n0' n' body' p' Q' s' H' := ⟨h1.2, h2.2⟩
theorem qcw9 (a b : Int) : PC Tryz.prog G0 53 [.int .i64 a, .int .i64 b] (.int .i64 (if 16 < a ∨ 256 < b then 3 else 0)) := by
 by_cases h1 : 16 < a
 ·rw [if_pos (.inl h1)]
  refine vd0 0 11 [.tmp 4] Tryz.func53 rfl rfl rfl (by simp) ?_
  intro s ⟨a0, a1, hz⟩
  simp only [Nat.zero_add, Nat.reduceAdd] at a1
  clear hz
  repeat' (first|refine nav ?_|(refine g0_ ?_; refine goD ?_)|(with_reducible refine gG ?_ ?_)|((with_reducible refine And.intro (fun h => ?_) (fun h => ?_)) <;> try (exfalso; omega))|(with_reducible refine andG ?_)|fail|simp (disch := (first|exact za0|fail)) only [push_cast, simprocAttr, a0, a1, h1])
 ·by_cases h2 : 256 < b
  ·rw [if_pos (.inr h2)]
   refine vd0 0 11 [.tmp 4] Tryz.func53 rfl rfl rfl (by simp) ?_
   intro s ⟨a0, a1, hz⟩
   simp only [Nat.zero_add, Nat.reduceAdd] at a1
   clear hz
   repeat' (first|refine nav ?_|(refine g0_ ?_; refine goD ?_)|(with_reducible refine gG ?_ ?_)|((with_reducible refine And.intro (fun h => ?_) (fun h => ?_)) <;> try (exfalso; omega))|(with_reducible refine andG ?_)|fail|simp (disch := (first|exact za0|fail)) only [push_cast, simprocAttr, a0, a1, h1, h2])
  ·rw [if_neg (by omega)]
   refine vd0 0 11 [.tmp 4] Tryz.func53 rfl rfl rfl (by simp) ?_
   intro s ⟨a0, a1, hz⟩
   simp only [Nat.zero_add, Nat.reduceAdd] at a1
   clear hz
   repeat' (first|refine nav ?_|(refine g0_ ?_; refine goD ?_)|(with_reducible refine gG ?_ ?_)|((with_reducible refine And.intro (fun h => ?_) (fun h => ?_)) <;> try (exfalso; omega))|(with_reducible refine andG ?_)|fail|simp (disch := (first|exact za0|fail)) only [push_cast, simprocAttr, a0, a1, h1, h2])
set_option maxRecDepth 100000 in
theorem zcw9 (z : Nat) (l : List Int) (c : Option Nat) (n : Int) (hz : l = [] ∨ z = 1) (hl : l.length ≤ 9223372036854775807) : PC Tryz.prog G0 54 [.sl z (ints l) c, .int .i64 n] (.bool (zf0 l n)) := by
 have hil := ka0 l
 refine vd0 0 35 [.tmp 4] Tryz.func54 rfl rfl rfl (by simp) ?_
 intro s ⟨a0, a1, hz⟩
 simp only [Nat.zero_add, Nat.reduceAdd] at a1
 clear hz
 repeat' (first|refine nav ?_|(refine g0_ ?_; refine goD ?_)|(with_reducible refine gG ?_ ?_)|((with_reducible refine And.intro (fun h => ?_) (fun h => ?_)) <;> try (exfalso; omega))|(with_reducible refine andG ?_)|fail|simp (disch := (first|exact za0|fail)) only [push_cast, simprocAttr, a0, a1, hil])
 refine go_loop rfl (fun mz s' H' => ∃ k : Nat, k ≤ l.length ∧ mz = l.length - k ∧ H' = [] ∧ s' 0 = .sl z (ints l) c ∧ s' 1 = .int .i64 n ∧ s' 7 = .sl z (ints l) c ∧ s' 8 = .int .i64 l.length ∧ s' 9 = .int .i64 k ∧ (∀ j, j < k → okI l n j = true)) (m := l.length) (by first|exact xb0|fail) (Weak.refl _ _) ⟨0, by omega, by omega, rfl, ?_⟩ ?_
 ·refine ⟨?_, ?_, ?_, ?_, ?_, fun j hj => by omega⟩
  all_goals simp (disch := (first|exact za0|fail)) only [push_cast, simprocAttr, a0, a1, hil]
 ·rintro mz s' H' ⟨k, hk, rfl, rfl, b0, b1, b7, b8, b9, ik⟩
  rcases Nat.lt_or_ge k l.length with hlt|hge
  ·obtain rfl := hz.resolve_left (by intro h; rw [h] at hlt; simp at hlt)
   have e1 := kc0 l k hlt
   have e2 := kc0 l (k - 1) (by omega)
   have hno := xcU9 (n := n) hlt
   have hsn := kai9 (P := fun j => okI l n j = true) (k := k) ik
   have hok : okI l n k = (decide (0 ≤ l.getD k 0) && (decide (l.getD k 0 < n) && (decide (k = 0) || decide (l.getD (k - 1) 0 < l.getD k 0)))) := rfl
   rw [hok] at hno hsn
   generalize l.getD k 0 = x at *
   generalize l.getD (k - 1) 0 = y at *
   by_cases h1 : x < 0
   ·rw [hno (by rw [decide_eq_false (by omega)]; rfl)]
    repeat' (first|refine nav ?_|(refine g0_ ?_; refine goD ?_)|(with_reducible refine gG ?_ ?_)|((with_reducible refine And.intro (fun h => ?_) (fun h => ?_)) <;> try (exfalso; omega))|(with_reducible refine andG ?_)|fail|simp (disch := (first|exact za0|fail)) only [push_cast, simprocAttr, b0, b1, b7, b8, b9, e1, h1, hil])
   ·by_cases h2 : n ≤ x
    ·rw [hno (by rw [decide_eq_true (by omega), decide_eq_false (by omega)]; rfl)]
     repeat' (first|refine nav ?_|(refine g0_ ?_; refine goD ?_)|(with_reducible refine gG ?_ ?_)|((with_reducible refine And.intro (fun h => ?_) (fun h => ?_)) <;> try (exfalso; omega))|(with_reducible refine andG ?_)|fail|simp (disch := (first|exact za0|fail)) only [push_cast, simprocAttr, b0, b1, b7, b8, b9, e1, h1, h2, hil])
    ·rcases Nat.eq_zero_or_pos k with rfl|hk0
     ·have h3 := hsn (by simp; omega)
      repeat' (first|refine nav ?_|(refine g0_ ?_; refine goD ?_)|(with_reducible refine gG ?_ ?_)|((with_reducible refine And.intro (fun h => ?_) (fun h => ?_)) <;> try (exfalso; omega))|(with_reducible refine andG ?_)|fail|simp (disch := (first|exact za0|fail)) only [push_cast, simprocAttr, b0, b1, b7, b8, b9, e1, h1, h2, hil])
      refine xa0 (l.length - (0 + 1)) (by omega) (by first|exact xb0|fail) ⟨0 + 1, by omega, rfl, rfl, ?_, ?_, ?_, ?_, ?_, h3⟩
      all_goals simp (disch := (first|exact za0|fail)) only [push_cast, simprocAttr, b0, b1, b7, b8, b9, e1, h1, h2, hil]
     ·have hj3 : ((k : Int) - 1).toNat = k - 1 := by omega
      have hj4 : 0 ≤ (k : Int) - 1 := by omega
      have hj5 : (k : Int) - 1 < l.length := by omega
      by_cases h3 : x ≤ y
      ·rw [hno (by rw [decide_eq_true (by omega), decide_eq_true (by omega), decide_eq_false (by omega), decide_eq_false (by omega)]; rfl)]
       repeat' (first|refine nav ?_|(refine g0_ ?_; refine goD ?_)|(with_reducible refine gG ?_ ?_)|((with_reducible refine And.intro (fun h => ?_) (fun h => ?_)) <;> try (exfalso; omega))|(with_reducible refine andG ?_)|fail|simp (disch := (first|exact za0|fail)) only [push_cast, simprocAttr, b0, b1, b7, b8, b9, e1, e2, h1, h2, h3, hj3, hj4, hj5, hil, hk0])
      ·have h4 := hsn (by simp; omega)
       repeat' (first|refine nav ?_|(refine g0_ ?_; refine goD ?_)|(with_reducible refine gG ?_ ?_)|((with_reducible refine And.intro (fun h => ?_) (fun h => ?_)) <;> try (exfalso; omega))|(with_reducible refine andG ?_)|fail|simp (disch := (first|exact za0|fail)) only [push_cast, simprocAttr, b0, b1, b7, b8, b9, e1, e2, h1, h2, h3, hj3, hj4, hj5, hil, hk0])
       refine xa0 (l.length - (k + 1)) (by omega) (by first|exact xb0|fail) ⟨k + 1, by omega, rfl, rfl, ?_, ?_, ?_, ?_, ?_, h4⟩
       all_goals simp (disch := (first|exact za0|fail)) only [push_cast, simprocAttr, b0, b1, b7, b8, b9, e1, e2, h1, h2, h3, hj3, hj4, hj5, hil, hk0]
  ·obtain rfl : k = l.length := by omega
   rw [kbk9 ik]
   repeat' (first|refine nav ?_|(refine g0_ ?_; refine goD ?_)|(with_reducible refine gG ?_ ?_)|((with_reducible refine And.intro (fun h => ?_) (fun h => ?_)) <;> try (exfalso; omega))|(with_reducible refine andG ?_)|fail|simp (disch := (first|exact za0|fail)) only [push_cast, simprocAttr, b0, b1, b7, b8, b9, hil])
end Go.Proofs
