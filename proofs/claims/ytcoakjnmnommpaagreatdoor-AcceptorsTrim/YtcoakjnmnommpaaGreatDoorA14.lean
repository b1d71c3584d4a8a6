import Derived.Test.YtcoakjnmnommpaaGreatDoorA13
namespace Go.Proofs
open Go Go.V
set_option linter.unusedVariables false
set_option linter.unusedSimpArgs false
set_option maxHeartbeats 0
def bitS (b m : Nat) : List Nat := (List.range m).filter fun s => b.testBit s
theorem kcy9 (b m : Nat) : bitS b (m + 1) = if b.testBit m = true then bitS b m ++ [m] else bitS b m := by
 rw [bitS, List.range_succ, List.filter_append, ← bitS]
 by_cases h : b.testBit m = true
 ·rw [if_pos h]; congr 1; simp only [List.filter_cons, h, if_pos, List.filter_nil]
 ·rw [if_neg h]
  have h2 : b.testBit m = false := by simpa using h
  simp [List.filter_cons, h2]
theorem xbL9 (b m : Nat) : (bitS b m).length ≤ m := by
 have := List.length_filter_le (fun s : Nat => b.testBit s) (List.range m)
 rwa [List.length_range] at this
theorem wdO9 (b s : Nat) (hb : b < 256) (hs : s < 8) : bits .and .u8 ((b : Int).fdiv (2 ^ min ((s : Int).toNat) IntKind.u8.bits)) 1 = if b.testBit s = true then 1 else 0 := by
 have : ∀ b : Fin 256, ∀ s : Fin 8, bits .and .u8 (((b.1 : Nat) : Int).fdiv (2 ^ min (((s.1 : Nat) : Int).toNat) IntKind.u8.bits)) 1 = if b.1.testBit s.1 = true then 1 else 0 := by decide +kernel
 exact this ⟨b, hb⟩ ⟨s, hs⟩
set_option maxRecDepth 100000 in
theorem wdh9 (b m : Nat) (hb : b < 256) (hm : m ≤ 8) : PC Tryz.prog G0 32 [.int .u8 b, .int .i64 m] (.sl 1 (ints (intN (bitS b m))) none) := by
 refine vd0 1 23 [.tmp 4] Tryz.func32 rfl rfl rfl (by simp) ?_
 intro s ⟨a0, a1, hz⟩
 simp only [Nat.zero_add, Nat.reduceAdd] at a1
 clear hz
 repeat' (first|refine nav ?_|(refine g0_ ?_; refine goD ?_)|(with_reducible refine gG ?_ ?_)|((with_reducible refine And.intro (fun h => ?_) (fun h => ?_)) <;> try (exfalso; omega))|(with_reducible refine andG ?_)|fail|simp (disch := (first|exact za0|fail)) only [push_cast, simprocAttr, a0, a1])
 refine go_loop rfl (fun mz s' H' => ∃ s : Nat, s ≤ m ∧ mz = m - s ∧ H' = [.row 1 3 (ints (intN (bitS b s)))] ∧ s' 0 = .int .u8 b ∧ s' 1 = .int .i64 m ∧ s' 5 = .own 0 (bitS b s).length (bitS b s).length none ∧ s' 6 = .int .i64 s) (m := m) (by first|exact xb0|fail) (zp0 (t := 5) (sz := 1) (ty := 3) rfl) ⟨0, by omega, by omega, rfl, ?_⟩ ?_
 ·simp (disch := (first|exact za0|fail)) only [push_cast, simprocAttr, a0, a1]
  rfl
 ·rintro mz s' H' ⟨s, hs, rfl, rfl, b0, b1, b5, b6⟩
  have hll := xbL9 b s
  have hml : (ints (intN (bitS b s))).length = (bitS b s).length := by rw [ka0, zb0]
  have et : (ints (intN (bitS b s))).take (bitS b s).length = ints (intN (bitS b s)) := List.take_of_length_le (by omega)
  have ed : (ints (intN (bitS b s))).drop ((bitS b s).length + 1) = [] := List.drop_eq_nil_of_le (by omega)
  rcases Nat.lt_or_ge s m with hlt|hge
  ·have hsu := kcy9 b s
   have hbit := wdO9 b s hb (by omega)
   rw [Int.toNat_natCast] at hbit
   have hsn := xm0 (intN (bitS b s)) (s : Int)
   rw [← zn0] at hsn
   have hwr : IntKind.u64.wrap (s : Int) = s := xQ0 s (by omega)
   cases hq : b.testBit s with
   | true =>
    rw [hq, if_pos rfl] at hsu
    rw [hq, if_pos rfl] at hbit
    repeat' (first|refine nav ?_|(refine g0_ ?_; refine goD ?_)|(with_reducible refine gG ?_ ?_)|((with_reducible refine And.intro (fun h => ?_) (fun h => ?_)) <;> try (exfalso; omega))|(with_reducible refine andG ?_)|fail|simp (disch := (first|exact za0|fail)) only [push_cast, simprocAttr, b0, b1, b5, b6, hml, et, ed, hbit, hwr])
    refine xa0 (m - (s + 1)) (by omega) (by first|exact xb0|fail) ⟨s + 1, by omega, rfl, by rw [hsu, ← hsn], ?_⟩
    rw [hsu]
    simp (disch := (first|exact za0|fail)) only [push_cast, simprocAttr, b0, b1, b5, b6, hml, et, ed, hbit, hwr]
   | false =>
    rw [hq, if_neg (by simp)] at hsu
    rw [hq, if_neg (by simp)] at hbit
    repeat' (first|refine nav ?_|(refine g0_ ?_; refine goD ?_)|(with_reducible refine gG ?_ ?_)|((with_reducible refine And.intro (fun h => ?_) (fun h => ?_)) <;> try (exfalso; omega))|(with_reducible refine andG ?_)|fail|simp (disch := (first|exact za0|fail)) only [push_cast, simprocAttr, b0, b1, b5, b6, hml, et, ed, hbit, hwr])
    refine xa0 (m - (s + 1)) (by omega) (by first|exact xb0|fail) ⟨s + 1, by omega, rfl, by rw [hsu], ?_⟩
    rw [hsu]
    simp (disch := (first|exact za0|fail)) only [push_cast, simprocAttr, b0, b1, b5, b6, hml, et, ed, hbit, hwr]
  ·obtain rfl : s = m := by omega
   repeat' (first|refine nav ?_|(refine g0_ ?_; refine goD ?_)|(with_reducible refine gG ?_ ?_)|((with_reducible refine And.intro (fun h => ?_) (fun h => ?_)) <;> try (exfalso; omega))|(with_reducible refine andG ?_)|fail|simp (disch := (first|exact za0|fail)) only [push_cast, simprocAttr, b0, b1, b5, b6, hml, et])
def wrdN (w : List Nat) (A : Nat) : List Nat := (w.take 40).map fun x => x % A
def u8s (w : List Nat) : List (List AV) := w.map fun x => [.int .u8 (x : Nat)]
theorem qcc9 (w : List Nat) : (u8s w).length = w.length := by simp [u8s]
theorem xcW9 (w : List Nat) (k : Nat) (h : k < w.length) : (u8s w).getD k [] = [.int .u8 (w.getD k 0 : Nat)] := by simp [u8s, h]
theorem qaZ9 (w : List Nat) (A : Nat) : (wrdN w A).length = min 40 w.length := by simp [wrdN]
theorem qcz9 (w : List Nat) (A k : Nat) (hk : k < w.length) (h40 : k < 40) : ((w.take (k + 1)).take 40).map (fun x => x % A) = ((w.take k).take 40).map (fun x => x % A) ++ [w.getD k 0 % A] := by
 rw [List.take_of_length_le (l := w.take (k + 1)) (by rw [List.length_take]; omega), List.take_of_length_le (l := w.take k) (by rw [List.length_take]; omega), ks0 _ w 0 k hk]
set_option maxRecDepth 100000 in
theorem vdO9 (z : Nat) (w : List Nat) (c : Option Nat) (A : Nat) (hz : w = [] ∨ z = 1) (hw : ∀ x ∈ w, x < 256) (hl : w.length ≤ 9223372036854775807) (hA : 1 ≤ A ∧ A ≤ 16) : PC Tryz.prog G0 7 [.sl z (u8s w) c, .int .i64 A] (.sl 1 (ints (intN (wrdN w A))) none) := by
 have hil := qcc9 w
 have hA0 : ¬ (A : Int) = 0 := by omega
 have hA1 : ¬ A = 0 := by omega
 refine vd0 1 29 [.tmp 4] Tryz.func7 rfl rfl rfl (by simp) ?_
 intro s ⟨a0, a1, hz⟩
 simp only [Nat.zero_add, Nat.reduceAdd] at a1
 clear hz
 repeat' (first|refine nav ?_|(refine g0_ ?_; refine goD ?_)|(with_reducible refine gG ?_ ?_)|((with_reducible refine And.intro (fun h => ?_) (fun h => ?_)) <;> try (exfalso; omega))|(with_reducible refine andG ?_)|fail|simp (disch := (first|exact za0|fail)) only [push_cast, simprocAttr, a0, a1, hil])
 refine go_loop rfl (fun mz s' H' => ∃ k : Nat, k ≤ min 40 w.length ∧ mz = min 40 w.length - k ∧ H' = [.row 1 3 (ints (intN (wrdN (w.take k) A)))] ∧ s' 0 = .sl z (u8s w) c ∧ s' 1 = .int .i64 A ∧ s' 5 = .own 0 k k none ∧ s' 6 = .int .i64 k) (m := min 40 w.length) (by first|exact xb0|fail) (zp0 (t := 5) (sz := 1) (ty := 3) rfl) ⟨0, by omega, by omega, rfl, ?_⟩ ?_
 ·simp (disch := (first|exact za0|fail)) only [push_cast, simprocAttr, a0, a1, hil]
 ·rintro mz s' H' ⟨k, hk, rfl, rfl, b0, b1, b5, b6⟩
  have hml : (ints (intN (wrdN (w.take k) A))).length = k := by rw [ka0, zb0, qaZ9, List.length_take]; omega
  have et : (ints (intN (wrdN (w.take k) A))).take k = ints (intN (wrdN (w.take k) A)) := List.take_of_length_le (by omega)
  have ed : (ints (intN (wrdN (w.take k) A))).drop (k + 1) = [] := List.drop_eq_nil_of_le (by omega)
  rcases Nat.lt_or_ge k (min 40 w.length) with hlt|hge
  ·have hlt1 : k < w.length := by omega
   have hlt2 : k < 40 := by omega
   have hlt3 : (k : Int) < 40 := by omega
   obtain rfl := hz.resolve_left (by intro h; rw [h] at hlt1; simp at hlt1)
   have e1 := xcW9 w k hlt1
   have hsu : wrdN (w.take (k + 1)) A = wrdN (w.take k) A ++ [w.getD k 0 % A] := qcz9 w A k hlt1 hlt2
   have hx := hw _ (qd0 (d := 0) hlt1)
   generalize w.getD k 0 = x at *
   have hsn := xm0 (intN (wrdN (w.take k) A)) ((x % A : Nat) : Int)
   rw [← zn0, ← hsu] at hsn
   have hmod : (x : Int).tmod (A : Int) = ((x % A : Nat) : Int) := rfl
   have hml2 := Nat.mod_lt x (show 0 < A by omega)
   generalize x % A = xm at *
   repeat' (first|refine nav ?_|(refine g0_ ?_; refine goD ?_)|(with_reducible refine gG ?_ ?_)|((with_reducible refine And.intro (fun h => ?_) (fun h => ?_)) <;> try (exfalso; omega))|(with_reducible refine andG ?_)|fail|simp (disch := (first|exact za0|fail)) only [push_cast, simprocAttr, b0, b1, b5, b6, hml, et, ed, e1, hil, hmod, hA0, hA1, hlt2, hlt3])
   refine xa0 (min 40 w.length - (k + 1)) (by omega) (by first|exact xb0|fail) ⟨k + 1, by omega, rfl, by rw [← hsn], ?_⟩
   simp (disch := (first|exact za0|fail)) only [push_cast, simprocAttr, b0, b1, b5, b6, hml, et, ed, e1, hil, hmod, hA0, hA1, hlt2, hlt3]
  ·obtain rfl : k = min 40 w.length := by omega
   have hfin : wrdN (w.take (min 40 w.length)) A = wrdN w A := by
    unfold wrdN
    rw [List.take_take]
    congr 1
    rcases Nat.le_total 40 w.length with h|h
    ·rw [Nat.min_eq_left h]; simp
    ·rw [Nat.min_eq_right h, Nat.min_eq_right h, List.take_of_length_le (Nat.le_refl _), List.take_of_length_le h]
   rw [hfin] at *
   have efin : (ints (intN (wrdN w A))).take (min 40 w.length) = ints (intN (wrdN w A)) := List.take_of_length_le (by rw [ka0, zb0, qaZ9]; omega)
   have hend : (min 40 w.length = (intN (wrdN w A)).length ∧ (((ints (intN (wrdN w A))).take (min 40 w.length)).all fun e => e.all fun x => AV.ids van9 x) = true) ∧ (ints (intN (wrdN w A))).take (min 40 w.length) = ints (intN (wrdN w A)) := by
    rw [efin]; exact ⟨⟨by rw [zb0, qaZ9], wbK9 _ _⟩, rfl⟩
   by_cases h40 : w.length < 40
   ·have hm : min 40 w.length = w.length := by omega
    rw [hm] at b5 b6
    repeat' (first|refine nav ?_|(refine g0_ ?_; refine goD ?_)|(with_reducible refine gG ?_ ?_)|((with_reducible refine And.intro (fun h => ?_) (fun h => ?_)) <;> try (exfalso; omega))|(with_reducible refine andG ?_)|fail|simp (disch := (first|exact za0|fail)) only [push_cast, simprocAttr, b0, b1, b5, b6, hml, et, hil])
    all_goals first|exact hend|omega
   ·have hm : min 40 w.length = 40 := by omega
    rw [hm] at b5 b6
    have hlt : 40 ≤ w.length := by omega
    by_cases h41 : 40 < w.length
    ·have h42 : (40 : Int) < w.length := by omega
     repeat' (first|refine nav ?_|(refine g0_ ?_; refine goD ?_)|(with_reducible refine gG ?_ ?_)|((with_reducible refine And.intro (fun h => ?_) (fun h => ?_)) <;> try (exfalso; omega))|(with_reducible refine andG ?_)|fail|simp (disch := (first|exact za0|fail)) only [push_cast, simprocAttr, b0, b1, b5, b6, hml, et, hil, h42, h41])
     all_goals first|exact hend|omega
    ·have h42 : ¬ (40 : Int) < w.length := by omega
     repeat' (first|refine nav ?_|(refine g0_ ?_; refine goD ?_)|(with_reducible refine gG ?_ ?_)|((with_reducible refine And.intro (fun h => ?_) (fun h => ?_)) <;> try (exfalso; omega))|(with_reducible refine andG ?_)|fail|simp (disch := (first|exact za0|fail)) only [push_cast, simprocAttr, b0, b1, b5, b6, hml, et, hil, h42, h41])
     all_goals first|exact hend|omega
end Go.Proofs
