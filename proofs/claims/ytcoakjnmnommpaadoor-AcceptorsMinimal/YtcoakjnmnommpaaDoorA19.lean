import Derived.Test.YtcoakjnmnommpaaDoorA18
import Derived.Test.YtcoakjnmnommpaaDoorA15
import Derived.Test.YtcoakjnmnommpaaDoorAR3
import Derived.Test.YtcoakjnmnommpaaDoorV59
namespace Go.Proofs
open Go Go.V
set_option linter.unusedVariables false
set_option linter.unusedSimpArgs false
theorem zad9 (S : List Nat) : natL (intN S) = S := by
 rw [natL, intN, List.map_map]
 exact (List.map_congr_left fun x _ => Int.toNat_natCast x).trans (List.map_id S)
theorem qcQ9 (x : ND) (s a : Nat) (c : Option Nat) : rowV (x.row s a, c) = (List.range a).map fun a => intN (x.lst s a x.n) := by simp [rowV, ND.row]
theorem vaL9 (x : ND) (s : Nat) : rowsV (x.rows s) = (List.range s).map fun s => (List.range x.A).map fun a => intN (x.lst s a x.n) := by
 simp [rowsV, ND.rows, qcQ9]
theorem kj0 (n : Nat) (p : Nat → Bool) : xf0 (intN ((List.range n).filter p)) n = true := zbh9 n p
theorem ND.okN (x : ND) : OkNv x.A (rowsV (x.rows x.n)) (intN (bitS x.st x.n)) (intN (bitS x.ac x.n)) := by
 have hl : (rowsV (x.rows x.n)).length = x.n := by rw [kb0, x.rows_len]
 have hn : x.n ≤ 6 := by unfold ND.n; omega
 refine ⟨by unfold ND.A; omega, by unfold ND.A; omega, by omega, ?_, ?_, ?_, ?_⟩
 ·rw [hl]; exact kj0 _ _
 ·rw [hl]; exact kj0 _ _
 ·intro s hs
  rw [hl] at hs
  rw [vaL9]; simp [hs]
 ·intro s a hs ha
  rw [hl] at hs ⊢
  rw [vaL9]
  simp [hs, ha]
  exact kj0 _ _
theorem ND.nN (x : ND) : x.n ≤ 6 ∧ 1 ≤ x.A ∧ x.A ≤ 3 := by unfold ND.n ND.A; omega
theorem ND.row_get (x : ND) (s : Nat) (hs : s < x.n) : (x.rows x.n).getD s ([], none) = (x.row s x.A, none) := by simp [ND.rows, hs]
theorem ND.lst_get (x : ND) (s a : Nat) (hs : s < x.n) (ha : a < x.A) : lstC (x.rows x.n) s a = (intN (x.lst s a x.n), none) := by
 rw [lstC, x.row_get s hs]; simp [ND.row, ha]
theorem ND.sizeN (x : ND) : SizeN 1 (x.rows x.n) 1 (intN (bitS x.st x.n)) 1 (intN (bitS x.ac x.n)) := by
 obtain ⟨h1, h2, h3⟩ := x.nN
 have hb := fun b => vbG9 b x.n
 refine ⟨.inr rfl, .inr rfl, .inr rfl, ?_, ?_, ?_, ?_, ?_⟩
 ·rw [x.rows_len]; omega
 ·rw [intN_len]; have := hb x.st; omega
 ·rw [intN_len]; have := hb x.ac; omega
 ·intro s hs
  rw [x.rows_len] at hs
  rw [x.row_get s hs, x.row_len]; omega
 ·intro s a hs ha
  rw [x.rows_len] at hs
  rw [x.row_get s hs, x.row_len] at ha
  have := x.lst_get s a hs ha
  rw [lstC] at this
  rw [this, intN_len]
  have := x.lst_len s a x.n
  omega
def ND.nf (x : ND) : Nf := nfOf (rowsV (x.rows x.n)) (intN (bitS x.st x.n)) (intN (bitS x.ac x.n))
theorem qaj9 {A : Nat} {rows : List (List (List Int))} {st ac : List Int} (h : OkNv A rows st ac) : FiltF (nfOf rows st ac).n (nfOf rows st ac).S ∧ FiltF (nfOf rows st ac).n (nfOf rows st ac).F :=
 ⟨(vaK9 h.st).filt, (vaK9 h.ac).filt⟩
theorem vaV9 (x : Nf) (hS : FiltF x.n x.S) (A i : Nat) : ∀ S ∈ (stX (stepN x) eqL A x.S i).1, FiltF x.n S :=
 qL0 (stepN x) eqL A (P := FiltF x.n) x.S hS (fun S _ a _ => zay9 x S a) i
theorem FiltF.wlt {n : Nat} {S : List Nat} (h : FiltF n S) (hn : n ≤ 8) : wP (pS S) 0 < 256 := by
 refine Nat.lt_pow_two_of_testBit (n := 8) _ fun b hb => ?_
 by_cases h64 : b < 64
 ·rw [kp0 _ _ _ (by decide) h64, pS, Bool.eq_false_iff]
  intro q
  have := h.lt (List.contains_iff_mem.1 q)
  omega
 ·exact Nat.testBit_lt_two_pow (Nat.lt_of_lt_of_le (kay9 _ _) (Nat.pow_le_pow_right (by decide) (by omega)))
theorem FiltF.winj {n : Nat} {S T : List Nat} (h : FiltF n S) (h2 : FiltF n T) (hn : n ≤ 64) (e : wP (pS S) 0 = wP (pS T) 0) : S = T := by
 refine h.ext h2 fun s hs => ?_
 have h1 := kp0 (pS S) 0 s (by decide) (by omega)
 have h3 := kp0 (pS T) 0 s (by decide) (by omega)
 rw [e, h3] at h1
 simp only [pS, Nat.mul_zero, Nat.zero_add] at h1
 rw [← List.contains_iff_mem, ← List.contains_iff_mem, h1]
theorem kbV9 (x : Nf) (hS : FiltF x.n x.S) (hn : x.n ≤ 8) (A i : Nat) : (stX (stepN x) eqL A x.S i).1.length ≤ 256 :=
 xG0 (eqv := eqL) (fun S => wP (pS S) 0) 256 _ (fun S hS' => (vaV9 x hS A i S hS').wlt hn) (fun S hS' T hT' e => by
  rw [(vaV9 x hS A i S hS').winj (vaV9 x hS A i T hT') (by omega) e]; exact xs0 T) (qy0 (stepN x) eqL A x.S i)
end Go.Proofs
namespace Go.Proofs
open Go Go.V
set_option linter.unusedVariables false
set_option linter.unusedSimpArgs false
def shB (b v n : Nat) : Nat → Nat
 | 0 => 0
 | k + 1 => shB b v n k ||| (((b >>> k) &&& 1) <<< ((k + v) % n))
def aK (x : ND) (v s a k : Nat) : List (Nat × Nat × Nat) := ((x.lst s a x.n).take k).map fun t => ((s + v) % x.n, a, (t + v) % x.n)
def aA (x : ND) (v s a : Nat) : List (Nat × Nat × Nat) := (List.range a).flatMap fun a => aK x v s a (x.lst s a x.n).length
def aS (x : ND) (v s : Nat) : List (Nat × Nat × Nat) := (List.range s).flatMap fun s => aA x v s x.A
def ND.shift (x : ND) (v : Nat) : ND := ⟨x.sy, x.many, aS x v x.n, shB x.st v x.n x.n, shB x.ac v x.n x.n⟩
end Go.Proofs
namespace Go.Proofs
open Go Go.V
set_option linter.unusedVariables false
set_option linter.unusedSimpArgs false
set_option maxHeartbeats 0
set_option maxRecDepth 100000
theorem zaj9 (b n h : Nat) (t : TypeId) (es : List (List AV)) (c : Option Nat) (H : List Blk) (hb : H[b]? = some (.row 1 t es)) (hh : h = es.length) (hn : n ≤ h) : ze0 Tryd.prog G0 35 [.own b n h c] H (.own b n h (some n)) H := by
 subst hh
 refine kI0 9 [.tmp 2] Tryd.func35 rfl rfl rfl (by simp) ?_
 intro s ⟨a0, hz⟩
 clear hz
 repeat' (first|refine nav ?_|(refine g0_ ?_; refine goD ?_)|(with_reducible refine gG ?_ ?_)|((with_reducible refine And.intro (fun h => ?_) (fun h => ?_)) <;> try (exfalso; omega))|(with_reducible refine andG ?_)|(refine And.intro ⟨[_], rfl⟩ ?_)|(refine And.intro ⟨[], by simp only [List.append_nil]⟩ ?_)|fail|simp (disch := (first|exact discB|fail)) only [push_cast, ↓reduceIte, reduceCtorEq, Nat.reduceAdd, Nat.reduceLT, Nat.reduceEqDiff, Nat.reduceLeDiff, Int.reduceAdd, Int.reduceLT, Int.reduceLE, Nat.reduceMul, a0, hb])
theorem kaL9 (b n h : Nat) (t : TypeId) (es : List (List AV)) (c : Option Nat) (H : List Blk) (hb : H[b]? = some (.row 1 t es)) (hh : h = es.length) (hn : n ≤ h) : ze0 Tryd.prog G0 36 [.own b n h c] H (.own b n h (some n)) H := by
 subst hh
 refine kI0 9 [.tmp 2] Tryd.func36 rfl rfl rfl (by simp) ?_
 intro s ⟨a0, hz⟩
 clear hz
 repeat' (first|refine nav ?_|(refine g0_ ?_; refine goD ?_)|(with_reducible refine gG ?_ ?_)|((with_reducible refine And.intro (fun h => ?_) (fun h => ?_)) <;> try (exfalso; omega))|(with_reducible refine andG ?_)|(refine And.intro ⟨[_], rfl⟩ ?_)|(refine And.intro ⟨[], by simp only [List.append_nil]⟩ ?_)|fail|simp (disch := (first|exact discB|fail)) only [push_cast, ↓reduceIte, reduceCtorEq, Nat.reduceAdd, Nat.reduceLT, Nat.reduceEqDiff, Nat.reduceLeDiff, Int.reduceAdd, Int.reduceLT, Int.reduceLE, Nat.reduceMul, a0, hb])
theorem qbW9 (b n h : Nat) (t : TypeId) (es : List (List AV)) (c : Option Nat) (H : List Blk) (hb : H[b]? = some (.row 1 t es)) (hh : h = es.length) (hn : n ≤ h) : ze0 Tryd.prog G0 52 [.own b n h c] H (.own b n h (some n)) H := by
 subst hh
 refine kI0 9 [.tmp 2] Tryd.func52 rfl rfl rfl (by simp) ?_
 intro s ⟨a0, hz⟩
 clear hz
 repeat' (first|refine nav ?_|(refine g0_ ?_; refine goD ?_)|(with_reducible refine gG ?_ ?_)|((with_reducible refine And.intro (fun h => ?_) (fun h => ?_)) <;> try (exfalso; omega))|(with_reducible refine andG ?_)|(refine And.intro ⟨[_], rfl⟩ ?_)|(refine And.intro ⟨[], by simp only [List.append_nil]⟩ ?_)|fail|simp (disch := (first|exact discB|fail)) only [push_cast, ↓reduceIte, reduceCtorEq, Nat.reduceAdd, Nat.reduceLT, Nat.reduceEqDiff, Nat.reduceLeDiff, Int.reduceAdd, Int.reduceLT, Int.reduceLE, Nat.reduceMul, a0, hb])
theorem xaj9 (b n h : Nat) (t : TypeId) (es : List (List AV)) (c : Option Nat) (H : List Blk) (hb : H[b]? = some (.row 1 t es)) (hh : h = es.length) (hn : n ≤ h) : ze0 Tryd.prog G0 53 [.own b n h c] H (.own b n h (some n)) H := by
 subst hh
 refine kI0 9 [.tmp 2] Tryd.func53 rfl rfl rfl (by simp) ?_
 intro s ⟨a0, hz⟩
 clear hz
 repeat' (first|refine nav ?_|(refine g0_ ?_; refine goD ?_)|(with_reducible refine gG ?_ ?_)|((with_reducible refine And.intro (fun h => ?_) (fun h => ?_)) <;> try (exfalso; omega))|(with_reducible refine andG ?_)|(refine And.intro ⟨[_], rfl⟩ ?_)|(refine And.intro ⟨[], by simp only [List.append_nil]⟩ ?_)|fail|simp (disch := (first|exact discB|fail)) only [push_cast, ↓reduceIte, reduceCtorEq, Nat.reduceAdd, Nat.reduceLT, Nat.reduceEqDiff, Nat.reduceLeDiff, Int.reduceAdd, Int.reduceLT, Int.reduceLE, Nat.reduceMul, a0, hb])
theorem vdE9 (z : Nat) (es : List (List AV)) (c : Option Nat) (H : List Blk) (hs : es = [] ∨ z = 1) (hid : ∀ p, idsE p es = true) : ze0 Tryd.prog G0 53 [.sl z es c] H (.sl z es (some es.length)) H := by
 rcases hs with rfl|rfl
 ·refine kI0 9 [.tmp 2] Tryd.func53 rfl rfl rfl (by simp) ?_
  intro s ⟨a0, hz⟩
  clear hz
  repeat' (first|refine nav ?_|(refine g0_ ?_; refine goD ?_)|(with_reducible refine gG ?_ ?_)|((with_reducible refine And.intro (fun h => ?_) (fun h => ?_)) <;> try (exfalso; omega))|(with_reducible refine andG ?_)|(refine And.intro ⟨[_], rfl⟩ ?_)|(refine And.intro ⟨[], by simp only [List.append_nil]⟩ ?_)|fail|simp (disch := (first|exact discB|fail)) only [push_cast, ↓reduceIte, reduceCtorEq, Nat.reduceAdd, Nat.reduceLT, Nat.reduceEqDiff, Nat.reduceLeDiff, Int.reduceAdd, Int.reduceLT, Int.reduceLE, Nat.reduceMul, a0])
 ·refine kI0 9 [.tmp 2] Tryd.func53 rfl rfl rfl (by simp) ?_
  intro s ⟨a0, hz⟩
  clear hz
  repeat' (first|refine nav ?_|(refine g0_ ?_; refine goD ?_)|(with_reducible refine gG ?_ ?_)|((with_reducible refine And.intro (fun h => ?_) (fun h => ?_)) <;> try (exfalso; omega))|(with_reducible refine andG ?_)|(refine And.intro ⟨[_], rfl⟩ ?_)|(refine And.intro ⟨[], by simp only [List.append_nil]⟩ ?_)|fail|simp (disch := (first|exact discB|fail)) only [push_cast, ↓reduceIte, reduceCtorEq, Nat.reduceAdd, Nat.reduceLT, Nat.reduceEqDiff, Nat.reduceLeDiff, Int.reduceAdd, Int.reduceLT, Int.reduceLE, Nat.reduceMul, a0, List.take_length, List.drop_zero])
structure zdV9 (l : List RC) : Prop where
 r : ∀ s, s < l.length → (l.getD s ([], none)).2 = some (l.getD s ([], none)).1.length
 i : ∀ s a, s < l.length → a < (l.getD s ([], none)).1.length → ((l.getD s ([], none)).1.getD a ([], none)).2 = some ((l.getD s ([], none)).1.getD a ([], none)).1.length
theorem kdE9 : PC Tryd.prog G0 30 [] (nA 2 1 [([([0, 1], some 2), ([0], some 1)], some 2), ([([], some 0), ([2], some 1)], some 2), ([([], some 0), ([], some 0)], some 2)] (some 3) 1 [0] (some 1) 1 [2] (some 1)) := by
 refine wdK9 (r := .agg [.int .i64 2, .sl 1 [[.sl 1 [[.sl 1 [[.int .i64 0], [.int .i64 1]] (some 2)], [.sl 1 [[.int .i64 0]] (some 1)]] (some 2)], [.sl 1 [[.sl 0 [] (some 0)], [.sl 1 [[.int .i64 2]] (some 1)]] (some 2)], [.sl 1 [[.sl 0 [] (some 0)], [.sl 0 [] (some 0)]] (some 2)]] (some 3), .sl 1 [[.int .i64 0]] (some 1), .sl 1 [[.int .i64 2]] (some 1)]) ?_ rfl
 refine wd0 2 11 [.cell 0 28] Tryd.func30 rfl rfl rfl (by simp) ?_
 intro s hz
 clear hz
 repeat' (first|((first|refine nav ?_|(refine g0_ ?_; refine goD ?_)) <;> (try simp (disch := (first|exact discB|fail)) only [push_cast, ↓reduceIte, reduceCtorEq, Nat.reduceAdd, Nat.reduceLT, Nat.reduceEqDiff, Nat.reduceLeDiff, Int.reduceAdd, Int.reduceLT, Int.reduceLE, Nat.reduceMul, Nat.add_zero]))|(with_reducible refine gG ?_ ?_)|((with_reducible refine And.intro (fun h => ?_) (fun h => ?_)) <;> try (exfalso; omega))|(with_reducible refine andG ?_)|(refine And.intro ⟨[_], rfl⟩ ?_)|(refine And.intro ⟨[], by simp only [List.append_nil]⟩ ?_)|fail|simp (disch := (first|exact discB|fail)) only [push_cast, ↓reduceIte, reduceCtorEq, Nat.reduceAdd, Nat.reduceLT, Nat.reduceEqDiff, Nat.reduceLeDiff, Int.reduceAdd, Int.reduceLT, Int.reduceLE, Nat.reduceMul, Nat.add_zero])
end Go.Proofs
