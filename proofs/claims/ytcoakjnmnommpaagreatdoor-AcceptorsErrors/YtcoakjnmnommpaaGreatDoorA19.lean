import Derived.Test.YtcoakjnmnommpaaGreatDoorA18
import Derived.Test.YtcoakjnmnommpaaGreatDoorA15
import Derived.Test.YtcoakjnmnommpaaGreatDoorAR3
import Derived.Test.YtcoakjnmnommpaaGreatDoorV59
namespace Go.Proofs
open Go Go.V
set_option linter.unusedVariables false
set_option linter.unusedSimpArgs false
def ND.nf (x : ND) : Nf := nfOf (rowsV (x.rows x.n)) (intN (bitS x.st x.n)) (intN (bitS x.ac x.n))
theorem nf_filt {A : Nat} {rows : List (List (List Int))} {st ac : List Int} (h : OkNv A rows st ac) : FiltF (nfOf rows st ac).n (nfOf rows st ac).S ∧ FiltF (nfOf rows st ac).n (nfOf rows st ac).F :=
 ⟨(set_of h.st).filt, (set_of h.ac).filt⟩
theorem stX_filt (x : Nf) (hS : FiltF x.n x.S) (A i : Nat) : ∀ S ∈ (stX (stepN x) eqL A x.S i).1, FiltF x.n S :=
 stX_all (stepN x) eqL A (P := FiltF x.n) x.S hS (fun S _ a _ => step_filt x S a) i
theorem FiltF.wlt {n : Nat} {S : List Nat} (h : FiltF n S) (hn : n ≤ 8) : wP (pS S) 0 < 256 := by
 refine Nat.lt_pow_two_of_testBit (n := 8) _ fun b hb => ?_
 by_cases h64 : b < 64
 ·rw [wP_test _ _ _ (by decide) h64, pS, Bool.eq_false_iff]
  intro q
  have := h.lt (List.contains_iff_mem.1 q)
  omega
 ·exact Nat.testBit_lt_two_pow (Nat.lt_of_lt_of_le (wP_lt _ _) (Nat.pow_le_pow_right (by decide) (by omega)))
theorem FiltF.winj {n : Nat} {S T : List Nat} (h : FiltF n S) (h2 : FiltF n T) (hn : n ≤ 64) (e : wP (pS S) 0 = wP (pS T) 0) : S = T := by
 refine h.ext h2 fun s hs => ?_
 have h1 := wP_test (pS S) 0 s (by decide) (by omega)
 have h3 := wP_test (pS T) 0 s (by decide) (by omega)
 rw [e, h3] at h1
 simp only [pS, Nat.mul_zero, Nat.zero_add] at h1
 rw [← List.contains_iff_mem, ← List.contains_iff_mem, h1]
theorem sets_small (x : Nf) (hS : FiltF x.n x.S) (hn : x.n ≤ 8) (A i : Nat) : (stX (stepN x) eqL A x.S i).1.length ≤ 256 :=
 apart_bound (eqv := eqL) (fun S => wP (pS S) 0) 256 _ (fun S hS' => (stX_filt x hS A i S hS').wlt hn) (fun S hS' T hT' e => by
  rw [(stX_filt x hS A i S hS').winj (stX_filt x hS A i T hT') (by omega) e]; exact eqL_refl T) (stX_apart (stepN x) eqL A x.S i)
end Go.Proofs
namespace Go.Proofs
open Go Go.V
set_option linter.unusedVariables false
set_option linter.unusedSimpArgs false
def shB (b v n : Nat) : Nat → Nat
 | 0 => 0
 | k + 1 => shB b v n k ||| (((b >>> k) &&& 1) <<< ((k + v) % n))
def aK (x : ND) (v s a k : Nat) : List (Nat × Nat × Nat) := ((x.lst s a x.n).take k).map fun t => ((s + v) % x.n, a, (t + v) % x.n)
def aA (x : ND) (v s a : Nat) : List (Nat × Nat × Nat) := (List.range a).flatMap fun a => aK x v s a (x.lst s a x.n).length
def aS (x : ND) (v s : Nat) : List (Nat × Nat × Nat) := (List.range s).flatMap fun s => aA x v s x.A
def ND.shift (x : ND) (v : Nat) : ND := ⟨x.sy, x.many, aS x v x.n, shB x.st v x.n x.n, shB x.ac v x.n x.n⟩
end Go.Proofs
namespace Go.Proofs
open Go Go.V
set_option linter.unusedVariables false
set_option linter.unusedSimpArgs false
set_option maxHeartbeats 0
set_option maxRecDepth 100000
theorem clip35_own (b n h : Nat) (t : TypeId) (es : List (List AV)) (c : Option Nat) (H : List Blk) (hb : H[b]? = some (.row 1 t es)) (hh : h = es.length) (hn : n ≤ h) : ACalls Tryz.prog G0 55 [.own b n h c] H (.own b n h (some n)) H := by
 subst hh
 refine ac_go 9 [.tmp 2] Tryz.func55 rfl rfl rfl (by simp) ?_
 intro s ⟨a0, hz⟩
 clear hz
 repeat' (first|refine nav ?_|(refine g0_ ?_; refine goD ?_)|(with_reducible refine gG ?_ ?_)|((with_reducible refine And.intro (fun h => ?_) (fun h => ?_)) <;> try (exfalso; omega))|(with_reducible refine andG ?_)|refine appG ?_|fail|simp (disch := (first|exact discB|fail)) only [push_cast, ↓reduceIte, reduceIte, reduceCtorEq, Nat.reduceAdd, Nat.reduceLT, Nat.reduceEqDiff, Nat.reduceLeDiff, Int.reduceAdd, Int.reduceLT, Int.reduceLE, Nat.reduceMul, a0, hb])
theorem clip36_own (b n h : Nat) (t : TypeId) (es : List (List AV)) (c : Option Nat) (H : List Blk) (hb : H[b]? = some (.row 1 t es)) (hh : h = es.length) (hn : n ≤ h) : ACalls Tryz.prog G0 56 [.own b n h c] H (.own b n h (some n)) H := by
 subst hh
 refine ac_go 9 [.tmp 2] Tryz.func56 rfl rfl rfl (by simp) ?_
 intro s ⟨a0, hz⟩
 clear hz
 repeat' (first|refine nav ?_|(refine g0_ ?_; refine goD ?_)|(with_reducible refine gG ?_ ?_)|((with_reducible refine And.intro (fun h => ?_) (fun h => ?_)) <;> try (exfalso; omega))|(with_reducible refine andG ?_)|refine appG ?_|fail|simp (disch := (first|exact discB|fail)) only [push_cast, ↓reduceIte, reduceIte, reduceCtorEq, Nat.reduceAdd, Nat.reduceLT, Nat.reduceEqDiff, Nat.reduceLeDiff, Int.reduceAdd, Int.reduceLT, Int.reduceLE, Nat.reduceMul, a0, hb])
theorem clip52_own (b n h : Nat) (t : TypeId) (es : List (List AV)) (c : Option Nat) (H : List Blk) (hb : H[b]? = some (.row 1 t es)) (hh : h = es.length) (hn : n ≤ h) : ACalls Tryz.prog G0 59 [.own b n h c] H (.own b n h (some n)) H := by
 subst hh
 refine ac_go 9 [.tmp 2] Tryz.func59 rfl rfl rfl (by simp) ?_
 intro s ⟨a0, hz⟩
 clear hz
 repeat' (first|refine nav ?_|(refine g0_ ?_; refine goD ?_)|(with_reducible refine gG ?_ ?_)|((with_reducible refine And.intro (fun h => ?_) (fun h => ?_)) <;> try (exfalso; omega))|(with_reducible refine andG ?_)|refine appG ?_|fail|simp (disch := (first|exact discB|fail)) only [push_cast, ↓reduceIte, reduceIte, reduceCtorEq, Nat.reduceAdd, Nat.reduceLT, Nat.reduceEqDiff, Nat.reduceLeDiff, Int.reduceAdd, Int.reduceLT, Int.reduceLE, Nat.reduceMul, a0, hb])
theorem clip53_own (b n h : Nat) (t : TypeId) (es : List (List AV)) (c : Option Nat) (H : List Blk) (hb : H[b]? = some (.row 1 t es)) (hh : h = es.length) (hn : n ≤ h) : ACalls Tryz.prog G0 34 [.own b n h c] H (.own b n h (some n)) H := by
 subst hh
 refine ac_go 9 [.tmp 2] Tryz.func34 rfl rfl rfl (by simp) ?_
 intro s ⟨a0, hz⟩
 clear hz
 repeat' (first|refine nav ?_|(refine g0_ ?_; refine goD ?_)|(with_reducible refine gG ?_ ?_)|((with_reducible refine And.intro (fun h => ?_) (fun h => ?_)) <;> try (exfalso; omega))|(with_reducible refine andG ?_)|refine appG ?_|fail|simp (disch := (first|exact discB|fail)) only [push_cast, ↓reduceIte, reduceIte, reduceCtorEq, Nat.reduceAdd, Nat.reduceLT, Nat.reduceEqDiff, Nat.reduceLeDiff, Int.reduceAdd, Int.reduceLT, Int.reduceLE, Nat.reduceMul, a0, hb])
theorem clip53 (z : Nat) (es : List (List AV)) (c : Option Nat) (H : List Blk) (hs : es = [] ∨ z = 1) (hid : ∀ p, idsE p es = true) : ACalls Tryz.prog G0 34 [.sl z es c] H (.sl z es (some es.length)) H := by
 rcases hs with rfl|rfl
 ·refine ac_go 9 [.tmp 2] Tryz.func34 rfl rfl rfl (by simp) ?_
  intro s ⟨a0, hz⟩
  clear hz
  repeat' (first|refine nav ?_|(refine g0_ ?_; refine goD ?_)|(with_reducible refine gG ?_ ?_)|((with_reducible refine And.intro (fun h => ?_) (fun h => ?_)) <;> try (exfalso; omega))|(with_reducible refine andG ?_)|refine appG ?_|fail|simp (disch := (first|exact discB|fail)) only [push_cast, ↓reduceIte, reduceIte, reduceCtorEq, Nat.reduceAdd, Nat.reduceLT, Nat.reduceEqDiff, Nat.reduceLeDiff, Int.reduceAdd, Int.reduceLT, Int.reduceLE, Nat.reduceMul, a0])
 ·refine ac_go 9 [.tmp 2] Tryz.func34 rfl rfl rfl (by simp) ?_
  intro s ⟨a0, hz⟩
  clear hz
  repeat' (first|refine nav ?_|(refine g0_ ?_; refine goD ?_)|(with_reducible refine gG ?_ ?_)|((with_reducible refine And.intro (fun h => ?_) (fun h => ?_)) <;> try (exfalso; omega))|(with_reducible refine andG ?_)|refine appG ?_|fail|simp (disch := (first|exact discB|fail)) only [push_cast, ↓reduceIte, reduceIte, reduceCtorEq, Nat.reduceAdd, Nat.reduceLT, Nat.reduceEqDiff, Nat.reduceLeDiff, Int.reduceAdd, Int.reduceLT, Int.reduceLE, Nat.reduceMul, a0, List.take_length, List.drop_zero])
structure RoomN (l : List RC) : Prop where
 r : ∀ s, s < l.length → (l.getD s ([], none)).2 = some (l.getD s ([], none)).1.length
 i : ∀ s a, s < l.length → a < (l.getD s ([], none)).1.length → ((l.getD s ([], none)).1.getD a ([], none)).2 = some ((l.getD s ([], none)).1.getD a ([], none)).1.length
theorem ends30 : PC Tryz.prog G0 49 [] (nA 2 1 [([([0, 1], some 2), ([0], some 1)], some 2), ([([], some 0), ([2], some 1)], some 2), ([([], some 0), ([], some 0)], some 2)] (some 3) 1 [0] (some 1) 1 [2] (some 1)) := by
 refine pc_nz (r := .agg [.int .i64 2, .sl 1 [[.sl 1 [[.sl 1 [[.int .i64 0], [.int .i64 1]] (some 2)], [.sl 1 [[.int .i64 0]] (some 1)]] (some 2)], [.sl 1 [[.sl 0 [] (some 0)], [.sl 1 [[.int .i64 2]] (some 1)]] (some 2)], [.sl 1 [[.sl 0 [] (some 0)], [.sl 0 [] (some 0)]] (some 2)]] (some 3), .sl 1 [[.int .i64 0]] (some 1), .sl 1 [[.int .i64 2]] (some 1)]) ?_ rfl
 refine pc_go 2 11 [.cell 0 29] Tryz.func49 rfl rfl rfl (by simp) ?_
 intro s hz
 clear hz
 repeat' (first|((first|refine nav ?_|(refine g0_ ?_; refine goD ?_)) <;> (try simp (disch := (first|exact discB|fail)) only [push_cast, ↓reduceIte, reduceIte, reduceCtorEq, Nat.reduceAdd, Nat.reduceLT, Nat.reduceEqDiff, Nat.reduceLeDiff, Int.reduceAdd, Int.reduceLT, Int.reduceLE, Nat.reduceMul, Nat.add_zero]))|(with_reducible refine gG ?_ ?_)|((with_reducible refine And.intro (fun h => ?_) (fun h => ?_)) <;> try (exfalso; omega))|(with_reducible refine andG ?_)|refine appG ?_|fail|simp (disch := (first|exact discB|fail)) only [push_cast, ↓reduceIte, reduceIte, reduceCtorEq, Nat.reduceAdd, Nat.reduceLT, Nat.reduceEqDiff, Nat.reduceLeDiff, Int.reduceAdd, Int.reduceLT, Int.reduceLE, Nat.reduceMul, Nat.add_zero])
end Go.Proofs
