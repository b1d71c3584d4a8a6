import Derived.Test.YtcoakjnmnommpaaDoorAR4
import Derived.Test.YtcoakjnmnommpaaDoorV59
namespace Go.Proofs
open Go Go.V
set_option linter.unusedVariables false
set_option linter.unusedSimpArgs false
set_option maxHeartbeats 0
set_option maxRecDepth 100000
theorem clip35_own (b n h : Nat) (t : TypeId) (es : List (List AV)) (c : Option Nat) (H : List Blk) (hb : H[b]? = some (.row 1 t es)) (hh : h = es.length) (hn : n ≤ h) : ACalls Tryd.prog G0 35 [.own b n h c] H (.own b n h (some n)) H := by
 subst hh
 refine ac_go 9 [.tmp 2] Tryd.func35 rfl rfl rfl (by simp) ?_
 intro s ⟨a0, hz⟩
 clear hz
 repeat' (first|(first|refine nav ?_|(refine g0_ ?_; first|refine go_draw (dr := allQ) rfl rfl mixed (by first|assumption|kernel_rfl) ?_))|(with_reducible refine And.intro (at_go ?_) (at_go ?_))|((with_reducible refine And.intro (fun h => ?_) (fun h => ?_)) <;> try (exfalso; omega))|(with_reducible refine andG ?_)|(refine And.intro ⟨[_], rfl⟩ ?_)|(refine And.intro ⟨[], by simp only [List.append_nil]⟩ ?_)|fail|simp (disch := (first|exact discB|fail)) only [push_cast, ↓reduceIte, reduceIte, reduceCtorEq, Nat.reduceAdd, Nat.reduceLT, Nat.reduceEqDiff, Nat.reduceLeDiff, Int.reduceAdd, Int.reduceLT, Int.reduceLE, Nat.reduceMul, a0, hb])
theorem clip36_own (b n h : Nat) (t : TypeId) (es : List (List AV)) (c : Option Nat) (H : List Blk) (hb : H[b]? = some (.row 1 t es)) (hh : h = es.length) (hn : n ≤ h) : ACalls Tryd.prog G0 36 [.own b n h c] H (.own b n h (some n)) H := by
 subst hh
 refine ac_go 9 [.tmp 2] Tryd.func36 rfl rfl rfl (by simp) ?_
 intro s ⟨a0, hz⟩
 clear hz
 repeat' (first|(first|refine nav ?_|(refine g0_ ?_; first|refine go_draw (dr := allQ) rfl rfl mixed (by first|assumption|kernel_rfl) ?_))|(with_reducible refine And.intro (at_go ?_) (at_go ?_))|((with_reducible refine And.intro (fun h => ?_) (fun h => ?_)) <;> try (exfalso; omega))|(with_reducible refine andG ?_)|(refine And.intro ⟨[_], rfl⟩ ?_)|(refine And.intro ⟨[], by simp only [List.append_nil]⟩ ?_)|fail|simp (disch := (first|exact discB|fail)) only [push_cast, ↓reduceIte, reduceIte, reduceCtorEq, Nat.reduceAdd, Nat.reduceLT, Nat.reduceEqDiff, Nat.reduceLeDiff, Int.reduceAdd, Int.reduceLT, Int.reduceLE, Nat.reduceMul, a0, hb])
theorem clip53_own (b n h : Nat) (t : TypeId) (es : List (List AV)) (c : Option Nat) (H : List Blk) (hb : H[b]? = some (.row 1 t es)) (hh : h = es.length) (hn : n ≤ h) : ACalls Tryd.prog G0 53 [.own b n h c] H (.own b n h (some n)) H := by
 subst hh
 refine ac_go 9 [.tmp 2] Tryd.func53 rfl rfl rfl (by simp) ?_
 intro s ⟨a0, hz⟩
 clear hz
 repeat' (first|(first|refine nav ?_|(refine g0_ ?_; first|refine go_draw (dr := allQ) rfl rfl mixed (by first|assumption|kernel_rfl) ?_))|(with_reducible refine And.intro (at_go ?_) (at_go ?_))|((with_reducible refine And.intro (fun h => ?_) (fun h => ?_)) <;> try (exfalso; omega))|(with_reducible refine andG ?_)|(refine And.intro ⟨[_], rfl⟩ ?_)|(refine And.intro ⟨[], by simp only [List.append_nil]⟩ ?_)|fail|simp (disch := (first|exact discB|fail)) only [push_cast, ↓reduceIte, reduceIte, reduceCtorEq, Nat.reduceAdd, Nat.reduceLT, Nat.reduceEqDiff, Nat.reduceLeDiff, Int.reduceAdd, Int.reduceLT, Int.reduceLE, Nat.reduceMul, a0, hb])
theorem clip53 (z : Nat) (es : List (List AV)) (c : Option Nat) (H : List Blk) (hs : es = [] ∨ z = 1) (hid : ∀ p, idsE p es = true) : ACalls Tryd.prog G0 53 [.sl z es c] H (.sl z es (some es.length)) H := by
 rcases hs with rfl|rfl
 ·refine ac_go 9 [.tmp 2] Tryd.func53 rfl rfl rfl (by simp) ?_
  intro s ⟨a0, hz⟩
  clear hz
  repeat' (first|(first|refine nav ?_|(refine g0_ ?_; first|refine go_draw (dr := allQ) rfl rfl mixed (by first|assumption|kernel_rfl) ?_))|(with_reducible refine And.intro (at_go ?_) (at_go ?_))|((with_reducible refine And.intro (fun h => ?_) (fun h => ?_)) <;> try (exfalso; omega))|(with_reducible refine andG ?_)|(refine And.intro ⟨[_], rfl⟩ ?_)|(refine And.intro ⟨[], by simp only [List.append_nil]⟩ ?_)|fail|simp (disch := (first|exact discB|fail)) only [push_cast, ↓reduceIte, reduceIte, reduceCtorEq, Nat.reduceAdd, Nat.reduceLT, Nat.reduceEqDiff, Nat.reduceLeDiff, Int.reduceAdd, Int.reduceLT, Int.reduceLE, Nat.reduceMul, a0])
 ·refine ac_go 9 [.tmp 2] Tryd.func53 rfl rfl rfl (by simp) ?_
  intro s ⟨a0, hz⟩
  clear hz
  repeat' (first|(first|refine nav ?_|(refine g0_ ?_; first|refine go_draw (dr := allQ) rfl rfl mixed (by first|assumption|kernel_rfl) ?_))|(with_reducible refine And.intro (at_go ?_) (at_go ?_))|((with_reducible refine And.intro (fun h => ?_) (fun h => ?_)) <;> try (exfalso; omega))|(with_reducible refine andG ?_)|(refine And.intro ⟨[_], rfl⟩ ?_)|(refine And.intro ⟨[], by simp only [List.append_nil]⟩ ?_)|fail|simp (disch := (first|exact discB|fail)) only [push_cast, ↓reduceIte, reduceIte, reduceCtorEq, Nat.reduceAdd, Nat.reduceLT, Nat.reduceEqDiff, Nat.reduceLeDiff, Int.reduceAdd, Int.reduceLT, Int.reduceLE, Nat.reduceMul, a0, List.take_length, List.drop_zero])
structure RoomN (l : List RC) : Prop where
 r : ∀ s, s < l.length → (l.getD s ([], none)).2 = some (l.getD s ([], none)).1.length
 i : ∀ s a, s < l.length → a < (l.getD s ([], none)).1.length → ((l.getD s ([], none)).1.getD a ([], none)).2 = some ((l.getD s ([], none)).1.getD a ([], none)).1.length
theorem ends30 : PC Tryd.prog G0 30 [] (nA 2 1 [([([0, 1], some 2), ([0], some 1)], some 2), ([([], some 0), ([2], some 1)], some 2), ([([], some 0), ([], some 0)], some 2)] (some 3) 1 [0] (some 1) 1 [2] (some 1)) := by
 refine pc_nz (r := .agg [.int .i64 2, .sl 1 [[.sl 1 [[.sl 1 [[.int .i64 0], [.int .i64 1]] (some 2)], [.sl 1 [[.int .i64 0]] (some 1)]] (some 2)], [.sl 1 [[.sl 0 [] (some 0)], [.sl 1 [[.int .i64 2]] (some 1)]] (some 2)], [.sl 1 [[.sl 0 [] (some 0)], [.sl 0 [] (some 0)]] (some 2)]] (some 3), .sl 1 [[.int .i64 0]] (some 1), .sl 1 [[.int .i64 2]] (some 1)]) ?_ rfl
 refine pc_go 2 11 [.cell 0 28] Tryd.func30 rfl rfl rfl (by simp) ?_
 intro s hz
 clear hz
 repeat' (first|(((first|refine nav ?_|(refine g0_ ?_; first|refine go_draw (dr := allQ) rfl rfl mixed (by first|assumption|kernel_rfl) ?_))) <;> (try simp (disch := (first|exact discB|fail)) only [push_cast, ↓reduceIte, reduceIte, reduceCtorEq, Nat.reduceAdd, Nat.reduceLT, Nat.reduceEqDiff, Nat.reduceLeDiff, Int.reduceAdd, Int.reduceLT, Int.reduceLE, Nat.reduceMul, Nat.add_zero]))|(with_reducible refine And.intro (at_go ?_) (at_go ?_))|((with_reducible refine And.intro (fun h => ?_) (fun h => ?_)) <;> try (exfalso; omega))|(with_reducible refine andG ?_)|(refine And.intro ⟨[_], rfl⟩ ?_)|(refine And.intro ⟨[], by simp only [List.append_nil]⟩ ?_)|fail|simp (disch := (first|exact discB|fail)) only [push_cast, ↓reduceIte, reduceIte, reduceCtorEq, Nat.reduceAdd, Nat.reduceLT, Nat.reduceEqDiff, Nat.reduceLeDiff, Int.reduceAdd, Int.reduceLT, Int.reduceLE, Nat.reduceMul, Nat.add_zero])
end Go.Proofs
