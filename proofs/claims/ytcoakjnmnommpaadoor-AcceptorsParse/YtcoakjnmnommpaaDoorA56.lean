import Derived.Test.YtcoakjnmnommpaaDoorA54
import Derived.Test.YtcoakjnmnommpaaDoorA48
import Derived.Test.YtcoakjnmnommpaaDoorA41
namespace Go.Proofs
open Go Go.V Go.RowKit
set_option linter.unusedVariables false
set_option linter.unusedSimpArgs false
set_option maxHeartbeats 0
set_option maxRecDepth 100000
theorem dRows_back (rows : List (List Int × Bool)) : dRows (lcP rows) (acP rows) rows.length = rows := by
 refine List.ext_getElem (by simp [dRows]) fun i h1 h2 => ?_
 simp [dRows, lcP, acP, h2]
theorem sizeD_lcP {rows : List (List Int × Bool)} (h1 : rows.length ≤ 1000) (h2 : ∀ r ∈ rows, r.1.length ≤ 1000) : SizeD 1 (lcP rows) 1 (acP rows) :=
 sizeD_of (by rw [lcP_len]; exact h1) (by rw [acP_len]; exact h1) (fun r hr => by obtain ⟨q, hq, rfl⟩ := List.mem_map.1 hr; exact h2 q hq)
theorem sizeD_lcN {rows : List (List Int × Bool)} (h1 : rows.length ≤ 1000) (h2 : ∀ r ∈ rows, r.1.length ≤ 1000) : SizeD 1 (lcN rows) 1 (acP rows) :=
 sizeD_of (by rw [lcN_len]; exact h1) (by rw [acP_len]; exact h1) (fun r hr => by obtain ⟨q, hq, rfl⟩ := List.mem_map.1 hr; exact h2 q hq)
end Go.Proofs
namespace Go.Proofs
open Go Go.V Go.RowKit
set_option linter.unusedVariables false
set_option linter.unusedSimpArgs false
set_option maxHeartbeats 0
set_option maxRecDepth 100000
theorem size_nil : SizeD 1 [] 1 [] := sizeD_of (by decide) (by decide) (fun r hr => by cases hr)
theorem same12_nil : PC Tryd.prog G0 12 [dA0, dA0] (.int .i64 1) :=
 pc_nzA (same12 (A := 0) (B := 0) (c := some 0) (ca := some 0) (c' := some 0) (cb := some 0) size_nil size_nil (by decide) rfl rfl rfl) rfl
theorem parse_rows_bd {tx : Bs} {A : Int} {rows : List (List Int × Bool)} (h : parseA tx = some (A, rows)) : rows.length ≤ tx.length + 1 ∧ ∀ r ∈ rows, r.1.length ≤ tx.length := by
 unfold parseA at h
 split at h
 ·have hL := splitC_len 10 tx.dropLast
  have hP := splitC_part 10 tx.dropLast
  have hd : tx.dropLast.length ≤ tx.length := by rw [List.length_dropLast]; omega
  unfold linesP at h
  split at h
  ·cases h
  ·split at h
   ·split at h
    ·cases h
    ·rename_i rows' hr
     simp only [Option.some.injEq, Prod.mk.injEq] at h
     obtain ⟨_, rfl⟩ := h
     refine ⟨?_, rowsP_bd hr fun f hf => Nat.le_trans (hP f (List.mem_of_mem_tail hf)) hd⟩
     rw [rowsP_len hr, List.length_tail]; omega
   ·cases h
 ·cases h
theorem law5 (tx : Bs) (hl : tx.length ≤ 9223372036854775807) : PC Tryd.prog G0 5 [.str tx] (.bool true) := by
 have hP := parse15 tx
 have hlv := lives10
 by_cases h1 : 65536 < tx.length
 ·rw [parV, if_pos h1] at hP
  have h1' : (65536 : Int) < tx.length := by omega
  unfold dA0 at hP
  refine pc_go 0 64 [.tmp 2] Tryd.func5 rfl rfl rfl (by simp) ?_
  intro s ⟨a0, hz⟩
  clear hz
  repeat' (first|(((first|refine nav ?_|(refine g0_ ?_; first|refine go_draw (dr := allQ) rfl rfl mixed (by first|assumption|kernel_rfl) ?_))) <;> (try simp (disch := (first|exact discB|fail)) only [push_cast, ↓reduceIte, reduceIte, reduceCtorEq, Nat.reduceAdd, Nat.reduceLT, Nat.reduceEqDiff, Nat.reduceLeDiff, Int.reduceAdd, Int.reduceLT, Int.reduceLE, Nat.reduceMul, a0, h1']))|(with_reducible refine And.intro (at_go ?_) (at_go ?_))|((with_reducible refine And.intro (fun h => ?_) (fun h => ?_)) <;> try (exfalso; omega))|(with_reducible refine andG ?_)|(refine And.intro ⟨[_], rfl⟩ ?_)|(refine And.intro ⟨[], by simp only [List.append_nil]⟩ ?_)|(first|(refine ⟨_, _, pc_lift (hP) (by (simp [idsL, idsE, AV.ids, Nat.add_zero])) _, ?_⟩)|(refine ⟨_, pc_lift (hP) (by (simp [idsL, idsE, AV.ids, Nat.add_zero])) _, ?_⟩)|(refine ⟨_, fun _ => pc_lift (hP) (by (simp [idsL, idsE, AV.ids, Nat.add_zero])) _, ?_⟩)|(refine ⟨_, _, pc_lift (hlv) (by (simp [idsL, idsE, AV.ids, Nat.add_zero])) _, ?_⟩)|(refine ⟨_, pc_lift (hlv) (by (simp [idsL, idsE, AV.ids, Nat.add_zero])) _, ?_⟩)|(refine ⟨_, fun _ => pc_lift (hlv) (by (simp [idsL, idsE, AV.ids, Nat.add_zero])) _, ?_⟩))|simp (disch := (first|exact discB|fail)) only [push_cast, ↓reduceIte, reduceIte, reduceCtorEq, Nat.reduceAdd, Nat.reduceLT, Nat.reduceEqDiff, Nat.reduceLeDiff, Int.reduceAdd, Int.reduceLT, Int.reduceLE, Nat.reduceMul, a0, h1'])
 ·have h1' : ¬ (65536 : Int) < tx.length := by omega
  rw [parV, if_neg h1] at hP
  by_cases h2 : 500 < tx.length
  ·have h2' : (500 : Int) < tx.length := by omega
   cases hp : parseA tx with
   | none =>
    rw [hp, parO] at hP
    unfold dA0 at hP
    refine pc_go 0 64 [.tmp 2] Tryd.func5 rfl rfl rfl (by simp) ?_
    intro s ⟨a0, hz⟩
    clear hz
    repeat' (first|(((first|refine nav ?_|(refine g0_ ?_; first|refine go_draw (dr := allQ) rfl rfl mixed (by first|assumption|kernel_rfl) ?_))) <;> (try simp (disch := (first|exact discB|fail)) only [push_cast, ↓reduceIte, reduceIte, reduceCtorEq, Nat.reduceAdd, Nat.reduceLT, Nat.reduceEqDiff, Nat.reduceLeDiff, Int.reduceAdd, Int.reduceLT, Int.reduceLE, Nat.reduceMul, a0, h1', h2']))|(with_reducible refine And.intro (at_go ?_) (at_go ?_))|((with_reducible refine And.intro (fun h => ?_) (fun h => ?_)) <;> try (exfalso; omega))|(with_reducible refine andG ?_)|(refine And.intro ⟨[_], rfl⟩ ?_)|(refine And.intro ⟨[], by simp only [List.append_nil]⟩ ?_)|(first|(refine ⟨_, _, pc_lift (hP) (by (simp [idsL, idsE, AV.ids, Nat.add_zero])) _, ?_⟩)|(refine ⟨_, pc_lift (hP) (by (simp [idsL, idsE, AV.ids, Nat.add_zero])) _, ?_⟩)|(refine ⟨_, fun _ => pc_lift (hP) (by (simp [idsL, idsE, AV.ids, Nat.add_zero])) _, ?_⟩)|(refine ⟨_, _, pc_lift (hlv) (by (simp [idsL, idsE, AV.ids, Nat.add_zero])) _, ?_⟩)|(refine ⟨_, pc_lift (hlv) (by (simp [idsL, idsE, AV.ids, Nat.add_zero])) _, ?_⟩)|(refine ⟨_, fun _ => pc_lift (hlv) (by (simp [idsL, idsE, AV.ids, Nat.add_zero])) _, ?_⟩))|simp (disch := (first|exact discB|fail)) only [push_cast, ↓reduceIte, reduceIte, reduceCtorEq, Nat.reduceAdd, Nat.reduceLT, Nat.reduceEqDiff, Nat.reduceLeDiff, Int.reduceAdd, Int.reduceLT, Int.reduceLE, Nat.reduceMul, a0, h1', h2'])
   | some y =>
    obtain ⟨A, rows⟩ := y
    rw [hp, parO] at hP
    have hid1 : ∀ p, idsE p (rowL (lcP rows)) = true := fun p => idsE_rowL _ _
    have hid2 : ∀ p, idsE p (bools (acP rows)) = true := fun p => idsE_bools _ _
    by_cases hc : checkD A (rowsD (lcP rows)) rows.length = 0
    ·rw [if_neg (by rw [hc]; simp)] at hP
     unfold dA at hP
     generalize rowL (lcP rows) = e1 at *
     generalize bools (acP rows) = e2 at *
     refine pc_go 0 64 [.tmp 2] Tryd.func5 rfl rfl rfl (by simp) ?_
     intro s ⟨a0, hz⟩
     clear hz
     repeat' (first|(((first|refine nav ?_|(refine g0_ ?_; first|refine go_draw (dr := allQ) rfl rfl mixed (by first|assumption|kernel_rfl) ?_))) <;> (try simp (disch := (first|exact discB|fail)) only [push_cast, ↓reduceIte, reduceIte, reduceCtorEq, Nat.reduceAdd, Nat.reduceLT, Nat.reduceEqDiff, Nat.reduceLeDiff, Int.reduceAdd, Int.reduceLT, Int.reduceLE, Nat.reduceMul, a0, h1', h2']))|(with_reducible refine And.intro (at_go ?_) (at_go ?_))|((with_reducible refine And.intro (fun h => ?_) (fun h => ?_)) <;> try (exfalso; omega))|(with_reducible refine andG ?_)|(refine And.intro ⟨[_], rfl⟩ ?_)|(refine And.intro ⟨[], by simp only [List.append_nil]⟩ ?_)|(first|(refine ⟨_, _, pc_lift (hP) (by (simp [idsL, idsE, AV.ids, hid1, hid2])) _, ?_⟩)|(refine ⟨_, pc_lift (hP) (by (simp [idsL, idsE, AV.ids, hid1, hid2])) _, ?_⟩)|(refine ⟨_, fun _ => pc_lift (hP) (by (simp [idsL, idsE, AV.ids, hid1, hid2])) _, ?_⟩)|(refine ⟨_, _, pc_lift (hlv) (by (simp [idsL, idsE, AV.ids, hid1, hid2])) _, ?_⟩)|(refine ⟨_, pc_lift (hlv) (by (simp [idsL, idsE, AV.ids, hid1, hid2])) _, ?_⟩)|(refine ⟨_, fun _ => pc_lift (hlv) (by (simp [idsL, idsE, AV.ids, hid1, hid2])) _, ?_⟩))|simp (disch := (first|exact discB|fail)) only [push_cast, ↓reduceIte, reduceIte, reduceCtorEq, Nat.reduceAdd, Nat.reduceLT, Nat.reduceEqDiff, Nat.reduceLeDiff, Int.reduceAdd, Int.reduceLT, Int.reduceLE, Nat.reduceMul, a0, h1', h2'])
    ·rw [if_pos hc] at hP
     unfold dA0 at hP
     generalize checkD A (rowsD (lcP rows)) rows.length = e at *
     refine pc_go 0 64 [.tmp 2] Tryd.func5 rfl rfl rfl (by simp) ?_
     intro s ⟨a0, hz⟩
     clear hz
     repeat' (first|(((first|refine nav ?_|(refine g0_ ?_; first|refine go_draw (dr := allQ) rfl rfl mixed (by first|assumption|kernel_rfl) ?_))) <;> (try simp (disch := (first|exact discB|fail)) only [push_cast, ↓reduceIte, reduceIte, reduceCtorEq, Nat.reduceAdd, Nat.reduceLT, Nat.reduceEqDiff, Nat.reduceLeDiff, Int.reduceAdd, Int.reduceLT, Int.reduceLE, Nat.reduceMul, a0, h1', h2']))|(with_reducible refine And.intro (at_go ?_) (at_go ?_))|((with_reducible refine And.intro (fun h => ?_) (fun h => ?_)) <;> try (exfalso; omega))|(with_reducible refine andG ?_)|(refine And.intro ⟨[_], rfl⟩ ?_)|(refine And.intro ⟨[], by simp only [List.append_nil]⟩ ?_)|(first|(refine ⟨_, _, pc_lift (hP) (by (simp [idsL, idsE, AV.ids, Nat.add_zero])) _, ?_⟩)|(refine ⟨_, pc_lift (hP) (by (simp [idsL, idsE, AV.ids, Nat.add_zero])) _, ?_⟩)|(refine ⟨_, fun _ => pc_lift (hP) (by (simp [idsL, idsE, AV.ids, Nat.add_zero])) _, ?_⟩)|(refine ⟨_, _, pc_lift (hlv) (by (simp [idsL, idsE, AV.ids, Nat.add_zero])) _, ?_⟩)|(refine ⟨_, pc_lift (hlv) (by (simp [idsL, idsE, AV.ids, Nat.add_zero])) _, ?_⟩)|(refine ⟨_, fun _ => pc_lift (hlv) (by (simp [idsL, idsE, AV.ids, Nat.add_zero])) _, ?_⟩))|simp (disch := (first|exact discB|fail)) only [push_cast, ↓reduceIte, reduceIte, reduceCtorEq, Nat.reduceAdd, Nat.reduceLT, Nat.reduceEqDiff, Nat.reduceLeDiff, Int.reduceAdd, Int.reduceLT, Int.reduceLE, Nat.reduceMul, a0, h1', h2'])
  ·have h2' : ¬ (500 : Int) < tx.length := by omega
   have hQ := refParse17 tx (by omega)
   cases hp : parseA tx with
   | none =>
    rw [hp] at hP hQ
    rw [parO] at hP
    rw [parRO] at hQ
    have hS := same12_nil
    unfold dA0 at hP hQ hS
    refine pc_go 0 64 [.tmp 2] Tryd.func5 rfl rfl rfl (by simp) ?_
    intro s ⟨a0, hz⟩
    clear hz
    repeat' (first|(((first|refine nav ?_|(refine g0_ ?_; first|refine go_draw (dr := allQ) rfl rfl mixed (by first|assumption|kernel_rfl) ?_))) <;> (try simp (disch := (first|exact discB|fail)) only [push_cast, ↓reduceIte, reduceIte, reduceCtorEq, Nat.reduceAdd, Nat.reduceLT, Nat.reduceEqDiff, Nat.reduceLeDiff, Int.reduceAdd, Int.reduceLT, Int.reduceLE, Nat.reduceMul, a0, h1', h2']))|(with_reducible refine And.intro (at_go ?_) (at_go ?_))|((with_reducible refine And.intro (fun h => ?_) (fun h => ?_)) <;> try (exfalso; omega))|(with_reducible refine andG ?_)|(refine And.intro ⟨[_], rfl⟩ ?_)|(refine And.intro ⟨[], by simp only [List.append_nil]⟩ ?_)|(first|(refine ⟨_, _, pc_lift (hP) (by (simp [idsL, idsE, AV.ids, Nat.add_zero])) _, ?_⟩)|(refine ⟨_, pc_lift (hP) (by (simp [idsL, idsE, AV.ids, Nat.add_zero])) _, ?_⟩)|(refine ⟨_, fun _ => pc_lift (hP) (by (simp [idsL, idsE, AV.ids, Nat.add_zero])) _, ?_⟩)|(refine ⟨_, _, pc_lift (hQ) (by (simp [idsL, idsE, AV.ids, Nat.add_zero])) _, ?_⟩)|(refine ⟨_, pc_lift (hQ) (by (simp [idsL, idsE, AV.ids, Nat.add_zero])) _, ?_⟩)|(refine ⟨_, fun _ => pc_lift (hQ) (by (simp [idsL, idsE, AV.ids, Nat.add_zero])) _, ?_⟩)|(refine ⟨_, _, pc_lift (hS) (by (simp [idsL, idsE, AV.ids, Nat.add_zero])) _, ?_⟩)|(refine ⟨_, pc_lift (hS) (by (simp [idsL, idsE, AV.ids, Nat.add_zero])) _, ?_⟩)|(refine ⟨_, fun _ => pc_lift (hS) (by (simp [idsL, idsE, AV.ids, Nat.add_zero])) _, ?_⟩)|(refine ⟨_, _, pc_lift (hlv) (by (simp [idsL, idsE, AV.ids, Nat.add_zero])) _, ?_⟩)|(refine ⟨_, pc_lift (hlv) (by (simp [idsL, idsE, AV.ids, Nat.add_zero])) _, ?_⟩)|(refine ⟨_, fun _ => pc_lift (hlv) (by (simp [idsL, idsE, AV.ids, Nat.add_zero])) _, ?_⟩))|simp (disch := (first|exact discB|fail)) only [push_cast, ↓reduceIte, reduceIte, reduceCtorEq, Nat.reduceAdd, Nat.reduceLT, Nat.reduceEqDiff, Nat.reduceLeDiff, Int.reduceAdd, Int.reduceLT, Int.reduceLE, Nat.reduceMul, a0, h1', h2'])
   | some y =>
    obtain ⟨A, rows⟩ := y
    rw [hp] at hP hQ
    rw [parO] at hP
    rw [parRO] at hQ
    have hbd := parse_rows_bd hp
    have htx := text_parseA hp
    by_cases hc : checkD A (rowsD (lcP rows)) rows.length = 0
    ·rw [if_neg (by rw [hc]; simp)] at hP hQ
     have hs1 := sizeD_lcP (rows := rows) (by omega) (fun r hr => by have := hbd.2 r hr; omega)
     have hs2 := sizeD_lcN (rows := rows) (by omega) (fun r hr => by have := hbd.2 r hr; omega)
     have hS := same12 (A := A) (B := A) (c := some rows.length) (ca := some rows.length) (c' := none) (cb := none) hs1 hs2 (by rw [lcP_len, lcN_len, acP_len]; omega) rfl (lcN_D rows).symm rfl
     have hT := text14 A 1 (lcP rows) (some rows.length) 1 (acP rows) (some rows.length) hs1
     rw [textV, if_neg (by rw [acP_len, hc]; simp), lcP_len, dRows_back, htx] at hT
     have hid1 : ∀ p, idsE p (rowL (lcP rows)) = true := fun p => idsE_rowL _ _
     have hid3 : ∀ p, idsE p (rowL (lcN rows)) = true := fun p => idsE_rowL _ _
     have hid2 : ∀ p, idsE p (bools (acP rows)) = true := fun p => idsE_bools _ _
     unfold dA at *
     generalize rowL (lcP rows) = e1 at *
     generalize rowL (lcN rows) = e3 at *
     generalize bools (acP rows) = e2 at *
     refine pc_go 0 64 [.tmp 2] Tryd.func5 rfl rfl rfl (by simp) ?_
     intro s ⟨a0, hz⟩
     clear hz
     repeat' (first|(((first|refine nav ?_|(refine g0_ ?_; first|refine go_draw (dr := allQ) rfl rfl mixed (by first|assumption|kernel_rfl) ?_))) <;> (try simp (disch := (first|exact discB|fail)) only [push_cast, ↓reduceIte, reduceIte, reduceCtorEq, Nat.reduceAdd, Nat.reduceLT, Nat.reduceEqDiff, Nat.reduceLeDiff, Int.reduceAdd, Int.reduceLT, Int.reduceLE, Nat.reduceMul, a0, h1', h2']))|(with_reducible refine And.intro (at_go ?_) (at_go ?_))|((with_reducible refine And.intro (fun h => ?_) (fun h => ?_)) <;> try (exfalso; omega))|(with_reducible refine andG ?_)|(refine And.intro ⟨[_], rfl⟩ ?_)|(refine And.intro ⟨[], by simp only [List.append_nil]⟩ ?_)|(first|(refine ⟨_, _, pc_lift (hP) (by (simp [idsL, idsE, AV.ids, hid1, hid2, hid3])) _, ?_⟩)|(refine ⟨_, pc_lift (hP) (by (simp [idsL, idsE, AV.ids, hid1, hid2, hid3])) _, ?_⟩)|(refine ⟨_, fun _ => pc_lift (hP) (by (simp [idsL, idsE, AV.ids, hid1, hid2, hid3])) _, ?_⟩)|(refine ⟨_, _, pc_lift (hQ) (by (simp [idsL, idsE, AV.ids, hid1, hid2, hid3])) _, ?_⟩)|(refine ⟨_, pc_lift (hQ) (by (simp [idsL, idsE, AV.ids, hid1, hid2, hid3])) _, ?_⟩)|(refine ⟨_, fun _ => pc_lift (hQ) (by (simp [idsL, idsE, AV.ids, hid1, hid2, hid3])) _, ?_⟩)|(refine ⟨_, _, pc_lift (hS) (by (simp [idsL, idsE, AV.ids, hid1, hid2, hid3])) _, ?_⟩)|(refine ⟨_, pc_lift (hS) (by (simp [idsL, idsE, AV.ids, hid1, hid2, hid3])) _, ?_⟩)|(refine ⟨_, fun _ => pc_lift (hS) (by (simp [idsL, idsE, AV.ids, hid1, hid2, hid3])) _, ?_⟩)|(refine ⟨_, _, pc_lift (hT) (by (simp [idsL, idsE, AV.ids, hid1, hid2, hid3])) _, ?_⟩)|(refine ⟨_, pc_lift (hT) (by (simp [idsL, idsE, AV.ids, hid1, hid2, hid3])) _, ?_⟩)|(refine ⟨_, fun _ => pc_lift (hT) (by (simp [idsL, idsE, AV.ids, hid1, hid2, hid3])) _, ?_⟩)|(refine ⟨_, _, pc_lift (hlv) (by (simp [idsL, idsE, AV.ids, hid1, hid2, hid3])) _, ?_⟩)|(refine ⟨_, pc_lift (hlv) (by (simp [idsL, idsE, AV.ids, hid1, hid2, hid3])) _, ?_⟩)|(refine ⟨_, fun _ => pc_lift (hlv) (by (simp [idsL, idsE, AV.ids, hid1, hid2, hid3])) _, ?_⟩))|simp (disch := (first|exact discB|fail)) only [push_cast, ↓reduceIte, reduceIte, reduceCtorEq, Nat.reduceAdd, Nat.reduceLT, Nat.reduceEqDiff, Nat.reduceLeDiff, Int.reduceAdd, Int.reduceLT, Int.reduceLE, Nat.reduceMul, a0, h1', h2'])
    ·rw [if_pos hc] at hP hQ
     have hS := same12_nil
     unfold dA0 at hP hQ hS
     generalize checkD A (rowsD (lcP rows)) rows.length = e at *
     refine pc_go 0 64 [.tmp 2] Tryd.func5 rfl rfl rfl (by simp) ?_
     intro s ⟨a0, hz⟩
     clear hz
     repeat' (first|(((first|refine nav ?_|(refine g0_ ?_; first|refine go_draw (dr := allQ) rfl rfl mixed (by first|assumption|kernel_rfl) ?_))) <;> (try simp (disch := (first|exact discB|fail)) only [push_cast, ↓reduceIte, reduceIte, reduceCtorEq, Nat.reduceAdd, Nat.reduceLT, Nat.reduceEqDiff, Nat.reduceLeDiff, Int.reduceAdd, Int.reduceLT, Int.reduceLE, Nat.reduceMul, a0, h1', h2', hc]))|(with_reducible refine And.intro (at_go ?_) (at_go ?_))|((with_reducible refine And.intro (fun h => ?_) (fun h => ?_)) <;> try (exfalso; omega))|(with_reducible refine andG ?_)|(refine And.intro ⟨[_], rfl⟩ ?_)|(refine And.intro ⟨[], by simp only [List.append_nil]⟩ ?_)|(first|(refine ⟨_, _, pc_lift (hP) (by (simp [idsL, idsE, AV.ids, Nat.add_zero])) _, ?_⟩)|(refine ⟨_, pc_lift (hP) (by (simp [idsL, idsE, AV.ids, Nat.add_zero])) _, ?_⟩)|(refine ⟨_, fun _ => pc_lift (hP) (by (simp [idsL, idsE, AV.ids, Nat.add_zero])) _, ?_⟩)|(refine ⟨_, _, pc_lift (hQ) (by (simp [idsL, idsE, AV.ids, Nat.add_zero])) _, ?_⟩)|(refine ⟨_, pc_lift (hQ) (by (simp [idsL, idsE, AV.ids, Nat.add_zero])) _, ?_⟩)|(refine ⟨_, fun _ => pc_lift (hQ) (by (simp [idsL, idsE, AV.ids, Nat.add_zero])) _, ?_⟩)|(refine ⟨_, _, pc_lift (hS) (by (simp [idsL, idsE, AV.ids, Nat.add_zero])) _, ?_⟩)|(refine ⟨_, pc_lift (hS) (by (simp [idsL, idsE, AV.ids, Nat.add_zero])) _, ?_⟩)|(refine ⟨_, fun _ => pc_lift (hS) (by (simp [idsL, idsE, AV.ids, Nat.add_zero])) _, ?_⟩)|(refine ⟨_, _, pc_lift (hlv) (by (simp [idsL, idsE, AV.ids, Nat.add_zero])) _, ?_⟩)|(refine ⟨_, pc_lift (hlv) (by (simp [idsL, idsE, AV.ids, Nat.add_zero])) _, ?_⟩)|(refine ⟨_, fun _ => pc_lift (hlv) (by (simp [idsL, idsE, AV.ids, Nat.add_zero])) _, ?_⟩))|simp (disch := (first|exact discB|fail)) only [push_cast, ↓reduceIte, reduceIte, reduceCtorEq, Nat.reduceAdd, Nat.reduceLT, Nat.reduceEqDiff, Nat.reduceLeDiff, Int.reduceAdd, Int.reduceLT, Int.reduceLE, Nat.reduceMul, a0, h1', h2', hc])
end Go.Proofs
