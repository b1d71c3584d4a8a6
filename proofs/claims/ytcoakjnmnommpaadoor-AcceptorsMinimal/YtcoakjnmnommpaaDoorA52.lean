import Derived.Test.YtcoakjnmnommpaaDoorA24
import Derived.Test.YtcoakjnmnommpaaDoorA32
import Derived.Test.YtcoakjnmnommpaaDoorA36
import Derived.Test.YtcoakjnmnommpaaDoorA19
import Derived.Test.YtcoakjnmnommpaaDoorA46
import Derived.Test.YtcoakjnmnommpaaDoorA41
import Derived.Test.YtcoakjnmnommpaaDoorA26
import Derived.Test.YtcoakjnmnommpaaDoorA11
import Derived.Test.YtcoakjnmnommpaaDoorA16
import Derived.Test.YtcoakjnmnommpaaDoorA18
import Derived.Test.YtcoakjnmnommpaaDoorA47
import Derived.Test.YtcoakjnmnommpaaDoorA21
namespace Go.Proofs
open Go Go.V
set_option linter.unusedVariables false
set_option linter.unusedSimpArgs false
set_option maxHeartbeats 0
section
variable {X : Type} {step : X → Nat → X} {eqv : X → X → Bool} {A : Nat}
theorem xw0 (x0 : X) : ∀ i, ∀ r ∈ (stX step eqv A x0 i).2, r.length = A
 | 0, r, h => by cases h
 | i + 1, r, h => by
  rw [stX] at h
  split at h
  ·exact xw0 x0 i r h
  ·simp only at h
   rcases List.mem_append.1 h with h|h
   ·exact xw0 x0 i r h
   ·rw [List.mem_singleton.1 h]; exact zG0 _ _ _ _ A
end
section
variable {A zr : Nat} {l : List RC} {c : Option Nat} {zs : Nat} {st : List Int} {cs : Option Nat} {za : Nat} {ac : List Int} {ca : Option Nat}
theorem vaB9 (hok : OkNv A (rowsV l) st ac) (h8 : l.length ≤ 8) (i : Nat) : (detS (nfOf (rowsV l) st ac) A i).length ≤ 256 :=
 kbV9 _ (qaj9 hok).1 (by show (rowsV l).length ≤ 8; rw [kb0]; exact h8) A i
theorem qby9 (hsz : SizeN zr l zs st za ac) (hok : OkNv A (rowsV l) st ac) (h8 : l.length ≤ 8) : ∃ N, N ≤ 256 ∧ (detS (nfOf (rowsV l) st ac) A N).length = N ∧ PC Tryd.prog G0 11 [nA A zr l c zs st cs za ac ca] (detG A (nfOf (rowsV l) st ac) N) := by
 obtain ⟨N, h1, h2, _⟩ := xbu9 (step := stepN (nfOf (rowsV l) st ac)) (eqv := eqL) (A := A) (nfOf (rowsV l) st ac).S 256 (vaB9 hok h8)
 refine ⟨N, h1, h2, wad9 A zr l c zs st cs za ac ca hsz hok _ (fun M hM => ?_) ?_⟩
 ·rw [qaz9 _ h2 hM]
 ·rintro ⟨i, hi⟩
  have := vaB9 hok h8 i
  omega
end
theorem kaB9 (l : List (List Nat)) (f : List Nat → Option Nat) : wf0 (l.map fun r => (intN r, f r)) = l.map intN := by simp [wf0]
theorem vaO9 (l : List (List Nat)) (f : List Nat → Option Nat) : vR0 (l.map fun r => (intN r, f r)) = l := by
 rw [vR0, kaB9, List.map_map]
 exact (List.map_congr_left fun r _ => zad9 r).trans (List.map_id _)
theorem qcz9 (A : Nat) (l : List (List Nat)) : wf0 (dRow A l) = l.map intN := kaB9 l _
theorem zcz9 (l : List (List Nat)) : wf0 (xl0 l) = l.map intN := kaB9 l _
theorem xcz9 (A : Nat) (l : List (List Nat)) : vR0 (dRow A l) = l := vaO9 l _
theorem vcV9 (l : List (List Nat)) : vR0 (xl0 l) = l := vaO9 l _
theorem wda9 {A N : Nat} {R : List (List Nat)} (hA : 1 ≤ A ∧ A ≤ 16) (h1 : 1 ≤ N) (h2 : N ≤ 256) (hR : R.length = N) (hl : ∀ r ∈ R, r.length = A) (ht : ∀ s, s < N → ∀ a, a < A → (R.getD s []).getD a 0 < N) : OkDv A (R.map intN) N := by
 refine ⟨hA.1, hA.2, by simp; omega, by simp; omega, by simp [hR], fun s hs => ?_, fun s a hs ha => ?_⟩
 ·rw [List.length_map] at hs
  simp only [List.getD_eq_getElem?_getD, List.getElem?_map, List.getElem?_eq_getElem hs, Option.map_some, Option.getD_some, intN_len]
  exact hl _ (List.getElem_mem hs)
 ·rw [List.length_map] at hs
  have h := ht s (by omega) a ha
  have hr := hl _ (List.getElem_mem hs)
  simp only [List.getD_eq_getElem?_getD, List.getElem?_map, List.getElem?_eq_getElem hs, Option.map_some, Option.getD_some] at h ⊢
  have e := qB0 R[s] a (by omega)
  simp only [List.getD_eq_getElem?_getD] at e
  rw [e, List.length_map]
  omega
theorem wcz9 {x : Nf} {A N : Nat} (hA : 1 ≤ A ∧ A ≤ 16) (hN : N ≤ 256) (h : (detS x A N).length = N) : OkDv A ((detR x A N).map intN) N := by
 have hd := vbg9 x A N h
 exact wda9 hA hd.pos hN hd.len (fun r hr => xw0 x.S N r hr) hd.row
theorem vbJ9 {x : Nf} {A N : Nat} (h : (detS x A N).length = N) : (detA x A N).length = N := by rw [detA, List.length_map, h]
theorem xP0 {l : List LC} {ac : List Bool} (hl : l.length ≤ 1000) (ha : ac.length ≤ 1000) (hr : ∀ r ∈ l, r.1.length ≤ 1000) : SizeD 1 l 1 ac :=
 ⟨.inr rfl, .inr rfl, by omega, by omega, fun s hs => by have := hr _ (kd0 (d := ([], none)) hs); omega⟩
end Go.Proofs
namespace Go.Proofs
open Go Go.V Go.RowKit
set_option linter.unusedVariables false
set_option linter.unusedSimpArgs false
set_option maxHeartbeats 0
set_option maxRecDepth 100000
def endsL : List RC := [([([0, 1], some 2), ([0], some 1)], some 2), ([([], some 0), ([2], some 1)], some 2), ([([], some 0), ([], some 0)], some 2)]
theorem kbJ9 : OkNv 2 (rowsV endsL) [0] [2] := by
 have h : ∀ s, s < (rowsV endsL).length → ∀ a, a < 2 → xf0 (((rowsV endsL).getD s []).getD a []) (rowsV endsL).length = true := by decide
 refine ⟨by decide, by decide, by decide, by decide, by decide, by decide, fun s a hs ha => h s hs a ha⟩
theorem ww0 : SizeN 1 endsL 1 [0] 1 [2] := by
 have h : ∀ s, s < endsL.length → ∀ a, a < (endsL.getD s ([], none)).1.length → ((endsL.getD s ([], none)).1.getD a ([], none)).1.length ≤ 140737488355328 := by decide
 exact ⟨.inr rfl, .inr rfl, .inr rfl, by decide, by decide, by decide, by decide, fun s a hs ha => h s hs a ha⟩
theorem ends_acc : accV 2 endsL [0] [2] [0, 1] = .tup [.bool true, .int .i64 0] ∧ accV 2 endsL [0] [2] [1, 0, 1] = .tup [.bool true, .int .i64 0] ∧ accV 2 endsL [0] [2] [0] = .tup [.bool false, .int .i64 0] ∧ accV 2 endsL [0] [2] [] = .tup [.bool false, .int .i64 0] := ⟨by kernel_rfl, by kernel_rfl, by kernel_rfl, by kernel_rfl⟩
theorem ends_det : (detS (nfOf (rowsV endsL) [0] [2]) 2 3).length = 3 ∧ detR (nfOf (rowsV endsL) [0] [2]) 2 3 = [[1, 0], [1, 2], [1, 0]] ∧ detA (nfOf (rowsV endsL) [0] [2]) 2 3 = [false, false, true] := ⟨by kernel_rfl, by kernel_rfl, by kernel_rfl⟩
def exT : Bs := [97, 99, 99, 101, 112, 116, 111, 114, 32, 50, 32, 51, 10, 45, 32, 49, 32, 48, 10, 45, 32, 49, 32, 50, 10, 43, 32, 49, 32, 48, 10]
theorem xdt9 : Lib.itoa 0 = [48] := by rw [zf0 0 (by omega) (by omega)]; rfl
theorem kcV9 : Lib.itoa 1 = [49] := by rw [zf0 1 (by omega) (by omega)]; rfl
theorem vdS9 : Lib.itoa 2 = [50] := by rw [zf0 2 (by omega) (by omega)]; rfl
theorem kdS9 : Lib.itoa 3 = [51] := by rw [zf0 3 (by omega) (by omega)]; rfl
theorem wdt9 : qcV9 2 (dRow 2 [[1, 0], [1, 2], [1, 0]]) [false, false, true] = .tup [.str exT, .int .i64 0] := by
 rw [qcV9, if_neg (by decide)]
 have : zV0 2 (wan9 (dRow 2 [[1, 0], [1, 2], [1, 0]]) [false, false, true] (dRow 2 [[1, 0], [1, 2], [1, 0]]).length) = exT := by
  simp [zV0, wan9, dRow, wt0, qH0, kP0, zC0, intN, List.range_succ, xdt9, kcV9, vdS9, kdS9, vn0, vi0, exT]
 rw [this]
theorem qcW9 : wcs9 2 (revRC 2 endsL) [2] [0] 2 [([([0], some 1), ([0], some 1)], some 2), ([([0], some 1), ([], some 0)], some 2), ([([], some 0), ([1], some 1)], some 2)] [2] [0] := ⟨rfl, by kernel_rfl, rfl, rfl⟩
def exD : List LC := [([1], some 1), ([0], some 1)]
theorem vdH9 : OkDv 1 (wf0 exD) 2 := by
 have h : ∀ s, s < (wf0 exD).length → ∀ a, a < 1 → 0 ≤ ((wf0 exD).getD s []).getD a 0 ∧ ((wf0 exD).getD s []).getD a 0 < (wf0 exD).length := by decide
 exact ⟨by decide, by decide, by decide, by decide, by decide, by decide, fun s a hs ha => h s hs a ha⟩
theorem exD_min : (stX (dlt exD) eqX 1 0 2).1.length = 2 ∧ cntK (dlt exD) (fun s => [true, true].getD s false) 1 (stX (dlt exD) eqX 1 0 2).1 0 = cntK (dlt exD) (fun s => [true, true].getD s false) 1 (stX (dlt exD) eqX 1 0 2).1 1 := ⟨by kernel_rfl, by kernel_rfl⟩
theorem qdT9 : minG 1 exD [true, true] (stX (dlt exD) eqX 1 0 2).1 0 = .tup [dA 1 1 [([0], some 1)] (some 1) 1 [true] (some 1), .int .i64 0] := by kernel_rfl
def ex1 : Bs := [97, 99, 99, 101, 112, 116, 111, 114, 32, 49, 32, 49, 10, 43, 32, 48, 10]
def ex2 : Bs := [97, 99, 99, 101, 112, 116, 111, 114, 32, 49, 32, 49, 10, 43, 32, 49, 10]
def ex3 : Bs := [97, 99, 99, 101, 112, 116, 111, 114, 32, 49, 32, 50, 10, 43, 32, 48, 10]
theorem qbK9 : zV0 1 [([0], true)] = ex1 := by simp [zV0, wt0, qH0, kP0, zC0, xdt9, kcV9, vn0, vi0, ex1]
theorem zbK9 : zV0 1 [([1], true)] = ex2 := by simp [zV0, wt0, qH0, kP0, zC0, xdt9, kcV9, vn0, vi0, ex2]
theorem vbm9 {A : Int} {rows : List (List Int × Bool)} (hA : 0 ≤ A ∧ A ≤ 9999) (hn : rows.length ≤ 9999) (h : ∀ r ∈ rows, ∀ x ∈ r.1, 0 ≤ x ∧ x ≤ 9999) (hl : (zV0 A rows).length ≤ 65536) : parV (zV0 A rows) = parO (some (A, rows)) := by
 rw [parV, if_neg (by omega), qbv9 A rows hA hn h]
theorem vdt9 : parV ex1 = .tup [dA 1 1 [([0], some 1)] (some 1) 1 [true] (some 1), .int .i64 0] := by
 rw [← qbK9, vbm9 (by omega) (by decide) (by decide) (by rw [qbK9]; decide)]
 rfl
theorem kdt9 : parV ex2 = .tup [dA0, .int .i64 1] := by
 rw [← zbK9, vbm9 (by omega) (by decide) (by decide) (by rw [zbK9]; decide)]
 rfl
theorem qdu9 : parV ex3 = .tup [dA0, .int .i64 4] := by
 rw [parV, if_neg (by decide)]
 have : zam9 ex3 = none := by
  rw [zam9, if_pos (by rfl)]
  refine xbm9 ?_
  rintro ⟨A, n, h, _, hn⟩
  have h2 := wO0 h
  have e : (splitC 32 ((splitC 10 ex3.dropLast).headD [])).tail = [[49], [50]] := by decide
  have e2 : (splitC 10 ex3.dropLast).length = 2 := by decide
  rw [e] at h2
  rw [e2] at hn
  simp only [List.map_cons, List.map_nil, List.cons.injEq, and_true] at h2
  rw [hn] at h2
  have h3 := h2.2
  change Lib.itoa 1 = [50] at h3
  rw [kcV9] at h3
  exact absurd h3 (by decide)
 rw [this]; rfl
end Go.Proofs
namespace Go.Proofs
open Go Go.V Go.RowKit
set_option linter.unusedVariables false
set_option linter.unusedSimpArgs false
set_option maxHeartbeats 0
set_option maxRecDepth 100000
theorem zdu9 : PC Tryd.prog G0 10 [] (.bool true) := by
 have hE : PC Tryd.prog G0 30 [] (.agg [.int .i64 2, .sl 1 (kc0 endsL) (some 3), .sl 1 [[.int .i64 0]] (some 1), .sl 1 [[.int .i64 2]] (some 1)]) := kdE9
 have hA1 : PC Tryd.prog G0 25 [.agg [.int .i64 2, .sl 1 (kc0 endsL) (some 3), .sl 1 [[.int .i64 0]] (some 1), .sl 1 [[.int .i64 2]] (some 1)], .sl 1 [[.int .i64 0], [.int .i64 1]] (some 2)] (.tup [.bool true, .int .i64 0]) := by
  have h := kA0 2 1 endsL (some 3) 1 [0] (some 1) 1 [2] (some 1) ww0 1 [0, 1] (some 2) (.inr rfl) (by decide)
  rw [ends_acc.1] at h; exact h
 have hA2 : PC Tryd.prog G0 25 [.agg [.int .i64 2, .sl 1 (kc0 endsL) (some 3), .sl 1 [[.int .i64 0]] (some 1), .sl 1 [[.int .i64 2]] (some 1)], .sl 1 [[.int .i64 1], [.int .i64 0], [.int .i64 1]] (some 3)] (.tup [.bool true, .int .i64 0]) := by
  have h := kA0 2 1 endsL (some 3) 1 [0] (some 1) 1 [2] (some 1) ww0 1 [1, 0, 1] (some 3) (.inr rfl) (by decide)
  rw [ends_acc.2.1] at h; exact h
 have hA3 : PC Tryd.prog G0 25 [.agg [.int .i64 2, .sl 1 (kc0 endsL) (some 3), .sl 1 [[.int .i64 0]] (some 1), .sl 1 [[.int .i64 2]] (some 1)], .sl 1 [[.int .i64 0]] (some 1)] (.tup [.bool false, .int .i64 0]) := by
  have h := kA0 2 1 endsL (some 3) 1 [0] (some 1) 1 [2] (some 1) ww0 1 [0] (some 1) (.inr rfl) (by decide)
  rw [ends_acc.2.2.1] at h; exact h
 have hA4 : PC Tryd.prog G0 25 [.agg [.int .i64 2, .sl 1 (kc0 endsL) (some 3), .sl 1 [[.int .i64 0]] (some 1), .sl 1 [[.int .i64 2]] (some 1)], .sl 0 [] (some 0)] (.tup [.bool false, .int .i64 0]) := by
  have h := kA0 2 1 endsL (some 3) 1 [0] (some 1) 1 [2] (some 1) ww0 0 [] (some 0) (.inl rfl) (by decide)
  rw [ends_acc.2.2.2] at h; exact h
 have hD : PC Tryd.prog G0 11 [.agg [.int .i64 2, .sl 1 (kc0 endsL) (some 3), .sl 1 [[.int .i64 0]] (some 1), .sl 1 [[.int .i64 2]] (some 1)]] (.tup [.agg [.int .i64 2, .sl 1 (rowL (dRow 2 [[1, 0], [1, 2], [1, 0]])) (some 3), .sl 1 (vb0 [false, false, true]) (some 3)], .int .i64 0]) := by
  obtain ⟨N, _, h1, h⟩ := qby9 (c := some 3) (cs := some 1) (ca := some 1) ww0 kbJ9 (by decide)
  have hN := qaz9 _ h1 ends_det.1
  subst hN
  rw [detG, ends_det.2.1, ends_det.2.2] at h
  exact h
 have hT : PC Tryd.prog G0 14 [.agg [.int .i64 2, .sl 1 (rowL (dRow 2 [[1, 0], [1, 2], [1, 0]])) (some 3), .sl 1 (vb0 [false, false, true]) (some 3)]] (.tup [.str exT, .int .i64 0]) := by
  have h := wdH9 2 1 (dRow 2 [[1, 0], [1, 2], [1, 0]]) (some 3) 1 [false, false, true] (some 3) (xP0 (by decide) (by decide) (by decide))
  rw [wdt9] at h; exact h
 have hR : PC Tryd.prog G0 23 [.agg [.int .i64 2, .sl 1 (kc0 endsL) (some 3), .sl 1 [[.int .i64 0]] (some 1), .sl 1 [[.int .i64 2]] (some 1)]] (.tup [.agg [.int .i64 2, .sl 1 (kc0 (revRC 2 endsL)) (some 3), .sl 1 [[.int .i64 2]] (some 1), .sl 1 [[.int .i64 0]] (some 1)], .int .i64 0]) :=
  vaA9 2 1 endsL (some 3) 1 [0] (some 1) 1 [2] (some 1) ww0 kbJ9
 have hM : PC Tryd.prog G0 21 [.agg [.int .i64 1, .sl 1 [[.sl 1 [[.int .i64 1]] (some 1)], [.sl 1 [[.int .i64 0]] (some 1)]] (some 2), .sl 1 [[.bool true], [.bool true]] (some 2)]] (.tup [.agg [.int .i64 1, .sl 1 [[.sl 1 [[.int .i64 0]] (some 1)]] (some 1), .sl 1 [[.bool true]] (some 1)], .int .i64 0]) := by
  have h := zbl9 1 exD (some 2) [true, true] (some 2) vdH9 (xP0 (by decide) (by decide) (by decide)) 2 exD_min.1 0 exD_min.2 (fun j hj => by omega)
  rw [qdT9] at h
  exact h
 have hS : PC Tryd.prog G0 19 [.agg [.int .i64 2, .sl 1 (kc0 (revRC 2 endsL)) (some 3), .sl 1 [[.int .i64 2]] (some 1), .sl 1 [[.int .i64 0]] (some 1)], .agg [.int .i64 2, .sl 1 [[.sl 1 [[.sl 1 [[.int .i64 0]] (some 1)], [.sl 1 [[.int .i64 0]] (some 1)]] (some 2)], [.sl 1 [[.sl 1 [[.int .i64 0]] (some 1)], [.sl 0 [] (some 0)]] (some 2)], [.sl 1 [[.sl 0 [] (some 0)], [.sl 1 [[.int .i64 1]] (some 1)]] (some 2)]] (some 3), .sl 1 [[.int .i64 2]] (some 1), .sl 1 [[.int .i64 0]] (some 1)]] (.int .i64 1) := by
  have hb : ∀ s a, ((((revRC 2 endsL).getD s ([], none)).1.getD a ([], none)).1).length ≤ 140737488355328 := fun s a => by
   by_cases hs : s < 3
   ·by_cases ha : a < 2
    ·have : ∀ s, s < 3 → ∀ a, a < 2 → ((((revRC 2 endsL).getD s ([], none)).1.getD a ([], none)).1).length ≤ 140737488355328 := by decide
     exact this s hs a ha
    ·have hl : ∀ s, s < 3 → ((revRC 2 endsL).getD s ([], none)).1.length = 2 := by decide
     have := hl s hs
     rw [List.getD_eq_getElem?_getD (l := ((revRC 2 endsL).getD s ([], none)).1), List.getElem?_eq_none (by omega)]; exact Nat.zero_le _
   ·rw [List.getD_eq_getElem?_getD (l := revRC 2 endsL), List.getElem?_eq_none (by have : (revRC 2 endsL).length = 3 := rfl; omega)]; exact Nat.zero_le _
  have hw : ∀ s a, (((([(([([0], some 1), ([0], some 1)] : List LC), some 2), ([([0], some 1), ([], some 0)], some 2), ([([], some 0), ([1], some 1)], some 2)] : List RC).getD s ([], none)).1.getD a ([], none)).1).length ≤ 140737488355328 := fun s a => by
   match s, a with
   | 0, 0 => decide
   | 0, 1 => decide
   | 1, 0 => decide
   | 1, 1 => decide
   | 2, 0 => decide
   | 2, 1 => decide
   | 0, a + 2 => exact Nat.zero_le _
   | 1, a + 2 => exact Nat.zero_le _
   | 2, a + 2 => exact Nat.zero_le _
   | s + 3, a => exact Nat.zero_le _
  have h := vcs9 2 1 (revRC 2 endsL) (some 3) 1 [2] (some 1) 1 [0] (some 1) 2 1 [([([0], some 1), ([0], some 1)], some 2), ([([0], some 1), ([], some 0)], some 2), ([([], some 0), ([1], some 1)], some 2)] (some 3) 1 [2] (some 1) 1 [0] (some 1)
   (.inr rfl) (.inr rfl) (.inr rfl) (.inr rfl) (.inr rfl) (.inr rfl) (by decide) (by decide) (by decide) (by decide) (by decide) (by decide) (by decide) (by decide) hb hw
  rw [if_pos qcW9] at h
  exact xdC9 h rfl
 have hO : PC Tryd.prog G0 12 [.agg [.int .i64 1, .sl 1 [[.sl 1 [[.int .i64 0]] (some 1)]] (some 1), .sl 1 [[.bool true]] (some 1)], .agg [.int .i64 1, .sl 1 [[.sl 1 [[.int .i64 0]] (some 1)]] (some 1), .sl 1 [[.bool true]] (some 1)]] (.int .i64 1) := by
  have h := kbj9 1 1 [([0], some 1)] (some 1) 1 [true] (some 1) 1 1 [([0], some 1)] (some 1) 1 [true] (some 1) (.inr rfl) (.inr rfl) (.inr rfl) (.inr rfl) (by decide) (by decide) (by decide) (by decide) (by decide) (by decide)
  rw [if_pos (by exact ⟨rfl, rfl, rfl⟩)] at h
  exact h
 have hP1 := kbx9 ex1
 rw [vdt9] at hP1
 have hP2 := kbx9 ex2
 rw [kdt9] at hP2
 have hP3 := kbx9 ex3
 rw [qdu9] at hP3
 have hP1 : PC Tryd.prog G0 15 [.str ex1] (.tup [.agg [.int .i64 1, .sl 1 [[.sl 1 [[.int .i64 0]] (some 1)]] (some 1), .sl 1 [[.bool true]] (some 1)], .int .i64 0]) := hP1
 unfold dA0 at hP2 hP3
 unfold ex1 at hP1
 unfold ex2 at hP2
 unfold ex3 at hP3
 unfold exT at hT
 have hid1 : ∀ p, idsE p (kc0 endsL) = true := fun p => ke0 _ _
 have hid2 : ∀ p, idsE p (kc0 (revRC 2 endsL)) = true := fun p => ke0 _ _
 have hid3 : ∀ p, idsE p (rowL (dRow 2 [[1, 0], [1, 2], [1, 0]])) = true := fun p => qc0 _ _
 have hid4 : ∀ p, idsE p (vb0 [false, false, true]) = true := fun p => zd0 _ _
 generalize kc0 endsL = EL at *
 generalize kc0 (revRC 2 endsL) = RL at *
 generalize rowL (dRow 2 [[1, 0], [1, 2], [1, 0]]) = DL at *
 generalize vb0 [false, false, true] = DB at *
 refine wd0 0 166 [.tmp 0] Tryd.func10 rfl rfl rfl (by simp) ?_
 intro s hz
 clear hz
 repeat' (first|((first|refine nav ?_|(refine g0_ ?_; refine goD ?_)) <;> (try simp (disch := (first|exact discB|fail)) only [push_cast, ↓reduceIte, reduceCtorEq, Nat.reduceAdd, Nat.reduceLT, Nat.reduceEqDiff, Nat.reduceLeDiff, Int.reduceAdd, Int.reduceLT, Int.reduceLE, Nat.reduceMul, Nat.add_zero]))|(with_reducible refine gG ?_ ?_)|((with_reducible refine And.intro (fun h => ?_) (fun h => ?_)) <;> try (exfalso; omega))|(with_reducible refine andG ?_)|(refine And.intro ⟨[_], rfl⟩ ?_)|(refine And.intro ⟨[], by simp only [List.append_nil]⟩ ?_)|(first|(refine ⟨_, _, pc_lift (hE) (by (simp [idsL, idsE, AV.ids, hid1, hid2, hid3, hid4])) _, ?_⟩)|(refine ⟨_, pc_lift (hE) (by (simp [idsL, idsE, AV.ids, hid1, hid2, hid3, hid4])) _, ?_⟩)|(refine ⟨_, fun _ => pc_lift (hE) (by (simp [idsL, idsE, AV.ids, hid1, hid2, hid3, hid4])) _, ?_⟩)|(refine ⟨_, _, pc_lift (hA1) (by (simp [idsL, idsE, AV.ids, hid1, hid2, hid3, hid4])) _, ?_⟩)|(refine ⟨_, pc_lift (hA1) (by (simp [idsL, idsE, AV.ids, hid1, hid2, hid3, hid4])) _, ?_⟩)|(refine ⟨_, fun _ => pc_lift (hA1) (by (simp [idsL, idsE, AV.ids, hid1, hid2, hid3, hid4])) _, ?_⟩)|(refine ⟨_, _, pc_lift (hA2) (by (simp [idsL, idsE, AV.ids, hid1, hid2, hid3, hid4])) _, ?_⟩)|(refine ⟨_, pc_lift (hA2) (by (simp [idsL, idsE, AV.ids, hid1, hid2, hid3, hid4])) _, ?_⟩)|(refine ⟨_, fun _ => pc_lift (hA2) (by (simp [idsL, idsE, AV.ids, hid1, hid2, hid3, hid4])) _, ?_⟩)|(refine ⟨_, _, pc_lift (hA3) (by (simp [idsL, idsE, AV.ids, hid1, hid2, hid3, hid4])) _, ?_⟩)|(refine ⟨_, pc_lift (hA3) (by (simp [idsL, idsE, AV.ids, hid1, hid2, hid3, hid4])) _, ?_⟩)|(refine ⟨_, fun _ => pc_lift (hA3) (by (simp [idsL, idsE, AV.ids, hid1, hid2, hid3, hid4])) _, ?_⟩)|(refine ⟨_, _, pc_lift (hA4) (by (simp [idsL, idsE, AV.ids, hid1, hid2, hid3, hid4])) _, ?_⟩)|(refine ⟨_, pc_lift (hA4) (by (simp [idsL, idsE, AV.ids, hid1, hid2, hid3, hid4])) _, ?_⟩)|(refine ⟨_, fun _ => pc_lift (hA4) (by (simp [idsL, idsE, AV.ids, hid1, hid2, hid3, hid4])) _, ?_⟩)|(refine ⟨_, _, pc_lift (hD) (by (simp [idsL, idsE, AV.ids, hid1, hid2, hid3, hid4])) _, ?_⟩)|(refine ⟨_, pc_lift (hD) (by (simp [idsL, idsE, AV.ids, hid1, hid2, hid3, hid4])) _, ?_⟩)|(refine ⟨_, fun _ => pc_lift (hD) (by (simp [idsL, idsE, AV.ids, hid1, hid2, hid3, hid4])) _, ?_⟩)|(refine ⟨_, _, pc_lift (hT) (by (simp [idsL, idsE, AV.ids, hid1, hid2, hid3, hid4])) _, ?_⟩)|(refine ⟨_, pc_lift (hT) (by (simp [idsL, idsE, AV.ids, hid1, hid2, hid3, hid4])) _, ?_⟩)|(refine ⟨_, fun _ => pc_lift (hT) (by (simp [idsL, idsE, AV.ids, hid1, hid2, hid3, hid4])) _, ?_⟩)|(refine ⟨_, _, pc_lift (hR) (by (simp [idsL, idsE, AV.ids, hid1, hid2, hid3, hid4])) _, ?_⟩)|(refine ⟨_, pc_lift (hR) (by (simp [idsL, idsE, AV.ids, hid1, hid2, hid3, hid4])) _, ?_⟩)|(refine ⟨_, fun _ => pc_lift (hR) (by (simp [idsL, idsE, AV.ids, hid1, hid2, hid3, hid4])) _, ?_⟩)|(refine ⟨_, _, pc_lift (hM) (by (simp [idsL, idsE, AV.ids, hid1, hid2, hid3, hid4])) _, ?_⟩)|(refine ⟨_, pc_lift (hM) (by (simp [idsL, idsE, AV.ids, hid1, hid2, hid3, hid4])) _, ?_⟩)|(refine ⟨_, fun _ => pc_lift (hM) (by (simp [idsL, idsE, AV.ids, hid1, hid2, hid3, hid4])) _, ?_⟩)|(refine ⟨_, _, pc_lift (hS) (by (simp [idsL, idsE, AV.ids, hid1, hid2, hid3, hid4])) _, ?_⟩)|(refine ⟨_, pc_lift (hS) (by (simp [idsL, idsE, AV.ids, hid1, hid2, hid3, hid4])) _, ?_⟩)|(refine ⟨_, fun _ => pc_lift (hS) (by (simp [idsL, idsE, AV.ids, hid1, hid2, hid3, hid4])) _, ?_⟩)|(refine ⟨_, _, pc_lift (hO) (by (simp [idsL, idsE, AV.ids, hid1, hid2, hid3, hid4])) _, ?_⟩)|(refine ⟨_, pc_lift (hO) (by (simp [idsL, idsE, AV.ids, hid1, hid2, hid3, hid4])) _, ?_⟩)|(refine ⟨_, fun _ => pc_lift (hO) (by (simp [idsL, idsE, AV.ids, hid1, hid2, hid3, hid4])) _, ?_⟩)|(refine ⟨_, _, pc_lift (hP1) (by (simp [idsL, idsE, AV.ids, hid1, hid2, hid3, hid4])) _, ?_⟩)|(refine ⟨_, pc_lift (hP1) (by (simp [idsL, idsE, AV.ids, hid1, hid2, hid3, hid4])) _, ?_⟩)|(refine ⟨_, fun _ => pc_lift (hP1) (by (simp [idsL, idsE, AV.ids, hid1, hid2, hid3, hid4])) _, ?_⟩)|(refine ⟨_, _, pc_lift (hP2) (by (simp [idsL, idsE, AV.ids, hid1, hid2, hid3, hid4])) _, ?_⟩)|(refine ⟨_, pc_lift (hP2) (by (simp [idsL, idsE, AV.ids, hid1, hid2, hid3, hid4])) _, ?_⟩)|(refine ⟨_, fun _ => pc_lift (hP2) (by (simp [idsL, idsE, AV.ids, hid1, hid2, hid3, hid4])) _, ?_⟩)|(refine ⟨_, _, pc_lift (hP3) (by (simp [idsL, idsE, AV.ids, hid1, hid2, hid3, hid4])) _, ?_⟩)|(refine ⟨_, pc_lift (hP3) (by (simp [idsL, idsE, AV.ids, hid1, hid2, hid3, hid4])) _, ?_⟩)|(refine ⟨_, fun _ => pc_lift (hP3) (by (simp [idsL, idsE, AV.ids, hid1, hid2, hid3, hid4])) _, ?_⟩))|simp (disch := (first|exact discB|fail)) only [push_cast, ↓reduceIte, reduceCtorEq, Nat.reduceAdd, Nat.reduceLT, Nat.reduceEqDiff, Nat.reduceLeDiff, Int.reduceAdd, Int.reduceLT, Int.reduceLE, Nat.reduceMul, Nat.add_zero])
end Go.Proofs
namespace Go.Proofs
open Go Go.V
set_option linter.unusedVariables false
set_option linter.unusedSimpArgs false
set_option maxHeartbeats 0
theorem kbm9 {x n : Int} (h : 0 ≤ x ∧ x < n) : xf0 [x] n = true := by
 simp [xf0, okI, h.1, h.2]
theorem xbK9 (l : List LC) : rowsV (ofRC l l.length) = (wf0 l).map fun r => r.map fun n => [n] := by
 rw [ofRC, List.take_length, rowsV, wf0, List.map_map, List.map_map]
 refine List.map_congr_left fun r _ => ?_
 simp [rowV, wz0]
theorem vcz9 (R : List (List Int)) (s a : Nat) (hs : s < R.length) (ha : a < (R.getD s []).length) : ((R.map fun r => r.map fun n => [n]).getD s []).getD a [] = [(R.getD s []).getD a 0] := by
 simp only [List.getD_eq_getElem?_getD, List.getElem?_map, List.getElem?_eq_getElem hs, Option.map_some, Option.getD_some] at ha ⊢
 rw [List.getElem?_eq_getElem ha]; rfl
theorem xdu9 (R : List (List Int)) (s : Nat) : ((R.map fun r => r.map fun n => [n]).getD s []).length = (R.getD s []).length := by
 by_cases hs : s < R.length
 ·simp only [List.getD_eq_getElem?_getD, List.getElem?_map, List.getElem?_eq_getElem hs, Option.map_some, Option.getD_some, List.length_map]
 ·simp only [List.getD_eq_getElem?_getD, List.getElem?_map, List.getElem?_eq_none (show R.length ≤ s by omega), Option.map_none, Option.getD_none]
  rfl
theorem wdu9 {A m : Nat} {R : List (List Int)} (h : OkDv A R m) (ac : List Bool) : OkNv A (R.map fun r => r.map fun n => [n]) [0] (intN (accK ac R.length)) := by
 have h1 := h.n1
 refine ⟨h.a1, h.a2, by rw [List.length_map]; exact h.n, kbm9 (by rw [List.length_map]; omega), ?_, fun s hs => ?_, fun s a hs ha => ?_⟩
 ·rw [List.length_map]; exact kj0 _ _
 ·rw [List.length_map] at hs; rw [xdu9]; exact h.len s hs
 ·rw [List.length_map] at hs
  rw [vcz9 R s a hs (by rw [h.len s hs]; exact ha), List.length_map]
  exact kbm9 (h.to s a hs ha)
theorem zcW9 {A m : Nat} {R : List (List Int)} (h : OkDv A R m) (ac : List Bool) : SameF A (nfOf (R.map fun r => r.map fun n => [n]) [0] (intN (accK ac R.length))) (ofD (R.map natL) ac) := by
 refine ⟨by simp [nfOf, ofD], rfl, ?_, fun s a t hs ha ht => ?_⟩
 ·show natL (intN _) = _
  rw [zad9]
  simp [ofD, accK]
 ·have hs' : s < R.length := by simpa [nfOf] using hs
  have hl := h.len s hs'
  have ht := h.to s a hs' ha
  show (((R.map fun r => r.map fun n => [n]).getD s []).getD a []).contains (t : Int) = (((R.map natL).getD s []).getD a 0 == t)
  rw [vcz9 R s a hs' (by omega)]
  have e : ((R.map natL).getD s []).getD a 0 = ((R.getD s []).getD a 0).toNat := by
   simp only [List.getD_eq_getElem?_getD, List.getElem?_map, List.getElem?_eq_getElem hs', Option.map_some, Option.getD_some] at hl ⊢
   simp [natL, List.getElem?_eq_getElem (show a < R[s].length by omega)]
  rw [e]
  generalize (R.getD s []).getD a 0 = v at *
  rw [Bool.eq_iff_iff]
  simp
  omega
section
variable {A m : Nat} {l : List LC}
theorem kcz9 (l : List LC) : (ofRC l l.length).length = l.length := kaV9 l _ (Nat.le_refl _)
theorem vda9 (l : List LC) (s : Nat) (hs : s < l.length) : (ofRC l l.length).getD s ([], none) = (wz0 (l.getD s ([], none)).1 (l.getD s ([], none)).1.length, some (l.getD s ([], none)).1.length) := by simp [ofRC, hs]
theorem qcA9 (r : List Int) (a : Nat) (ha : a < r.length) : (wz0 r r.length).getD a ([], none) = ([r.getD a 0], some 1) := by simp [wz0, ha]
theorem kda9 (h : OkDv A (wf0 l) m) (ac : List Bool) : OkNv A (rowsV (ofRC l l.length)) [0] (intN (accK ac l.length)) := by
 have := wdu9 h ac
 rwa [qd0, ← xbK9] at this
theorem wbK9 (h : OkDv A (wf0 l) m) (ac : List Bool) : SizeN 1 (ofRC l l.length) 1 [0] 1 (intN (accK ac l.length)) := by
 have hn := h.n
 have h2 := h.a2
 rw [qd0] at hn
 have hk := kbG9 ac l.length
 refine ⟨.inr rfl, .inr rfl, .inr rfl, by rw [kcz9]; omega, by simp, by rw [intN_len]; omega, fun s hs => ?_, fun s a hs ha => ?_⟩
 ·rw [kcz9] at hs
  rw [vda9 l s hs]
  simp only
  rw [xad9 _ _ (Nat.le_refl _), h.row hs]; omega
 ·rw [kcz9] at hs
  rw [vda9 l s hs] at ha ⊢
  simp only at ha ⊢
  rw [xad9 _ _ (Nat.le_refl _)] at ha
  rw [qcA9 _ _ ha]; simp
end
end Go.Proofs
