import Derived.Test.YtcoakjnmnommpaaGreatDoorA24
import Derived.Test.YtcoakjnmnommpaaGreatDoorZ13
import Derived.Test.YtcoakjnmnommpaaGreatDoorA37
import Derived.Test.YtcoakjnmnommpaaGreatDoorA20
import Derived.Test.YtcoakjnmnommpaaGreatDoorA46
import Derived.Test.YtcoakjnmnommpaaGreatDoorA42
import Derived.Test.YtcoakjnmnommpaaGreatDoorA26
import Derived.Test.YtcoakjnmnommpaaGreatDoorA12
import Derived.Test.YtcoakjnmnommpaaGreatDoorA16
import Derived.Test.YtcoakjnmnommpaaGreatDoorAR1
import Derived.Test.YtcoakjnmnommpaaGreatDoorA47
import Derived.Test.YtcoakjnmnommpaaGreatDoorZ10
namespace Go.Proofs
open Go Go.V
set_option linter.unusedVariables false
set_option linter.unusedSimpArgs false
set_option maxHeartbeats 0
section
variable {X : Type} {step : X → Nat → X} {eqv : X → X → Bool} {A : Nat}
theorem zau9 (x0 : X) : ∀ i, ∀ r ∈ (stX step eqv A x0 i).2, r.length = A
 | 0, r, h => by cases h
 | i + 1, r, h => by
  rw [stX] at h;split at h
  ·exact zau9 x0 i r h
  ·simp only at h;rcases l'D.1 h with h|h
   ·exact zau9 x0 i r h
   ·rw [l'N.1 h]; exact xal9 _ _ _ _ A
end
section
variable {A zr : Nat} {l : List RC} {c : Option Nat} {zs : Nat} {st : List Int} {cs : Option Nat} {za : Nat} {ac : List Int} {ca : Option Nat}
theorem qbB9 (hok : OkNv A (rowsV l) st ac) (h8 : l.length ≤ 8) (i : Nat) : (detS (nfOf (rowsV l) st ac) A i).length ≤ 256 :=
 wcn9 _ (was9 hok).1 (by show (rowsV l).length ≤ 8; rw [wb0]; exact h8) A i
theorem zdW9 (hsz : SizeN zr l zs st za ac) (hok : OkNv A (rowsV l) st ac) (h8 : l.length ≤ 8) : ∃ N, N ≤ 256 ∧ (detS (nfOf (rowsV l) st ac) A N).length = N ∧ PC Tryz.prog G0 23 [nA A zr l c zs st cs za ac ca] (detG A (nfOf (rowsV l) st ac) N) := by
 obtain ⟨N, h1, h2, _⟩ := zbJ9 (step := stepN (nfOf (rowsV l) st ac)) (eqv := eqL) (A := A) (nfOf (rowsV l) st ac).S 256 (qbB9 hok h8);refine ⟨N, h1, h2, qQ0 A zr l c zs st cs za ac ca hsz hok _ (fun M _ hM => ?_) ?_⟩
 ·rw [kbx9 _ h2 hM]
 ·rintro ⟨i, hi⟩;have := qbB9 hok h8 i;omega
end
theorem zbB9 (l : List (List Nat)) (f : List Nat → Option Nat) : kd0 (l.map fun r => (intN r, f r)) = l.map intN := by simp [kd0]
theorem zcq9 (l : List (List Nat)) (f : List Nat → Option Nat) : vl0 (l.map fun r => (intN r, f r)) = l := by
 rw [vl0, zbB9, n'k];exact (l'L fun r _ => qcM9 r).trans (List.map_id _)
theorem veo9 (A : Nat) (l : List (List Nat)) : kd0 (dRow A l) = l.map intN := zbB9 l _
theorem xdW9 (A : Nat) (l : List (List Nat)) : vl0 (dRow A l) = l := zcq9 l _
theorem keo9 {A N : Nat} {R : List (List Nat)} (hA : 1 ≤ A ∧ A ≤ 16) (h1 : 1 ≤ N) (h2 : N ≤ 256) (hR : R.length = N) (hl : ∀ r ∈ R, r.length = A) (ht : ∀ s, s < N → ∀ a, a < A → (R.getD s []).getD a 0 < N) : OkDv A (R.map intN) N := by
 refine ⟨hA.1, hA.2, by simp; omega, by simp; omega, by simp [hR], fun s hs => ?_, fun s a hs ha => ?_⟩
 ·rw [l'w] at hs;simp only [l'b, l'p, l'e hs, Option.map_some, Option.getD_some, kc0];exact hl _ (l'X hs)
 ·rw [l'w] at hs;have h := ht s (by omega) a ha;have hr := hl _ (l'X hs);simp only [l'b, l'p, l'e hs, Option.map_some, Option.getD_some] at h ⊢;have e := wP0 R[s] a (by omega);simp only [l'b] at e;rw [e, l'w];omega
theorem zB0 {l : List LC} {ac : List Bool} (hl : l.length ≤ 1000) (ha : ac.length ≤ 1000) (hr : ∀ r ∈ l, r.1.length ≤ 1000) : SizeD 1 l 1 ac :=
 ⟨.inr rfl, .inr rfl, by omega, by omega, fun s hs => by have := hr _ (wc0 (d := ([], none)) hs); omega⟩
end Go.Proofs
namespace Go.Proofs
open Go Go.V Go.RowKit
set_option linter.unusedVariables false
set_option linter.unusedSimpArgs false
set_option maxHeartbeats 0
set_option maxRecDepth 100000
def endsL : List RC := [([([0, 1], some 2), ([0], some 1)], some 2), ([([], some 0), ([2], some 1)], some 2), ([([], some 0), ([], some 0)], some 2)]
theorem vca9 : OkNv 2 (rowsV endsL) [0] [2] := by
 have h : ∀ s, s < (rowsV endsL).length → ∀ a, a < 2 → zf0 (((rowsV endsL).getD s []).getD a []) (rowsV endsL).length = true := by decide
 refine ⟨by decide, by decide, by decide, by decide, by decide, by decide, fun s a hs ha => h s hs a ha⟩
theorem vB0 : SizeN 1 endsL 1 [0] 1 [2] := by
 have h : ∀ s, s < endsL.length → ∀ a, a < (endsL.getD s ([], none)).1.length → ((endsL.getD s ([], none)).1.getD a ([], none)).1.length ≤ 9223372036854775807 := by decide
 exact ⟨.inr rfl, .inr rfl, .inr rfl, by decide, by decide, by decide, by decide, fun s a hs ha => h s hs a ha⟩
theorem ends_acc : accV 2 endsL [0] [2] [0, 1] = .tup [.bool true, .int .i64 0] ∧ accV 2 endsL [0] [2] [1, 0, 1] = .tup [.bool true, .int .i64 0] ∧ accV 2 endsL [0] [2] [0] = .tup [.bool false, .int .i64 0] ∧ accV 2 endsL [0] [2] [] = .tup [.bool false, .int .i64 0] := ⟨by kernel_rfl, by kernel_rfl, by kernel_rfl, by kernel_rfl⟩
theorem ends_det : (detS (nfOf (rowsV endsL) [0] [2]) 2 3).length = 3 ∧ detR (nfOf (rowsV endsL) [0] [2]) 2 3 = [[1, 0], [1, 2], [1, 0]] ∧ detA (nfOf (rowsV endsL) [0] [2]) 2 3 = [false, false, true] := ⟨by kernel_rfl, by kernel_rfl, by kernel_rfl⟩
def exT : Bs := [97, 99, 99, 101, 112, 116, 111, 114, 32, 50, 32, 51, 10, 45, 32, 49, 32, 48, 10, 45, 32, 49, 32, 50, 10, 43, 32, 49, 32, 48, 10]
theorem wdW9 : Lib.itoa 0 = [48] := by rw [zg0 0 (by omega) (by omega)]; rfl
theorem zdu9 : Lib.itoa 1 = [49] := by rw [zg0 1 (by omega) (by omega)]; rfl
theorem qeD9 : Lib.itoa 2 = [50] := by rw [zg0 2 (by omega) (by omega)]; rfl
theorem zeD9 : Lib.itoa 3 = [51] := by rw [zg0 3 (by omega) (by omega)]; rfl
theorem vdW9 : zcp9 2 (dRow 2 [[1, 0], [1, 2], [1, 0]]) [false, false, true] = .tup [.str exT, .int .i64 0] := by
 rw [zcp9, if_neg (by decide)];have : zV0 2 (zag9 (dRow 2 [[1, 0], [1, 2], [1, 0]]) [false, false, true] (dRow 2 [[1, 0], [1, 2], [1, 0]]).length) = exT := by
  simp [zV0, zag9, dRow, qv0, kK0, kA0, qy0, intN, l'Z, wdW9, zdu9, qeD9, zeD9, xr0, qk0, exT]
 rw [this]
theorem xdu9 : wcL9 2 (km0 2 endsL) [2] [0] 2 [([([0], some 1), ([0], some 1)], some 2), ([([0], some 1), ([], some 0)], some 2), ([([], some 0), ([1], some 1)], some 2)] [2] [0] := ⟨rfl, by kernel_rfl, rfl, rfl⟩
def exD : List LC := [([1], some 1), ([0], some 1)]
theorem qep9 : OkDv 1 (kd0 exD) 2 := by
 have h : ∀ s, s < (kd0 exD).length → ∀ a, a < 1 → 0 ≤ ((kd0 exD).getD s []).getD a 0 ∧ ((kd0 exD).getD s []).getD a 0 < (kd0 exD).length := by decide
 exact ⟨by decide, by decide, by decide, by decide, by decide, by decide, fun s a hs ha => h s hs a ha⟩
theorem exD_min : (stX (dlt exD) eqX 1 0 2).1.length = 2 ∧ cntK (dlt exD) (fun s => [true, true].getD s false) 1 (stX (dlt exD) eqX 1 0 2).1 0 = cntK (dlt exD) (fun s => [true, true].getD s false) 1 (stX (dlt exD) eqX 1 0 2).1 1 := ⟨by kernel_rfl, by kernel_rfl⟩
theorem xeD9 : minG 1 exD [true, true] (stX (dlt exD) eqX 1 0 2).1 0 = .tup [dA 1 1 [([0], some 1)] (some 1) 1 [true] (some 1), .int .i64 0] := by kernel_rfl
def ex1 : Bs := [97, 99, 99, 101, 112, 116, 111, 114, 32, 49, 32, 49, 10, 43, 32, 48, 10]
def ex2 : Bs := [97, 99, 99, 101, 112, 116, 111, 114, 32, 49, 32, 49, 10, 43, 32, 49, 10]
def ex3 : Bs := [97, 99, 99, 101, 112, 116, 111, 114, 32, 49, 32, 50, 10, 43, 32, 48, 10]
theorem kca9 : zV0 1 [([0], true)] = ex1 := by simp [zV0, qv0, kK0, kA0, qy0, wdW9, zdu9, xr0, qk0, ex1]
theorem qcb9 : zV0 1 [([1], true)] = ex2 := by simp [zV0, qv0, kK0, kA0, qy0, wdW9, zdu9, xr0, qk0, ex2]
theorem xbB9 {A : Int} {rows : List (List Int × Bool)} (hA : 0 ≤ A ∧ A ≤ 9999) (hn : rows.length ≤ 9999) (h : ∀ r ∈ rows, ∀ x ∈ r.1, 0 ≤ x ∧ x ≤ 9999) (hl : (zV0 A rows).length ≤ 65536) : parV (zV0 A rows) = parO (some (A, rows)) := by
 rw [parV, if_neg (by omega), qbK9 A rows hA hn h]
theorem kdW9 : parV ex1 = .tup [dA 1 1 [([0], some 1)] (some 1) 1 [true] (some 1), .int .i64 0] := by
 rw [← kca9, xbB9 (by omega) (by decide) (by decide) (by rw [kca9]; decide)];rfl
theorem qdX9 : parV ex2 = .tup [dA0, .int .i64 1] := by
 rw [← qcb9, xbB9 (by omega) (by decide) (by decide) (by rw [qcb9]; decide)];rfl
theorem zdX9 : parV ex3 = .tup [dA0, .int .i64 4] := by
 rw [parV, if_neg (by decide)];have : qr0 ex3 = none := by
  rw [qr0, if_pos (by rfl)];refine kaN9 ?_;rintro ⟨A, n, h, _, hn⟩;have h2 := vK0 h;have e : (splitC 32 ((splitC 10 ex3.dropLast).headD [])).tail = [[49], [50]] := by decide
  have e2 : (splitC 10 ex3.dropLast).length = 2 := by decide
  rw [e] at h2;rw [e2] at hn;simp only [List.map_cons, List.map_nil, List.cons.injEq, and_true] at h2;rw [hn] at h2;have h3 := h2.2
  change Lib.itoa 1 = [50] at h3
  rw [zdu9] at h3;exact absurd h3 (by decide)
 rw [this]; rfl
theorem zaO9 : PC Tryz.prog G0 17 [] (.bool true) := by
 have hE : PC Tryz.prog G0 49 [] (.agg [.int .i64 2, .sl 1 (xe0 endsL) (some 3), .sl 1 [[.int .i64 0]] (some 1), .sl 1 [[.int .i64 2]] (some 1)]) := kek9;have hA1 : PC Tryz.prog G0 14 [.agg [.int .i64 2, .sl 1 (xe0 endsL) (some 3), .sl 1 [[.int .i64 0]] (some 1), .sl 1 [[.int .i64 2]] (some 1)], .sl 1 [[.int .i64 0], [.int .i64 1]] (some 2)] (.tup [.bool true, .int .i64 0]) := by
  have h := xy0 2 1 endsL (some 3) 1 [0] (some 1) 1 [2] (some 1) vB0 1 [0, 1] (some 2) (.inr rfl) (by decide);rw [ends_acc.1] at h; exact h
 have hA2 : PC Tryz.prog G0 14 [.agg [.int .i64 2, .sl 1 (xe0 endsL) (some 3), .sl 1 [[.int .i64 0]] (some 1), .sl 1 [[.int .i64 2]] (some 1)], .sl 1 [[.int .i64 1], [.int .i64 0], [.int .i64 1]] (some 3)] (.tup [.bool true, .int .i64 0]) := by
  have h := xy0 2 1 endsL (some 3) 1 [0] (some 1) 1 [2] (some 1) vB0 1 [1, 0, 1] (some 3) (.inr rfl) (by decide);rw [ends_acc.2.1] at h; exact h
 have hA3 : PC Tryz.prog G0 14 [.agg [.int .i64 2, .sl 1 (xe0 endsL) (some 3), .sl 1 [[.int .i64 0]] (some 1), .sl 1 [[.int .i64 2]] (some 1)], .sl 1 [[.int .i64 0]] (some 1)] (.tup [.bool false, .int .i64 0]) := by
  have h := xy0 2 1 endsL (some 3) 1 [0] (some 1) 1 [2] (some 1) vB0 1 [0] (some 1) (.inr rfl) (by decide);rw [ends_acc.2.2.1] at h; exact h
 have hA4 : PC Tryz.prog G0 14 [.agg [.int .i64 2, .sl 1 (xe0 endsL) (some 3), .sl 1 [[.int .i64 0]] (some 1), .sl 1 [[.int .i64 2]] (some 1)], .sl 0 [] (some 0)] (.tup [.bool false, .int .i64 0]) := by
  have h := xy0 2 1 endsL (some 3) 1 [0] (some 1) 1 [2] (some 1) vB0 0 [] (some 0) (.inl rfl) (by decide);rw [ends_acc.2.2.2] at h; exact h
 have hD : PC Tryz.prog G0 23 [.agg [.int .i64 2, .sl 1 (xe0 endsL) (some 3), .sl 1 [[.int .i64 0]] (some 1), .sl 1 [[.int .i64 2]] (some 1)]] (.tup [.agg [.int .i64 2, .sl 1 (rowL (dRow 2 [[1, 0], [1, 2], [1, 0]])) (some 3), .sl 1 (qb0 [false, false, true]) (some 3)], .int .i64 0]) := by
  obtain ⟨N, _, h1, h⟩ := zdW9 (c := some 3) (cs := some 1) (ca := some 1) vB0 vca9 (by decide);have hN := kbx9 _ h1 ends_det.1;subst hN;rw [detG, ends_det.2.1, ends_det.2.2] at h;exact h
 have hT : PC Tryz.prog G0 27 [.agg [.int .i64 2, .sl 1 (rowL (dRow 2 [[1, 0], [1, 2], [1, 0]])) (some 3), .sl 1 (qb0 [false, false, true]) (some 3)]] (.tup [.str exT, .int .i64 0]) := by
  have h := xcS9 2 1 (dRow 2 [[1, 0], [1, 2], [1, 0]]) (some 3) 1 [false, false, true] (some 3) (zB0 (by decide) (by decide) (by decide));rw [vdW9] at h; exact h
 have hR : PC Tryz.prog G0 8 [.agg [.int .i64 2, .sl 1 (xe0 endsL) (some 3), .sl 1 [[.int .i64 0]] (some 1), .sl 1 [[.int .i64 2]] (some 1)]] (.tup [.agg [.int .i64 2, .sl 1 (xe0 (km0 2 endsL)) (some 3), .sl 1 [[.int .i64 2]] (some 1), .sl 1 [[.int .i64 0]] (some 1)], .int .i64 0]) :=
  vbz9 2 1 endsL (some 3) 1 [0] (some 1) 1 [2] (some 1) vB0 vca9
 have hM : PC Tryz.prog G0 25 [.agg [.int .i64 1, .sl 1 [[.sl 1 [[.int .i64 1]] (some 1)], [.sl 1 [[.int .i64 0]] (some 1)]] (some 2), .sl 1 [[.bool true], [.bool true]] (some 2)]] (.tup [.agg [.int .i64 1, .sl 1 [[.sl 1 [[.int .i64 0]] (some 1)]] (some 1), .sl 1 [[.bool true]] (some 1)], .int .i64 0]) := by
  have h := wbz9 1 exD (some 2) [true, true] (some 2) qep9 (zB0 (by decide) (by decide) (by decide)) 2 exD_min.1 0 exD_min.2 (fun j hj => by omega);rw [xeD9] at h;exact h
 have hS : PC Tryz.prog G0 10 [.agg [.int .i64 2, .sl 1 (xe0 (km0 2 endsL)) (some 3), .sl 1 [[.int .i64 2]] (some 1), .sl 1 [[.int .i64 0]] (some 1)], .agg [.int .i64 2, .sl 1 [[.sl 1 [[.sl 1 [[.int .i64 0]] (some 1)], [.sl 1 [[.int .i64 0]] (some 1)]] (some 2)], [.sl 1 [[.sl 1 [[.int .i64 0]] (some 1)], [.sl 0 [] (some 0)]] (some 2)], [.sl 1 [[.sl 0 [] (some 0)], [.sl 1 [[.int .i64 1]] (some 1)]] (some 2)]] (some 3), .sl 1 [[.int .i64 2]] (some 1), .sl 1 [[.int .i64 0]] (some 1)]] (.int .i64 1) := by
  have hb : ∀ s a, ((((km0 2 endsL).getD s ([], none)).1.getD a ([], none)).1).length ≤ 9223372036854775807 := fun s a => by
   by_cases hs : s < 3
   ·by_cases ha : a < 2
    ·have : ∀ s, s < 3 → ∀ a, a < 2 → ((((km0 2 endsL).getD s ([], none)).1.getD a ([], none)).1).length ≤ 9223372036854775807 := by decide
     exact this s hs a ha
    ·have hl : ∀ s, s < 3 → ((km0 2 endsL).getD s ([], none)).1.length = 2 := by decide
     have := hl s hs;rw [l'b (l := ((km0 2 endsL).getD s ([], none)).1), l'I (by omega)]; exact n'X _
   ·rw [l'b (l := km0 2 endsL), l'I (by have : (km0 2 endsL).length = 3 := rfl; omega)]; exact n'X _
  have hw : ∀ s a, (((([(([([0], some 1), ([0], some 1)] : List LC), some 2), ([([0], some 1), ([], some 0)], some 2), ([([], some 0), ([1], some 1)], some 2)] : List RC).getD s ([], none)).1.getD a ([], none)).1).length ≤ 9223372036854775807 := fun s a => by
   match s, a with
   | 0, 0 => decide
   | 0, 1 => decide
   | 1, 0 => decide
   | 1, 1 => decide
   | 2, 0 => decide
   | 2, 1 => decide
   | 0, a + 2 => exact n'X _
   | 1, a + 2 => exact n'X _
   | 2, a + 2 => exact n'X _
   | s + 3, a => exact n'X _
  have h := vcL9 2 1 (km0 2 endsL) (some 3) 1 [2] (some 1) 1 [0] (some 1) 2 1 [([([0], some 1), ([0], some 1)], some 2), ([([0], some 1), ([], some 0)], some 2), ([([], some 0), ([1], some 1)], some 2)] (some 3) 1 [2] (some 1) 1 [0] (some 1)
   (.inr rfl) (.inr rfl) (.inr rfl) (.inr rfl) (.inr rfl) (.inr rfl) (by decide) (by decide) (by decide) (by decide) (by decide) (by decide) (by decide) (by decide) hb hw
  rw [if_pos xdu9] at h;exact xbS9 h rfl
 have hO : PC Tryz.prog G0 30 [.agg [.int .i64 1, .sl 1 [[.sl 1 [[.int .i64 0]] (some 1)]] (some 1), .sl 1 [[.bool true]] (some 1)], .agg [.int .i64 1, .sl 1 [[.sl 1 [[.int .i64 0]] (some 1)]] (some 1), .sl 1 [[.bool true]] (some 1)]] (.int .i64 1) := by
  have h := waL9 1 1 [([0], some 1)] (some 1) 1 [true] (some 1) 1 1 [([0], some 1)] (some 1) 1 [true] (some 1) (.inr rfl) (.inr rfl) (.inr rfl) (.inr rfl) (by decide) (by decide) (by decide) (by decide) (by decide) (by decide);rw [if_pos (by exact ⟨rfl, rfl, rfl⟩)] at h;exact h
 have hP1 := xbl9 ex1;rw [kdW9] at hP1;have hP2 := xbl9 ex2;rw [qdX9] at hP2;have hP3 := xbl9 ex3;rw [zdX9] at hP3;have hP1 : PC Tryz.prog G0 50 [.str ex1] (.tup [.agg [.int .i64 1, .sl 1 [[.sl 1 [[.int .i64 0]] (some 1)]] (some 1), .sl 1 [[.bool true]] (some 1)], .int .i64 0]) := hP1;unfold dA0 at hP2 hP3;unfold ex1 at hP1;unfold ex2 at hP2;unfold ex3 at hP3;unfold exT at hT;have hid1 : ∀ p, idsE p (xe0 endsL) = true := fun p => ze0 _ _;have hid2 : ∀ p, idsE p (xe0 (km0 2 endsL)) = true := fun p => ze0 _ _;have hid3 : ∀ p, idsE p (rowL (dRow 2 [[1, 0], [1, 2], [1, 0]])) = true := fun p => vc0 _ _;have hid4 : ∀ p, idsE p (qb0 [false, false, true]) = true := fun p => zd0 _ _;generalize xe0 endsL = EL at *;generalize xe0 (km0 2 endsL) = RL at *;generalize rowL (dRow 2 [[1, 0], [1, 2], [1, 0]]) = DL at *;generalize qb0 [false, false, true] = DB at *;refine qc0 0 166 [.tmp 0] Tryz.func17 rfl rfl rfl (by simp) ?_;intro s hz;clear hz;repeat' (first|(refine nv ?_ <;> (try simp (disch := try exact qa0) only [push_cast, simprocAttr, Nat.add_zero]))|(with_reducible first|refine gG ?_ ?_|refine ⟨fun h => ?_, fun h => ?_⟩ <;> try omega|refine andG ?_)|refine cp_ hE ?_ (hi := by (simp [idsL, idsE, AV.ids, hid1, hid2, hid3, hid4]))|refine cp_ hA1 ?_ (hi := by (simp [idsL, idsE, AV.ids, hid1, hid2, hid3, hid4]))|refine cp_ hA2 ?_ (hi := by (simp [idsL, idsE, AV.ids, hid1, hid2, hid3, hid4]))|refine cp_ hA3 ?_ (hi := by (simp [idsL, idsE, AV.ids, hid1, hid2, hid3, hid4]))|refine cp_ hA4 ?_ (hi := by (simp [idsL, idsE, AV.ids, hid1, hid2, hid3, hid4]))|refine cp_ hD ?_ (hi := by (simp [idsL, idsE, AV.ids, hid1, hid2, hid3, hid4]))|refine cp_ hT ?_ (hi := by (simp [idsL, idsE, AV.ids, hid1, hid2, hid3, hid4]))|refine cp_ hR ?_ (hi := by (simp [idsL, idsE, AV.ids, hid1, hid2, hid3, hid4]))|refine cp_ hM ?_ (hi := by (simp [idsL, idsE, AV.ids, hid1, hid2, hid3, hid4]))|refine cp_ hS ?_ (hi := by (simp [idsL, idsE, AV.ids, hid1, hid2, hid3, hid4]))|refine cp_ hO ?_ (hi := by (simp [idsL, idsE, AV.ids, hid1, hid2, hid3, hid4]))|refine cp_ hP1 ?_ (hi := by (simp [idsL, idsE, AV.ids, hid1, hid2, hid3, hid4]))|refine cp_ hP2 ?_ (hi := by (simp [idsL, idsE, AV.ids, hid1, hid2, hid3, hid4]))|refine cp_ hP3 ?_ (hi := by (simp [idsL, idsE, AV.ids, hid1, hid2, hid3, hid4]))|simp (disch := try exact qa0) only [push_cast, simprocAttr, Nat.add_zero])
theorem xdX9 {sy sd : Int} {RN IS IA DL DB IW : List (List AV)} {c cs ca cd cb cw : Option Nat} {eX eD u2 : Int} {aD : Bool}
  (hid1 : ∀ p, idsE p RN = true) (hid2 : ∀ p, idsE p IS = true) (hid3 : ∀ p, idsE p IA = true) (hid4 : ∀ p, idsE p DL = true) (hid5 : ∀ p, idsE p DB = true) (hid6 : ∀ p, idsE p IW = true)
  (hcD : (eX ≠ 0 ∧ aD = false ∧ eD = eX) ∨ (eX = 0 ∧ u2 ≠ 0 ∧ aD = false ∧ eD = u2) ∨ (eX = 0 ∧ u2 = 0 ∧ eD = 0 ∧ PC Tryz.prog G0 28 [.agg [.int .i64 sd, .sl 1 DL cd, .sl 1 DB cb], .sl 1 IW cw] (.int .i64 (if aD = true then 1 else 0))))
  (hb4 : eX ≠ 0 → PC Tryz.prog G0 25 [.agg [.int .i64 sd, .sl 1 DL cd, .sl 1 DB cb]] (.tup [.agg [.int .i64 0, .sl 0 [] (some 0), .sl 0 [] (some 0)], .int .i64 eX]))
  (hb5 : eX ≠ 0 → PC Tryz.prog G0 26 [.agg [.int .i64 sd, .sl 1 DL cd, .sl 1 DB cb]] (.tup [.agg [.int .i64 0, .sl 0 [] (some 0), .sl 0 [] (some 0), .sl 0 [] (some 0)], .int .i64 eX]))
  (hb6 : eX ≠ 0 → PC Tryz.prog G0 27 [.agg [.int .i64 sd, .sl 1 DL cd, .sl 1 DB cb]] (.tup [.str [], .int .i64 eX])) (hw2 : PC Tryz.prog G0 24 [.sl 1 IW cw, .int .i64 sd] (.int .i64 u2)) : ∀ (s1 : Nat → AV), s1 2 = .sl 1 IW cw → s1 3 = .ptr 0 0 0 1 → s1 4 = .ptr 1 0 0 1 → s1 12 = .int .i64 eX → s1 15 = .bool aD → s1 16 = .int .i64 eD →
   V.Go false Tryz.prog G0 0 299 (wq0 Tryz.f4) [0, 0, 1, 1, 1, 1, 1, 1, 1, 1, 1, 1, 1] (kai9 false Tryz.prog G0 0 299 (wq0 Tryz.f4) [1, 0, 1, 1, 1, 1, 1, 1, 1, 1, 1, 1, 1] (kai9 false Tryz.prog G0 0 299 (wq0 Tryz.f4) [1, 1, 1, 1, 1, 1, 1, 1, 1, 1, 1, 1] (xaF9 Tryz.prog 299 [ResultVar.tmp 6] 0 (.bool true)))) True s1 [.row 4 29 [[.int .i64 sy, .sl 1 RN c, .sl 1 IS cs, .sl 1 IA ca]], .row 3 47 [[.int .i64 sd, .sl 1 DL cd, .sl 1 DB cb]], .row 3 47 [[.int .i64 0, .sl 0 [] (some 0), .sl 0 [] (some 0)]], .row 4 29 [[.int .i64 0, .sl 0 [] (some 0), .sl 0 [] (some 0), .sl 0 [] (some 0)]], .row 4 29 [[.int .i64 0, .sl 0 [] (some 0), .sl 0 [] (some 0), .sl 0 [] (some 0)]]] := by
 have hlv := zaO9;have hz : decide ((0 : Int) = 1) = false := rfl;intro s1 r2 r3 r4 r12 r15 r16;rcases hcD with ⟨q1, rfl, rfl⟩|⟨rfl, q2, rfl, rfl⟩|⟨rfl, rfl, rfl, hE⟩
 ·have hb4 := hb4 q1;have hb5 := hb5 q1;have hb6 := hb6 q1;repeat' (first|(refine nv ?_ <;> (try simp (disch := try exact qa0) only [push_cast, simprocAttr, r2, r3, r4, r12, r15, r16, q1]))|(with_reducible first|refine gG ?_ ?_|refine ⟨fun h => ?_, fun h => ?_⟩ <;> try omega|refine andG ?_)|refine cp_ hb4 ?_ (hi := by (simp [idsL, idsE, AV.ids, hid1, hid2, hid3, hid4, hid5, hid6]))|refine cp_ hb5 ?_ (hi := by (simp [idsL, idsE, AV.ids, hid1, hid2, hid3, hid4, hid5, hid6]))|refine cp_ hb6 ?_ (hi := by (simp [idsL, idsE, AV.ids, hid1, hid2, hid3, hid4, hid5, hid6]))|refine cp_ hlv ?_ (hi := by (simp [idsL, idsE, AV.ids, hid1, hid2, hid3, hid4, hid5, hid6]))|simp (disch := try exact qa0) only [push_cast, simprocAttr, r2, r3, r4, r12, r15, r16, q1])
 ·skip
  repeat' (first|(refine nv ?_ <;> (try simp (disch := try exact qa0) only [push_cast, simprocAttr, r2, r3, r4, r12, r15, r16, q2]))|(with_reducible first|refine gG ?_ ?_|refine ⟨fun h => ?_, fun h => ?_⟩ <;> try omega|refine andG ?_)|refine cp_ hw2 ?_ (hi := by (simp [idsL, idsE, AV.ids, hid1, hid2, hid3, hid4, hid5, hid6]))|refine cp_ hlv ?_ (hi := by (simp [idsL, idsE, AV.ids, hid1, hid2, hid3, hid4, hid5, hid6]))|(refine ⟨AV.str [], ?_⟩; refine wC0 ?_)|simp (disch := try exact qa0) only [push_cast, simprocAttr, r2, r3, r4, r12, r15, r16, q2])
 ·cases aD with
  | true =>
   rw [if_pos rfl] at hE;repeat' (first|(refine nv ?_ <;> (try simp (disch := try exact qa0) only [push_cast, simprocAttr, r2, r3, r4, r12, r15, r16, hz]))|(with_reducible first|refine gG ?_ ?_|refine ⟨fun h => ?_, fun h => ?_⟩ <;> try omega|refine andG ?_)|refine cp_ hw2 ?_ (hi := by (simp [idsL, idsE, AV.ids, hid1, hid2, hid3, hid4, hid5, hid6]))|refine cp_ hE ?_ (hi := by (simp [idsL, idsE, AV.ids, hid1, hid2, hid3, hid4, hid5, hid6]))|refine cp_ hlv ?_ (hi := by (simp [idsL, idsE, AV.ids, hid1, hid2, hid3, hid4, hid5, hid6]))|simp (disch := try exact qa0) only [push_cast, simprocAttr, r2, r3, r4, r12, r15, r16, hz])
  | false =>
   rw [if_neg (by decide)] at hE;repeat' (first|(refine nv ?_ <;> (try simp (disch := try exact qa0) only [push_cast, simprocAttr, r2, r3, r4, r12, r15, r16, hz]))|(with_reducible first|refine gG ?_ ?_|refine ⟨fun h => ?_, fun h => ?_⟩ <;> try omega|refine andG ?_)|refine cp_ hw2 ?_ (hi := by (simp [idsL, idsE, AV.ids, hid1, hid2, hid3, hid4, hid5, hid6]))|refine cp_ hE ?_ (hi := by (simp [idsL, idsE, AV.ids, hid1, hid2, hid3, hid4, hid5, hid6]))|refine cp_ hlv ?_ (hi := by (simp [idsL, idsE, AV.ids, hid1, hid2, hid3, hid4, hid5, hid6]))|simp (disch := try exact qa0) only [push_cast, simprocAttr, r2, r3, r4, r12, r15, r16, hz])
theorem wdX9 {sy sd : Int} {RN IS IA DL DB IW : List (List AV)} {c cs ca cd cb cw : Option Nat} {eX eD u2 : Int} {aD : Bool}
  (hid1 : ∀ p, idsE p RN = true) (hid2 : ∀ p, idsE p IS = true) (hid3 : ∀ p, idsE p IA = true) (hid4 : ∀ p, idsE p DL = true) (hid5 : ∀ p, idsE p DB = true) (hid6 : ∀ p, idsE p IW = true)
  (hcD : (eX ≠ 0 ∧ aD = false ∧ eD = eX) ∨ (eX = 0 ∧ u2 ≠ 0 ∧ aD = false ∧ eD = u2) ∨ (eX = 0 ∧ u2 = 0 ∧ eD = 0 ∧ PC Tryz.prog G0 28 [.agg [.int .i64 sd, .sl 1 DL cd, .sl 1 DB cb], .sl 1 IW cw] (.int .i64 (if aD = true then 1 else 0))))
  (hb4 : eX ≠ 0 → PC Tryz.prog G0 25 [.agg [.int .i64 sd, .sl 1 DL cd, .sl 1 DB cb]] (.tup [.agg [.int .i64 0, .sl 0 [] (some 0), .sl 0 [] (some 0)], .int .i64 eX]))
  (hb5 : eX ≠ 0 → PC Tryz.prog G0 26 [.agg [.int .i64 sd, .sl 1 DL cd, .sl 1 DB cb]] (.tup [.agg [.int .i64 0, .sl 0 [] (some 0), .sl 0 [] (some 0), .sl 0 [] (some 0)], .int .i64 eX]))
  (hb6 : eX ≠ 0 → PC Tryz.prog G0 27 [.agg [.int .i64 sd, .sl 1 DL cd, .sl 1 DB cb]] (.tup [.str [], .int .i64 eX])) (hw2 : PC Tryz.prog G0 24 [.sl 1 IW cw, .int .i64 sd] (.int .i64 u2)) : ∀ (s1 : Nat → AV), s1 2 = .sl 1 IW cw → s1 3 = .ptr 0 0 0 1 → s1 4 = .ptr 1 0 0 1 → s1 12 = .int .i64 eX → s1 15 = .bool aD → s1 16 = .int .i64 eD →
   V.Go false Tryz.prog G0 0 299 (wq0 Tryz.f4) [0, 0, 1, 1, 1, 1, 1, 1, 1, 1, 1, 1, 1] (kai9 false Tryz.prog G0 0 299 (wq0 Tryz.f4) [1, 0, 1, 1, 1, 1, 1, 1, 1, 1, 1, 1, 1] (kai9 false Tryz.prog G0 0 299 (wq0 Tryz.f4) [1, 1, 1, 1, 1, 1, 1, 1, 1, 1, 1, 1] (xaF9 Tryz.prog 299 [ResultVar.tmp 6] 0 (.bool true)))) True s1 [.row 4 29 [[.int .i64 sy, .sl 1 RN c, .sl 1 IS cs, .sl 1 IA ca]], .row 3 47 [[.int .i64 sd, .sl 1 DL cd, .sl 1 DB cb]]] := by
 have hlv := zaO9;have hz : decide ((0 : Int) = 1) = false := rfl;intro s1 r2 r3 r4 r12 r15 r16;rcases hcD with ⟨q1, rfl, rfl⟩|⟨rfl, q2, rfl, rfl⟩|⟨rfl, rfl, rfl, hE⟩
 ·have hb4 := hb4 q1;have hb5 := hb5 q1;have hb6 := hb6 q1;repeat' (first|(refine nv ?_ <;> (try simp (disch := try exact qa0) only [push_cast, simprocAttr, r2, r3, r4, r12, r15, r16, q1]))|(with_reducible first|refine gG ?_ ?_|refine ⟨fun h => ?_, fun h => ?_⟩ <;> try omega|refine andG ?_)|refine cp_ hb4 ?_ (hi := by (simp [idsL, idsE, AV.ids, hid1, hid2, hid3, hid4, hid5, hid6]))|refine cp_ hb5 ?_ (hi := by (simp [idsL, idsE, AV.ids, hid1, hid2, hid3, hid4, hid5, hid6]))|refine cp_ hb6 ?_ (hi := by (simp [idsL, idsE, AV.ids, hid1, hid2, hid3, hid4, hid5, hid6]))|refine cp_ hlv ?_ (hi := by (simp [idsL, idsE, AV.ids, hid1, hid2, hid3, hid4, hid5, hid6]))|simp (disch := try exact qa0) only [push_cast, simprocAttr, r2, r3, r4, r12, r15, r16, q1])
 ·skip
  repeat' (first|(refine nv ?_ <;> (try simp (disch := try exact qa0) only [push_cast, simprocAttr, r2, r3, r4, r12, r15, r16, q2]))|(with_reducible first|refine gG ?_ ?_|refine ⟨fun h => ?_, fun h => ?_⟩ <;> try omega|refine andG ?_)|refine cp_ hw2 ?_ (hi := by (simp [idsL, idsE, AV.ids, hid1, hid2, hid3, hid4, hid5, hid6]))|refine cp_ hlv ?_ (hi := by (simp [idsL, idsE, AV.ids, hid1, hid2, hid3, hid4, hid5, hid6]))|(refine ⟨AV.str [], ?_⟩; refine wC0 ?_)|simp (disch := try exact qa0) only [push_cast, simprocAttr, r2, r3, r4, r12, r15, r16, q2])
 ·cases aD with
  | true =>
   rw [if_pos rfl] at hE;repeat' (first|(refine nv ?_ <;> (try simp (disch := try exact qa0) only [push_cast, simprocAttr, r2, r3, r4, r12, r15, r16, hz]))|(with_reducible first|refine gG ?_ ?_|refine ⟨fun h => ?_, fun h => ?_⟩ <;> try omega|refine andG ?_)|refine cp_ hw2 ?_ (hi := by (simp [idsL, idsE, AV.ids, hid1, hid2, hid3, hid4, hid5, hid6]))|refine cp_ hE ?_ (hi := by (simp [idsL, idsE, AV.ids, hid1, hid2, hid3, hid4, hid5, hid6]))|refine cp_ hlv ?_ (hi := by (simp [idsL, idsE, AV.ids, hid1, hid2, hid3, hid4, hid5, hid6]))|simp (disch := try exact qa0) only [push_cast, simprocAttr, r2, r3, r4, r12, r15, r16, hz])
  | false =>
   rw [if_neg (by decide)] at hE;repeat' (first|(refine nv ?_ <;> (try simp (disch := try exact qa0) only [push_cast, simprocAttr, r2, r3, r4, r12, r15, r16, hz]))|(with_reducible first|refine gG ?_ ?_|refine ⟨fun h => ?_, fun h => ?_⟩ <;> try omega|refine andG ?_)|refine cp_ hw2 ?_ (hi := by (simp [idsL, idsE, AV.ids, hid1, hid2, hid3, hid4, hid5, hid6]))|refine cp_ hE ?_ (hi := by (simp [idsL, idsE, AV.ids, hid1, hid2, hid3, hid4, hid5, hid6]))|refine cp_ hlv ?_ (hi := by (simp [idsL, idsE, AV.ids, hid1, hid2, hid3, hid4, hid5, hid6]))|simp (disch := try exact qa0) only [push_cast, simprocAttr, r2, r3, r4, r12, r15, r16, hz])
end Go.Proofs
