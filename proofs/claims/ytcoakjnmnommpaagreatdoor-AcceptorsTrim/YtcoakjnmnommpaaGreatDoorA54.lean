import Derived.Test.YtcoakjnmnommpaaGreatDoorA26
import Derived.Test.YtcoakjnmnommpaaGreatDoorA32
import Derived.Test.YtcoakjnmnommpaaGreatDoorA36
import Derived.Test.YtcoakjnmnommpaaGreatDoorA19
import Derived.Test.YtcoakjnmnommpaaGreatDoorA46
import Derived.Test.YtcoakjnmnommpaaGreatDoorA42
import Derived.Test.YtcoakjnmnommpaaGreatDoorA11
import Derived.Test.YtcoakjnmnommpaaGreatDoorA16
import Derived.Test.YtcoakjnmnommpaaGreatDoorA18
import Derived.Test.YtcoakjnmnommpaaGreatDoorA47
import Derived.Test.YtcoakjnmnommpaaGreatDoorA20
import Derived.Test.YtcoakjnmnommpaaGreatDoorA23
import Derived.Test.YtcoakjnmnommpaaGreatDoorA13
import Derived.Test.YtcoakjnmnommpaaGreatDoorA15
namespace Go.Proofs
open Go Go.V
set_option linter.unusedVariables false
set_option linter.unusedSimpArgs false
set_option maxHeartbeats 0
section
variable {X : Type} {step : X → Nat → X} {eqv : X → X → Bool} {A : Nat}
theorem zak9 (x0 : X) : ∀ i, ∀ r ∈ (stX step eqv A x0 i).2, r.length = A
 | 0, r, h => by cases h
 | i + 1, r, h => by
  rw [stX] at h
  split at h
  ·exact zak9 x0 i r h
  ·simp only at h
   rcases List.mem_append.1 h with h|h
   ·exact zak9 x0 i r h
   ·rw [List.mem_singleton.1 h]; exact kaq9 _ _ _ _ A
end
section
variable {A zr : Nat} {l : List RC} {c : Option Nat} {zs : Nat} {st : List Int} {cs : Option Nat} {za : Nat} {ac : List Int} {ca : Option Nat}
theorem xbp9 (hok : OkNv A (rowsV l) st ac) (h8 : l.length ≤ 8) (i : Nat) : (detS (nfOf (rowsV l) st ac) A i).length ≤ 256 :=
 wcc9 _ (kE0 hok).1 (by show (rowsV l).length ≤ 8; rw [qb0]; exact h8) A i
theorem kdC9 (hsz : SizeN zr l zs st za ac) (hok : OkNv A (rowsV l) st ac) (h8 : l.length ≤ 8) : ∃ N, N ≤ 256 ∧ (detS (nfOf (rowsV l) st ac) A N).length = N ∧ PC Tryz.prog G0 23 [nA A zr l c zs st cs za ac ca] (detG A (nfOf (rowsV l) st ac) N) := by
 obtain ⟨N, h1, h2, _⟩ := vdv9 (step := stepN (nfOf (rowsV l) st ac)) (eqv := eqL) (A := A) (nfOf (rowsV l) st ac).S 256 (xbp9 hok h8)
 refine ⟨N, h1, h2, waZ9 A zr l c zs st cs za ac ca hsz hok _ (fun M _ hM => ?_) ?_⟩
 ·rw [kbJ9 _ h2 hM]
 ·rintro ⟨i, hi⟩
  have := xbp9 hok h8 i
  omega
end
theorem xbP9 {l : List LC} {ac : List Bool} (hl : l.length ≤ 1000) (ha : ac.length ≤ 1000) (hr : ∀ r ∈ l, r.1.length ≤ 1000) : SizeD 1 l 1 ac :=
 ⟨.inr rfl, .inr rfl, by omega, by omega, fun s hs => by have := hr _ (qd0 (d := ([], none)) hs); omega⟩
end Go.Proofs
namespace Go.Proofs
open Go Go.V Go.RowKit
set_option linter.unusedVariables false
set_option linter.unusedSimpArgs false
set_option maxHeartbeats 0
set_option maxRecDepth 100000
def endsL : List RC := [([([0, 1], some 2), ([0], some 1)], some 2), ([([], some 0), ([2], some 1)], some 2), ([([], some 0), ([], some 0)], some 2)]
theorem wbP9 : OkNv 2 (rowsV endsL) [0] [2] := by
 have h : ∀ s, s < (rowsV endsL).length → ∀ a, a < 2 → zf0 (((rowsV endsL).getD s []).getD a []) (rowsV endsL).length = true := by decide
 refine ⟨by decide, by decide, by decide, by decide, by decide, by decide, fun s a hs ha => h s hs a ha⟩
theorem qz0 : SizeN 1 endsL 1 [0] 1 [2] := by
 have h : ∀ s, s < endsL.length → ∀ a, a < (endsL.getD s ([], none)).1.length → ((endsL.getD s ([], none)).1.getD a ([], none)).1.length ≤ 9223372036854775807 := by decide
 exact ⟨.inr rfl, .inr rfl, .inr rfl, by decide, by decide, by decide, by decide, fun s a hs ha => h s hs a ha⟩
theorem ends_acc : accV 2 endsL [0] [2] [0, 1] = .tup [.bool true, .int .i64 0] ∧ accV 2 endsL [0] [2] [1, 0, 1] = .tup [.bool true, .int .i64 0] ∧ accV 2 endsL [0] [2] [0] = .tup [.bool false, .int .i64 0] ∧ accV 2 endsL [0] [2] [] = .tup [.bool false, .int .i64 0] := ⟨by kernel_rfl, by kernel_rfl, by kernel_rfl, by kernel_rfl⟩
theorem ends_det : (detS (nfOf (rowsV endsL) [0] [2]) 2 3).length = 3 ∧ detR (nfOf (rowsV endsL) [0] [2]) 2 3 = [[1, 0], [1, 2], [1, 0]] ∧ detA (nfOf (rowsV endsL) [0] [2]) 2 3 = [false, false, true] := ⟨by kernel_rfl, by kernel_rfl, by kernel_rfl⟩
def exT : Bs := [97, 99, 99, 101, 112, 116, 111, 114, 32, 50, 32, 51, 10, 45, 32, 49, 32, 48, 10, 45, 32, 49, 32, 50, 10, 43, 32, 49, 32, 48, 10]
theorem qdD9 : Lib.itoa 0 = [48] := by rw [qg0 0 (by omega) (by omega)]; rfl
theorem vdd9 : Lib.itoa 1 = [49] := by rw [qg0 1 (by omega) (by omega)]; rfl
theorem xeg9 : Lib.itoa 2 = [50] := by rw [qg0 2 (by omega) (by omega)]; rfl
theorem weg9 : Lib.itoa 3 = [51] := by rw [qg0 3 (by omega) (by omega)]; rfl
theorem zdD9 : kda9 2 (dRow 2 [[1, 0], [1, 2], [1, 0]]) [false, false, true] = .tup [.str exT, .int .i64 0] := by
 rw [kda9, if_neg (by decide)]
 have : xW0 2 (vao9 (dRow 2 [[1, 0], [1, 2], [1, 0]]) [false, false, true] (dRow 2 [[1, 0], [1, 2], [1, 0]]).length) = exT := by
  simp [xW0, vao9, dRow, zw0, xJ0, vR0, vE0, intN, List.range_succ, qdD9, vdd9, xeg9, weg9, zq0, xk0, exT]
 rw [this]
theorem kdd9 : wbm9 2 (xh0 2 endsL) [2] [0] 2 [([([0], some 1), ([0], some 1)], some 2), ([([0], some 1), ([], some 0)], some 2), ([([], some 0), ([1], some 1)], some 2)] [2] [0] := ⟨rfl, by kernel_rfl, rfl, rfl⟩
def exD : List LC := [([1], some 1), ([0], some 1)]
theorem zdT9 : OkDv 1 (vm0 exD) 2 := by
 have h : ∀ s, s < (vm0 exD).length → ∀ a, a < 1 → 0 ≤ ((vm0 exD).getD s []).getD a 0 ∧ ((vm0 exD).getD s []).getD a 0 < (vm0 exD).length := by decide
 exact ⟨by decide, by decide, by decide, by decide, by decide, by decide, fun s a hs ha => h s hs a ha⟩
theorem exD_min : (stX (dlt exD) eqX 1 0 2).1.length = 2 ∧ cntK (dlt exD) (fun s => [true, true].getD s false) 1 (stX (dlt exD) eqX 1 0 2).1 0 = cntK (dlt exD) (fun s => [true, true].getD s false) 1 (stX (dlt exD) eqX 1 0 2).1 1 := ⟨by kernel_rfl, by kernel_rfl⟩
theorem veg9 : minG 1 exD [true, true] (stX (dlt exD) eqX 1 0 2).1 0 = .tup [dA 1 1 [([0], some 1)] (some 1) 1 [true] (some 1), .int .i64 0] := by kernel_rfl
def ex1 : Bs := [97, 99, 99, 101, 112, 116, 111, 114, 32, 49, 32, 49, 10, 43, 32, 48, 10]
def ex2 : Bs := [97, 99, 99, 101, 112, 116, 111, 114, 32, 49, 32, 49, 10, 43, 32, 49, 10]
def ex3 : Bs := [97, 99, 99, 101, 112, 116, 111, 114, 32, 49, 32, 50, 10, 43, 32, 48, 10]
theorem vbP9 : xW0 1 [([0], true)] = ex1 := by simp [xW0, zw0, xJ0, vR0, vE0, qdD9, vdd9, zq0, xk0, ex1]
theorem kbP9 : xW0 1 [([1], true)] = ex2 := by simp [xW0, zw0, xJ0, vR0, vE0, qdD9, vdd9, zq0, xk0, ex2]
theorem wbp9 {A : Int} {rows : List (List Int × Bool)} (hA : 0 ≤ A ∧ A ≤ 9999) (hn : rows.length ≤ 9999) (h : ∀ r ∈ rows, ∀ x ∈ r.1, 0 ≤ x ∧ x ≤ 9999) (hl : (xW0 A rows).length ≤ 65536) : parV (xW0 A rows) = parO (some (A, rows)) := by
 rw [parV, if_neg (by omega), qby9 A rows hA hn h]
theorem xdD9 : parV ex1 = .tup [dA 1 1 [([0], some 1)] (some 1) 1 [true] (some 1), .int .i64 0] := by
 rw [← vbP9, wbp9 (by omega) (by decide) (by decide) (by rw [vbP9]; decide)]
 rfl
theorem wdD9 : parV ex2 = .tup [dA0, .int .i64 1] := by
 rw [← kbP9, wbp9 (by omega) (by decide) (by decide) (by rw [kbP9]; decide)]
 rfl
theorem vdD9 : parV ex3 = .tup [dA0, .int .i64 4] := by
 rw [parV, if_neg (by decide)]
 have : kam9 ex3 = none := by
  rw [kam9, if_pos (by rfl)]
  refine qbp9 ?_
  rintro ⟨A, n, h, _, hn⟩
  have h2 := qQ0 h
  have e : (splitC 32 ((splitC 10 ex3.dropLast).headD [])).tail = [[49], [50]] := by decide
  have e2 : (splitC 10 ex3.dropLast).length = 2 := by decide
  rw [e] at h2
  rw [e2] at hn
  simp only [List.map_cons, List.map_nil, List.cons.injEq, and_true] at h2
  rw [hn] at h2
  have h3 := h2.2
  change Lib.itoa 1 = [50] at h3
  rw [vdd9] at h3
  exact absurd h3 (by decide)
 rw [this]; rfl
end Go.Proofs
namespace Go.Proofs
open Go Go.V Go.RowKit
set_option linter.unusedVariables false
set_option linter.unusedSimpArgs false
set_option maxHeartbeats 0
set_option maxRecDepth 100000
theorem kdD9 : PC Tryz.prog G0 17 [] (.bool true) := by
 have hE : PC Tryz.prog G0 49 [] (.agg [.int .i64 2, .sl 1 (xc0 endsL) (some 3), .sl 1 [[.int .i64 0]] (some 1), .sl 1 [[.int .i64 2]] (some 1)]) := xdP9
 have hA1 : PC Tryz.prog G0 14 [.agg [.int .i64 2, .sl 1 (xc0 endsL) (some 3), .sl 1 [[.int .i64 0]] (some 1), .sl 1 [[.int .i64 2]] (some 1)], .sl 1 [[.int .i64 0], [.int .i64 1]] (some 2)] (.tup [.bool true, .int .i64 0]) := by
  have h := wq0 2 1 endsL (some 3) 1 [0] (some 1) 1 [2] (some 1) qz0 1 [0, 1] (some 2) (.inr rfl) (by decide)
  rw [ends_acc.1] at h; exact h
 have hA2 : PC Tryz.prog G0 14 [.agg [.int .i64 2, .sl 1 (xc0 endsL) (some 3), .sl 1 [[.int .i64 0]] (some 1), .sl 1 [[.int .i64 2]] (some 1)], .sl 1 [[.int .i64 1], [.int .i64 0], [.int .i64 1]] (some 3)] (.tup [.bool true, .int .i64 0]) := by
  have h := wq0 2 1 endsL (some 3) 1 [0] (some 1) 1 [2] (some 1) qz0 1 [1, 0, 1] (some 3) (.inr rfl) (by decide)
  rw [ends_acc.2.1] at h; exact h
 have hA3 : PC Tryz.prog G0 14 [.agg [.int .i64 2, .sl 1 (xc0 endsL) (some 3), .sl 1 [[.int .i64 0]] (some 1), .sl 1 [[.int .i64 2]] (some 1)], .sl 1 [[.int .i64 0]] (some 1)] (.tup [.bool false, .int .i64 0]) := by
  have h := wq0 2 1 endsL (some 3) 1 [0] (some 1) 1 [2] (some 1) qz0 1 [0] (some 1) (.inr rfl) (by decide)
  rw [ends_acc.2.2.1] at h; exact h
 have hA4 : PC Tryz.prog G0 14 [.agg [.int .i64 2, .sl 1 (xc0 endsL) (some 3), .sl 1 [[.int .i64 0]] (some 1), .sl 1 [[.int .i64 2]] (some 1)], .sl 0 [] (some 0)] (.tup [.bool false, .int .i64 0]) := by
  have h := wq0 2 1 endsL (some 3) 1 [0] (some 1) 1 [2] (some 1) qz0 0 [] (some 0) (.inl rfl) (by decide)
  rw [ends_acc.2.2.2] at h; exact h
 have hD : PC Tryz.prog G0 23 [.agg [.int .i64 2, .sl 1 (xc0 endsL) (some 3), .sl 1 [[.int .i64 0]] (some 1), .sl 1 [[.int .i64 2]] (some 1)]] (.tup [.agg [.int .i64 2, .sl 1 (rowL (dRow 2 [[1, 0], [1, 2], [1, 0]])) (some 3), .sl 1 (kd0 [false, false, true]) (some 3)], .int .i64 0]) := by
  obtain ⟨N, _, h1, h⟩ := kdC9 (c := some 3) (cs := some 1) (ca := some 1) qz0 wbP9 (by decide)
  have hN := kbJ9 _ h1 ends_det.1
  subst hN
  rw [detG, ends_det.2.1, ends_det.2.2] at h
  exact h
 have hT : PC Tryz.prog G0 27 [.agg [.int .i64 2, .sl 1 (rowL (dRow 2 [[1, 0], [1, 2], [1, 0]])) (some 3), .sl 1 (kd0 [false, false, true]) (some 3)]] (.tup [.str exT, .int .i64 0]) := by
  have h := wdS9 2 1 (dRow 2 [[1, 0], [1, 2], [1, 0]]) (some 3) 1 [false, false, true] (some 3) (xbP9 (by decide) (by decide) (by decide))
  rw [zdD9] at h; exact h
 have hR : PC Tryz.prog G0 8 [.agg [.int .i64 2, .sl 1 (xc0 endsL) (some 3), .sl 1 [[.int .i64 0]] (some 1), .sl 1 [[.int .i64 2]] (some 1)]] (.tup [.agg [.int .i64 2, .sl 1 (xc0 (xh0 2 endsL)) (some 3), .sl 1 [[.int .i64 2]] (some 1), .sl 1 [[.int .i64 0]] (some 1)], .int .i64 0]) :=
  zaE9 2 1 endsL (some 3) 1 [0] (some 1) 1 [2] (some 1) qz0 wbP9
 have hM : PC Tryz.prog G0 25 [.agg [.int .i64 1, .sl 1 [[.sl 1 [[.int .i64 1]] (some 1)], [.sl 1 [[.int .i64 0]] (some 1)]] (some 2), .sl 1 [[.bool true], [.bool true]] (some 2)]] (.tup [.agg [.int .i64 1, .sl 1 [[.sl 1 [[.int .i64 0]] (some 1)]] (some 1), .sl 1 [[.bool true]] (some 1)], .int .i64 0]) := by
  have h := qcD9 1 exD (some 2) [true, true] (some 2) zdT9 (xbP9 (by decide) (by decide) (by decide)) 2 exD_min.1 0 exD_min.2 (fun j hj => by omega)
  rw [veg9] at h
  exact h
 have hS : PC Tryz.prog G0 10 [.agg [.int .i64 2, .sl 1 (xc0 (xh0 2 endsL)) (some 3), .sl 1 [[.int .i64 2]] (some 1), .sl 1 [[.int .i64 0]] (some 1)], .agg [.int .i64 2, .sl 1 [[.sl 1 [[.sl 1 [[.int .i64 0]] (some 1)], [.sl 1 [[.int .i64 0]] (some 1)]] (some 2)], [.sl 1 [[.sl 1 [[.int .i64 0]] (some 1)], [.sl 0 [] (some 0)]] (some 2)], [.sl 1 [[.sl 0 [] (some 0)], [.sl 1 [[.int .i64 1]] (some 1)]] (some 2)]] (some 3), .sl 1 [[.int .i64 2]] (some 1), .sl 1 [[.int .i64 0]] (some 1)]] (.int .i64 1) := by
  have hb : ∀ s a, ((((xh0 2 endsL).getD s ([], none)).1.getD a ([], none)).1).length ≤ 9223372036854775807 := fun s a => by
   by_cases hs : s < 3
   ·by_cases ha : a < 2
    ·have : ∀ s, s < 3 → ∀ a, a < 2 → ((((xh0 2 endsL).getD s ([], none)).1.getD a ([], none)).1).length ≤ 9223372036854775807 := by decide
     exact this s hs a ha
    ·have hl : ∀ s, s < 3 → ((xh0 2 endsL).getD s ([], none)).1.length = 2 := by decide
     have := hl s hs
     rw [List.getD_eq_getElem?_getD (l := ((xh0 2 endsL).getD s ([], none)).1), List.getElem?_eq_none (by omega)]; exact Nat.zero_le _
   ·rw [List.getD_eq_getElem?_getD (l := xh0 2 endsL), List.getElem?_eq_none (by have : (xh0 2 endsL).length = 3 := rfl; omega)]; exact Nat.zero_le _
  have hw : ∀ s a, (((([(([([0], some 1), ([0], some 1)] : List LC), some 2), ([([0], some 1), ([], some 0)], some 2), ([([], some 0), ([1], some 1)], some 2)] : List RC).getD s ([], none)).1.getD a ([], none)).1).length ≤ 9223372036854775807 := fun s a => by
   match s, a with
   | 0, 0 => decide
   | 0, 1 => decide
   | 1, 0 => decide
   | 1, 1 => decide
   | 2, 0 => decide
   | 2, 1 => decide
   | 0, a + 2 => exact Nat.zero_le _
   | 1, a + 2 => exact Nat.zero_le _
   | 2, a + 2 => exact Nat.zero_le _
   | s + 3, a => exact Nat.zero_le _
  have h := vbm9 2 1 (xh0 2 endsL) (some 3) 1 [2] (some 1) 1 [0] (some 1) 2 1 [([([0], some 1), ([0], some 1)], some 2), ([([0], some 1), ([], some 0)], some 2), ([([], some 0), ([1], some 1)], some 2)] (some 3) 1 [2] (some 1) 1 [0] (some 1)
   (.inr rfl) (.inr rfl) (.inr rfl) (.inr rfl) (.inr rfl) (.inr rfl) (by decide) (by decide) (by decide) (by decide) (by decide) (by decide) (by decide) (by decide) hb hw
  rw [if_pos kdd9] at h
  exact wdM9 h rfl
 have hO : PC Tryz.prog G0 30 [.agg [.int .i64 1, .sl 1 [[.sl 1 [[.int .i64 0]] (some 1)]] (some 1), .sl 1 [[.bool true]] (some 1)], .agg [.int .i64 1, .sl 1 [[.sl 1 [[.int .i64 0]] (some 1)]] (some 1), .sl 1 [[.bool true]] (some 1)]] (.int .i64 1) := by
  have h := xcz9 1 1 [([0], some 1)] (some 1) 1 [true] (some 1) 1 1 [([0], some 1)] (some 1) 1 [true] (some 1) (.inr rfl) (.inr rfl) (.inr rfl) (.inr rfl) (by decide) (by decide) (by decide) (by decide) (by decide) (by decide)
  rw [if_pos (by exact ⟨rfl, rfl, rfl⟩)] at h
  exact h
 have hP1 := kbB9 ex1
 rw [xdD9] at hP1
 have hP2 := kbB9 ex2
 rw [wdD9] at hP2
 have hP3 := kbB9 ex3
 rw [vdD9] at hP3
 have hP1 : PC Tryz.prog G0 50 [.str ex1] (.tup [.agg [.int .i64 1, .sl 1 [[.sl 1 [[.int .i64 0]] (some 1)]] (some 1), .sl 1 [[.bool true]] (some 1)], .int .i64 0]) := hP1
 unfold dA0 at hP2 hP3
 unfold ex1 at hP1
 unfold ex2 at hP2
 unfold ex3 at hP3
 unfold exT at hT
 have hid1 : ∀ p, idsE p (xc0 endsL) = true := fun p => wc0 _ _
 have hid2 : ∀ p, idsE p (xc0 (xh0 2 endsL)) = true := fun p => wc0 _ _
 have hid3 : ∀ p, idsE p (rowL (dRow 2 [[1, 0], [1, 2], [1, 0]])) = true := fun p => vf0 _ _
 have hid4 : ∀ p, idsE p (kd0 [false, false, true]) = true := fun p => zi0 _ _
 generalize xc0 endsL = EL at *
 generalize xc0 (xh0 2 endsL) = RL at *
 generalize rowL (dRow 2 [[1, 0], [1, 2], [1, 0]]) = DL at *
 generalize kd0 [false, false, true] = DB at *
 refine vd0 0 166 [.tmp 0] Tryz.func17 rfl rfl rfl (by simp) ?_
 intro s hz
 clear hz
 repeat' (first|((first|refine nav ?_|(refine g0_ ?_; refine goD ?_)) <;> (try simp (disch := (first|exact za0|fail)) only [push_cast, simprocAttr, Nat.add_zero]))|(with_reducible refine gG ?_ ?_)|((with_reducible refine And.intro (fun h => ?_) (fun h => ?_)) <;> try (exfalso; omega))|(with_reducible refine andG ?_)|(first|(refine ⟨_, _, qa0 (hE) (by (simp [idsL, idsE, AV.ids, hid1, hid2, hid3, hid4])) _, ?_⟩)|(refine ⟨_, qa0 (hE) (by (simp [idsL, idsE, AV.ids, hid1, hid2, hid3, hid4])) _, ?_⟩)|(refine ⟨_, fun _ => qa0 (hE) (by (simp [idsL, idsE, AV.ids, hid1, hid2, hid3, hid4])) _, ?_⟩)|(refine ⟨_, _, qa0 (hA1) (by (simp [idsL, idsE, AV.ids, hid1, hid2, hid3, hid4])) _, ?_⟩)|(refine ⟨_, qa0 (hA1) (by (simp [idsL, idsE, AV.ids, hid1, hid2, hid3, hid4])) _, ?_⟩)|(refine ⟨_, fun _ => qa0 (hA1) (by (simp [idsL, idsE, AV.ids, hid1, hid2, hid3, hid4])) _, ?_⟩)|(refine ⟨_, _, qa0 (hA2) (by (simp [idsL, idsE, AV.ids, hid1, hid2, hid3, hid4])) _, ?_⟩)|(refine ⟨_, qa0 (hA2) (by (simp [idsL, idsE, AV.ids, hid1, hid2, hid3, hid4])) _, ?_⟩)|(refine ⟨_, fun _ => qa0 (hA2) (by (simp [idsL, idsE, AV.ids, hid1, hid2, hid3, hid4])) _, ?_⟩)|(refine ⟨_, _, qa0 (hA3) (by (simp [idsL, idsE, AV.ids, hid1, hid2, hid3, hid4])) _, ?_⟩)|(refine ⟨_, qa0 (hA3) (by (simp [idsL, idsE, AV.ids, hid1, hid2, hid3, hid4])) _, ?_⟩)|(refine ⟨_, fun _ => qa0 (hA3) (by (simp [idsL, idsE, AV.ids, hid1, hid2, hid3, hid4])) _, ?_⟩)|(refine ⟨_, _, qa0 (hA4) (by (simp [idsL, idsE, AV.ids, hid1, hid2, hid3, hid4])) _, ?_⟩)|(refine ⟨_, qa0 (hA4) (by (simp [idsL, idsE, AV.ids, hid1, hid2, hid3, hid4])) _, ?_⟩)|(refine ⟨_, fun _ => qa0 (hA4) (by (simp [idsL, idsE, AV.ids, hid1, hid2, hid3, hid4])) _, ?_⟩)|(refine ⟨_, _, qa0 (hD) (by (simp [idsL, idsE, AV.ids, hid1, hid2, hid3, hid4])) _, ?_⟩)|(refine ⟨_, qa0 (hD) (by (simp [idsL, idsE, AV.ids, hid1, hid2, hid3, hid4])) _, ?_⟩)|(refine ⟨_, fun _ => qa0 (hD) (by (simp [idsL, idsE, AV.ids, hid1, hid2, hid3, hid4])) _, ?_⟩)|(refine ⟨_, _, qa0 (hT) (by (simp [idsL, idsE, AV.ids, hid1, hid2, hid3, hid4])) _, ?_⟩)|(refine ⟨_, qa0 (hT) (by (simp [idsL, idsE, AV.ids, hid1, hid2, hid3, hid4])) _, ?_⟩)|(refine ⟨_, fun _ => qa0 (hT) (by (simp [idsL, idsE, AV.ids, hid1, hid2, hid3, hid4])) _, ?_⟩)|(refine ⟨_, _, qa0 (hR) (by (simp [idsL, idsE, AV.ids, hid1, hid2, hid3, hid4])) _, ?_⟩)|(refine ⟨_, qa0 (hR) (by (simp [idsL, idsE, AV.ids, hid1, hid2, hid3, hid4])) _, ?_⟩)|(refine ⟨_, fun _ => qa0 (hR) (by (simp [idsL, idsE, AV.ids, hid1, hid2, hid3, hid4])) _, ?_⟩)|(refine ⟨_, _, qa0 (hM) (by (simp [idsL, idsE, AV.ids, hid1, hid2, hid3, hid4])) _, ?_⟩)|(refine ⟨_, qa0 (hM) (by (simp [idsL, idsE, AV.ids, hid1, hid2, hid3, hid4])) _, ?_⟩)|(refine ⟨_, fun _ => qa0 (hM) (by (simp [idsL, idsE, AV.ids, hid1, hid2, hid3, hid4])) _, ?_⟩)|(refine ⟨_, _, qa0 (hS) (by (simp [idsL, idsE, AV.ids, hid1, hid2, hid3, hid4])) _, ?_⟩)|(refine ⟨_, qa0 (hS) (by (simp [idsL, idsE, AV.ids, hid1, hid2, hid3, hid4])) _, ?_⟩)|(refine ⟨_, fun _ => qa0 (hS) (by (simp [idsL, idsE, AV.ids, hid1, hid2, hid3, hid4])) _, ?_⟩)|(refine ⟨_, _, qa0 (hO) (by (simp [idsL, idsE, AV.ids, hid1, hid2, hid3, hid4])) _, ?_⟩)|(refine ⟨_, qa0 (hO) (by (simp [idsL, idsE, AV.ids, hid1, hid2, hid3, hid4])) _, ?_⟩)|(refine ⟨_, fun _ => qa0 (hO) (by (simp [idsL, idsE, AV.ids, hid1, hid2, hid3, hid4])) _, ?_⟩)|(refine ⟨_, _, qa0 (hP1) (by (simp [idsL, idsE, AV.ids, hid1, hid2, hid3, hid4])) _, ?_⟩)|(refine ⟨_, qa0 (hP1) (by (simp [idsL, idsE, AV.ids, hid1, hid2, hid3, hid4])) _, ?_⟩)|(refine ⟨_, fun _ => qa0 (hP1) (by (simp [idsL, idsE, AV.ids, hid1, hid2, hid3, hid4])) _, ?_⟩)|(refine ⟨_, _, qa0 (hP2) (by (simp [idsL, idsE, AV.ids, hid1, hid2, hid3, hid4])) _, ?_⟩)|(refine ⟨_, qa0 (hP2) (by (simp [idsL, idsE, AV.ids, hid1, hid2, hid3, hid4])) _, ?_⟩)|(refine ⟨_, fun _ => qa0 (hP2) (by (simp [idsL, idsE, AV.ids, hid1, hid2, hid3, hid4])) _, ?_⟩)|(refine ⟨_, _, qa0 (hP3) (by (simp [idsL, idsE, AV.ids, hid1, hid2, hid3, hid4])) _, ?_⟩)|(refine ⟨_, qa0 (hP3) (by (simp [idsL, idsE, AV.ids, hid1, hid2, hid3, hid4])) _, ?_⟩)|(refine ⟨_, fun _ => qa0 (hP3) (by (simp [idsL, idsE, AV.ids, hid1, hid2, hid3, hid4])) _, ?_⟩))|simp (disch := (first|exact za0|fail)) only [push_cast, simprocAttr, Nat.add_zero])
end Go.Proofs
namespace Go.Proofs
open Go Go.V
set_option linter.unusedVariables false
set_option linter.unusedSimpArgs false
set_option maxHeartbeats 0
section
variable {A m : Nat} {l : List LC}
end
end Go.Proofs
namespace Go.Proofs
open Go Go.V Go.RowKit
set_option linter.unusedVariables false
set_option linter.unusedSimpArgs false
set_option maxHeartbeats 0
set_option maxRecDepth 100000
theorem xdT9 {w : List Nat} {A : Nat} (hA : 1 ≤ A) : InA A (wrdN w A) := fun a ha => by
 obtain ⟨x, _, rfl⟩ := List.mem_map.1 ha
 exact Nat.mod_lt _ hA
theorem qdE9 (w : List Nat) (A : Nat) : (wrdN w A).length ≤ 40 := by simp [wrdN]; omega
theorem vbp9 {A : Nat} {w : List Nat} (hA : 1 ≤ A ∧ A ≤ 16) (hw : InA A w) (hl : w.length ≤ 256) : kG0 A (intN w) = 0 := by
 rw [kG0, if_neg (by rw [zb0]; omega), if_neg]
 rintro (q|q)
 ·omega
 ·rw [List.any_eq_true] at q
  obtain ⟨x, hx, hb⟩ := q
  obtain ⟨a, ha, rfl⟩ := List.mem_map.1 hx
  have := hw a ha
  simp [badW] at hb
  omega
end Go.Proofs
namespace Go.Proofs
open Go Go.V Go.RowKit
set_option linter.unusedVariables false
set_option linter.unusedSimpArgs false
set_option maxHeartbeats 0
set_option maxRecDepth 100000
end Go.Proofs
