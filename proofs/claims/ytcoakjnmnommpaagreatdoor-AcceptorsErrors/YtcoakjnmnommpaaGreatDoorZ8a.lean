import Derived.Test.YtcoakjnmnommpaaGreatDoorA24
import Derived.Test.YtcoakjnmnommpaaGreatDoorA32
import Derived.Test.YtcoakjnmnommpaaGreatDoorA36
import Derived.Test.YtcoakjnmnommpaaGreatDoorA19
import Derived.Test.YtcoakjnmnommpaaGreatDoorA46
import Derived.Test.YtcoakjnmnommpaaGreatDoorA42
import Derived.Test.YtcoakjnmnommpaaGreatDoorA26
import Derived.Test.YtcoakjnmnommpaaGreatDoorA11
import Derived.Test.YtcoakjnmnommpaaGreatDoorA16
import Derived.Test.YtcoakjnmnommpaaGreatDoorA18
import Derived.Test.YtcoakjnmnommpaaGreatDoorA47
import Derived.Test.YtcoakjnmnommpaaGreatDoorA44
namespace Go.Proofs
open Go Go.V
set_option linter.unusedVariables false
set_option linter.unusedSimpArgs false
set_option maxHeartbeats 0
section
variable {X : Type} {step : X → Nat → X} {eqv : X → X → Bool} {A : Nat}
end
section
variable {A zr : Nat} {l : List RC} {c : Option Nat} {zs : Nat} {st : List Int} {cs : Option Nat} {za : Nat} {ac : List Int} {ca : Option Nat}
theorem det_bound (hok : OkNv A (rowsV l) st ac) (h8 : l.length ≤ 8) (i : Nat) : (detS (nfOf (rowsV l) st ac) A i).length ≤ 256 :=
 sets_small _ (nf_filt hok).1 (by show (rowsV l).length ≤ 8; rw [rowsV_len]; exact h8) A i
theorem det_law (hsz : SizeN zr l zs st za ac) (hok : OkNv A (rowsV l) st ac) (h8 : l.length ≤ 8) : ∃ N, N ≤ 256 ∧ (detS (nfOf (rowsV l) st ac) A N).length = N ∧ PC Tryz.prog G0 23 [nA A zr l c zs st cs za ac ca] (detG A (nfOf (rowsV l) st ac) N) := by
 obtain ⟨N, h1, h2, _⟩ := st_ends (step := stepN (nfOf (rowsV l) st ac)) (eqv := eqL) (A := A) (nfOf (rowsV l) st ac).S 256 (det_bound hok h8)
 refine ⟨N, h1, h2, determinize11 A zr l c zs st cs za ac ca hsz hok _ (fun M hM => ?_) ?_⟩
 ·rw [st_one _ h2 hM]
 ·rintro ⟨i, hi⟩
  have := det_bound hok h8 i
  omega
end
theorem sizeD_of {l : List LC} {ac : List Bool} (hl : l.length ≤ 1000) (ha : ac.length ≤ 1000) (hr : ∀ r ∈ l, r.1.length ≤ 1000) : SizeD 1 l 1 ac :=
 ⟨.inr rfl, .inr rfl, by omega, by omega, fun s hs => by have := hr _ (getD_mem (d := ([], none)) hs); omega⟩
end Go.Proofs
namespace Go.Proofs
open Go Go.V Go.RowKit
set_option linter.unusedVariables false
set_option linter.unusedSimpArgs false
set_option maxHeartbeats 0
set_option maxRecDepth 100000
def endsL : List RC := [([([0, 1], some 2), ([0], some 1)], some 2), ([([], some 0), ([2], some 1)], some 2), ([([], some 0), ([], some 0)], some 2)]
theorem ends_okN : OkNv 2 (rowsV endsL) [0] [2] := by
 have h : ∀ s, s < (rowsV endsL).length → ∀ a, a < 2 → risesL (((rowsV endsL).getD s []).getD a []) (rowsV endsL).length = true := by decide
 refine ⟨by decide, by decide, by decide, by decide, by decide, by decide, fun s a hs ha => h s hs a ha⟩
theorem ends_sizeN : SizeN 1 endsL 1 [0] 1 [2] := by
 have h : ∀ s, s < endsL.length → ∀ a, a < (endsL.getD s ([], none)).1.length → ((endsL.getD s ([], none)).1.getD a ([], none)).1.length ≤ 9223372036854775807 := by decide
 exact ⟨.inr rfl, .inr rfl, .inr rfl, by decide, by decide, by decide, by decide, fun s a hs ha => h s hs a ha⟩
theorem ends_acc : accV 2 endsL [0] [2] [0, 1] = .tup [.bool true, .int .i64 0] ∧ accV 2 endsL [0] [2] [1, 0, 1] = .tup [.bool true, .int .i64 0] ∧ accV 2 endsL [0] [2] [0] = .tup [.bool false, .int .i64 0] ∧ accV 2 endsL [0] [2] [] = .tup [.bool false, .int .i64 0] := ⟨by kernel_rfl, by kernel_rfl, by kernel_rfl, by kernel_rfl⟩
theorem ends_det : (detS (nfOf (rowsV endsL) [0] [2]) 2 3).length = 3 ∧ detR (nfOf (rowsV endsL) [0] [2]) 2 3 = [[1, 0], [1, 2], [1, 0]] ∧ detA (nfOf (rowsV endsL) [0] [2]) 2 3 = [false, false, true] := ⟨by kernel_rfl, by kernel_rfl, by kernel_rfl⟩
def exT : Bs := [97, 99, 99, 101, 112, 116, 111, 114, 32, 50, 32, 51, 10, 45, 32, 49, 32, 48, 10, 45, 32, 49, 32, 50, 10, 43, 32, 49, 32, 48, 10]
theorem itoa0 : Lib.itoa 0 = [48] := by rw [itoa_small 0 (by omega) (by omega)]; rfl
theorem itoa1 : Lib.itoa 1 = [49] := by rw [itoa_small 1 (by omega) (by omega)]; rfl
theorem itoa2 : Lib.itoa 2 = [50] := by rw [itoa_small 2 (by omega) (by omega)]; rfl
theorem itoa3 : Lib.itoa 3 = [51] := by rw [itoa_small 3 (by omega) (by omega)]; rfl
theorem ex_text : textV 2 (dRow 2 [[1, 0], [1, 2], [1, 0]]) [false, false, true] = .tup [.str exT, .int .i64 0] := by
 rw [textV, if_neg (by decide)]
 have : textA 2 (dRows (dRow 2 [[1, 0], [1, 2], [1, 0]]) [false, false, true] (dRow 2 [[1, 0], [1, 2], [1, 0]]).length) = exT := by
  simp [textA, dRows, dRow, linesA, lineA, signA, headA, intN, List.range_succ, itoa0, itoa1, itoa2, itoa3, join_one, join_cons2, exT]
 rw [this]
theorem ends_rev : sameN 2 (revRC 2 endsL) [2] [0] 2 [([([0], some 1), ([0], some 1)], some 2), ([([0], some 1), ([], some 0)], some 2), ([([], some 0), ([1], some 1)], some 2)] [2] [0] := ⟨rfl, by kernel_rfl, rfl, rfl⟩
def exD : List LC := [([1], some 1), ([0], some 1)]
theorem exD_ok : OkDv 1 (rowsD exD) 2 := by
 have h : ∀ s, s < (rowsD exD).length → ∀ a, a < 1 → 0 ≤ ((rowsD exD).getD s []).getD a 0 ∧ ((rowsD exD).getD s []).getD a 0 < (rowsD exD).length := by decide
 exact ⟨by decide, by decide, by decide, by decide, by decide, by decide, fun s a hs ha => h s hs a ha⟩
theorem exD_min : (stX (dlt exD) eqX 1 0 2).1.length = 2 ∧ cntK (dlt exD) (fun s => [true, true].getD s false) 1 (stX (dlt exD) eqX 1 0 2).1 0 = cntK (dlt exD) (fun s => [true, true].getD s false) 1 (stX (dlt exD) eqX 1 0 2).1 1 := ⟨by kernel_rfl, by kernel_rfl⟩
theorem exD_g : minG 1 exD [true, true] (stX (dlt exD) eqX 1 0 2).1 0 = .tup [dA 1 1 [([0], some 1)] (some 1) 1 [true] (some 1), .int .i64 0] := by kernel_rfl
def ex1 : Bs := [97, 99, 99, 101, 112, 116, 111, 114, 32, 49, 32, 49, 10, 43, 32, 48, 10]
def ex2 : Bs := [97, 99, 99, 101, 112, 116, 111, 114, 32, 49, 32, 49, 10, 43, 32, 49, 10]
def ex3 : Bs := [97, 99, 99, 101, 112, 116, 111, 114, 32, 49, 32, 50, 10, 43, 32, 48, 10]
theorem ex1_text : textA 1 [([0], true)] = ex1 := by simp [textA, linesA, lineA, signA, headA, itoa0, itoa1, join_one, join_cons2, ex1]
theorem ex2_text : textA 1 [([1], true)] = ex2 := by simp [textA, linesA, lineA, signA, headA, itoa0, itoa1, join_one, join_cons2, ex2]
theorem parV_text {A : Int} {rows : List (List Int × Bool)} (hA : 0 ≤ A ∧ A ≤ 9999) (hn : rows.length ≤ 9999) (h : ∀ r ∈ rows, ∀ x ∈ r.1, 0 ≤ x ∧ x ≤ 9999) (hl : (textA A rows).length ≤ 65536) : parV (textA A rows) = parO (some (A, rows)) := by
 rw [parV, if_neg (by omega), parse_textA A rows hA hn h]
theorem ex1_par : parV ex1 = .tup [dA 1 1 [([0], some 1)] (some 1) 1 [true] (some 1), .int .i64 0] := by
 rw [← ex1_text, parV_text (by omega) (by decide) (by decide) (by rw [ex1_text]; decide)]
 rfl
theorem ex2_par : parV ex2 = .tup [dA0, .int .i64 1] := by
 rw [← ex2_text, parV_text (by omega) (by decide) (by decide) (by rw [ex2_text]; decide)]
 rfl
theorem ex3_par : parV ex3 = .tup [dA0, .int .i64 4] := by
 rw [parV, if_neg (by decide)]
 have : parseA ex3 = none := by
  rw [parseA, if_pos (by rfl)]
  refine linesP_no ?_
  rintro ⟨A, n, h, _, hn⟩
  have h2 := ints4_itoa h
  have e : (splitC 32 ((splitC 10 ex3.dropLast).headD [])).tail = [[49], [50]] := by decide
  have e2 : (splitC 10 ex3.dropLast).length = 2 := by decide
  rw [e] at h2
  rw [e2] at hn
  simp only [List.map_cons, List.map_nil, List.cons.injEq, and_true] at h2
  rw [hn] at h2
  have h3 := h2.2
  change Lib.itoa 1 = [50] at h3
  rw [itoa1] at h3
  exact absurd h3 (by decide)
 rw [this]; rfl
end Go.Proofs
namespace Go.Proofs
open Go Go.V Go.RowKit
set_option linter.unusedVariables false
set_option linter.unusedSimpArgs false
set_option maxHeartbeats 0
set_option maxRecDepth 100000
theorem lives10 : PC Tryz.prog G0 17 [] (.bool true) := by
 have hE : PC Tryz.prog G0 49 [] (.agg [.int .i64 2, .sl 1 (rowsN endsL) (some 3), .sl 1 [[.int .i64 0]] (some 1), .sl 1 [[.int .i64 2]] (some 1)]) := ends30
 have hA1 : PC Tryz.prog G0 14 [.agg [.int .i64 2, .sl 1 (rowsN endsL) (some 3), .sl 1 [[.int .i64 0]] (some 1), .sl 1 [[.int .i64 2]] (some 1)], .sl 1 [[.int .i64 0], [.int .i64 1]] (some 2)] (.tup [.bool true, .int .i64 0]) := by
  have h := acceptsNfa25 2 1 endsL (some 3) 1 [0] (some 1) 1 [2] (some 1) ends_sizeN 1 [0, 1] (some 2) (.inr rfl) (by decide)
  rw [ends_acc.1] at h; exact h
 have hA2 : PC Tryz.prog G0 14 [.agg [.int .i64 2, .sl 1 (rowsN endsL) (some 3), .sl 1 [[.int .i64 0]] (some 1), .sl 1 [[.int .i64 2]] (some 1)], .sl 1 [[.int .i64 1], [.int .i64 0], [.int .i64 1]] (some 3)] (.tup [.bool true, .int .i64 0]) := by
  have h := acceptsNfa25 2 1 endsL (some 3) 1 [0] (some 1) 1 [2] (some 1) ends_sizeN 1 [1, 0, 1] (some 3) (.inr rfl) (by decide)
  rw [ends_acc.2.1] at h; exact h
 have hA3 : PC Tryz.prog G0 14 [.agg [.int .i64 2, .sl 1 (rowsN endsL) (some 3), .sl 1 [[.int .i64 0]] (some 1), .sl 1 [[.int .i64 2]] (some 1)], .sl 1 [[.int .i64 0]] (some 1)] (.tup [.bool false, .int .i64 0]) := by
  have h := acceptsNfa25 2 1 endsL (some 3) 1 [0] (some 1) 1 [2] (some 1) ends_sizeN 1 [0] (some 1) (.inr rfl) (by decide)
  rw [ends_acc.2.2.1] at h; exact h
 have hA4 : PC Tryz.prog G0 14 [.agg [.int .i64 2, .sl 1 (rowsN endsL) (some 3), .sl 1 [[.int .i64 0]] (some 1), .sl 1 [[.int .i64 2]] (some 1)], .sl 0 [] (some 0)] (.tup [.bool false, .int .i64 0]) := by
  have h := acceptsNfa25 2 1 endsL (some 3) 1 [0] (some 1) 1 [2] (some 1) ends_sizeN 0 [] (some 0) (.inl rfl) (by decide)
  rw [ends_acc.2.2.2] at h; exact h
 have hD : PC Tryz.prog G0 23 [.agg [.int .i64 2, .sl 1 (rowsN endsL) (some 3), .sl 1 [[.int .i64 0]] (some 1), .sl 1 [[.int .i64 2]] (some 1)]] (.tup [.agg [.int .i64 2, .sl 1 (rowL (dRow 2 [[1, 0], [1, 2], [1, 0]])) (some 3), .sl 1 (bools [false, false, true]) (some 3)], .int .i64 0]) := by
  obtain ⟨N, _, h1, h⟩ := det_law (c := some 3) (cs := some 1) (ca := some 1) ends_sizeN ends_okN (by decide)
  have hN := st_one _ h1 ends_det.1
  subst hN
  rw [detG, ends_det.2.1, ends_det.2.2] at h
  exact h
 have hT : PC Tryz.prog G0 27 [.agg [.int .i64 2, .sl 1 (rowL (dRow 2 [[1, 0], [1, 2], [1, 0]])) (some 3), .sl 1 (bools [false, false, true]) (some 3)]] (.tup [.str exT, .int .i64 0]) := by
  have h := text14 2 1 (dRow 2 [[1, 0], [1, 2], [1, 0]]) (some 3) 1 [false, false, true] (some 3) (sizeD_of (by decide) (by decide) (by decide))
  rw [ex_text] at h; exact h
 have hR : PC Tryz.prog G0 8 [.agg [.int .i64 2, .sl 1 (rowsN endsL) (some 3), .sl 1 [[.int .i64 0]] (some 1), .sl 1 [[.int .i64 2]] (some 1)]] (.tup [.agg [.int .i64 2, .sl 1 (rowsN (revRC 2 endsL)) (some 3), .sl 1 [[.int .i64 2]] (some 1), .sl 1 [[.int .i64 0]] (some 1)], .int .i64 0]) :=
  reverse23 2 1 endsL (some 3) 1 [0] (some 1) 1 [2] (some 1) ends_sizeN ends_okN
 have hM : PC Tryz.prog G0 25 [.agg [.int .i64 1, .sl 1 [[.sl 1 [[.int .i64 1]] (some 1)], [.sl 1 [[.int .i64 0]] (some 1)]] (some 2), .sl 1 [[.bool true], [.bool true]] (some 2)]] (.tup [.agg [.int .i64 1, .sl 1 [[.sl 1 [[.int .i64 0]] (some 1)]] (some 1), .sl 1 [[.bool true]] (some 1)], .int .i64 0]) := by
  have h := minimal21 1 exD (some 2) [true, true] (some 2) exD_ok (sizeD_of (by decide) (by decide) (by decide)) 2 exD_min.1 0 exD_min.2 (fun j hj => by omega)
  rw [exD_g] at h
  exact h
 have hS : PC Tryz.prog G0 10 [.agg [.int .i64 2, .sl 1 (rowsN (revRC 2 endsL)) (some 3), .sl 1 [[.int .i64 2]] (some 1), .sl 1 [[.int .i64 0]] (some 1)], .agg [.int .i64 2, .sl 1 [[.sl 1 [[.sl 1 [[.int .i64 0]] (some 1)], [.sl 1 [[.int .i64 0]] (some 1)]] (some 2)], [.sl 1 [[.sl 1 [[.int .i64 0]] (some 1)], [.sl 0 [] (some 0)]] (some 2)], [.sl 1 [[.sl 0 [] (some 0)], [.sl 1 [[.int .i64 1]] (some 1)]] (some 2)]] (some 3), .sl 1 [[.int .i64 2]] (some 1), .sl 1 [[.int .i64 0]] (some 1)]] (.int .i64 1) := by
  have hb : ∀ s a, ((((revRC 2 endsL).getD s ([], none)).1.getD a ([], none)).1).length ≤ 9223372036854775807 := fun s a => by
   by_cases hs : s < 3
   ·by_cases ha : a < 2
    ·have : ∀ s, s < 3 → ∀ a, a < 2 → ((((revRC 2 endsL).getD s ([], none)).1.getD a ([], none)).1).length ≤ 9223372036854775807 := by decide
     exact this s hs a ha
    ·have hl : ∀ s, s < 3 → ((revRC 2 endsL).getD s ([], none)).1.length = 2 := by decide
     have := hl s hs
     rw [List.getD_eq_getElem?_getD (l := ((revRC 2 endsL).getD s ([], none)).1), List.getElem?_eq_none (by omega)]; exact Nat.zero_le _
   ·rw [List.getD_eq_getElem?_getD (l := revRC 2 endsL), List.getElem?_eq_none (by have : (revRC 2 endsL).length = 3 := rfl; omega)]; exact Nat.zero_le _
  have hw : ∀ s a, (((([(([([0], some 1), ([0], some 1)] : List LC), some 2), ([([0], some 1), ([], some 0)], some 2), ([([], some 0), ([1], some 1)], some 2)] : List RC).getD s ([], none)).1.getD a ([], none)).1).length ≤ 9223372036854775807 := fun s a => by
   match s, a with
   | 0, 0 => decide
   | 0, 1 => decide
   | 1, 0 => decide
   | 1, 1 => decide
   | 2, 0 => decide
   | 2, 1 => decide
   | 0, a + 2 => exact Nat.zero_le _
   | 1, a + 2 => exact Nat.zero_le _
   | 2, a + 2 => exact Nat.zero_le _
   | s + 3, a => exact Nat.zero_le _
  have h := sameNfa19 2 1 (revRC 2 endsL) (some 3) 1 [2] (some 1) 1 [0] (some 1) 2 1 [([([0], some 1), ([0], some 1)], some 2), ([([0], some 1), ([], some 0)], some 2), ([([], some 0), ([1], some 1)], some 2)] (some 3) 1 [2] (some 1) 1 [0] (some 1)
   (.inr rfl) (.inr rfl) (.inr rfl) (.inr rfl) (.inr rfl) (.inr rfl) (by decide) (by decide) (by decide) (by decide) (by decide) (by decide) (by decide) (by decide) hb hw
  rw [if_pos ends_rev] at h
  exact pc_nzA h rfl
 have hO : PC Tryz.prog G0 30 [.agg [.int .i64 1, .sl 1 [[.sl 1 [[.int .i64 0]] (some 1)]] (some 1), .sl 1 [[.bool true]] (some 1)], .agg [.int .i64 1, .sl 1 [[.sl 1 [[.int .i64 0]] (some 1)]] (some 1), .sl 1 [[.bool true]] (some 1)]] (.int .i64 1) := by
  have h := refSame12 1 1 [([0], some 1)] (some 1) 1 [true] (some 1) 1 1 [([0], some 1)] (some 1) 1 [true] (some 1) (.inr rfl) (.inr rfl) (.inr rfl) (.inr rfl) (by decide) (by decide) (by decide) (by decide) (by decide) (by decide)
  rw [if_pos (by exact ⟨rfl, rfl, rfl⟩)] at h
  exact h
 have hP1 := parse15 ex1
 rw [ex1_par] at hP1
 have hP2 := parse15 ex2
 rw [ex2_par] at hP2
 have hP3 := parse15 ex3
 rw [ex3_par] at hP3
 have hP1 : PC Tryz.prog G0 50 [.str ex1] (.tup [.agg [.int .i64 1, .sl 1 [[.sl 1 [[.int .i64 0]] (some 1)]] (some 1), .sl 1 [[.bool true]] (some 1)], .int .i64 0]) := hP1
 unfold dA0 at hP2 hP3
 unfold ex1 at hP1
 unfold ex2 at hP2
 unfold ex3 at hP3
 unfold exT at hT
 have hid1 : ∀ p, idsE p (rowsN endsL) = true := fun p => idsE_rowsN _ _
 have hid2 : ∀ p, idsE p (rowsN (revRC 2 endsL)) = true := fun p => idsE_rowsN _ _
 have hid3 : ∀ p, idsE p (rowL (dRow 2 [[1, 0], [1, 2], [1, 0]])) = true := fun p => idsE_rowL _ _
 have hid4 : ∀ p, idsE p (bools [false, false, true]) = true := fun p => idsE_bools _ _
 generalize rowsN endsL = EL at *
 generalize rowsN (revRC 2 endsL) = RL at *
 generalize rowL (dRow 2 [[1, 0], [1, 2], [1, 0]]) = DL at *
 generalize bools [false, false, true] = DB at *
 refine pc_go 0 166 [.tmp 0] Tryz.func17 rfl rfl rfl (by simp) ?_
 intro s hz
 clear hz
 repeat' (first|((first|refine nav ?_|(refine g0_ ?_; refine goD ?_)) <;> (try simp (disch := (first|exact discB|fail)) only [push_cast, ↓reduceIte, reduceIte, reduceCtorEq, Nat.reduceAdd, Nat.reduceLT, Nat.reduceEqDiff, Nat.reduceLeDiff, Int.reduceAdd, Int.reduceLT, Int.reduceLE, Nat.reduceMul, Nat.add_zero]))|(with_reducible refine gG ?_ ?_)|((with_reducible refine And.intro (fun h => ?_) (fun h => ?_)) <;> try (exfalso; omega))|(with_reducible refine andG ?_)|(refine And.intro ⟨[_], rfl⟩ ?_)|(refine And.intro ⟨[], by simp only [List.append_nil]⟩ ?_)|(first|(refine ⟨_, _, pc_lift (hE) (by (simp [idsL, idsE, AV.ids, hid1, hid2, hid3, hid4])) _, ?_⟩)|(refine ⟨_, pc_lift (hE) (by (simp [idsL, idsE, AV.ids, hid1, hid2, hid3, hid4])) _, ?_⟩)|(refine ⟨_, fun _ => pc_lift (hE) (by (simp [idsL, idsE, AV.ids, hid1, hid2, hid3, hid4])) _, ?_⟩)|(refine ⟨_, _, pc_lift (hA1) (by (simp [idsL, idsE, AV.ids, hid1, hid2, hid3, hid4])) _, ?_⟩)|(refine ⟨_, pc_lift (hA1) (by (simp [idsL, idsE, AV.ids, hid1, hid2, hid3, hid4])) _, ?_⟩)|(refine ⟨_, fun _ => pc_lift (hA1) (by (simp [idsL, idsE, AV.ids, hid1, hid2, hid3, hid4])) _, ?_⟩)|(refine ⟨_, _, pc_lift (hA2) (by (simp [idsL, idsE, AV.ids, hid1, hid2, hid3, hid4])) _, ?_⟩)|(refine ⟨_, pc_lift (hA2) (by (simp [idsL, idsE, AV.ids, hid1, hid2, hid3, hid4])) _, ?_⟩)|(refine ⟨_, fun _ => pc_lift (hA2) (by (simp [idsL, idsE, AV.ids, hid1, hid2, hid3, hid4])) _, ?_⟩)|(refine ⟨_, _, pc_lift (hA3) (by (simp [idsL, idsE, AV.ids, hid1, hid2, hid3, hid4])) _, ?_⟩)|(refine ⟨_, pc_lift (hA3) (by (simp [idsL, idsE, AV.ids, hid1, hid2, hid3, hid4])) _, ?_⟩)|(refine ⟨_, fun _ => pc_lift (hA3) (by (simp [idsL, idsE, AV.ids, hid1, hid2, hid3, hid4])) _, ?_⟩)|(refine ⟨_, _, pc_lift (hA4) (by (simp [idsL, idsE, AV.ids, hid1, hid2, hid3, hid4])) _, ?_⟩)|(refine ⟨_, pc_lift (hA4) (by (simp [idsL, idsE, AV.ids, hid1, hid2, hid3, hid4])) _, ?_⟩)|(refine ⟨_, fun _ => pc_lift (hA4) (by (simp [idsL, idsE, AV.ids, hid1, hid2, hid3, hid4])) _, ?_⟩)|(refine ⟨_, _, pc_lift (hD) (by (simp [idsL, idsE, AV.ids, hid1, hid2, hid3, hid4])) _, ?_⟩)|(refine ⟨_, pc_lift (hD) (by (simp [idsL, idsE, AV.ids, hid1, hid2, hid3, hid4])) _, ?_⟩)|(refine ⟨_, fun _ => pc_lift (hD) (by (simp [idsL, idsE, AV.ids, hid1, hid2, hid3, hid4])) _, ?_⟩)|(refine ⟨_, _, pc_lift (hT) (by (simp [idsL, idsE, AV.ids, hid1, hid2, hid3, hid4])) _, ?_⟩)|(refine ⟨_, pc_lift (hT) (by (simp [idsL, idsE, AV.ids, hid1, hid2, hid3, hid4])) _, ?_⟩)|(refine ⟨_, fun _ => pc_lift (hT) (by (simp [idsL, idsE, AV.ids, hid1, hid2, hid3, hid4])) _, ?_⟩)|(refine ⟨_, _, pc_lift (hR) (by (simp [idsL, idsE, AV.ids, hid1, hid2, hid3, hid4])) _, ?_⟩)|(refine ⟨_, pc_lift (hR) (by (simp [idsL, idsE, AV.ids, hid1, hid2, hid3, hid4])) _, ?_⟩)|(refine ⟨_, fun _ => pc_lift (hR) (by (simp [idsL, idsE, AV.ids, hid1, hid2, hid3, hid4])) _, ?_⟩)|(refine ⟨_, _, pc_lift (hM) (by (simp [idsL, idsE, AV.ids, hid1, hid2, hid3, hid4])) _, ?_⟩)|(refine ⟨_, pc_lift (hM) (by (simp [idsL, idsE, AV.ids, hid1, hid2, hid3, hid4])) _, ?_⟩)|(refine ⟨_, fun _ => pc_lift (hM) (by (simp [idsL, idsE, AV.ids, hid1, hid2, hid3, hid4])) _, ?_⟩)|(refine ⟨_, _, pc_lift (hS) (by (simp [idsL, idsE, AV.ids, hid1, hid2, hid3, hid4])) _, ?_⟩)|(refine ⟨_, pc_lift (hS) (by (simp [idsL, idsE, AV.ids, hid1, hid2, hid3, hid4])) _, ?_⟩)|(refine ⟨_, fun _ => pc_lift (hS) (by (simp [idsL, idsE, AV.ids, hid1, hid2, hid3, hid4])) _, ?_⟩)|(refine ⟨_, _, pc_lift (hO) (by (simp [idsL, idsE, AV.ids, hid1, hid2, hid3, hid4])) _, ?_⟩)|(refine ⟨_, pc_lift (hO) (by (simp [idsL, idsE, AV.ids, hid1, hid2, hid3, hid4])) _, ?_⟩)|(refine ⟨_, fun _ => pc_lift (hO) (by (simp [idsL, idsE, AV.ids, hid1, hid2, hid3, hid4])) _, ?_⟩)|(refine ⟨_, _, pc_lift (hP1) (by (simp [idsL, idsE, AV.ids, hid1, hid2, hid3, hid4])) _, ?_⟩)|(refine ⟨_, pc_lift (hP1) (by (simp [idsL, idsE, AV.ids, hid1, hid2, hid3, hid4])) _, ?_⟩)|(refine ⟨_, fun _ => pc_lift (hP1) (by (simp [idsL, idsE, AV.ids, hid1, hid2, hid3, hid4])) _, ?_⟩)|(refine ⟨_, _, pc_lift (hP2) (by (simp [idsL, idsE, AV.ids, hid1, hid2, hid3, hid4])) _, ?_⟩)|(refine ⟨_, pc_lift (hP2) (by (simp [idsL, idsE, AV.ids, hid1, hid2, hid3, hid4])) _, ?_⟩)|(refine ⟨_, fun _ => pc_lift (hP2) (by (simp [idsL, idsE, AV.ids, hid1, hid2, hid3, hid4])) _, ?_⟩)|(refine ⟨_, _, pc_lift (hP3) (by (simp [idsL, idsE, AV.ids, hid1, hid2, hid3, hid4])) _, ?_⟩)|(refine ⟨_, pc_lift (hP3) (by (simp [idsL, idsE, AV.ids, hid1, hid2, hid3, hid4])) _, ?_⟩)|(refine ⟨_, fun _ => pc_lift (hP3) (by (simp [idsL, idsE, AV.ids, hid1, hid2, hid3, hid4])) _, ?_⟩))|simp (disch := (first|exact discB|fail)) only [push_cast, ↓reduceIte, reduceIte, reduceCtorEq, Nat.reduceAdd, Nat.reduceLT, Nat.reduceEqDiff, Nat.reduceLeDiff, Int.reduceAdd, Int.reduceLT, Int.reduceLE, Nat.reduceMul, Nat.add_zero])
end Go.Proofs
namespace Go.Proofs
open Go Go.V Go.RowKit
set_option linter.unusedVariables false
set_option linter.unusedSimpArgs false
set_option maxHeartbeats 0
set_option maxRecDepth 100000
theorem errEndA {sy sd : Int} {RN IS IA DL DB IW : List (List AV)} {c cs ca cd cb cw : Option Nat} {eX eD u2 : Int} {aD : Bool}
  (hid1 : ∀ p, idsE p RN = true) (hid2 : ∀ p, idsE p IS = true) (hid3 : ∀ p, idsE p IA = true) (hid4 : ∀ p, idsE p DL = true) (hid5 : ∀ p, idsE p DB = true) (hid6 : ∀ p, idsE p IW = true)
  (hcD : (eX ≠ 0 ∧ aD = false ∧ eD = eX) ∨ (eX = 0 ∧ u2 ≠ 0 ∧ aD = false ∧ eD = u2) ∨ (eX = 0 ∧ u2 = 0 ∧ eD = 0 ∧ PC Tryz.prog G0 28 [.agg [.int .i64 sd, .sl 1 DL cd, .sl 1 DB cb], .sl 1 IW cw] (.int .i64 (if aD = true then 1 else 0))))
  (hb4 : eX ≠ 0 → PC Tryz.prog G0 25 [.agg [.int .i64 sd, .sl 1 DL cd, .sl 1 DB cb]] (.tup [.agg [.int .i64 0, .sl 0 [] (some 0), .sl 0 [] (some 0)], .int .i64 eX]))
  (hb5 : eX ≠ 0 → PC Tryz.prog G0 26 [.agg [.int .i64 sd, .sl 1 DL cd, .sl 1 DB cb]] (.tup [.agg [.int .i64 0, .sl 0 [] (some 0), .sl 0 [] (some 0), .sl 0 [] (some 0)], .int .i64 eX]))
  (hb6 : eX ≠ 0 → PC Tryz.prog G0 27 [.agg [.int .i64 sd, .sl 1 DL cd, .sl 1 DB cb]] (.tup [.str [], .int .i64 eX])) (hw2 : PC Tryz.prog G0 24 [.sl 1 IW cw, .int .i64 sd] (.int .i64 u2)) : ∀ (s1 : Nat → AV), s1 2 = .sl 1 IW cw → s1 3 = .ptr 0 0 0 1 → s1 4 = .ptr 1 0 0 1 → s1 12 = .int .i64 eX → s1 15 = .bool aD → s1 16 = .int .i64 eD →
   V.Go false Tryz.prog G0 0 299 (bodyOf Tryz.f4) [0, 0, 1, 1, 1, 1, 1, 1, 1, 1, 1, 1, 1] (thenC false Tryz.prog G0 0 299 (bodyOf Tryz.f4) [1, 0, 1, 1, 1, 1, 1, 1, 1, 1, 1, 1, 1] (thenC false Tryz.prog G0 0 299 (bodyOf Tryz.f4) [1, 1, 1, 1, 1, 1, 1, 1, 1, 1, 1, 1] (DoneS Tryz.prog 299 [ResultVar.tmp 6] 0 (.bool true)))) True s1 [.row 4 29 [[.int .i64 sy, .sl 1 RN c, .sl 1 IS cs, .sl 1 IA ca]], .row 3 47 [[.int .i64 sd, .sl 1 DL cd, .sl 1 DB cb]], .row 3 47 [[.int .i64 0, .sl 0 [] (some 0), .sl 0 [] (some 0)]], .row 4 29 [[.int .i64 0, .sl 0 [] (some 0), .sl 0 [] (some 0), .sl 0 [] (some 0)]], .row 4 29 [[.int .i64 0, .sl 0 [] (some 0), .sl 0 [] (some 0), .sl 0 [] (some 0)]]] := by
 have hlv := lives10
 have hz : decide ((0 : Int) = 1) = false := rfl
 intro s1 r2 r3 r4 r12 r15 r16
 rcases hcD with ⟨q1, rfl, rfl⟩|⟨rfl, q2, rfl, rfl⟩|⟨rfl, rfl, rfl, hE⟩
 ·have hb4 := hb4 q1
  have hb5 := hb5 q1
  have hb6 := hb6 q1
  repeat' (first|((first|refine nav ?_|(refine g0_ ?_; refine goD ?_)) <;> (try simp (disch := (first|exact discB|fail)) only [push_cast, ↓reduceIte, reduceIte, reduceCtorEq, Nat.reduceAdd, Nat.reduceLT, Nat.reduceEqDiff, Nat.reduceLeDiff, Int.reduceAdd, Int.reduceLT, Int.reduceLE, Nat.reduceMul, r2, r3, r4, r12, r15, r16, q1]))|(with_reducible refine gG ?_ ?_)|((with_reducible refine And.intro (fun h => ?_) (fun h => ?_)) <;> try (exfalso; omega))|(with_reducible refine andG ?_)|(refine And.intro ⟨[_], rfl⟩ ?_)|(refine And.intro ⟨[], by simp only [List.append_nil]⟩ ?_)|(first|(refine ⟨_, _, pc_lift (hb4) (by (simp [idsL, idsE, AV.ids, hid1, hid2, hid3, hid4, hid5, hid6])) _, ?_⟩)|(refine ⟨_, pc_lift (hb4) (by (simp [idsL, idsE, AV.ids, hid1, hid2, hid3, hid4, hid5, hid6])) _, ?_⟩)|(refine ⟨_, fun _ => pc_lift (hb4) (by (simp [idsL, idsE, AV.ids, hid1, hid2, hid3, hid4, hid5, hid6])) _, ?_⟩)|(refine ⟨_, _, pc_lift (hb5) (by (simp [idsL, idsE, AV.ids, hid1, hid2, hid3, hid4, hid5, hid6])) _, ?_⟩)|(refine ⟨_, pc_lift (hb5) (by (simp [idsL, idsE, AV.ids, hid1, hid2, hid3, hid4, hid5, hid6])) _, ?_⟩)|(refine ⟨_, fun _ => pc_lift (hb5) (by (simp [idsL, idsE, AV.ids, hid1, hid2, hid3, hid4, hid5, hid6])) _, ?_⟩)|(refine ⟨_, _, pc_lift (hb6) (by (simp [idsL, idsE, AV.ids, hid1, hid2, hid3, hid4, hid5, hid6])) _, ?_⟩)|(refine ⟨_, pc_lift (hb6) (by (simp [idsL, idsE, AV.ids, hid1, hid2, hid3, hid4, hid5, hid6])) _, ?_⟩)|(refine ⟨_, fun _ => pc_lift (hb6) (by (simp [idsL, idsE, AV.ids, hid1, hid2, hid3, hid4, hid5, hid6])) _, ?_⟩)|(refine ⟨_, _, pc_lift (hlv) (by (simp [idsL, idsE, AV.ids, hid1, hid2, hid3, hid4, hid5, hid6])) _, ?_⟩)|(refine ⟨_, pc_lift (hlv) (by (simp [idsL, idsE, AV.ids, hid1, hid2, hid3, hid4, hid5, hid6])) _, ?_⟩)|(refine ⟨_, fun _ => pc_lift (hlv) (by (simp [idsL, idsE, AV.ids, hid1, hid2, hid3, hid4, hid5, hid6])) _, ?_⟩))|simp (disch := (first|exact discB|fail)) only [push_cast, ↓reduceIte, reduceIte, reduceCtorEq, Nat.reduceAdd, Nat.reduceLT, Nat.reduceEqDiff, Nat.reduceLeDiff, Int.reduceAdd, Int.reduceLT, Int.reduceLE, Nat.reduceMul, r2, r3, r4, r12, r15, r16, q1])
 ·skip
  repeat' (first|((first|refine nav ?_|(refine g0_ ?_; refine goD ?_)) <;> (try simp (disch := (first|exact discB|fail)) only [push_cast, ↓reduceIte, reduceIte, reduceCtorEq, Nat.reduceAdd, Nat.reduceLT, Nat.reduceEqDiff, Nat.reduceLeDiff, Int.reduceAdd, Int.reduceLT, Int.reduceLE, Nat.reduceMul, r2, r3, r4, r12, r15, r16, q2]))|(with_reducible refine gG ?_ ?_)|((with_reducible refine And.intro (fun h => ?_) (fun h => ?_)) <;> try (exfalso; omega))|(with_reducible refine andG ?_)|(refine And.intro ⟨[_], rfl⟩ ?_)|(refine And.intro ⟨[], by simp only [List.append_nil]⟩ ?_)|(first|(refine ⟨_, _, pc_lift (hw2) (by (simp [idsL, idsE, AV.ids, hid1, hid2, hid3, hid4, hid5, hid6])) _, ?_⟩)|(refine ⟨_, pc_lift (hw2) (by (simp [idsL, idsE, AV.ids, hid1, hid2, hid3, hid4, hid5, hid6])) _, ?_⟩)|(refine ⟨_, fun _ => pc_lift (hw2) (by (simp [idsL, idsE, AV.ids, hid1, hid2, hid3, hid4, hid5, hid6])) _, ?_⟩)|(refine ⟨_, _, pc_lift (hlv) (by (simp [idsL, idsE, AV.ids, hid1, hid2, hid3, hid4, hid5, hid6])) _, ?_⟩)|(refine ⟨_, pc_lift (hlv) (by (simp [idsL, idsE, AV.ids, hid1, hid2, hid3, hid4, hid5, hid6])) _, ?_⟩)|(refine ⟨_, fun _ => pc_lift (hlv) (by (simp [idsL, idsE, AV.ids, hid1, hid2, hid3, hid4, hid5, hid6])) _, ?_⟩)|(refine ⟨AV.str [], ?_⟩; refine acc_id ?_))|simp (disch := (first|exact discB|fail)) only [push_cast, ↓reduceIte, reduceIte, reduceCtorEq, Nat.reduceAdd, Nat.reduceLT, Nat.reduceEqDiff, Nat.reduceLeDiff, Int.reduceAdd, Int.reduceLT, Int.reduceLE, Nat.reduceMul, r2, r3, r4, r12, r15, r16, q2])
 ·cases aD with
  | true =>
   rw [if_pos rfl] at hE
   repeat' (first|((first|refine nav ?_|(refine g0_ ?_; refine goD ?_)) <;> (try simp (disch := (first|exact discB|fail)) only [push_cast, ↓reduceIte, reduceIte, reduceCtorEq, Nat.reduceAdd, Nat.reduceLT, Nat.reduceEqDiff, Nat.reduceLeDiff, Int.reduceAdd, Int.reduceLT, Int.reduceLE, Nat.reduceMul, r2, r3, r4, r12, r15, r16, hz]))|(with_reducible refine gG ?_ ?_)|((with_reducible refine And.intro (fun h => ?_) (fun h => ?_)) <;> try (exfalso; omega))|(with_reducible refine andG ?_)|(refine And.intro ⟨[_], rfl⟩ ?_)|(refine And.intro ⟨[], by simp only [List.append_nil]⟩ ?_)|(first|(refine ⟨_, _, pc_lift (hw2) (by (simp [idsL, idsE, AV.ids, hid1, hid2, hid3, hid4, hid5, hid6])) _, ?_⟩)|(refine ⟨_, pc_lift (hw2) (by (simp [idsL, idsE, AV.ids, hid1, hid2, hid3, hid4, hid5, hid6])) _, ?_⟩)|(refine ⟨_, fun _ => pc_lift (hw2) (by (simp [idsL, idsE, AV.ids, hid1, hid2, hid3, hid4, hid5, hid6])) _, ?_⟩)|(refine ⟨_, _, pc_lift (hE) (by (simp [idsL, idsE, AV.ids, hid1, hid2, hid3, hid4, hid5, hid6])) _, ?_⟩)|(refine ⟨_, pc_lift (hE) (by (simp [idsL, idsE, AV.ids, hid1, hid2, hid3, hid4, hid5, hid6])) _, ?_⟩)|(refine ⟨_, fun _ => pc_lift (hE) (by (simp [idsL, idsE, AV.ids, hid1, hid2, hid3, hid4, hid5, hid6])) _, ?_⟩)|(refine ⟨_, _, pc_lift (hlv) (by (simp [idsL, idsE, AV.ids, hid1, hid2, hid3, hid4, hid5, hid6])) _, ?_⟩)|(refine ⟨_, pc_lift (hlv) (by (simp [idsL, idsE, AV.ids, hid1, hid2, hid3, hid4, hid5, hid6])) _, ?_⟩)|(refine ⟨_, fun _ => pc_lift (hlv) (by (simp [idsL, idsE, AV.ids, hid1, hid2, hid3, hid4, hid5, hid6])) _, ?_⟩))|simp (disch := (first|exact discB|fail)) only [push_cast, ↓reduceIte, reduceIte, reduceCtorEq, Nat.reduceAdd, Nat.reduceLT, Nat.reduceEqDiff, Nat.reduceLeDiff, Int.reduceAdd, Int.reduceLT, Int.reduceLE, Nat.reduceMul, r2, r3, r4, r12, r15, r16, hz])
  | false =>
   rw [if_neg (by decide)] at hE
   repeat' (first|((first|refine nav ?_|(refine g0_ ?_; refine goD ?_)) <;> (try simp (disch := (first|exact discB|fail)) only [push_cast, ↓reduceIte, reduceIte, reduceCtorEq, Nat.reduceAdd, Nat.reduceLT, Nat.reduceEqDiff, Nat.reduceLeDiff, Int.reduceAdd, Int.reduceLT, Int.reduceLE, Nat.reduceMul, r2, r3, r4, r12, r15, r16, hz]))|(with_reducible refine gG ?_ ?_)|((with_reducible refine And.intro (fun h => ?_) (fun h => ?_)) <;> try (exfalso; omega))|(with_reducible refine andG ?_)|(refine And.intro ⟨[_], rfl⟩ ?_)|(refine And.intro ⟨[], by simp only [List.append_nil]⟩ ?_)|(first|(refine ⟨_, _, pc_lift (hw2) (by (simp [idsL, idsE, AV.ids, hid1, hid2, hid3, hid4, hid5, hid6])) _, ?_⟩)|(refine ⟨_, pc_lift (hw2) (by (simp [idsL, idsE, AV.ids, hid1, hid2, hid3, hid4, hid5, hid6])) _, ?_⟩)|(refine ⟨_, fun _ => pc_lift (hw2) (by (simp [idsL, idsE, AV.ids, hid1, hid2, hid3, hid4, hid5, hid6])) _, ?_⟩)|(refine ⟨_, _, pc_lift (hE) (by (simp [idsL, idsE, AV.ids, hid1, hid2, hid3, hid4, hid5, hid6])) _, ?_⟩)|(refine ⟨_, pc_lift (hE) (by (simp [idsL, idsE, AV.ids, hid1, hid2, hid3, hid4, hid5, hid6])) _, ?_⟩)|(refine ⟨_, fun _ => pc_lift (hE) (by (simp [idsL, idsE, AV.ids, hid1, hid2, hid3, hid4, hid5, hid6])) _, ?_⟩)|(refine ⟨_, _, pc_lift (hlv) (by (simp [idsL, idsE, AV.ids, hid1, hid2, hid3, hid4, hid5, hid6])) _, ?_⟩)|(refine ⟨_, pc_lift (hlv) (by (simp [idsL, idsE, AV.ids, hid1, hid2, hid3, hid4, hid5, hid6])) _, ?_⟩)|(refine ⟨_, fun _ => pc_lift (hlv) (by (simp [idsL, idsE, AV.ids, hid1, hid2, hid3, hid4, hid5, hid6])) _, ?_⟩))|simp (disch := (first|exact discB|fail)) only [push_cast, ↓reduceIte, reduceIte, reduceCtorEq, Nat.reduceAdd, Nat.reduceLT, Nat.reduceEqDiff, Nat.reduceLeDiff, Int.reduceAdd, Int.reduceLT, Int.reduceLE, Nat.reduceMul, r2, r3, r4, r12, r15, r16, hz])
end Go.Proofs
