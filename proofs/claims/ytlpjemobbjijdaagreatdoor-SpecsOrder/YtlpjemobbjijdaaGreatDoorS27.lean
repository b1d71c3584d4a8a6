import Derived.Test.YtlpjemobbjijdaaGreatDoorS26
import Derived.Test.YtlpjemobbjijdaaGreatDoorS13
import Derived.KernelRfl
namespace Go.Proofs
open Go Go.V
set_option linter.unusedVariables false
set_option linter.unusedSimpArgs false
set_option maxHeartbeats 0
set_option maxRecDepth 100000
theorem ks0 : lampG.Ok := ⟨.inr rfl, .inr rfl, .inr rfl, .inr rfl, by decide, by decide, by decide, by decide, by decide, by decide⟩
theorem vaM9 : chkS lampG = 0 := by kernel_rfl
theorem qdg9 : PC Tryz.prog G0 14 [.agg lampG.A] (.tup [.str [109, 97, 99, 104, 105, 110, 101, 32, 108, 97, 109, 112, 59, 10, 105, 110, 112, 117, 116, 115, 32, 112, 114, 101, 115, 115, 44, 32, 116, 105, 99, 107, 59, 10, 111, 117, 116, 112, 117, 116, 115, 32, 111, 110, 44, 32, 111, 102, 102, 59, 10, 115, 116, 97, 116, 101, 115, 32, 100, 97, 114, 107, 44, 32, 108, 105, 116, 59, 10, 100, 97, 114, 107, 32, 112, 114, 101, 115, 115, 32, 47, 32, 111, 110, 32, 45, 62, 32, 108, 105, 116, 59, 10, 100, 97, 114, 107, 32, 116, 105, 99, 107, 32, 47, 32, 111, 102, 102, 32, 45, 62, 32, 100, 97, 114, 107, 59, 10, 108, 105, 116, 32, 112, 114, 101, 115, 115, 32, 47, 32, 111, 102, 102, 32, 45, 62, 32, 100, 97, 114, 107, 59, 10, 101, 110, 100, 59, 10], .int .i64 0]) := by
 have h := wdv9 lampG ks0
 have e : qde9 lampG = .tup [.str [109, 97, 99, 104, 105, 110, 101, 32, 108, 97, 109, 112, 59, 10, 105, 110, 112, 117, 116, 115, 32, 112, 114, 101, 115, 115, 44, 32, 116, 105, 99, 107, 59, 10, 111, 117, 116, 112, 117, 116, 115, 32, 111, 110, 44, 32, 111, 102, 102, 59, 10, 115, 116, 97, 116, 101, 115, 32, 100, 97, 114, 107, 44, 32, 108, 105, 116, 59, 10, 100, 97, 114, 107, 32, 112, 114, 101, 115, 115, 32, 47, 32, 111, 110, 32, 45, 62, 32, 108, 105, 116, 59, 10, 100, 97, 114, 107, 32, 116, 105, 99, 107, 32, 47, 32, 111, 102, 102, 32, 45, 62, 32, 100, 97, 114, 107, 59, 10, 108, 105, 116, 32, 112, 114, 101, 115, 115, 32, 47, 32, 111, 102, 102, 32, 45, 62, 32, 100, 97, 114, 107, 59, 10, 101, 110, 100, 59, 10], .int .i64 0] := by kernel_rfl
 rw [e] at h
 exact h
theorem xej9 : PC Tryz.prog G0 22 [.str [109, 97, 99, 104, 105, 110, 101, 32, 108, 97, 109, 112, 59, 10, 105, 110, 112, 117, 116, 115, 32, 112, 114, 101, 115, 115, 44, 32, 116, 105, 99, 107, 59, 10, 111, 117, 116, 112, 117, 116, 115, 32, 111, 110, 44, 32, 111, 102, 102, 59, 10, 115, 116, 97, 116, 101, 115, 32, 100, 97, 114, 107, 44, 32, 108, 105, 116, 59, 10, 100, 97, 114, 107, 32, 112, 114, 101, 115, 115, 32, 47, 32, 111, 110, 32, 45, 62, 32, 108, 105, 116, 59, 10, 100, 97, 114, 107, 32, 116, 105, 99, 107, 32, 47, 32, 111, 102, 102, 32, 45, 62, 32, 100, 97, 114, 107, 59, 10, 108, 105, 116, 32, 112, 114, 101, 115, 115, 32, 47, 32, 111, 102, 102, 32, 45, 62, 32, 100, 97, 114, 107, 59, 10, 101, 110, 100, 59, 10]] (.tup [.agg lampG.A, .int .i64 0, .int .i64 0, .int .i64 0]) := by
 have h := qR0 [109, 97, 99, 104, 105, 110, 101, 32, 108, 97, 109, 112, 59, 10, 105, 110, 112, 117, 116, 115, 32, 112, 114, 101, 115, 115, 44, 32, 116, 105, 99, 107, 59, 10, 111, 117, 116, 112, 117, 116, 115, 32, 111, 110, 44, 32, 111, 102, 102, 59, 10, 115, 116, 97, 116, 101, 115, 32, 100, 97, 114, 107, 44, 32, 108, 105, 116, 59, 10, 100, 97, 114, 107, 32, 112, 114, 101, 115, 115, 32, 47, 32, 111, 110, 32, 45, 62, 32, 108, 105, 116, 59, 10, 100, 97, 114, 107, 32, 116, 105, 99, 107, 32, 47, 32, 111, 102, 102, 32, 45, 62, 32, 100, 97, 114, 107, 59, 10, 108, 105, 116, 32, 112, 114, 101, 115, 115, 32, 47, 32, 111, 102, 102, 32, 45, 62, 32, 100, 97, 114, 107, 59, 10, 101, 110, 100, 59, 10] (by decide) (by decide +kernel)
 have e : qY0 [109, 97, 99, 104, 105, 110, 101, 32, 108, 97, 109, 112, 59, 10, 105, 110, 112, 117, 116, 115, 32, 112, 114, 101, 115, 115, 44, 32, 116, 105, 99, 107, 59, 10, 111, 117, 116, 112, 117, 116, 115, 32, 111, 110, 44, 32, 111, 102, 102, 59, 10, 115, 116, 97, 116, 101, 115, 32, 100, 97, 114, 107, 44, 32, 108, 105, 116, 59, 10, 100, 97, 114, 107, 32, 112, 114, 101, 115, 115, 32, 47, 32, 111, 110, 32, 45, 62, 32, 108, 105, 116, 59, 10, 100, 97, 114, 107, 32, 116, 105, 99, 107, 32, 47, 32, 111, 102, 102, 32, 45, 62, 32, 100, 97, 114, 107, 59, 10, 108, 105, 116, 32, 112, 114, 101, 115, 115, 32, 47, 32, 111, 102, 102, 32, 45, 62, 32, 100, 97, 114, 107, 59, 10, 101, 110, 100, 59, 10] = .tup [.agg lampG.A, .int .i64 0, .int .i64 0, .int .i64 0] := by kernel_rfl
 rw [e] at h
 exact h
theorem wej9 : PC Tryz.prog G0 22 [.str [109, 97, 99, 104, 105, 110, 101, 32, 108, 97, 109, 112, 59, 10, 105, 110, 112, 117, 116, 115, 32, 112, 114, 101, 115, 115, 44, 32, 116, 105, 99, 107, 59, 10, 111, 117, 116, 112, 117, 116, 115, 32, 111, 110, 44, 32, 111, 102, 102, 59, 10, 115, 116, 97, 116, 101, 115, 32, 100, 97, 114, 107, 44, 32, 108, 105, 116, 59, 10, 100, 97, 114, 107, 32, 112, 114, 101, 115, 115, 32, 47, 32, 111, 110, 32, 45, 62, 32, 108, 105, 116, 59, 10, 100, 97, 114, 107, 32, 116, 111, 99, 107, 32, 47, 32, 111, 102, 102, 32, 45, 62, 32, 100, 97, 114, 107, 59, 10, 108, 105, 116, 32, 112, 114, 101, 115, 115, 32, 47, 32, 111, 102, 102, 32, 45, 62, 32, 100, 97, 114, 107, 59, 10, 101, 110, 100, 59, 10]] (.tup [.agg [.str [], .int .i64 0, .int .i64 0, .sl 0 [] (some 0), .sl 0 [] (some 0), .sl 0 [] (some 0), .sl 0 [] (some 0)], .int .i64 6, .int .i64 6, .int .i64 7]) := by
 have h := qR0 [109, 97, 99, 104, 105, 110, 101, 32, 108, 97, 109, 112, 59, 10, 105, 110, 112, 117, 116, 115, 32, 112, 114, 101, 115, 115, 44, 32, 116, 105, 99, 107, 59, 10, 111, 117, 116, 112, 117, 116, 115, 32, 111, 110, 44, 32, 111, 102, 102, 59, 10, 115, 116, 97, 116, 101, 115, 32, 100, 97, 114, 107, 44, 32, 108, 105, 116, 59, 10, 100, 97, 114, 107, 32, 112, 114, 101, 115, 115, 32, 47, 32, 111, 110, 32, 45, 62, 32, 108, 105, 116, 59, 10, 100, 97, 114, 107, 32, 116, 111, 99, 107, 32, 47, 32, 111, 102, 102, 32, 45, 62, 32, 100, 97, 114, 107, 59, 10, 108, 105, 116, 32, 112, 114, 101, 115, 115, 32, 47, 32, 111, 102, 102, 32, 45, 62, 32, 100, 97, 114, 107, 59, 10, 101, 110, 100, 59, 10] (by decide) (by decide +kernel)
 have e : qY0 [109, 97, 99, 104, 105, 110, 101, 32, 108, 97, 109, 112, 59, 10, 105, 110, 112, 117, 116, 115, 32, 112, 114, 101, 115, 115, 44, 32, 116, 105, 99, 107, 59, 10, 111, 117, 116, 112, 117, 116, 115, 32, 111, 110, 44, 32, 111, 102, 102, 59, 10, 115, 116, 97, 116, 101, 115, 32, 100, 97, 114, 107, 44, 32, 108, 105, 116, 59, 10, 100, 97, 114, 107, 32, 112, 114, 101, 115, 115, 32, 47, 32, 111, 110, 32, 45, 62, 32, 108, 105, 116, 59, 10, 100, 97, 114, 107, 32, 116, 111, 99, 107, 32, 47, 32, 111, 102, 102, 32, 45, 62, 32, 100, 97, 114, 107, 59, 10, 108, 105, 116, 32, 112, 114, 101, 115, 115, 32, 47, 32, 111, 102, 102, 32, 45, 62, 32, 100, 97, 114, 107, 59, 10, 101, 110, 100, 59, 10] = .tup [.agg [.str [], .int .i64 0, .int .i64 0, .sl 0 [] (some 0), .sl 0 [] (some 0), .sl 0 [] (some 0), .sl 0 [] (some 0)], .int .i64 6, .int .i64 6, .int .i64 7] := by kernel_rfl
 rw [e] at h
 exact h
theorem vej9 : PC Tryz.prog G0 22 [.str [109, 97, 99, 104, 105, 110, 101, 32, 101, 110, 100, 59]] (.tup [.agg [.str [], .int .i64 0, .int .i64 0, .sl 0 [] (some 0), .sl 0 [] (some 0), .sl 0 [] (some 0), .sl 0 [] (some 0)], .int .i64 1, .int .i64 9, .int .i64 10]) := by
 have h := qR0 [109, 97, 99, 104, 105, 110, 101, 32, 101, 110, 100, 59] (by decide) (by decide +kernel)
 have e : qY0 [109, 97, 99, 104, 105, 110, 101, 32, 101, 110, 100, 59] = .tup [.agg [.str [], .int .i64 0, .int .i64 0, .sl 0 [] (some 0), .sl 0 [] (some 0), .sl 0 [] (some 0), .sl 0 [] (some 0)], .int .i64 1, .int .i64 9, .int .i64 10] := by kernel_rfl
 rw [e] at h
 exact h
theorem kej9 : PC Tryz.prog G0 22 [.str [109, 97, 99, 104, 105, 110, 101, 32, 97, 59, 32, 105, 110, 112, 117, 116, 115, 32, 98]] (.tup [.agg [.str [], .int .i64 0, .int .i64 0, .sl 0 [] (some 0), .sl 0 [] (some 0), .sl 0 [] (some 0), .sl 0 [] (some 0)], .int .i64 1, .int .i64 19, .int .i64 4]) := by
 have h := qR0 [109, 97, 99, 104, 105, 110, 101, 32, 97, 59, 32, 105, 110, 112, 117, 116, 115, 32, 98] (by decide) (by decide +kernel)
 have e : qY0 [109, 97, 99, 104, 105, 110, 101, 32, 97, 59, 32, 105, 110, 112, 117, 116, 115, 32, 98] = .tup [.agg [.str [], .int .i64 0, .int .i64 0, .sl 0 [] (some 0), .sl 0 [] (some 0), .sl 0 [] (some 0), .sl 0 [] (some 0)], .int .i64 1, .int .i64 19, .int .i64 4] := by kernel_rfl
 rw [e] at h
 exact h
theorem qek9 : PC Tryz.prog G0 22 [.str []] (.tup [.agg [.str [], .int .i64 0, .int .i64 0, .sl 0 [] (some 0), .sl 0 [] (some 0), .sl 0 [] (some 0), .sl 0 [] (some 0)], .int .i64 1, .int .i64 1, .int .i64 4]) := by
 have h := qR0 [] (by decide) (by decide +kernel)
 have e : qY0 [] = .tup [.agg [.str [], .int .i64 0, .int .i64 0, .sl 0 [] (some 0), .sl 0 [] (some 0), .sl 0 [] (some 0), .sl 0 [] (some 0)], .int .i64 1, .int .i64 1, .int .i64 4] := by kernel_rfl
 rw [e] at h
 exact h
theorem zdg9 : PC Tryz.prog G0 13 [.agg lampG.A, .agg lampG.A] (.bool true) := by
 have h := qdv9 lampG lampG ks0 ks0
 have e : vdd9 lampG lampG = true := by kernel_rfl
 rw [e] at h
 exact h
theorem zek9 : PC Tryz.prog G0 17 [.agg lampG.A, .str [116, 105, 99, 107, 32, 112, 114, 101, 115, 115]] (.tup [.sl 1 [[.int .i64 1], [.int .i64 0]] (some 2), .int .i64 0]) := by
 have h := xbx9 lampG ks0 [116, 105, 99, 107, 32, 112, 114, 101, 115, 115] vaM9
 have e : zbn9 (kbJ9 lampG.ins [116, 105, 99, 107, 32, 112, 114, 101, 115, 115]) = .tup [.sl 1 [[.int .i64 1], [.int .i64 0]] (some 2), .int .i64 0] := by kernel_rfl
 rw [e] at h
 exact h
theorem xek9 : PC Tryz.prog G0 17 [.agg lampG.A, .str [45]] (.tup [.sl 0 [] (some 0), .int .i64 0]) := by
 have h := xbx9 lampG ks0 [45] vaM9
 have e : zbn9 (kbJ9 lampG.ins [45]) = .tup [.sl 0 [] (some 0), .int .i64 0] := by kernel_rfl
 rw [e] at h
 exact h
theorem wek9 : PC Tryz.prog G0 17 [.agg lampG.A, .str [116, 105, 99, 107, 32, 32, 112, 114, 101, 115, 115]] (.tup [.sl 0 [] (some 0), .int .i64 4]) := by
 have h := xbx9 lampG ks0 [116, 105, 99, 107, 32, 32, 112, 114, 101, 115, 115] vaM9
 have e : zbn9 (kbJ9 lampG.ins [116, 105, 99, 107, 32, 32, 112, 114, 101, 115, 115]) = .tup [.sl 0 [] (some 0), .int .i64 4] := by kernel_rfl
 rw [e] at h
 exact h
theorem vek9 : PC Tryz.prog G0 17 [.agg lampG.A, .str [116, 111, 99, 107]] (.tup [.sl 0 [] (some 0), .int .i64 7]) := by
 have h := xbx9 lampG ks0 [116, 111, 99, 107] vaM9
 have e : zbn9 (kbJ9 lampG.ins [116, 111, 99, 107]) = .tup [.sl 0 [] (some 0), .int .i64 7] := by kernel_rfl
 rw [e] at h
 exact h
theorem kek9 : PC Tryz.prog G0 18 [.agg lampG.A, .sl 1 [[.int .i64 1], [.int .i64 0]] (some 2)] (.tup [.str [116, 105, 99, 107, 32, 112, 114, 101, 115, 115], .int .i64 0]) := by
 have h := xbK9 lampG ks0 1 [1, 0] (some 2) (.inr rfl) (by decide)
 have e : wtA lampG [1, 0] = .tup [.str [116, 105, 99, 107, 32, 112, 114, 101, 115, 115], .int .i64 0] := by kernel_rfl
 rw [e] at h
 exact h
theorem qel9 : PC Tryz.prog G0 19 [.agg lampG.A, .sl 1 [[.int .i64 0], [.int .i64 (-1)], [.int .i64 1]] (some 3)] (.tup [.str [111, 110, 32, 33, 32, 111, 102, 102], .int .i64 0]) := by
 have h := qbb9 lampG ks0 1 [0, -1, 1] (some 3) (.inr rfl) (by decide)
 have e : otA lampG [0, -1, 1] = .tup [.str [111, 110, 32, 33, 32, 111, 102, 102], .int .i64 0] := by kernel_rfl
 rw [e] at h
 exact h
theorem zel9 : PC Tryz.prog G0 19 [.agg lampG.A, .sl 1 [[.int .i64 2]] (some 1)] (.tup [.str [], .int .i64 1]) := by
 have h := qbb9 lampG ks0 1 [2] (some 1) (.inr rfl) (by decide)
 have e : otA lampG [2] = .tup [.str [], .int .i64 1] := by kernel_rfl
 rw [e] at h
 exact h
theorem xel9 : PC Tryz.prog G0 20 [.sl 1 [[.int .i64 1], [.int .i64 0]] (some 2), .int .i64 0, .sl 1 [[.int .i64 1], [.int .i64 0]] (some 2), .int .i64 0] (.bool true) := by
 have h := wbx9 1 [1, 0] 2 0 1 [1, 0] (some 2) 0 (by decide) (by decide) (by decide) (by decide)
 rw [show (decide ((0 : Int) = 0) && decide (([1, 0] : List Int) = [1, 0]) && decide (2 = ([1, 0] : List Int).length)) = true by decide] at h
 exact h
theorem wel9 : PC Tryz.prog G0 20 [.sl 0 [] (some 0), .int .i64 0, .sl 0 [] (some 0), .int .i64 0] (.bool true) := by
 have h := wbx9 0 [] 0 0 0 [] (some 0) 0 (by decide) (by decide) (by decide) (by decide)
 rw [show (decide ((0 : Int) = 0) && decide (([] : List Int) = []) && decide (0 = ([] : List Int).length)) = true by decide] at h
 exact h
theorem vel9 : PC Tryz.prog G0 20 [.sl 0 [] (some 0), .int .i64 4, .sl 0 [] (some 0), .int .i64 4] (.bool true) := by
 have h := wbx9 0 [] 0 4 0 [] (some 0) 4 (by decide) (by decide) (by decide) (by decide)
 rw [show (decide ((4 : Int) = 4) && decide (([] : List Int) = []) && decide (0 = ([] : List Int).length)) = true by decide] at h
 exact h
theorem kel9 : PC Tryz.prog G0 20 [.sl 0 [] (some 0), .int .i64 7, .sl 0 [] (some 0), .int .i64 7] (.bool true) := by
 have h := wbx9 0 [] 0 7 0 [] (some 0) 7 (by decide) (by decide) (by decide) (by decide)
 rw [show (decide ((7 : Int) = 7) && decide (([] : List Int) = []) && decide (0 = ([] : List Int).length)) = true by decide] at h
 exact h
theorem xdg9 : PC Tryz.prog G0 16 [] (.bool true) := by
 have hid := fun p => zE0 p lampG
 have q0 := kdv9
 have q1 := qdg9
 have q2 := zdg9
 have q3 := xej9
 have q4 := wej9
 have q5 := vej9
 have q6 := kej9
 have q7 := qek9
 have q8 := zek9
 have q9 := xek9
 have q10 := wek9
 have q11 := vek9
 have q12 := kek9
 have q13 := qel9
 have q14 := zel9
 have q15 := xel9
 have q16 := wel9
 have q17 := vel9
 have q18 := kel9
 have hA : lampG.A = [.str lampG.nm, .int .i64 lampG.i, .int .i64 lampG.o, .sl lampG.zr (kc0 lampG.rows) lampG.cr, .sl lampG.zi (strs lampG.ins) lampG.ci, .sl lampG.zo (strs lampG.outs) lampG.co, .sl lampG.zs (strs lampG.sts) lampG.cs] := rfl
 rw [hA] at q0 q1 q2 q3 q8 q9 q10 q11 q12 q13 q14 hid
 clear hA
 generalize lampG = x at *
 have hi1 : ∀ p, idsE p (kc0 x.rows) = true := fun p => xf0 p _
 have hi2 : ∀ p, idsE p (strs x.ins) = true := fun p => xa0 p _
 have hi3 : ∀ p, idsE p (strs x.outs) = true := fun p => xa0 p _
 have hi4 : ∀ p, idsE p (strs x.sts) = true := fun p => xa0 p _
 refine xd0 0 220 [.tmp 0] Tryz.func16 rfl rfl rfl (by simp) ?_
 intro s hz
 clear hz
 repeat' (first|refine nv ?_|(with_reducible first|refine gG ?_ ?_|(refine And.intro (fun h => ?_) (fun h => ?_)) <;> try omega|refine andG ?_)|refine cp q0 ?_ (hi := by (simp [idsL, idsE, AV.ids, hid, hi1, hi2, hi3, hi4]))|refine cp q1 ?_ (hi := by (simp [idsL, idsE, AV.ids, hid, hi1, hi2, hi3, hi4]))|refine cp q2 ?_ (hi := by (simp [idsL, idsE, AV.ids, hid, hi1, hi2, hi3, hi4]))|refine cp q3 ?_ (hi := by (simp [idsL, idsE, AV.ids, hid, hi1, hi2, hi3, hi4]))|refine cp q4 ?_ (hi := by (simp [idsL, idsE, AV.ids, hid, hi1, hi2, hi3, hi4]))|refine cp q5 ?_ (hi := by (simp [idsL, idsE, AV.ids, hid, hi1, hi2, hi3, hi4]))|refine cp q6 ?_ (hi := by (simp [idsL, idsE, AV.ids, hid, hi1, hi2, hi3, hi4]))|refine cp q7 ?_ (hi := by (simp [idsL, idsE, AV.ids, hid, hi1, hi2, hi3, hi4]))|refine cp q8 ?_ (hi := by (simp [idsL, idsE, AV.ids, hid, hi1, hi2, hi3, hi4]))|refine cp q9 ?_ (hi := by (simp [idsL, idsE, AV.ids, hid, hi1, hi2, hi3, hi4]))|refine cp q10 ?_ (hi := by (simp [idsL, idsE, AV.ids, hid, hi1, hi2, hi3, hi4]))|refine cp q11 ?_ (hi := by (simp [idsL, idsE, AV.ids, hid, hi1, hi2, hi3, hi4]))|refine cp q12 ?_ (hi := by (simp [idsL, idsE, AV.ids, hid, hi1, hi2, hi3, hi4]))|refine cp q13 ?_ (hi := by (simp [idsL, idsE, AV.ids, hid, hi1, hi2, hi3, hi4]))|refine cp q14 ?_ (hi := by (simp [idsL, idsE, AV.ids, hid, hi1, hi2, hi3, hi4]))|refine cp q15 ?_ (hi := by (simp [idsL, idsE, AV.ids, hid, hi1, hi2, hi3, hi4]))|refine cp q16 ?_ (hi := by (simp [idsL, idsE, AV.ids, hid, hi1, hi2, hi3, hi4]))|refine cp q17 ?_ (hi := by (simp [idsL, idsE, AV.ids, hid, hi1, hi2, hi3, hi4]))|refine cp q18 ?_ (hi := by (simp [idsL, idsE, AV.ids, hid, hi1, hi2, hi3, hi4]))|simp (disch := try exact discB) only [push_cast, simprocAttr, Int.reduceEq])
 exact absurd (by kernel_rfl) h
end Go.Proofs
