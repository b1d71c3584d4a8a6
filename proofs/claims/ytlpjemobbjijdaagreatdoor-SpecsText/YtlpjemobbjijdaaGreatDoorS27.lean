import Derived.Test.YtlpjemobbjijdaaGreatDoorS26
import Derived.Test.YtlpjemobbjijdaaGreatDoorS13
import Derived.KernelRfl
namespace Go.Proofs
open Go Go.V
set_option linter.unusedVariables false
set_option linter.unusedSimpArgs false
set_option maxHeartbeats 0
set_option maxRecDepth 100000
theorem qs0 : lampG.Ok := ⟨.inr rfl, .inr rfl, .inr rfl, .inr rfl, by decide, by decide, by decide, by decide, by decide, by decide⟩
theorem zaK9 : chkS lampG = 0 := by kernel_rfl
theorem zcY9 : PC Tryz.prog G0 14 [.agg lampG.A] (.tup [.str [109, 97, 99, 104, 105, 110, 101, 32, 108, 97, 109, 112, 59, 10, 105, 110, 112, 117, 116, 115, 32, 112, 114, 101, 115, 115, 44, 32, 116, 105, 99, 107, 59, 10, 111, 117, 116, 112, 117, 116, 115, 32, 111, 110, 44, 32, 111, 102, 102, 59, 10, 115, 116, 97, 116, 101, 115, 32, 100, 97, 114, 107, 44, 32, 108, 105, 116, 59, 10, 100, 97, 114, 107, 32, 112, 114, 101, 115, 115, 32, 47, 32, 111, 110, 32, 45, 62, 32, 108, 105, 116, 59, 10, 100, 97, 114, 107, 32, 116, 105, 99, 107, 32, 47, 32, 111, 102, 102, 32, 45, 62, 32, 100, 97, 114, 107, 59, 10, 108, 105, 116, 32, 112, 114, 101, 115, 115, 32, 47, 32, 111, 102, 102, 32, 45, 62, 32, 100, 97, 114, 107, 59, 10, 101, 110, 100, 59, 10], .int .i64 0]) := by
 have h := kcE9 lampG qs0
 have e : zcz9 lampG = .tup [.str [109, 97, 99, 104, 105, 110, 101, 32, 108, 97, 109, 112, 59, 10, 105, 110, 112, 117, 116, 115, 32, 112, 114, 101, 115, 115, 44, 32, 116, 105, 99, 107, 59, 10, 111, 117, 116, 112, 117, 116, 115, 32, 111, 110, 44, 32, 111, 102, 102, 59, 10, 115, 116, 97, 116, 101, 115, 32, 100, 97, 114, 107, 44, 32, 108, 105, 116, 59, 10, 100, 97, 114, 107, 32, 112, 114, 101, 115, 115, 32, 47, 32, 111, 110, 32, 45, 62, 32, 108, 105, 116, 59, 10, 100, 97, 114, 107, 32, 116, 105, 99, 107, 32, 47, 32, 111, 102, 102, 32, 45, 62, 32, 100, 97, 114, 107, 59, 10, 108, 105, 116, 32, 112, 114, 101, 115, 115, 32, 47, 32, 111, 102, 102, 32, 45, 62, 32, 100, 97, 114, 107, 59, 10, 101, 110, 100, 59, 10], .int .i64 0] := by kernel_rfl
 rw [e] at h
 exact h
theorem web9 : PC Tryz.prog G0 22 [.str [109, 97, 99, 104, 105, 110, 101, 32, 108, 97, 109, 112, 59, 10, 105, 110, 112, 117, 116, 115, 32, 112, 114, 101, 115, 115, 44, 32, 116, 105, 99, 107, 59, 10, 111, 117, 116, 112, 117, 116, 115, 32, 111, 110, 44, 32, 111, 102, 102, 59, 10, 115, 116, 97, 116, 101, 115, 32, 100, 97, 114, 107, 44, 32, 108, 105, 116, 59, 10, 100, 97, 114, 107, 32, 112, 114, 101, 115, 115, 32, 47, 32, 111, 110, 32, 45, 62, 32, 108, 105, 116, 59, 10, 100, 97, 114, 107, 32, 116, 105, 99, 107, 32, 47, 32, 111, 102, 102, 32, 45, 62, 32, 100, 97, 114, 107, 59, 10, 108, 105, 116, 32, 112, 114, 101, 115, 115, 32, 47, 32, 111, 102, 102, 32, 45, 62, 32, 100, 97, 114, 107, 59, 10, 101, 110, 100, 59, 10]] (.tup [.agg lampG.A, .int .i64 0, .int .i64 0, .int .i64 0]) := by
 have h := zac9 [109, 97, 99, 104, 105, 110, 101, 32, 108, 97, 109, 112, 59, 10, 105, 110, 112, 117, 116, 115, 32, 112, 114, 101, 115, 115, 44, 32, 116, 105, 99, 107, 59, 10, 111, 117, 116, 112, 117, 116, 115, 32, 111, 110, 44, 32, 111, 102, 102, 59, 10, 115, 116, 97, 116, 101, 115, 32, 100, 97, 114, 107, 44, 32, 108, 105, 116, 59, 10, 100, 97, 114, 107, 32, 112, 114, 101, 115, 115, 32, 47, 32, 111, 110, 32, 45, 62, 32, 108, 105, 116, 59, 10, 100, 97, 114, 107, 32, 116, 105, 99, 107, 32, 47, 32, 111, 102, 102, 32, 45, 62, 32, 100, 97, 114, 107, 59, 10, 108, 105, 116, 32, 112, 114, 101, 115, 115, 32, 47, 32, 111, 102, 102, 32, 45, 62, 32, 100, 97, 114, 107, 59, 10, 101, 110, 100, 59, 10] (by decide) (by decide +kernel)
 have e : waf9 [109, 97, 99, 104, 105, 110, 101, 32, 108, 97, 109, 112, 59, 10, 105, 110, 112, 117, 116, 115, 32, 112, 114, 101, 115, 115, 44, 32, 116, 105, 99, 107, 59, 10, 111, 117, 116, 112, 117, 116, 115, 32, 111, 110, 44, 32, 111, 102, 102, 59, 10, 115, 116, 97, 116, 101, 115, 32, 100, 97, 114, 107, 44, 32, 108, 105, 116, 59, 10, 100, 97, 114, 107, 32, 112, 114, 101, 115, 115, 32, 47, 32, 111, 110, 32, 45, 62, 32, 108, 105, 116, 59, 10, 100, 97, 114, 107, 32, 116, 105, 99, 107, 32, 47, 32, 111, 102, 102, 32, 45, 62, 32, 100, 97, 114, 107, 59, 10, 108, 105, 116, 32, 112, 114, 101, 115, 115, 32, 47, 32, 111, 102, 102, 32, 45, 62, 32, 100, 97, 114, 107, 59, 10, 101, 110, 100, 59, 10] = .tup [.agg lampG.A, .int .i64 0, .int .i64 0, .int .i64 0] := by kernel_rfl
 rw [e] at h
 exact h
theorem veb9 : PC Tryz.prog G0 22 [.str [109, 97, 99, 104, 105, 110, 101, 32, 108, 97, 109, 112, 59, 10, 105, 110, 112, 117, 116, 115, 32, 112, 114, 101, 115, 115, 44, 32, 116, 105, 99, 107, 59, 10, 111, 117, 116, 112, 117, 116, 115, 32, 111, 110, 44, 32, 111, 102, 102, 59, 10, 115, 116, 97, 116, 101, 115, 32, 100, 97, 114, 107, 44, 32, 108, 105, 116, 59, 10, 100, 97, 114, 107, 32, 112, 114, 101, 115, 115, 32, 47, 32, 111, 110, 32, 45, 62, 32, 108, 105, 116, 59, 10, 100, 97, 114, 107, 32, 116, 111, 99, 107, 32, 47, 32, 111, 102, 102, 32, 45, 62, 32, 100, 97, 114, 107, 59, 10, 108, 105, 116, 32, 112, 114, 101, 115, 115, 32, 47, 32, 111, 102, 102, 32, 45, 62, 32, 100, 97, 114, 107, 59, 10, 101, 110, 100, 59, 10]] (.tup [.agg [.str [], .int .i64 0, .int .i64 0, .sl 0 [] (some 0), .sl 0 [] (some 0), .sl 0 [] (some 0), .sl 0 [] (some 0)], .int .i64 6, .int .i64 6, .int .i64 7]) := by
 have h := zac9 [109, 97, 99, 104, 105, 110, 101, 32, 108, 97, 109, 112, 59, 10, 105, 110, 112, 117, 116, 115, 32, 112, 114, 101, 115, 115, 44, 32, 116, 105, 99, 107, 59, 10, 111, 117, 116, 112, 117, 116, 115, 32, 111, 110, 44, 32, 111, 102, 102, 59, 10, 115, 116, 97, 116, 101, 115, 32, 100, 97, 114, 107, 44, 32, 108, 105, 116, 59, 10, 100, 97, 114, 107, 32, 112, 114, 101, 115, 115, 32, 47, 32, 111, 110, 32, 45, 62, 32, 108, 105, 116, 59, 10, 100, 97, 114, 107, 32, 116, 111, 99, 107, 32, 47, 32, 111, 102, 102, 32, 45, 62, 32, 100, 97, 114, 107, 59, 10, 108, 105, 116, 32, 112, 114, 101, 115, 115, 32, 47, 32, 111, 102, 102, 32, 45, 62, 32, 100, 97, 114, 107, 59, 10, 101, 110, 100, 59, 10] (by decide) (by decide +kernel)
 have e : waf9 [109, 97, 99, 104, 105, 110, 101, 32, 108, 97, 109, 112, 59, 10, 105, 110, 112, 117, 116, 115, 32, 112, 114, 101, 115, 115, 44, 32, 116, 105, 99, 107, 59, 10, 111, 117, 116, 112, 117, 116, 115, 32, 111, 110, 44, 32, 111, 102, 102, 59, 10, 115, 116, 97, 116, 101, 115, 32, 100, 97, 114, 107, 44, 32, 108, 105, 116, 59, 10, 100, 97, 114, 107, 32, 112, 114, 101, 115, 115, 32, 47, 32, 111, 110, 32, 45, 62, 32, 108, 105, 116, 59, 10, 100, 97, 114, 107, 32, 116, 111, 99, 107, 32, 47, 32, 111, 102, 102, 32, 45, 62, 32, 100, 97, 114, 107, 59, 10, 108, 105, 116, 32, 112, 114, 101, 115, 115, 32, 47, 32, 111, 102, 102, 32, 45, 62, 32, 100, 97, 114, 107, 59, 10, 101, 110, 100, 59, 10] = .tup [.agg [.str [], .int .i64 0, .int .i64 0, .sl 0 [] (some 0), .sl 0 [] (some 0), .sl 0 [] (some 0), .sl 0 [] (some 0)], .int .i64 6, .int .i64 6, .int .i64 7] := by kernel_rfl
 rw [e] at h
 exact h
theorem keb9 : PC Tryz.prog G0 22 [.str [109, 97, 99, 104, 105, 110, 101, 32, 101, 110, 100, 59]] (.tup [.agg [.str [], .int .i64 0, .int .i64 0, .sl 0 [] (some 0), .sl 0 [] (some 0), .sl 0 [] (some 0), .sl 0 [] (some 0)], .int .i64 1, .int .i64 9, .int .i64 10]) := by
 have h := zac9 [109, 97, 99, 104, 105, 110, 101, 32, 101, 110, 100, 59] (by decide) (by decide +kernel)
 have e : waf9 [109, 97, 99, 104, 105, 110, 101, 32, 101, 110, 100, 59] = .tup [.agg [.str [], .int .i64 0, .int .i64 0, .sl 0 [] (some 0), .sl 0 [] (some 0), .sl 0 [] (some 0), .sl 0 [] (some 0)], .int .i64 1, .int .i64 9, .int .i64 10] := by kernel_rfl
 rw [e] at h
 exact h
theorem qec9 : PC Tryz.prog G0 22 [.str [109, 97, 99, 104, 105, 110, 101, 32, 97, 59, 32, 105, 110, 112, 117, 116, 115, 32, 98]] (.tup [.agg [.str [], .int .i64 0, .int .i64 0, .sl 0 [] (some 0), .sl 0 [] (some 0), .sl 0 [] (some 0), .sl 0 [] (some 0)], .int .i64 1, .int .i64 19, .int .i64 4]) := by
 have h := zac9 [109, 97, 99, 104, 105, 110, 101, 32, 97, 59, 32, 105, 110, 112, 117, 116, 115, 32, 98] (by decide) (by decide +kernel)
 have e : waf9 [109, 97, 99, 104, 105, 110, 101, 32, 97, 59, 32, 105, 110, 112, 117, 116, 115, 32, 98] = .tup [.agg [.str [], .int .i64 0, .int .i64 0, .sl 0 [] (some 0), .sl 0 [] (some 0), .sl 0 [] (some 0), .sl 0 [] (some 0)], .int .i64 1, .int .i64 19, .int .i64 4] := by kernel_rfl
 rw [e] at h
 exact h
theorem zec9 : PC Tryz.prog G0 22 [.str []] (.tup [.agg [.str [], .int .i64 0, .int .i64 0, .sl 0 [] (some 0), .sl 0 [] (some 0), .sl 0 [] (some 0), .sl 0 [] (some 0)], .int .i64 1, .int .i64 1, .int .i64 4]) := by
 have h := zac9 [] (by decide) (by decide +kernel)
 have e : waf9 [] = .tup [.agg [.str [], .int .i64 0, .int .i64 0, .sl 0 [] (some 0), .sl 0 [] (some 0), .sl 0 [] (some 0), .sl 0 [] (some 0)], .int .i64 1, .int .i64 1, .int .i64 4] := by kernel_rfl
 rw [e] at h
 exact h
theorem xcY9 : PC Tryz.prog G0 13 [.agg lampG.A, .agg lampG.A] (.bool true) := by
 have h := kcb9 lampG lampG qs0 qs0
 have e : vcb9 lampG lampG = true := by kernel_rfl
 rw [e] at h
 exact h
theorem xec9 : PC Tryz.prog G0 17 [.agg lampG.A, .str [116, 105, 99, 107, 32, 112, 114, 101, 115, 115]] (.tup [.sl 1 [[.int .i64 1], [.int .i64 0]] (some 2), .int .i64 0]) := by
 have h := xbt9 lampG qs0 [116, 105, 99, 107, 32, 112, 114, 101, 115, 115] zaK9
 have e : qbk9 (qbG9 lampG.ins [116, 105, 99, 107, 32, 112, 114, 101, 115, 115]) = .tup [.sl 1 [[.int .i64 1], [.int .i64 0]] (some 2), .int .i64 0] := by kernel_rfl
 rw [e] at h
 exact h
theorem wec9 : PC Tryz.prog G0 17 [.agg lampG.A, .str [45]] (.tup [.sl 0 [] (some 0), .int .i64 0]) := by
 have h := xbt9 lampG qs0 [45] zaK9
 have e : qbk9 (qbG9 lampG.ins [45]) = .tup [.sl 0 [] (some 0), .int .i64 0] := by kernel_rfl
 rw [e] at h
 exact h
theorem vec9 : PC Tryz.prog G0 17 [.agg lampG.A, .str [116, 105, 99, 107, 32, 32, 112, 114, 101, 115, 115]] (.tup [.sl 0 [] (some 0), .int .i64 4]) := by
 have h := xbt9 lampG qs0 [116, 105, 99, 107, 32, 32, 112, 114, 101, 115, 115] zaK9
 have e : qbk9 (qbG9 lampG.ins [116, 105, 99, 107, 32, 32, 112, 114, 101, 115, 115]) = .tup [.sl 0 [] (some 0), .int .i64 4] := by kernel_rfl
 rw [e] at h
 exact h
theorem kec9 : PC Tryz.prog G0 17 [.agg lampG.A, .str [116, 111, 99, 107]] (.tup [.sl 0 [] (some 0), .int .i64 7]) := by
 have h := xbt9 lampG qs0 [116, 111, 99, 107] zaK9
 have e : qbk9 (qbG9 lampG.ins [116, 111, 99, 107]) = .tup [.sl 0 [] (some 0), .int .i64 7] := by kernel_rfl
 rw [e] at h
 exact h
theorem qed9 : PC Tryz.prog G0 18 [.agg lampG.A, .sl 1 [[.int .i64 1], [.int .i64 0]] (some 2)] (.tup [.str [116, 105, 99, 107, 32, 112, 114, 101, 115, 115], .int .i64 0]) := by
 have h := wbG9 lampG qs0 1 [1, 0] (some 2) (.inr rfl) (by decide)
 have e : wtA lampG [1, 0] = .tup [.str [116, 105, 99, 107, 32, 112, 114, 101, 115, 115], .int .i64 0] := by kernel_rfl
 rw [e] at h
 exact h
theorem zed9 : PC Tryz.prog G0 19 [.agg lampG.A, .sl 1 [[.int .i64 0], [.int .i64 (-1)], [.int .i64 1]] (some 3)] (.tup [.str [111, 110, 32, 33, 32, 111, 102, 102], .int .i64 0]) := by
 have h := kaX9 lampG qs0 1 [0, -1, 1] (some 3) (.inr rfl) (by decide)
 have e : otA lampG [0, -1, 1] = .tup [.str [111, 110, 32, 33, 32, 111, 102, 102], .int .i64 0] := by kernel_rfl
 rw [e] at h
 exact h
theorem xed9 : PC Tryz.prog G0 19 [.agg lampG.A, .sl 1 [[.int .i64 2]] (some 1)] (.tup [.str [], .int .i64 1]) := by
 have h := kaX9 lampG qs0 1 [2] (some 1) (.inr rfl) (by decide)
 have e : otA lampG [2] = .tup [.str [], .int .i64 1] := by kernel_rfl
 rw [e] at h
 exact h
theorem wed9 : PC Tryz.prog G0 20 [.sl 1 [[.int .i64 1], [.int .i64 0]] (some 2), .int .i64 0, .sl 1 [[.int .i64 1], [.int .i64 0]] (some 2), .int .i64 0] (.bool true) := by
 have h := wbt9 1 [1, 0] 2 0 1 [1, 0] (some 2) 0 (by decide) (by decide) (by decide) (by decide)
 rw [show (decide ((0 : Int) = 0) && decide (([1, 0] : List Int) = [1, 0]) && decide (2 = ([1, 0] : List Int).length)) = true by decide] at h
 exact h
theorem ved9 : PC Tryz.prog G0 20 [.sl 0 [] (some 0), .int .i64 0, .sl 0 [] (some 0), .int .i64 0] (.bool true) := by
 have h := wbt9 0 [] 0 0 0 [] (some 0) 0 (by decide) (by decide) (by decide) (by decide)
 rw [show (decide ((0 : Int) = 0) && decide (([] : List Int) = []) && decide (0 = ([] : List Int).length)) = true by decide] at h
 exact h
theorem ked9 : PC Tryz.prog G0 20 [.sl 0 [] (some 0), .int .i64 4, .sl 0 [] (some 0), .int .i64 4] (.bool true) := by
 have h := wbt9 0 [] 0 4 0 [] (some 0) 4 (by decide) (by decide) (by decide) (by decide)
 rw [show (decide ((4 : Int) = 4) && decide (([] : List Int) = []) && decide (0 = ([] : List Int).length)) = true by decide] at h
 exact h
theorem qee9 : PC Tryz.prog G0 20 [.sl 0 [] (some 0), .int .i64 7, .sl 0 [] (some 0), .int .i64 7] (.bool true) := by
 have h := wbt9 0 [] 0 7 0 [] (some 0) 7 (by decide) (by decide) (by decide) (by decide)
 rw [show (decide ((7 : Int) = 7) && decide (([] : List Int) = []) && decide (0 = ([] : List Int).length)) = true by decide] at h
 exact h
theorem wcY9 : PC Tryz.prog G0 16 [] (.bool true) := by
 have hid := fun p => zz0 p lampG
 have q0 := kdn9
 have q1 := zcY9
 have q2 := xcY9
 have q3 := web9
 have q4 := veb9
 have q5 := keb9
 have q6 := qec9
 have q7 := zec9
 have q8 := xec9
 have q9 := wec9
 have q10 := vec9
 have q11 := kec9
 have q12 := qed9
 have q13 := zed9
 have q14 := xed9
 have q15 := wed9
 have q16 := ved9
 have q17 := ked9
 have q18 := qee9
 have hA : lampG.A = [.str lampG.nm, .int .i64 lampG.i, .int .i64 lampG.o, .sl lampG.zr (vc0 lampG.rows) lampG.cr, .sl lampG.zi (strs lampG.ins) lampG.ci, .sl lampG.zo (strs lampG.outs) lampG.co, .sl lampG.zs (strs lampG.sts) lampG.cs] := rfl
 rw [hA] at q0 q1 q2 q3 q8 q9 q10 q11 q12 q13 q14 hid
 clear hA
 generalize lampG = x at *
 have hi1 : ∀ p, idsE p (vc0 x.rows) = true := fun p => kf0 p _
 have hi2 : ∀ p, idsE p (strs x.ins) = true := fun p => xa0 p _
 have hi3 : ∀ p, idsE p (strs x.outs) = true := fun p => xa0 p _
 have hi4 : ∀ p, idsE p (strs x.sts) = true := fun p => xa0 p _
 refine zd0 0 220 [.tmp 0] Tryz.func16 rfl rfl rfl (by simp) ?_
 intro s hz
 clear hz
 repeat' (first|refine nv ?_|(with_reducible first|refine gG ?_ ?_|(refine And.intro (fun h => ?_) (fun h => ?_)) <;> try omega|refine andG ?_)|refine cp q0 ?_ (hi := by (simp [idsL, idsE, AV.ids, hid, hi1, hi2, hi3, hi4]))|refine cp q1 ?_ (hi := by (simp [idsL, idsE, AV.ids, hid, hi1, hi2, hi3, hi4]))|refine cp q2 ?_ (hi := by (simp [idsL, idsE, AV.ids, hid, hi1, hi2, hi3, hi4]))|refine cp q3 ?_ (hi := by (simp [idsL, idsE, AV.ids, hid, hi1, hi2, hi3, hi4]))|refine cp q4 ?_ (hi := by (simp [idsL, idsE, AV.ids, hid, hi1, hi2, hi3, hi4]))|refine cp q5 ?_ (hi := by (simp [idsL, idsE, AV.ids, hid, hi1, hi2, hi3, hi4]))|refine cp q6 ?_ (hi := by (simp [idsL, idsE, AV.ids, hid, hi1, hi2, hi3, hi4]))|refine cp q7 ?_ (hi := by (simp [idsL, idsE, AV.ids, hid, hi1, hi2, hi3, hi4]))|refine cp q8 ?_ (hi := by (simp [idsL, idsE, AV.ids, hid, hi1, hi2, hi3, hi4]))|refine cp q9 ?_ (hi := by (simp [idsL, idsE, AV.ids, hid, hi1, hi2, hi3, hi4]))|refine cp q10 ?_ (hi := by (simp [idsL, idsE, AV.ids, hid, hi1, hi2, hi3, hi4]))|refine cp q11 ?_ (hi := by (simp [idsL, idsE, AV.ids, hid, hi1, hi2, hi3, hi4]))|refine cp q12 ?_ (hi := by (simp [idsL, idsE, AV.ids, hid, hi1, hi2, hi3, hi4]))|refine cp q13 ?_ (hi := by (simp [idsL, idsE, AV.ids, hid, hi1, hi2, hi3, hi4]))|refine cp q14 ?_ (hi := by (simp [idsL, idsE, AV.ids, hid, hi1, hi2, hi3, hi4]))|refine cp q15 ?_ (hi := by (simp [idsL, idsE, AV.ids, hid, hi1, hi2, hi3, hi4]))|refine cp q16 ?_ (hi := by (simp [idsL, idsE, AV.ids, hid, hi1, hi2, hi3, hi4]))|refine cp q17 ?_ (hi := by (simp [idsL, idsE, AV.ids, hid, hi1, hi2, hi3, hi4]))|refine cp q18 ?_ (hi := by (simp [idsL, idsE, AV.ids, hid, hi1, hi2, hi3, hi4]))|simp (disch := try exact discB) only [push_cast, simprocAttr, Int.reduceEq])
 exact absurd (by kernel_rfl) h
end Go.Proofs
