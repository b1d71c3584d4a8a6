import Derived.Test.YtfdnlhegmdhcjaaDoorF22
import Derived.Test.YtfdnlhegmdhcjaaDoorF21
import Derived.Test.YtfdnlhegmdhcjaaDoorF11
namespace Go.Proofs
open Go Go.V
set_option linter.unusedVariables false
set_option linter.unusedSimpArgs false
set_option maxHeartbeats 0
def l0 : List Row := [([(1, 0)], some 1), ([(0, 1)], some 1)]
def lv1l : List Flt := [⟨0, 0, 0, 0, 0, 1⟩, ⟨0, 1, 0, 0, 0, 0⟩, ⟨1, 0, 0, 0, 0, 0⟩, ⟨1, 1, 0, 1, 0, 0⟩, ⟨2, 0, 0, 0, 0, 0⟩, ⟨2, 1, 0, 0, 0, 0⟩]
def lv2l : List Flt := [⟨3, 0, 0, 0, 0, 0⟩, ⟨3, 0, 0, 1, 0, 0⟩, ⟨3, 1, 0, 0, 0, 0⟩, ⟨3, 1, 0, 1, 0, 0⟩]
def lv3l : List Flt := [⟨4, 0, 0, 0, 0, 0⟩, ⟨4, 1, 0, 0, 0, 1⟩]
def wl1 : List Bs := [[111, 117, 116, 112, 117, 116, 32, 48, 32, 48, 32, 49], [111, 117, 116, 112, 117, 116, 32, 49, 32, 48, 32, 48], [116, 114, 97, 110, 115, 102, 101, 114, 32, 48, 32, 48, 32, 48], [116, 114, 97, 110, 115, 102, 101, 114, 32, 49, 32, 48, 32, 49], [109, 105, 115, 115, 105, 110, 103, 32, 48, 32, 48], [109, 105, 115, 115, 105, 110, 103, 32, 49, 32, 48]]
def wl2 : List Bs := [[101, 120, 116, 114, 97, 32, 48, 32, 48, 32, 48], [101, 120, 116, 114, 97, 32, 48, 32, 48, 32, 49], [101, 120, 116, 114, 97, 32, 49, 32, 48, 32, 48], [101, 120, 116, 114, 97, 32, 49, 32, 48, 32, 49]]
def wl3 : List Bs := [[100, 101, 101, 112, 32, 48, 32, 48, 32, 48, 32, 48], [100, 101, 101, 112, 32, 49, 32, 48, 32, 48, 32, 49]]
theorem a1v : allM 1 2 l0 [0, 1, 2] 6 = .tup [.sl 6 (fls lv1l) (some 6), .int .i64 0] := by kernel_rfl
theorem a2v : allM 1 2 l0 [3] 65536 = .tup [.sl 6 (fls lv2l) (some 4), .int .i64 0] := by kernel_rfl
theorem a3v : allM 1 2 l0 [4] 2 = .tup [.sl 6 (fls lv3l) (some 2), .int .i64 0] := by kernel_rfl
theorem a4v : cntM 1 2 l0 [0, 1, 2, 3, 4] = .tup [.int .i64 12, .int .i64 0] := by kernel_rfl
theorem a5v : allM 1 2 l0 [0, 1, 2, 3, 4] 11 = .tup [.sl 0 [] (some 0), .int .i64 13] := by kernel_rfl
theorem a6v : allM 1 2 l0 [1, 0] 11 = .tup [.sl 0 [] (some 0), .int .i64 1] := by kernel_rfl
def l1 : List Row := [([(2, 0)], some 1), ([(0, 1)], some 1), ([(0, 0)], some 1)]
theorem a7v : appV 1 2 l0 ⟨4, 0, 0, 0, 0, 0⟩ 1 = .tup [.agg [.int .i64 1, .int .i64 2, .sl 1 (rowsA l1) (some 3)], .int .i64 0] := by kernel_rfl
theorem p1v : parV [109, 105, 115, 115, 105, 110, 103, 32, 48, 32, 48, 32, 48] = .tup [.agg (flA fl0), .int .i64 4] := by kernel_rfl
theorem p2v : parV [111, 117, 116, 112, 117, 116, 32, 48, 48, 32, 48, 32, 49] = .tup [.agg (flA fl0), .int .i64 4] := by kernel_rfl
theorem t1v : ∀ k, k < lv1l.length → textF (lv1l.getD k fl0) = some (wl1.getD k []) := by decide +kernel
theorem t2v : ∀ k, k < lv2l.length → textF (lv2l.getD k fl0) = some (wl2.getD k []) := by decide +kernel
theorem t3v : ∀ k, k < lv3l.length → textF (lv3l.getD k fl0) = some (wl3.getD k []) := by decide +kernel
theorem len0 : ∀ j, j < l0.length → (l0.getD j ([], none)).1.length ≤ 1000000 := by decide
theorem len1 : ∀ j, j < l1.length → (l1.getD j ([], none)).1.length ≤ 1000000 := by decide
theorem cnt0 : (allF (edgesOf l0) (1 : Int).toNat (2 : Int).toNat [0, 1, 2, 3, 4]).length ≤ 100000000 := by decide +kernel
set_option maxRecDepth 100000 in
theorem lives11 : PC Tryd.prog G0 11 [] (.bool true) := by
 have h1 := all22 1 2 l0 1 (some 2) 1 [0, 1, 2] (some 3) 6 (.inr rfl) (by decide) len0 (.inr rfl) (by decide)
 have h2 := all22 1 2 l0 1 (some 2) 1 [3] (some 1) 65536 (.inr rfl) (by decide) len0 (.inr rfl) (by decide)
 have h3 := all22 1 2 l0 1 (some 2) 1 [4] (some 1) 2 (.inr rfl) (by decide) len0 (.inr rfl) (by decide)
 have h4 := count17 1 2 l0 1 (some 2) 1 [0, 1, 2, 3, 4] (some 5) (.inr rfl) (by decide) len0 (.inr rfl) (by decide) cnt0
 have h5 := all22 1 2 l0 1 (some 2) 1 [0, 1, 2, 3, 4] (some 5) 11 (.inr rfl) (by decide) len0 (.inr rfl) (by decide)
 have h6 := all22 1 2 l0 1 (some 2) 1 [1, 0] (some 2) 11 (.inr rfl) (by decide) len0 (.inr rfl) (by decide)
 have h7 := apply12P 1 2 l0 (some 2) 1 ⟨4, 0, 0, 0, 0, 0⟩ 1 (.inl rfl) (.inr rfl) (by decide) len0
 have p1 := parse30 [109, 105, 115, 115, 105, 110, 103, 32, 48, 32, 48, 32, 48] (by decide)
 have p2 := parse30 [111, 117, 116, 112, 117, 116, 32, 48, 48, 32, 48, 32, 49] (by decide)
 have t1 := texts32 lv1l wl1 (some 6) (some 6) rfl (by decide) (by decide) (by decide) t1v
 have t2 := texts32 lv2l wl2 (some 4) (some 4) rfl (by decide) (by decide) (by decide) t2v
 have t3 := texts32 lv3l wl3 (some 2) (some 2) rfl (by decide) (by decide) (by decide) t3v
 have hs := refSame14 1 2 l1 1 (some 3) 1 2 l1 1 (some 3) (.inr rfl) (.inr rfl) (by decide) (by decide) len1 len1
 rw [decide_eq_true ⟨rfl, rfl, rfl⟩] at hs
 rw [a1v] at h1; rw [a2v] at h2; rw [a3v] at h3; rw [a4v] at h4; rw [a5v] at h5; rw [a6v] at h6; rw [a7v] at h7
 rw [p1v] at p1; rw [p2v] at p2
 have e0 : (fls lv3l).getD 0 [] = [.int .i64 4, .int .i64 0, .int .i64 0, .int .i64 0, .int .i64 0, .int .i64 0] := rfl
 have e3 : (fls lv3l).length = 2 := rfl
 simp only [ints, List.map_cons, List.map_nil, strs, wl1, wl2, wl3, flA, fl0] at h1 h2 h3 h4 h5 h6 h7 p1 p2 t1 t2 t3
 have hR0 : rowsA l0 = [[.sl 2 [[.int .i64 1, .int .i64 0]] (some 1)], [.sl 2 [[.int .i64 0, .int .i64 1]] (some 1)]] := rfl
 have hR1 : rowsA l1 = [[.sl 2 [[.int .i64 2, .int .i64 0]] (some 1)], [.sl 2 [[.int .i64 0, .int .i64 1]] (some 1)], [.sl 2 [[.int .i64 0, .int .i64 0]] (some 1)]] := rfl
 rw [hR0] at h1 h2 h3 h4 h5 h6 h7
 rw [hR1] at h7 hs
 have i1 := fun p => idsE_fls p lv1l
 have i2 := fun p => idsE_fls p lv2l
 have i3 := fun p => idsE_fls p lv3l
 generalize fls lv1l = F1 at *
 generalize fls lv2l = F2 at *
 generalize fls lv3l = F3 at *
 refine pc_go 0 141 [.tmp 0] Tryd.func11 rfl rfl rfl (by simp) ?_
 intro s hz
 clear hz
 repeat' (first|(((first|(refine a0_ ?_; first|refine a1_ rfl rfl ?_|refine a2_ rfl ?_|refine a3_ rfl rfl ?_|refine a4_ rfl ?_|refine ak_ rfl rfl ?_|refine a5_ rfl rfl rfl ?_|refine a6_ rfl rfl ?_|refine a7_ rfl rfl ?_|refine a8_ rfl rfl ?_|refine a9_ rfl rfl rfl ?_)|(refine g0_ ?_; first|refine g1_ rfl ?_|refine g2_ rfl rfl ?_|refine go_drawN (dr := allQ) (p := [0, 1, 1, 1, 1, 1, 1, 1, 1, 1]) [] [] [(8, 9)] rfl rfl mixed (by kernel_rfl) ?_|refine go_draw (dr := allQ) rfl rfl mixed (by first|assumption|kernel_rfl) ?_|refine g4_ rfl ?_|refine g5_ rfl ?_|refine g6_ rfl ?_|refine g7_ rfl ?_|refine g8_ rfl ?_|refine ga_ rfl ?_|refine gb_ rfl ?_)|(refine o0_ ?_; first|refine o1_ ?_|refine o2_ ?_|refine o3_ ?_|refine o4_ ?_|refine o5_ ?_|refine o6_ rfl ?_|refine o7_ rfl ?_|refine o8_ ?_|refine o9_ ?_|refine oa_ ?_|refine ob_ ?_|refine oc_ ?_|refine od_ ?_|refine oe_ ?_|refine of_ ?_|refine og_ ?_|refine oh_ ?_|refine oi_ ?_|refine oj_ ?_|refine ok_ ?_))) <;> (try simp (disch := first|omega|(simp only [List.length_map, lenF, lenS]; omega)) only [push_cast, ↓reduceIte, reduceIte, reduceCtorEq, Nat.reduceAdd, Nat.reduceLT, Nat.reduceEqDiff, Nat.reduceLeDiff, Int.reduceAdd, Int.reduceLT, Int.reduceLE, Nat.reduceMul, Nat.add_zero, e0, e3, Int.reduceEq, Int.reduceToNat, Int.reduceLT, Int.reduceLE]))|refine at_go ?_|(with_reducible refine And.intro (at_go ?_) (at_go ?_))|((with_reducible refine And.intro (fun h => ?_) (fun h => ?_)) <;> try (exfalso; omega))|(with_reducible refine And.intro (by first|omega|(simp only [maxLen]; omega)) ?_)|(refine And.intro ⟨[_], rfl⟩ ?_)|(refine And.intro ⟨[], by simp only [List.append_nil]⟩ ?_)|(first|(refine ⟨_, _, pc_lift (h1) (by (simp [idsL, idsE, AV.ids, i1, i2, i3])) _, ?_⟩)|(refine ⟨_, pc_lift (h1) (by (simp [idsL, idsE, AV.ids, i1, i2, i3])) _, ?_⟩)|(refine ⟨_, fun _ => pc_lift (h1) (by (simp [idsL, idsE, AV.ids, i1, i2, i3])) _, ?_⟩)|(refine ⟨_, _, pc_lift (h2) (by (simp [idsL, idsE, AV.ids, i1, i2, i3])) _, ?_⟩)|(refine ⟨_, pc_lift (h2) (by (simp [idsL, idsE, AV.ids, i1, i2, i3])) _, ?_⟩)|(refine ⟨_, fun _ => pc_lift (h2) (by (simp [idsL, idsE, AV.ids, i1, i2, i3])) _, ?_⟩)|(refine ⟨_, _, pc_lift (h3) (by (simp [idsL, idsE, AV.ids, i1, i2, i3])) _, ?_⟩)|(refine ⟨_, pc_lift (h3) (by (simp [idsL, idsE, AV.ids, i1, i2, i3])) _, ?_⟩)|(refine ⟨_, fun _ => pc_lift (h3) (by (simp [idsL, idsE, AV.ids, i1, i2, i3])) _, ?_⟩)|(refine ⟨_, _, pc_lift (h4) (by (simp [idsL, idsE, AV.ids, i1, i2, i3])) _, ?_⟩)|(refine ⟨_, pc_lift (h4) (by (simp [idsL, idsE, AV.ids, i1, i2, i3])) _, ?_⟩)|(refine ⟨_, fun _ => pc_lift (h4) (by (simp [idsL, idsE, AV.ids, i1, i2, i3])) _, ?_⟩)|(refine ⟨_, _, pc_lift (h5) (by (simp [idsL, idsE, AV.ids, i1, i2, i3])) _, ?_⟩)|(refine ⟨_, pc_lift (h5) (by (simp [idsL, idsE, AV.ids, i1, i2, i3])) _, ?_⟩)|(refine ⟨_, fun _ => pc_lift (h5) (by (simp [idsL, idsE, AV.ids, i1, i2, i3])) _, ?_⟩)|(refine ⟨_, _, pc_lift (h6) (by (simp [idsL, idsE, AV.ids, i1, i2, i3])) _, ?_⟩)|(refine ⟨_, pc_lift (h6) (by (simp [idsL, idsE, AV.ids, i1, i2, i3])) _, ?_⟩)|(refine ⟨_, fun _ => pc_lift (h6) (by (simp [idsL, idsE, AV.ids, i1, i2, i3])) _, ?_⟩)|(refine ⟨_, _, pc_lift (h7) (by (simp [idsL, idsE, AV.ids, i1, i2, i3])) _, ?_⟩)|(refine ⟨_, pc_lift (h7) (by (simp [idsL, idsE, AV.ids, i1, i2, i3])) _, ?_⟩)|(refine ⟨_, fun _ => pc_lift (h7) (by (simp [idsL, idsE, AV.ids, i1, i2, i3])) _, ?_⟩)|(refine ⟨_, _, pc_lift (p1) (by (simp [idsL, idsE, AV.ids, i1, i2, i3])) _, ?_⟩)|(refine ⟨_, pc_lift (p1) (by (simp [idsL, idsE, AV.ids, i1, i2, i3])) _, ?_⟩)|(refine ⟨_, fun _ => pc_lift (p1) (by (simp [idsL, idsE, AV.ids, i1, i2, i3])) _, ?_⟩)|(refine ⟨_, _, pc_lift (p2) (by (simp [idsL, idsE, AV.ids, i1, i2, i3])) _, ?_⟩)|(refine ⟨_, pc_lift (p2) (by (simp [idsL, idsE, AV.ids, i1, i2, i3])) _, ?_⟩)|(refine ⟨_, fun _ => pc_lift (p2) (by (simp [idsL, idsE, AV.ids, i1, i2, i3])) _, ?_⟩)|(refine ⟨_, _, pc_lift (t1) (by (simp [idsL, idsE, AV.ids, i1, i2, i3])) _, ?_⟩)|(refine ⟨_, pc_lift (t1) (by (simp [idsL, idsE, AV.ids, i1, i2, i3])) _, ?_⟩)|(refine ⟨_, fun _ => pc_lift (t1) (by (simp [idsL, idsE, AV.ids, i1, i2, i3])) _, ?_⟩)|(refine ⟨_, _, pc_lift (t2) (by (simp [idsL, idsE, AV.ids, i1, i2, i3])) _, ?_⟩)|(refine ⟨_, pc_lift (t2) (by (simp [idsL, idsE, AV.ids, i1, i2, i3])) _, ?_⟩)|(refine ⟨_, fun _ => pc_lift (t2) (by (simp [idsL, idsE, AV.ids, i1, i2, i3])) _, ?_⟩)|(refine ⟨_, _, pc_lift (t3) (by (simp [idsL, idsE, AV.ids, i1, i2, i3])) _, ?_⟩)|(refine ⟨_, pc_lift (t3) (by (simp [idsL, idsE, AV.ids, i1, i2, i3])) _, ?_⟩)|(refine ⟨_, fun _ => pc_lift (t3) (by (simp [idsL, idsE, AV.ids, i1, i2, i3])) _, ?_⟩)|(refine ⟨_, _, pc_lift (hs) (by (simp [idsL, idsE, AV.ids, i1, i2, i3])) _, ?_⟩)|(refine ⟨_, pc_lift (hs) (by (simp [idsL, idsE, AV.ids, i1, i2, i3])) _, ?_⟩)|(refine ⟨_, fun _ => pc_lift (hs) (by (simp [idsL, idsE, AV.ids, i1, i2, i3])) _, ?_⟩))|simp (disch := first|omega|(simp only [List.length_map, lenF, lenS]; omega)) only [push_cast, ↓reduceIte, reduceIte, reduceCtorEq, Nat.reduceAdd, Nat.reduceLT, Nat.reduceEqDiff, Nat.reduceLeDiff, Int.reduceAdd, Int.reduceLT, Int.reduceLE, Nat.reduceMul, Nat.add_zero, e0, e3, Int.reduceEq, Int.reduceToNat, Int.reduceLT, Int.reduceLE])
 all_goals (clear h1 h2 h3 h4 h5 h6 h7 p1 p2 t1 t2 t3 hs; done)
end Go.Proofs
