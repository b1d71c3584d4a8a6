import Derived.Test.YtbgdagokjfmcbaaGreatDoorD26
import Derived.Test.YtbgdagokjfmcbaaGreatDoorD25
import Derived.Test.YtbgdagokjfmcbaaGreatDoorD22
import Derived.Test.YtbgdagokjfmcbaaGreatDoorD9
import Derived.Test.YtbgdagokjfmcbaaGreatDoorD20
namespace Go.Proofs
open Go Go.V
set_option linter.unusedVariables false
set_option linter.unusedSimpArgs false
set_option maxHeartbeats 0
def pL : Pt := ⟨2, 2, 2, 2, 3, [⟨1, 0, (0, 1), (2, 1)⟩, ⟨2, 0, (-1, -1), (0, 0)⟩]⟩
def qL : Pt := ⟨2, 2, 2, 3, 2, [⟨1, 0, (2, 1), (0, 1)⟩, ⟨2, 0, (0, 0), (-1, -1)⟩]⟩
def rL : Pt := ⟨2, 2, 2, 2, 2, []⟩
theorem hDL : PC Tryz.prog G0 11 [mA 2 2 aM (some 2), mA 2 2 bM (some 3)] (.tup [pA pL 6 (some 2), .int .i64 0]) := by
 have h := diff11 2 2 aM (some 2) 2 2 bM (some 3) (by decide) (by decide) (by decide) (by decide)
 rw [if_pos (by decide)] at h
 exact h
theorem hTL : PC Tryz.prog G0 7 [pA pL 6 (some 2)] (.tup [.str (textP pL), .int .i64 0]) := by
 have h := text47 pL 6 (some 2) (.inr rfl) (by decide)
 rw [if_pos (by decide)] at h
 exact h
theorem textL : textP pL = [112, 97, 116, 99, 104, 32, 50, 32, 50, 32, 50, 32, 50, 32, 51, 10, 49, 32, 48, 58, 32, 48, 47, 49, 32, 45, 62, 32, 50, 47, 49, 10, 50, 32, 48, 58, 32, 45, 32, 45, 62, 32, 48, 47, 48, 10] := by kernel_rfl
theorem textR : textP rL = [112, 97, 116, 99, 104, 32, 50, 32, 50, 32, 50, 32, 50, 32, 50, 10] := by kernel_rfl
theorem hTR : PC Tryz.prog G0 7 [pA rL 6 (some 0)] (.tup [.str (textP rL), .int .i64 0]) := by
 have h := text47 rL 6 (some 0) (.inr rfl) (by decide)
 rw [if_pos (by decide)] at h
 exact h
def wL : List Wd := [([0], some 1), ([1], some 1), ([0, 0], some 2), ([0, 1], some 2)]
theorem hAL : PC Tryz.prog G0 32 [mA 2 2 aM (some 2), pA pL 6 (some 2), .sl 1 (wsA wL) (some 4)] (.tup [.sl 1 (wsA [([0, 0], some 2)]) (some 1), .int .i64 0]) := by
 have h := affected28 2 2 aM (some 2) pL 6 (some 2) wL 1 (some 4) (by decide) (by decide) (.inr rfl) (by decide) (.inr rfl) (by decide) (fun k hk => by
  have h4 : k < 4 := hk
  rcases (show k = 0 ∨ k = 1 ∨ k = 2 ∨ k = 3 by omega) with rfl|rfl|rfl|rfl <;> decide)
 rw [show affR 2 2 aM pL wL = ([([0, 0], some 2)], 0) by decide] at h
 exact h
theorem hIL : PC Tryz.prog G0 33 [pA pL 6 (some 2)] (.tup [pA qL 6 (some 2), .int .i64 0]) := by
 have h := inverse33 pL 6 (some 2) (.inr rfl) (by decide)
 rw [if_pos (by decide)] at h
 exact h
theorem hThL : PC Tryz.prog G0 34 [pA pL 6 (some 2), pA qL 6 (some 2)] (.tup [pA rL 6 (some 0), .int .i64 0]) := by
 have h := then18 pL qL 6 6 (some 2) (some 2) (.inr rfl) (.inr rfl) (by decide) (by decide)
 rw [show thenM pL qL = (rL, 0) by decide, resP_ok] at h
 exact h
set_option maxRecDepth 100000 in
theorem lives16 : PC Tryz.prog G0 10 [] (.bool true) := by
 have h1 := a45
 have h2 := b46
 have h3 := hDL
 have h4 := hTL
 have h5 := hAL
 have h6 := hIL
 have h7 := hThL
 have h8 := hTR
 have h9 := refSame31 [([0, 0], some 2)] [([0, 0], some 2)] 1 1 (some 1) (some 1) (.inr rfl) (.inr rfl) (by decide) (by decide) (fun k hk => by obtain rfl : k = 0 := (by simpa using hk); decide) (fun k hk => by obtain rfl : k = 0 := (by simpa using hk); decide)
 have h10 := ring48 [(1, 0), (2, 0), (0, 1)] 2 (some 3) (.inr rfl) (by decide)
 have h11 := ring48 [(2, 0), (0, 1), (1, 0)] 2 (some 3) (.inr rfl) (by decide)
 have h12 := align19c
 have h13 := refSame21 1 2 oneM 1 (some 3) 1 2 oneM 1 none (.inr rfl) (.inr rfl) (by decide) (by decide) (by decide) (by decide)
 have h14 := refSame [0, 2, 1] [0, 2, 1] (some 3) (some 3) (by decide) (by decide)
 rw [show sameM [0, 2, 1] [0, 2, 1] = true by decide] at h14
 rw [decide_eq_true (show (1 : Int) = 1 ∧ (2 : Int) = 2 ∧ edgesOf oneM = edgesOf oneM from ⟨rfl, rfl, rfl⟩)] at h13
 rw [decide_eq_true (show wordsOf [([0, 0], some 2)] = wordsOf [([0, 0], some 2)] from rfl)] at h9
 rw [textL] at h4
 rw [textR] at h8
 unfold mA pA at *
 refine pc_go 0 119 [.tmp 0] Tryz.func10 rfl rfl rfl (by simp) ?_
 intro s hz
 clear hz
 repeat' (first|(((first|(refine a0_ ?_; first|refine a1_ rfl rfl ?_|refine a2_ rfl ?_|refine a3_ rfl rfl ?_|refine a4_ rfl ?_|refine a5_ rfl rfl rfl ?_|refine a6_ rfl rfl ?_)|(refine g0_ ?_; first|refine g1_ rfl ?_|refine g2_ rfl rfl ?_|refine go_drawN (dr := allQ) (p := [0, 1, 1, 1, 1, 1, 1, 1, 1, 1]) [] [] [(11, 12)] rfl rfl mixed (by kernel_rfl) ?_|refine go_draw (dr := allQ) rfl rfl mixed (by first|assumption|kernel_rfl) ?_|refine g4_ rfl ?_|refine g5_ rfl ?_|refine g6_ rfl ?_|refine g7_ rfl ?_|refine g8_ rfl ?_)|(refine o0_ ?_; first|refine o1_ ?_|refine o2_ ?_|refine o3_ ?_|refine o4_ ?_|refine o5_ ?_|refine o6_ rfl ?_|refine o7_ rfl ?_|refine o8_ ?_|refine o9_ ?_|refine oa_ ?_|refine ob_ ?_|refine oc_ ?_|refine od_ ?_|refine oe_ ?_|refine of_ ?_|refine og_ ?_))) <;> (try simp (disch := first|omega|(simp only [List.length_nil, List.length_set, List.length_reverse, List.length_replicate, List.length_append, List.length_cons, List.length_nil, List.length_map]; omega)) only [push_cast, ↓reduceIte, reduceIte, reduceCtorEq, Nat.reduceAdd, Nat.reduceLT, Nat.reduceEqDiff, Nat.reduceLeDiff, Int.reduceAdd, Int.reduceLT, Int.reduceLE, Nat.reduceMul, Nat.add_zero]))|refine at_go ?_|(with_reducible refine And.intro (at_go ?_) (at_go ?_))|((with_reducible refine And.intro (fun h => ?_) (fun h => ?_)) <;> try (exfalso; omega))|(with_reducible refine And.intro (by first|omega|(simp only [maxLen]; omega)) ?_)|(first|(refine ⟨_, _, pc_lift (h1) (by (simp [idsL, idsE, AV.ids, Nat.add_zero])) _, ?_⟩)|(refine ⟨_, pc_lift (h1) (by (simp [idsL, idsE, AV.ids, Nat.add_zero])) _, ?_⟩)|(refine ⟨_, fun _ => pc_lift (h1) (by (simp [idsL, idsE, AV.ids, Nat.add_zero])) _, ?_⟩)|(refine ⟨_, _, pc_lift (h2) (by (simp [idsL, idsE, AV.ids, Nat.add_zero])) _, ?_⟩)|(refine ⟨_, pc_lift (h2) (by (simp [idsL, idsE, AV.ids, Nat.add_zero])) _, ?_⟩)|(refine ⟨_, fun _ => pc_lift (h2) (by (simp [idsL, idsE, AV.ids, Nat.add_zero])) _, ?_⟩)|(refine ⟨_, _, pc_lift (h3) (by (simp [idsL, idsE, AV.ids, Nat.add_zero])) _, ?_⟩)|(refine ⟨_, pc_lift (h3) (by (simp [idsL, idsE, AV.ids, Nat.add_zero])) _, ?_⟩)|(refine ⟨_, fun _ => pc_lift (h3) (by (simp [idsL, idsE, AV.ids, Nat.add_zero])) _, ?_⟩)|(refine ⟨_, _, pc_lift (h4) (by (simp [idsL, idsE, AV.ids, Nat.add_zero])) _, ?_⟩)|(refine ⟨_, pc_lift (h4) (by (simp [idsL, idsE, AV.ids, Nat.add_zero])) _, ?_⟩)|(refine ⟨_, fun _ => pc_lift (h4) (by (simp [idsL, idsE, AV.ids, Nat.add_zero])) _, ?_⟩)|(refine ⟨_, _, pc_lift (h5) (by (simp [idsL, idsE, AV.ids, Nat.add_zero])) _, ?_⟩)|(refine ⟨_, pc_lift (h5) (by (simp [idsL, idsE, AV.ids, Nat.add_zero])) _, ?_⟩)|(refine ⟨_, fun _ => pc_lift (h5) (by (simp [idsL, idsE, AV.ids, Nat.add_zero])) _, ?_⟩)|(refine ⟨_, _, pc_lift (h6) (by (simp [idsL, idsE, AV.ids, Nat.add_zero])) _, ?_⟩)|(refine ⟨_, pc_lift (h6) (by (simp [idsL, idsE, AV.ids, Nat.add_zero])) _, ?_⟩)|(refine ⟨_, fun _ => pc_lift (h6) (by (simp [idsL, idsE, AV.ids, Nat.add_zero])) _, ?_⟩)|(refine ⟨_, _, pc_lift (h7) (by (simp [idsL, idsE, AV.ids, Nat.add_zero])) _, ?_⟩)|(refine ⟨_, pc_lift (h7) (by (simp [idsL, idsE, AV.ids, Nat.add_zero])) _, ?_⟩)|(refine ⟨_, fun _ => pc_lift (h7) (by (simp [idsL, idsE, AV.ids, Nat.add_zero])) _, ?_⟩)|(refine ⟨_, _, pc_lift (h8) (by (simp [idsL, idsE, AV.ids, Nat.add_zero])) _, ?_⟩)|(refine ⟨_, pc_lift (h8) (by (simp [idsL, idsE, AV.ids, Nat.add_zero])) _, ?_⟩)|(refine ⟨_, fun _ => pc_lift (h8) (by (simp [idsL, idsE, AV.ids, Nat.add_zero])) _, ?_⟩)|(refine ⟨_, _, pc_lift (h9) (by (simp [idsL, idsE, AV.ids, Nat.add_zero])) _, ?_⟩)|(refine ⟨_, pc_lift (h9) (by (simp [idsL, idsE, AV.ids, Nat.add_zero])) _, ?_⟩)|(refine ⟨_, fun _ => pc_lift (h9) (by (simp [idsL, idsE, AV.ids, Nat.add_zero])) _, ?_⟩)|(refine ⟨_, _, pc_lift (h10) (by (simp [idsL, idsE, AV.ids, Nat.add_zero])) _, ?_⟩)|(refine ⟨_, pc_lift (h10) (by (simp [idsL, idsE, AV.ids, Nat.add_zero])) _, ?_⟩)|(refine ⟨_, fun _ => pc_lift (h10) (by (simp [idsL, idsE, AV.ids, Nat.add_zero])) _, ?_⟩)|(refine ⟨_, _, pc_lift (h11) (by (simp [idsL, idsE, AV.ids, Nat.add_zero])) _, ?_⟩)|(refine ⟨_, pc_lift (h11) (by (simp [idsL, idsE, AV.ids, Nat.add_zero])) _, ?_⟩)|(refine ⟨_, fun _ => pc_lift (h11) (by (simp [idsL, idsE, AV.ids, Nat.add_zero])) _, ?_⟩)|(refine ⟨_, _, pc_lift (h12) (by (simp [idsL, idsE, AV.ids, Nat.add_zero])) _, ?_⟩)|(refine ⟨_, pc_lift (h12) (by (simp [idsL, idsE, AV.ids, Nat.add_zero])) _, ?_⟩)|(refine ⟨_, fun _ => pc_lift (h12) (by (simp [idsL, idsE, AV.ids, Nat.add_zero])) _, ?_⟩)|(refine ⟨_, _, pc_lift (h13) (by (simp [idsL, idsE, AV.ids, Nat.add_zero])) _, ?_⟩)|(refine ⟨_, pc_lift (h13) (by (simp [idsL, idsE, AV.ids, Nat.add_zero])) _, ?_⟩)|(refine ⟨_, fun _ => pc_lift (h13) (by (simp [idsL, idsE, AV.ids, Nat.add_zero])) _, ?_⟩)|(refine ⟨_, _, pc_lift (h14) (by (simp [idsL, idsE, AV.ids, Nat.add_zero])) _, ?_⟩)|(refine ⟨_, pc_lift (h14) (by (simp [idsL, idsE, AV.ids, Nat.add_zero])) _, ?_⟩)|(refine ⟨_, fun _ => pc_lift (h14) (by (simp [idsL, idsE, AV.ids, Nat.add_zero])) _, ?_⟩))|simp (disch := first|omega|(simp only [List.length_nil, List.length_set, List.length_reverse, List.length_replicate, List.length_append, List.length_cons, List.length_nil, List.length_map]; omega)) only [push_cast, ↓reduceIte, reduceIte, reduceCtorEq, Nat.reduceAdd, Nat.reduceLT, Nat.reduceEqDiff, Nat.reduceLeDiff, Int.reduceAdd, Int.reduceLT, Int.reduceLE, Nat.reduceMul, Nat.add_zero])
end Go.Proofs
