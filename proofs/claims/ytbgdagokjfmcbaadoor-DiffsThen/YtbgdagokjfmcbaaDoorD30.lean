import Derived.Test.YtbgdagokjfmcbaaDoorD29
import Derived.Test.YtbgdagokjfmcbaaDoorD27
/- Diffs: the laws of the difference, and of two steps. -/
namespace Go.Proofs
open Go Go.V
set_option linter.unusedVariables false
set_option linter.unusedSimpArgs false
set_option maxHeartbeats 0
theorem mach_small {i o : Int} {l : List Row} (h : machOk i o l = 0) : l.length ≤ 1000 ∧ ∀ j, j < l.length → (l.getD j ([], none)).1.length ≤ 1000 := by
  obtain ⟨h1, h2, h3, h4, h5⟩ := machOk_zero h
  exact ⟨by omega, fun j hj => by have := h4 j hj; omega⟩
/-- Diff of two valid machines with as many inputs. -/
theorem diff_ok (i o : Int) (l : List Row) (c : Option Nat) (o' : Int) (r : List Row) (d : Option Nat) (hl : machOk i o l = 0) (hr : machOk i o' r = 0) : PC Tryd.prog G0 11 [mA i o l c, mA i o' r d] (.tup [pA (diffM i o l o' r) 6 (some (diffM i o l o' r).ed.length), .int .i64 0]) := by
  obtain ⟨s1, s2⟩ := mach_small hl
  obtain ⟨s3, s4⟩ := mach_small hr
  have h := diff11 i o l c i o' r d (by omega) (by omega) (fun j hj => by have := s2 j hj; omega) (fun j hj => by have := s4 j hj; omega)
  rw [if_pos (pairErr_zero hl hr)] at h
  exact h
theorem refDiff_ok (i o : Int) (l : List Row) (c : Option Nat) (o' : Int) (r : List Row) (d : Option Nat) (hl : machOk i o l = 0) (hr : machOk i o' r = 0) : PC Tryd.prog G0 13 [mA i o l c, mA i o' r d] (pA (diffM i o l o' r) 6 none) := by
  obtain ⟨h1, h2, h3, h4, h5⟩ := machOk_zero hl
  obtain ⟨g1, g2, g3, g4, g5⟩ := machOk_zero hr
  exact refDiff13 i o l c i o' r d (by omega) (by omega) (by omega) h4 g4
theorem diff_small {i o : Int} {l : List Row} {o' : Int} {r : List Row} (hl : machOk i o l = 0) (hr : machOk i o' r = 0) : (diffM i o l o' r).ed.length ≤ 1024 := by
  obtain ⟨h1, h2, h3, h4, h5⟩ := machOk_zero hl
  obtain ⟨g1, g2, g3, g4, g5⟩ := machOk_zero hr
  exact diffEds_len (by omega) (by omega) (by omega)
theorem same_self (p : Pt) (c d : Option Nat) (hl : p.ed.length ≤ 1000000) : PC Tryd.prog G0 12 [pA p 6 c, pA p 6 d] (.bool true) := by
  have h := refSame12 p p 6 6 c d (.inr rfl) (.inr rfl) hl hl
  rw [decide_eq_true rfl] at h
  exact h
theorem diff_bad (i o : Int) (l : List Row) (c : Option Nat) (i' o' : Int) (r : List Row) (d : Option Nat) (hl : machOk i o l = 0) (hr : machOk i' o' r = 0) (hi : i ≠ i') : PC Tryd.prog G0 11 [mA i o l c, mA i' o' r d] (.tup [pA pZ 0 (some 0), .int .i64 5]) := by
  obtain ⟨s1, s2⟩ := mach_small hl
  obtain ⟨s3, s4⟩ := mach_small hr
  have h := diff11 i o l c i' o' r d (by omega) (by omega) (fun j hj => by have := s2 j hj; omega) (fun j hj => by have := s4 j hj; omega)
  have he : pairErr i o l i' o' r = 5 := by rw [pairErr, if_neg (by omega), if_neg (by omega), if_pos hi]
  rw [if_neg (by rw [he]; omega), he] at h
  exact h
set_option maxRecDepth 100000 in
theorem law3 (x : MD) (zx : Nat) (cx : Option Nat) (y : MD) (zy : Nat) (cy : Option Nat) (v : MD) (z : Nat) (c : Option Nat) (L : List Ch) (w : Nat) (d : Option Nat) (more less : Bool) (hx : x.Ok) (hzx : x.es = [] ∨ zx = 1) (hy : y.Ok) (hzy : y.es = [] ∨ zy = 1) (hv : v.Ok) (hz : v.es = [] ∨ z = 1) (hL : ∀ e ∈ L, e.Ok) (hw : L = [] ∨ w = 4) :
    PC Tryd.prog G0 3 [.agg (mdC x zx cx), .agg (mdC y zy cy), .agg (vC v z c L w d more less)] (.bool true) := by
  have h1 := of10 v z c L w d more less hv hz hL hw
  have h2 := diff_ok v.I v.O (v.rows v.n) none v.O (rowsN (v.nxt L more less)) none v.ok (v.nxt_mach L more less)
  have h3 := refDiff_ok v.I v.O (v.rows v.n) none v.O (rowsN (v.nxt L more less)) none v.ok (v.nxt_mach L more less)
  have h4 := diff_small v.ok (v.nxt_mach L more less)
  have h5 := same_self (diffM v.I v.O (v.rows v.n) v.O (rowsN (v.nxt L more less))) (some (diffM v.I v.O (v.rows v.n) v.O (rowsN (v.nxt L more less))).ed.length) none (by omega)
  have h6 := refCheck14 (diffM v.I v.O (v.rows v.n) v.O (rowsN (v.nxt L more less))) 6 (some (diffM v.I v.O (v.rows v.n) v.O (rowsN (v.nxt L more less))).ed.length) (.inr rfl) (by omega)
  rw [diffM_ok v.ok (v.nxt_mach L more less)] at h6
  generalize diffM v.I v.O (v.rows v.n) v.O (rowsN (v.nxt L more less)) = p at *
  have h7 := mOf15 x zx cx hx hzx
  have h8 := mOf15 y zy cy hy hzy
  have h9 := lives16
  by_cases hi : (x.I : Int) = y.I
  · have g1 := diff_ok x.I x.O (x.rows x.n) none y.O (y.rows y.n) none x.ok (by rw [hi]; exact y.ok)
    have g2 := refDiff_ok x.I x.O (x.rows x.n) none y.O (y.rows y.n) none x.ok (by rw [hi]; exact y.ok)
    have g3 := diff_small x.ok (show machOk x.I y.O (y.rows y.n) = 0 by rw [hi]; exact y.ok)
    have g4 := same_self (diffM x.I x.O (x.rows x.n) y.O (y.rows y.n)) (some (diffM x.I x.O (x.rows x.n) y.O (y.rows y.n)).ed.length) none (by omega)
    generalize diffM x.I x.O (x.rows x.n) y.O (y.rows y.n) = q at *
    rw [← hi] at h8
    unfold mA mdC vC pA at *
    refine pc_go 0 83 [.tmp 6] Tryd.func3 rfl rfl rfl (by simp) ?_
    intro s ⟨a0, a1, a2, hz⟩
    simp only [Nat.zero_add, Nat.reduceAdd] at a1 a2
    clear hz
    repeat' (first | (first | (refine a0_ ?_; first | refine a1_ rfl rfl ?_ | refine a2_ rfl ?_ | refine a3_ rfl rfl ?_ | refine a4_ rfl ?_ | refine a5_ rfl rfl rfl ?_ | refine a6_ rfl rfl ?_) | (refine g0_ ?_; first | refine g1_ rfl ?_ | refine g2_ rfl rfl ?_ | refine go_draw (dr := allQ) rfl rfl mixed (by first | assumption | kernel_rfl) ?_ | refine g4_ rfl ?_ | refine g5_ rfl ?_ | refine g6_ rfl ?_ | refine g7_ rfl ?_ | refine g8_ rfl ?_) | (refine o0_ ?_; first | refine o1_ ?_ | refine o2_ ?_ | refine o3_ ?_ | refine o4_ ?_ | refine o5_ ?_ | refine o6_ rfl ?_ | refine o7_ rfl ?_ | refine o8_ ?_ | refine o9_ ?_ | refine oa_ ?_ | refine ob_ ?_ | refine oc_ ?_ | refine od_ ?_ | refine oe_ ?_ | refine of_ ?_ | refine og_ ?_)) | refine at_go ?_ | (with_reducible refine And.intro (at_go ?_) (at_go ?_)) | ((with_reducible refine And.intro (fun h => ?_) (fun h => ?_)) <;> try (exfalso; omega)) | (with_reducible refine And.intro (by first | omega | (simp only [maxLen]; omega)) ?_) | (first | (refine ⟨_, _, pc_lift (h1) (by (simp [idsL, idsE, AV.ids, Nat.add_zero])) _, ?_⟩) | (refine ⟨_, pc_lift (h1) (by (simp [idsL, idsE, AV.ids, Nat.add_zero])) _, ?_⟩) | (refine ⟨_, fun _ => pc_lift (h1) (by (simp [idsL, idsE, AV.ids, Nat.add_zero])) _, ?_⟩) | (refine ⟨_, _, pc_lift (h2) (by (simp [idsL, idsE, AV.ids, Nat.add_zero])) _, ?_⟩) | (refine ⟨_, pc_lift (h2) (by (simp [idsL, idsE, AV.ids, Nat.add_zero])) _, ?_⟩) | (refine ⟨_, fun _ => pc_lift (h2) (by (simp [idsL, idsE, AV.ids, Nat.add_zero])) _, ?_⟩) | (refine ⟨_, _, pc_lift (h3) (by (simp [idsL, idsE, AV.ids, Nat.add_zero])) _, ?_⟩) | (refine ⟨_, pc_lift (h3) (by (simp [idsL, idsE, AV.ids, Nat.add_zero])) _, ?_⟩) | (refine ⟨_, fun _ => pc_lift (h3) (by (simp [idsL, idsE, AV.ids, Nat.add_zero])) _, ?_⟩) | (refine ⟨_, _, pc_lift (h5) (by (simp [idsL, idsE, AV.ids, Nat.add_zero])) _, ?_⟩) | (refine ⟨_, pc_lift (h5) (by (simp [idsL, idsE, AV.ids, Nat.add_zero])) _, ?_⟩) | (refine ⟨_, fun _ => pc_lift (h5) (by (simp [idsL, idsE, AV.ids, Nat.add_zero])) _, ?_⟩) | (refine ⟨_, _, pc_lift (h6) (by (simp [idsL, idsE, AV.ids, Nat.add_zero])) _, ?_⟩) | (refine ⟨_, pc_lift (h6) (by (simp [idsL, idsE, AV.ids, Nat.add_zero])) _, ?_⟩) | (refine ⟨_, fun _ => pc_lift (h6) (by (simp [idsL, idsE, AV.ids, Nat.add_zero])) _, ?_⟩) | (refine ⟨_, _, pc_lift (h7) (by (simp [idsL, idsE, AV.ids, Nat.add_zero])) _, ?_⟩) | (refine ⟨_, pc_lift (h7) (by (simp [idsL, idsE, AV.ids, Nat.add_zero])) _, ?_⟩) | (refine ⟨_, fun _ => pc_lift (h7) (by (simp [idsL, idsE, AV.ids, Nat.add_zero])) _, ?_⟩) | (refine ⟨_, _, pc_lift (h8) (by (simp [idsL, idsE, AV.ids, Nat.add_zero])) _, ?_⟩) | (refine ⟨_, pc_lift (h8) (by (simp [idsL, idsE, AV.ids, Nat.add_zero])) _, ?_⟩) | (refine ⟨_, fun _ => pc_lift (h8) (by (simp [idsL, idsE, AV.ids, Nat.add_zero])) _, ?_⟩) | (refine ⟨_, _, pc_lift (h9) (by (simp [idsL, idsE, AV.ids, Nat.add_zero])) _, ?_⟩) | (refine ⟨_, pc_lift (h9) (by (simp [idsL, idsE, AV.ids, Nat.add_zero])) _, ?_⟩) | (refine ⟨_, fun _ => pc_lift (h9) (by (simp [idsL, idsE, AV.ids, Nat.add_zero])) _, ?_⟩) | (refine ⟨_, _, pc_lift (g1) (by (simp [idsL, idsE, AV.ids, Nat.add_zero])) _, ?_⟩) | (refine ⟨_, pc_lift (g1) (by (simp [idsL, idsE, AV.ids, Nat.add_zero])) _, ?_⟩) | (refine ⟨_, fun _ => pc_lift (g1) (by (simp [idsL, idsE, AV.ids, Nat.add_zero])) _, ?_⟩) | (refine ⟨_, _, pc_lift (g2) (by (simp [idsL, idsE, AV.ids, Nat.add_zero])) _, ?_⟩) | (refine ⟨_, pc_lift (g2) (by (simp [idsL, idsE, AV.ids, Nat.add_zero])) _, ?_⟩) | (refine ⟨_, fun _ => pc_lift (g2) (by (simp [idsL, idsE, AV.ids, Nat.add_zero])) _, ?_⟩) | (refine ⟨_, _, pc_lift (g4) (by (simp [idsL, idsE, AV.ids, Nat.add_zero])) _, ?_⟩) | (refine ⟨_, pc_lift (g4) (by (simp [idsL, idsE, AV.ids, Nat.add_zero])) _, ?_⟩) | (refine ⟨_, fun _ => pc_lift (g4) (by (simp [idsL, idsE, AV.ids, Nat.add_zero])) _, ?_⟩)) | simp (disch := first | omega | (simp only [length_edsA, length_rowsA, length_rowA, List.length_set, List.length_reverse, List.length_replicate, List.length_append, List.length_cons, List.length_nil, List.length_map]; omega)) only [push_cast, ↓reduceIte, reduceIte, reduceCtorEq, Nat.reduceAdd, Nat.reduceLT, Nat.reduceEqDiff, Nat.reduceLeDiff, Int.reduceAdd, Int.reduceLT, Int.reduceLE, Nat.reduceMul, a0, a1, a2, length_edsA])
  · have g1 := diff_bad x.I x.O (x.rows x.n) none y.I y.O (y.rows y.n) none x.ok y.ok hi
    have g4 := refSame12 pZ pZ 0 0 (some 0) (some 0) (.inl rfl) (.inl rfl) (by decide) (by decide)
    rw [decide_eq_true rfl] at g4
    unfold mA mdC vC pA at *
    unfold pZ at g1 g4
    dsimp only at g1 g4
    refine pc_go 0 83 [.tmp 6] Tryd.func3 rfl rfl rfl (by simp) ?_
    intro s ⟨a0, a1, a2, hz⟩
    simp only [Nat.zero_add, Nat.reduceAdd] at a1 a2
    clear hz
    repeat' (first | (first | (refine a0_ ?_; first | refine a1_ rfl rfl ?_ | refine a2_ rfl ?_ | refine a3_ rfl rfl ?_ | refine a4_ rfl ?_ | refine a5_ rfl rfl rfl ?_ | refine a6_ rfl rfl ?_) | (refine g0_ ?_; first | refine g1_ rfl ?_ | refine g2_ rfl rfl ?_ | refine go_draw (dr := allQ) rfl rfl mixed (by first | assumption | kernel_rfl) ?_ | refine g4_ rfl ?_ | refine g5_ rfl ?_ | refine g6_ rfl ?_ | refine g7_ rfl ?_ | refine g8_ rfl ?_) | (refine o0_ ?_; first | refine o1_ ?_ | refine o2_ ?_ | refine o3_ ?_ | refine o4_ ?_ | refine o5_ ?_ | refine o6_ rfl ?_ | refine o7_ rfl ?_ | refine o8_ ?_ | refine o9_ ?_ | refine oa_ ?_ | refine ob_ ?_ | refine oc_ ?_ | refine od_ ?_ | refine oe_ ?_ | refine of_ ?_ | refine og_ ?_)) | refine at_go ?_ | (with_reducible refine And.intro (at_go ?_) (at_go ?_)) | ((with_reducible refine And.intro (fun h => ?_) (fun h => ?_)) <;> try (exfalso; omega)) | (with_reducible refine And.intro (by first | omega | (simp only [maxLen]; omega)) ?_) | (first | (refine ⟨_, _, pc_lift (h1) (by (simp [idsL, idsE, AV.ids, Nat.add_zero])) _, ?_⟩) | (refine ⟨_, pc_lift (h1) (by (simp [idsL, idsE, AV.ids, Nat.add_zero])) _, ?_⟩) | (refine ⟨_, fun _ => pc_lift (h1) (by (simp [idsL, idsE, AV.ids, Nat.add_zero])) _, ?_⟩) | (refine ⟨_, _, pc_lift (h2) (by (simp [idsL, idsE, AV.ids, Nat.add_zero])) _, ?_⟩) | (refine ⟨_, pc_lift (h2) (by (simp [idsL, idsE, AV.ids, Nat.add_zero])) _, ?_⟩) | (refine ⟨_, fun _ => pc_lift (h2) (by (simp [idsL, idsE, AV.ids, Nat.add_zero])) _, ?_⟩) | (refine ⟨_, _, pc_lift (h3) (by (simp [idsL, idsE, AV.ids, Nat.add_zero])) _, ?_⟩) | (refine ⟨_, pc_lift (h3) (by (simp [idsL, idsE, AV.ids, Nat.add_zero])) _, ?_⟩) | (refine ⟨_, fun _ => pc_lift (h3) (by (simp [idsL, idsE, AV.ids, Nat.add_zero])) _, ?_⟩) | (refine ⟨_, _, pc_lift (h5) (by (simp [idsL, idsE, AV.ids, Nat.add_zero])) _, ?_⟩) | (refine ⟨_, pc_lift (h5) (by (simp [idsL, idsE, AV.ids, Nat.add_zero])) _, ?_⟩) | (refine ⟨_, fun _ => pc_lift (h5) (by (simp [idsL, idsE, AV.ids, Nat.add_zero])) _, ?_⟩) | (refine ⟨_, _, pc_lift (h6) (by (simp [idsL, idsE, AV.ids, Nat.add_zero])) _, ?_⟩) | (refine ⟨_, pc_lift (h6) (by (simp [idsL, idsE, AV.ids, Nat.add_zero])) _, ?_⟩) | (refine ⟨_, fun _ => pc_lift (h6) (by (simp [idsL, idsE, AV.ids, Nat.add_zero])) _, ?_⟩) | (refine ⟨_, _, pc_lift (h7) (by (simp [idsL, idsE, AV.ids, Nat.add_zero])) _, ?_⟩) | (refine ⟨_, pc_lift (h7) (by (simp [idsL, idsE, AV.ids, Nat.add_zero])) _, ?_⟩) | (refine ⟨_, fun _ => pc_lift (h7) (by (simp [idsL, idsE, AV.ids, Nat.add_zero])) _, ?_⟩) | (refine ⟨_, _, pc_lift (h8) (by (simp [idsL, idsE, AV.ids, Nat.add_zero])) _, ?_⟩) | (refine ⟨_, pc_lift (h8) (by (simp [idsL, idsE, AV.ids, Nat.add_zero])) _, ?_⟩) | (refine ⟨_, fun _ => pc_lift (h8) (by (simp [idsL, idsE, AV.ids, Nat.add_zero])) _, ?_⟩) | (refine ⟨_, _, pc_lift (h9) (by (simp [idsL, idsE, AV.ids, Nat.add_zero])) _, ?_⟩) | (refine ⟨_, pc_lift (h9) (by (simp [idsL, idsE, AV.ids, Nat.add_zero])) _, ?_⟩) | (refine ⟨_, fun _ => pc_lift (h9) (by (simp [idsL, idsE, AV.ids, Nat.add_zero])) _, ?_⟩) | (refine ⟨_, _, pc_lift (g1) (by (simp [idsL, idsE, AV.ids, Nat.add_zero])) _, ?_⟩) | (refine ⟨_, pc_lift (g1) (by (simp [idsL, idsE, AV.ids, Nat.add_zero])) _, ?_⟩) | (refine ⟨_, fun _ => pc_lift (g1) (by (simp [idsL, idsE, AV.ids, Nat.add_zero])) _, ?_⟩) | (refine ⟨_, _, pc_lift (g4) (by (simp [idsL, idsE, AV.ids, Nat.add_zero])) _, ?_⟩) | (refine ⟨_, pc_lift (g4) (by (simp [idsL, idsE, AV.ids, Nat.add_zero])) _, ?_⟩) | (refine ⟨_, fun _ => pc_lift (g4) (by (simp [idsL, idsE, AV.ids, Nat.add_zero])) _, ?_⟩)) | simp (disch := first | omega | (simp only [length_edsA, length_rowsA, length_rowA, List.length_set, List.length_reverse, List.length_replicate, List.length_append, List.length_cons, List.length_nil, List.length_map]; omega)) only [push_cast, ↓reduceIte, reduceIte, reduceCtorEq, Nat.reduceAdd, Nat.reduceLT, Nat.reduceEqDiff, Nat.reduceLeDiff, Int.reduceAdd, Int.reduceLT, Int.reduceLE, Nat.reduceMul, a0, a1, a2, length_edsA, hi])
end Go.Proofs
