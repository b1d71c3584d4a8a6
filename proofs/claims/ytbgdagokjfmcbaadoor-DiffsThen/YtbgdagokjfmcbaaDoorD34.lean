import Derived.Test.YtbgdagokjfmcbaaDoorD33
import Derived.Test.YtbgdagokjfmcbaaDoorD30
/- Diffs: the law of two steps. -/
namespace Go.Proofs
open Go Go.V
set_option linter.unusedVariables false
set_option linter.unusedSimpArgs false
set_option maxHeartbeats 0
/-- The version after the next one. -/
def MD.nxt2 (x : MD) (L : List Ch) (more less : Bool) (L2 : List Ch) (more2 less2 : Bool) : Rs := nextM x.I x.O (x.nxt L more less) L2 more2 less2
theorem MD.nxt2_ok (x : MD) (L : List Ch) (more less : Bool) (L2 : List Ch) (more2 less2 : Bool) : machOk x.I x.O (rowsN (x.nxt2 L more less L2 more2 less2)) = 0 := by
  have b1 := x.bI; have b2 := x.bO; have b3 := x.bn
  obtain ⟨h1, h2, h3, h4⟩ := x.nxt_ok L more less
  obtain ⟨g1, g2, g3, g4⟩ := next_ok (I := x.I) (O := x.O) (R := x.nxt L more less) (by omega) (by omega) (by omega) h3 h4 L2 more2 less2
  refine machOk_rows (by omega) (by omega) (by rw [length_rowsN]; exact ⟨g1, by unfold nxt2 at *; omega⟩) (by rw [edgesOf_rowsN]; exact g3) ?_
  rw [edgesOf_rowsN, length_rowsN]; exact g4
theorem next_of_nxt (x : MD) (L : List Ch) (more less : Bool) (y : MD) (z : Nat) (c : Option Nat) (L2 : List Ch) (w : Nat) (d : Option Nat) (more2 less2 : Bool) (hy : y.Ok) (hL : ∀ e ∈ L2, e.Ok) (hw : L2 = [] ∨ w = 4) :
    PC Tryd.prog G0 17 [mA x.I x.O (rowsN (x.nxt L more less)) none, .agg (vC y z c L2 w d more2 less2)] (mA x.I x.O (rowsN (x.nxt2 L more less L2 more2 less2)) none) := by
  have b1 := x.bI; have b2 := x.bO; have b3 := x.bn
  obtain ⟨h1, h2, h3, h4⟩ := x.nxt_ok L more less
  have h := next17 x.I x.O (rowsN (x.nxt L more less)) none y z c L2 w d more2 less2 (by omega) (by omega) (by rw [length_rowsN]; omega) (fun s hs => by
    rw [length_rowsN] at hs
    rw [getD_rowsN]; exact h3 s hs) hy hL hw
  rw [edgesOf_rowsN] at h
  exact h
set_option maxRecDepth 100000 in
theorem law4 (x : MD) (z : Nat) (c : Option Nat) (L : List Ch) (w : Nat) (d : Option Nat) (more less : Bool) (y : MD) (z2 : Nat) (c2 : Option Nat) (L2 : List Ch) (w2 : Nat) (d2 : Option Nat) (more2 less2 : Bool) (hx : x.Ok) (hz : x.es = [] ∨ z = 1) (hL : ∀ e ∈ L, e.Ok) (hw : L = [] ∨ w = 4) (hy : y.Ok) (hL2 : ∀ e ∈ L2, e.Ok) (hw2 : L2 = [] ∨ w2 = 4) :
    PC Tryd.prog G0 4 [.agg (vC x z c L w d more less), .agg (vC y z2 c2 L2 w2 d2 more2 less2)] (.bool true) := by
  have h1 := of10 x z c L w d more less hx hz hL hw
  have h2 := next_of_nxt x L more less y z2 c2 L2 w2 d2 more2 less2 hy hL2 hw2
  have o1 := x.ok
  have o2 := x.nxt_mach L more less
  have o3 := x.nxt2_ok L more less L2 more2 less2
  have h3 := diff_ok x.I x.O (x.rows x.n) none x.O _ none o1 o2
  have h4 := diff_ok x.I x.O _ none x.O _ none o2 o3
  have h5 := refDiff_ok x.I x.O (x.rows x.n) none x.O _ none o1 o3
  have s1 := diff_small o1 o2
  have s2 := diff_small o2 o3
  have s3 := diff_small o1 o3
  have ht := thenM_diff o1 o2 o3
  generalize rowsN (x.nxt L more less) = B at *
  generalize rowsN (x.nxt2 L more less L2 more2 less2) = D at *
  have h6 := then18 (diffM x.I x.O (x.rows x.n) x.O B) (diffM x.I x.O B x.O D) 6 6 (some (diffM x.I x.O (x.rows x.n) x.O B).ed.length) (some (diffM x.I x.O B x.O D).ed.length) (.inr rfl) (.inr rfl) (by omega) (by omega)
  rw [ht, resP_ok] at h6
  have h7 := same_self (diffM x.I x.O (x.rows x.n) x.O D) (some (diffM x.I x.O (x.rows x.n) x.O D).ed.length) none (by omega)
  have h8 := lives16
  generalize diffM x.I x.O (x.rows x.n) x.O B = p at *
  generalize diffM x.I x.O B x.O D = q at *
  generalize diffM x.I x.O (x.rows x.n) x.O D = r at *
  unfold mA vC pA at *
  refine pc_go 0 69 [.tmp 4] Tryd.func4 rfl rfl rfl (by simp) ?_
  intro s ⟨a0, a1, hz⟩
  simp only [Nat.zero_add, Nat.reduceAdd] at a1
  clear hz
  repeat' (first | (first | (refine a0_ ?_; first | refine a1_ rfl rfl ?_ | refine a2_ rfl ?_ | refine a3_ rfl rfl ?_ | refine a4_ rfl ?_ | refine a5_ rfl rfl rfl ?_ | refine a6_ rfl rfl ?_) | (refine g0_ ?_; first | refine g1_ rfl ?_ | refine g2_ rfl rfl ?_ | refine go_draw (dr := allQ) rfl rfl mixed (by first | assumption | kernel_rfl) ?_ | refine g4_ rfl ?_ | refine g5_ rfl ?_ | refine g6_ rfl ?_ | refine g7_ rfl ?_ | refine g8_ rfl ?_) | (refine o0_ ?_; first | refine o1_ ?_ | refine o2_ ?_ | refine o3_ ?_ | refine o4_ ?_ | refine o5_ ?_ | refine o6_ rfl ?_ | refine o7_ rfl ?_ | refine o8_ ?_ | refine o9_ ?_ | refine oa_ ?_ | refine ob_ ?_ | refine oc_ ?_ | refine od_ ?_ | refine oe_ ?_ | refine of_ ?_ | refine og_ ?_)) | refine at_go ?_ | (with_reducible refine And.intro (at_go ?_) (at_go ?_)) | ((with_reducible refine And.intro (fun h => ?_) (fun h => ?_)) <;> try (exfalso; omega)) | (with_reducible refine And.intro (by first | omega | (simp only [maxLen]; omega)) ?_) | (first | (refine ⟨_, _, pc_lift (h1) (by (simp [idsL, idsE, AV.ids, Nat.add_zero])) _, ?_⟩) | (refine ⟨_, pc_lift (h1) (by (simp [idsL, idsE, AV.ids, Nat.add_zero])) _, ?_⟩) | (refine ⟨_, fun _ => pc_lift (h1) (by (simp [idsL, idsE, AV.ids, Nat.add_zero])) _, ?_⟩) | (refine ⟨_, _, pc_lift (h2) (by (simp [idsL, idsE, AV.ids, Nat.add_zero])) _, ?_⟩) | (refine ⟨_, pc_lift (h2) (by (simp [idsL, idsE, AV.ids, Nat.add_zero])) _, ?_⟩) | (refine ⟨_, fun _ => pc_lift (h2) (by (simp [idsL, idsE, AV.ids, Nat.add_zero])) _, ?_⟩) | (refine ⟨_, _, pc_lift (h3) (by (simp [idsL, idsE, AV.ids, Nat.add_zero])) _, ?_⟩) | (refine ⟨_, pc_lift (h3) (by (simp [idsL, idsE, AV.ids, Nat.add_zero])) _, ?_⟩) | (refine ⟨_, fun _ => pc_lift (h3) (by (simp [idsL, idsE, AV.ids, Nat.add_zero])) _, ?_⟩) | (refine ⟨_, _, pc_lift (h4) (by (simp [idsL, idsE, AV.ids, Nat.add_zero])) _, ?_⟩) | (refine ⟨_, pc_lift (h4) (by (simp [idsL, idsE, AV.ids, Nat.add_zero])) _, ?_⟩) | (refine ⟨_, fun _ => pc_lift (h4) (by (simp [idsL, idsE, AV.ids, Nat.add_zero])) _, ?_⟩) | (refine ⟨_, _, pc_lift (h5) (by (simp [idsL, idsE, AV.ids, Nat.add_zero])) _, ?_⟩) | (refine ⟨_, pc_lift (h5) (by (simp [idsL, idsE, AV.ids, Nat.add_zero])) _, ?_⟩) | (refine ⟨_, fun _ => pc_lift (h5) (by (simp [idsL, idsE, AV.ids, Nat.add_zero])) _, ?_⟩) | (refine ⟨_, _, pc_lift (h6) (by (simp [idsL, idsE, AV.ids, Nat.add_zero])) _, ?_⟩) | (refine ⟨_, pc_lift (h6) (by (simp [idsL, idsE, AV.ids, Nat.add_zero])) _, ?_⟩) | (refine ⟨_, fun _ => pc_lift (h6) (by (simp [idsL, idsE, AV.ids, Nat.add_zero])) _, ?_⟩) | (refine ⟨_, _, pc_lift (h7) (by (simp [idsL, idsE, AV.ids, Nat.add_zero])) _, ?_⟩) | (refine ⟨_, pc_lift (h7) (by (simp [idsL, idsE, AV.ids, Nat.add_zero])) _, ?_⟩) | (refine ⟨_, fun _ => pc_lift (h7) (by (simp [idsL, idsE, AV.ids, Nat.add_zero])) _, ?_⟩) | (refine ⟨_, _, pc_lift (h8) (by (simp [idsL, idsE, AV.ids, Nat.add_zero])) _, ?_⟩) | (refine ⟨_, pc_lift (h8) (by (simp [idsL, idsE, AV.ids, Nat.add_zero])) _, ?_⟩) | (refine ⟨_, fun _ => pc_lift (h8) (by (simp [idsL, idsE, AV.ids, Nat.add_zero])) _, ?_⟩)) | simp (disch := first | omega | (simp only [length_edsA, length_rowsA, length_rowA, List.length_set, List.length_reverse, List.length_replicate, List.length_append, List.length_cons, List.length_nil, List.length_map]; omega)) only [push_cast, ↓reduceIte, reduceIte, reduceCtorEq, Nat.reduceAdd, Nat.reduceLT, Nat.reduceEqDiff, Nat.reduceLeDiff, Int.reduceAdd, Int.reduceLT, Int.reduceLE, Nat.reduceMul, a0, a1, length_edsA])
end Go.Proofs
