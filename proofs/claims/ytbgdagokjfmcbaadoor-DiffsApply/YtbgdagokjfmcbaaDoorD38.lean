import Derived.Test.YtbgdagokjfmcbaaDoorD37
import Derived.Test.YtbgdagokjfmcbaaDoorD30
/- Diffs: the law of Apply. -/
namespace Go.Proofs
open Go Go.V
set_option linter.unusedVariables false
set_option linter.unusedSimpArgs false
set_option maxHeartbeats 0
/-- Rows of which each has a capacity. -/
def rowsI (T : Rs) (I : Nat) : List Row := T.map fun r => (r, some I)
theorem edgesOf_rowsI (T : Rs) (I : Nat) : edgesOf (rowsI T I) = T := by simp [edgesOf, rowsI, Function.comp_def]
theorem length_rowsI (T : Rs) (I : Nat) : (rowsI T I).length = T.length := by simp [rowsI]
/-- The difference, applied. -/
theorem apply_diff (i o o' : Int) (l r : List Row) (c : Option Nat) (d : Option Nat) (hl : machOk i o l = 0) (hr : machOk i o' r = 0) :
    PC Tryd.prog G0 32 [mA i o l c, pA (diffM i o l o' r) 6 d] (.tup [mA i o' (rowsI (edgesOf r) i.toNat) (some r.length), .int .i64 0]) := by
  have hm := diff_small hl hr
  have h := apply32 i o l c (diffM i o l o' r) 6 d hl (diffM_ok hl hr) (by rw [fitsM]; simp [diffM]) (.inr rfl) (by omega)
  rw [applyM_diff hl hr] at h
  have e : resM i (diffM i o l o' r).o1 (edgesOf r) i.toNat 0 = .tup [mA i o' (rowsI (edgesOf r) i.toNat) (some r.length), .int .i64 0] := by
    rw [resM, if_pos rfl]
    have : (edgesOf r).length = r.length := by simp [edgesOf]
    rw [this]; rfl
  rw [e] at h
  exact h
theorem same_mach (i o : Int) (l r : List Row) (c d : Option Nat) (hl : machOk i o l = 0) (he : edgesOf r = edgesOf l) : PC Tryd.prog G0 21 [mA i o r c, mA i o l d] (.bool true) := by
  obtain ⟨h1, h2, h3, h4, h5⟩ := machOk_zero hl
  have hlen : r.length = l.length := by have := congrArg List.length he; simpa [edgesOf] using this
  have hw : ∀ j, j < l.length → (l.getD j ([], none)).1.length ≤ 1000000 := fun j hj => by have := h4 j hj; omega
  have h := refSame21 i o r 1 c i o l 1 d (.inr rfl) (.inr rfl) (by omega) (by omega) (fun j hj => by
    rw [← getD_edgesOf, he, getD_edgesOf]; exact hw j (by omega)) hw
  rw [decide_eq_true ⟨rfl, rfl, he⟩] at h
  exact h
set_option maxRecDepth 100000 in
theorem law7 (x : MD) (z : Nat) (c : Option Nat) (L : List Ch) (w : Nat) (d : Option Nat) (more less : Bool) (hx : x.Ok) (hz : x.es = [] ∨ z = 1) (hL : ∀ e ∈ L, e.Ok) (hw : L = [] ∨ w = 4) :
    PC Tryd.prog G0 7 [.agg (vC x z c L w d more less)] (.bool true) := by
  have h1 := of10 x z c L w d more less hx hz hL hw
  have o1 := x.ok
  have o2 := x.nxt_mach L more less
  have h2 := diff_ok x.I x.O (x.rows x.n) none x.O _ none o1 o2
  have s1 := diff_small o1 o2
  have s2 := diff_small o2 o1
  generalize rowsN (x.nxt L more less) = B at *
  have h3 := apply_diff x.I x.O x.O (x.rows x.n) B none (some (diffM x.I x.O (x.rows x.n) x.O B).ed.length) o1 o2
  have h4 := inverse33 (diffM x.I x.O (x.rows x.n) x.O B) 6 (some (diffM x.I x.O (x.rows x.n) x.O B).ed.length) (.inr rfl) (by omega)
  rw [if_pos (diffM_ok o1 o2), invM_diff] at h4
  have h5 := apply_diff x.I x.O x.O B (x.rows x.n) none (some (diffM x.I x.O (x.rows x.n) x.O B).ed.length) o2 o1
  have h6 := same_mach x.I x.O B (rowsI (edgesOf B) x.I) (some B.length) none o2 (edgesOf_rowsI _ _)
  have h7 := refInverse34 (diffM x.I x.O (x.rows x.n) x.O B) 6 (some (diffM x.I x.O (x.rows x.n) x.O B).ed.length) (.inr rfl) (by omega)
  rw [invM_diff] at h7
  have h8 := same_self (diffM x.I x.O B x.O (x.rows x.n)) (some (diffM x.I x.O (x.rows x.n) x.O B).ed.length) none (by omega)
  have h9 := same_mach x.I x.O (x.rows x.n) (rowsI (edgesOf (x.rows x.n)) x.I) (some (x.rows x.n).length) none o1 (edgesOf_rowsI _ _)
  have h10 := lives16
  rw [Int.toNat_natCast] at h3 h5
  have n1 : (rowsI (edgesOf B) x.I).length = B.length := by rw [length_rowsI]; simp [edgesOf]
  generalize rowsI (edgesOf B) x.I = B' at *
  generalize rowsI (edgesOf (x.rows x.n)) x.I = A' at *
  generalize (x.rows x.n) = A at *
  generalize diffM x.I x.O A x.O B = p at *
  generalize diffM x.I x.O B x.O A = q at *
  unfold mA vC pA at *
  refine pc_go 0 83 [.tmp 2] Tryd.func7 rfl rfl rfl (by simp) ?_
  intro s ⟨a0, hz⟩
  clear hz
  repeat' (first | (first | (refine a0_ ?_; first | refine a1_ rfl rfl ?_ | refine a2_ rfl ?_ | refine a3_ rfl rfl ?_ | refine a4_ rfl ?_ | refine a5_ rfl rfl rfl ?_ | refine a6_ rfl rfl ?_) | (refine g0_ ?_; first | refine g1_ rfl ?_ | refine g2_ rfl rfl ?_ | refine go_draw (dr := allQ) rfl rfl mixed (by first | assumption | kernel_rfl) ?_ | refine g4_ rfl ?_ | refine g5_ rfl ?_ | refine g6_ rfl ?_ | refine g7_ rfl ?_ | refine g8_ rfl ?_) | (refine o0_ ?_; first | refine o1_ ?_ | refine o2_ ?_ | refine o3_ ?_ | refine o4_ ?_ | refine o5_ ?_ | refine o6_ rfl ?_ | refine o7_ rfl ?_ | refine o8_ ?_ | refine o9_ ?_ | refine oa_ ?_ | refine ob_ ?_ | refine oc_ ?_ | refine od_ ?_ | refine oe_ ?_ | refine of_ ?_ | refine og_ ?_)) | refine at_go ?_ | (with_reducible refine And.intro (at_go ?_) (at_go ?_)) | ((with_reducible refine And.intro (fun h => ?_) (fun h => ?_)) <;> try (exfalso; omega)) | (with_reducible refine And.intro (by first | omega | (simp only [maxLen]; omega)) ?_) | (first | (refine ⟨_, _, pc_lift (h1) (by (simp [idsL, idsE, AV.ids, Nat.add_zero])) _, ?_⟩) | (refine ⟨_, pc_lift (h1) (by (simp [idsL, idsE, AV.ids, Nat.add_zero])) _, ?_⟩) | (refine ⟨_, fun _ => pc_lift (h1) (by (simp [idsL, idsE, AV.ids, Nat.add_zero])) _, ?_⟩) | (refine ⟨_, _, pc_lift (h2) (by (simp [idsL, idsE, AV.ids, Nat.add_zero])) _, ?_⟩) | (refine ⟨_, pc_lift (h2) (by (simp [idsL, idsE, AV.ids, Nat.add_zero])) _, ?_⟩) | (refine ⟨_, fun _ => pc_lift (h2) (by (simp [idsL, idsE, AV.ids, Nat.add_zero])) _, ?_⟩) | (refine ⟨_, _, pc_lift (h3) (by (simp [idsL, idsE, AV.ids, Nat.add_zero])) _, ?_⟩) | (refine ⟨_, pc_lift (h3) (by (simp [idsL, idsE, AV.ids, Nat.add_zero])) _, ?_⟩) | (refine ⟨_, fun _ => pc_lift (h3) (by (simp [idsL, idsE, AV.ids, Nat.add_zero])) _, ?_⟩) | (refine ⟨_, _, pc_lift (h4) (by (simp [idsL, idsE, AV.ids, Nat.add_zero])) _, ?_⟩) | (refine ⟨_, pc_lift (h4) (by (simp [idsL, idsE, AV.ids, Nat.add_zero])) _, ?_⟩) | (refine ⟨_, fun _ => pc_lift (h4) (by (simp [idsL, idsE, AV.ids, Nat.add_zero])) _, ?_⟩) | (refine ⟨_, _, pc_lift (h5) (by (simp [idsL, idsE, AV.ids, Nat.add_zero])) _, ?_⟩) | (refine ⟨_, pc_lift (h5) (by (simp [idsL, idsE, AV.ids, Nat.add_zero])) _, ?_⟩) | (refine ⟨_, fun _ => pc_lift (h5) (by (simp [idsL, idsE, AV.ids, Nat.add_zero])) _, ?_⟩) | (refine ⟨_, _, pc_lift (h6) (by (simp [idsL, idsE, AV.ids, Nat.add_zero])) _, ?_⟩) | (refine ⟨_, pc_lift (h6) (by (simp [idsL, idsE, AV.ids, Nat.add_zero])) _, ?_⟩) | (refine ⟨_, fun _ => pc_lift (h6) (by (simp [idsL, idsE, AV.ids, Nat.add_zero])) _, ?_⟩) | (refine ⟨_, _, pc_lift (h7) (by (simp [idsL, idsE, AV.ids, Nat.add_zero])) _, ?_⟩) | (refine ⟨_, pc_lift (h7) (by (simp [idsL, idsE, AV.ids, Nat.add_zero])) _, ?_⟩) | (refine ⟨_, fun _ => pc_lift (h7) (by (simp [idsL, idsE, AV.ids, Nat.add_zero])) _, ?_⟩) | (refine ⟨_, _, pc_lift (h8) (by (simp [idsL, idsE, AV.ids, Nat.add_zero])) _, ?_⟩) | (refine ⟨_, pc_lift (h8) (by (simp [idsL, idsE, AV.ids, Nat.add_zero])) _, ?_⟩) | (refine ⟨_, fun _ => pc_lift (h8) (by (simp [idsL, idsE, AV.ids, Nat.add_zero])) _, ?_⟩) | (refine ⟨_, _, pc_lift (h9) (by (simp [idsL, idsE, AV.ids, Nat.add_zero])) _, ?_⟩) | (refine ⟨_, pc_lift (h9) (by (simp [idsL, idsE, AV.ids, Nat.add_zero])) _, ?_⟩) | (refine ⟨_, fun _ => pc_lift (h9) (by (simp [idsL, idsE, AV.ids, Nat.add_zero])) _, ?_⟩) | (refine ⟨_, _, pc_lift (h10) (by (simp [idsL, idsE, AV.ids, Nat.add_zero])) _, ?_⟩) | (refine ⟨_, pc_lift (h10) (by (simp [idsL, idsE, AV.ids, Nat.add_zero])) _, ?_⟩) | (refine ⟨_, fun _ => pc_lift (h10) (by (simp [idsL, idsE, AV.ids, Nat.add_zero])) _, ?_⟩)) | simp (disch := first | omega | (simp only [length_edsA, length_rowsA, length_rowA, List.length_set, List.length_reverse, List.length_replicate, List.length_append, List.length_cons, List.length_nil, List.length_map]; omega)) only [push_cast, ↓reduceIte, reduceIte, reduceCtorEq, Nat.reduceAdd, Nat.reduceLT, Nat.reduceEqDiff, Nat.reduceLeDiff, Int.reduceAdd, Int.reduceLT, Int.reduceLE, Nat.reduceMul, a0, length_edsA, n1])
end Go.Proofs
