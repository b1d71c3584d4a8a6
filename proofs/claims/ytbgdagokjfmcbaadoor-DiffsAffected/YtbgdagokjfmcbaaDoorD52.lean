import Derived.Test.YtbgdagokjfmcbaaDoorD20
import Derived.Test.YtbgdagokjfmcbaaDoorD24
namespace Go.Proofs
open Go Go.V
set_option linter.unusedVariables false
set_option linter.unusedSimpArgs false
set_option maxHeartbeats 0
def nextS (la : List Row) (s y : Int) : Edg := if s < 0 then (-1, -1) else (la.getD s.toNat ([], none)).1.getD y.toNat (0, 0)
def afterS (la : List Row) : Int → List Int → Int
 | s, [] => s
 | s, y :: w => afterS la (nextS la s y).1 w
def runS (la : List Row) : Int → List Int → List Int
 | _, [] => []
 | s, y :: w => (nextS la s y).2 :: runS la (nextS la s y).1 w
theorem afterS_snoc (la : List Row) (y : Int) : ∀ (w : List Int) (s : Int), afterS la s (w ++ [y]) = (nextS la (afterS la s w) y).1
 | [], s => rfl
 | x :: w, s => by rw [List.cons_append, afterS, afterS_snoc la y w, afterS]
theorem runS_snoc (la : List Row) (y : Int) : ∀ (w : List Int) (s : Int), runS la s (w ++ [y]) = runS la s w ++ [(nextS la (afterS la s w) y).2]
 | [], s => rfl
 | x :: w, s => by rw [List.cons_append, runS, runS_snoc la y w, runS, afterS]; rfl
theorem length_runS (la : List Row) : ∀ (w : List Int) (s : Int), (runS la s w).length = w.length
 | [], s => rfl
 | x :: w, s => by rw [runS, List.length_cons, length_runS la w, List.length_cons]
theorem take_snocI (w : List Int) (k : Nat) (h : k < w.length) : w.take (k + 1) = w.take k ++ [w.getD k 0] := by
 rw [List.take_succ_eq_append_getElem h]; simp [h]
def Syms (i : Int) (w : List Int) : Prop := ∀ x ∈ w, 0 ≤ x ∧ x < i
theorem Syms.at {i : Int} {w : List Int} (h : Syms i w) {k : Nat} (hk : k < w.length) : 0 ≤ w.getD k 0 ∧ w.getD k 0 < i :=
 h _ (by rw [List.getD_eq_getElem?_getD, List.getElem?_eq_getElem hk]; exact List.getElem_mem hk)
theorem nextS_range {i o : Int} {la : List Row} (hm : machOk i o la = 0) {s y : Int} (hs : -1 ≤ s ∧ s < la.length) (hy : 0 ≤ y ∧ y < i) : -1 ≤ (nextS la s y).1 ∧ (nextS la s y).1 < la.length := by
 obtain ⟨m1, m2, m3, m4, m5⟩ := machOk_zero hm
 unfold nextS
 split
 ·exact ⟨by simp, by simp; omega⟩
 ·have hI : ∀ s, s < la.length → (la.getD s ([], none)).1.length = i.toNat := fun s hs => by have := m4 s hs; omega
  have h := fitE_leads hI m5 s.toNat y.toNat (by omega) (by omega)
  simp only [toAt, Int.toNat_natCast] at h
  omega
theorem afterS_range {i o : Int} {la : List Row} (hm : machOk i o la = 0) : ∀ (w : List Int) (s : Int), (-1 ≤ s ∧ s < la.length) → Syms i w → -1 ≤ afterS la s w ∧ afterS la s w < la.length
 | [], s, hs, _ => hs
 | y :: w, s, hs, hw => afterS_range hm w _ (nextS_range hm hs (hw y (List.mem_cons_self ..))) fun x hx => hw x (List.mem_cons_of_mem _ hx)
set_option maxRecDepth 100000 in
theorem next65 (i o : Int) (la : List Row) (c : Option Nat) (hm : machOk i o la = 0) (s y : Int) (hs : -1 ≤ s ∧ s < la.length) (hy : 0 ≤ y ∧ y < i) : PC Tryd.prog G0 65 [mA i o la c, .int .i64 s, .int .i64 y] (.agg (eA (nextS la s y))) := by
 obtain ⟨m1, m2, m3, m4, m5⟩ := machOk_zero hm
 unfold mA
 rcases Int.lt_or_le s 0 with h0 | h0
 ·rw [nextS, if_pos h0]
  unfold eA
  refine pc_go 0 18 [.cell 6 91] Tryd.func65 rfl rfl rfl (by simp) ?_
  intro s ⟨a0, a1, a2, hz⟩
  simp only [Nat.zero_add, Nat.reduceAdd] at a1 a2
  clear hz
  repeat' (first | (first | (refine a0_ ?_; first | refine a1_ rfl rfl ?_ | refine a2_ rfl ?_ | refine a3_ rfl rfl ?_ | refine a4_ rfl ?_ | refine a5_ rfl rfl rfl ?_ | refine a6_ rfl rfl ?_) | (refine g0_ ?_; first | refine g1_ rfl ?_ | refine g2_ rfl rfl ?_ | refine go_draw (dr := allQ) rfl rfl mixed (by first | assumption | kernel_rfl) ?_ | refine g4_ rfl ?_ | refine g5_ rfl ?_ | refine g6_ rfl ?_ | refine g7_ rfl ?_ | refine g8_ rfl ?_) | (refine o0_ ?_; first | refine o1_ ?_ | refine o2_ ?_ | refine o3_ ?_ | refine o4_ ?_ | refine o5_ ?_ | refine o6_ rfl ?_ | refine o7_ rfl ?_ | refine o8_ ?_ | refine o9_ ?_ | refine oa_ ?_ | refine ob_ ?_ | refine oc_ ?_ | refine od_ ?_ | refine oe_ ?_ | refine of_ ?_ | refine og_ ?_)) | refine at_go ?_ | (with_reducible refine And.intro (at_go ?_) (at_go ?_)) | ((with_reducible refine And.intro (fun h => ?_) (fun h => ?_)) <;> try (exfalso; omega)) | (with_reducible refine And.intro (by first | omega | (simp only [maxLen]; omega)) ?_) | fail | simp (disch := first | omega | (simp only [length_rowsA, length_rowA, length_ints, List.length_set, List.length_reverse, List.length_replicate, List.length_append, List.length_cons, List.length_nil, List.length_map]; omega)) only [push_cast, ↓reduceIte, reduceIte, reduceCtorEq, Nat.reduceAdd, Nat.reduceLT, Nat.reduceEqDiff, Nat.reduceLeDiff, Int.reduceAdd, Int.reduceLT, Int.reduceLE, Nat.reduceMul, a0, a1, a2, h0])
 ·obtain ⟨q, rfl⟩ : ∃ q : Nat, s = q := ⟨s.toNat, by omega⟩
  rw [nextS, if_neg (by omega), Int.toNat_natCast]
  have hq : q < la.length := by omega
  have hlen := m4 q hq
  have hrow := getD_rowsA la q hq
  generalize (la.getD q ([], none)).1 = r at *
  generalize (la.getD q ([], none)).2 = cr at *
  have e4 := getD_rowA r y.toNat (by omega)
  generalize r.getD y.toNat (0, 0) = f at *
  unfold eA at *
  refine pc_go 0 18 [.cell 6 91] Tryd.func65 rfl rfl rfl (by simp) ?_
  intro s ⟨a0, a1, a2, hz⟩
  simp only [Nat.zero_add, Nat.reduceAdd] at a1 a2
  clear hz
  repeat' (first | (first | (refine a0_ ?_; first | refine a1_ rfl rfl ?_ | refine a2_ rfl ?_ | refine a3_ rfl rfl ?_ | refine a4_ rfl ?_ | refine a5_ rfl rfl rfl ?_ | refine a6_ rfl rfl ?_) | (refine g0_ ?_; first | refine g1_ rfl ?_ | refine g2_ rfl rfl ?_ | refine go_draw (dr := allQ) rfl rfl mixed (by first | assumption | kernel_rfl) ?_ | refine g4_ rfl ?_ | refine g5_ rfl ?_ | refine g6_ rfl ?_ | refine g7_ rfl ?_ | refine g8_ rfl ?_) | (refine o0_ ?_; first | refine o1_ ?_ | refine o2_ ?_ | refine o3_ ?_ | refine o4_ ?_ | refine o5_ ?_ | refine o6_ rfl ?_ | refine o7_ rfl ?_ | refine o8_ ?_ | refine o9_ ?_ | refine oa_ ?_ | refine ob_ ?_ | refine oc_ ?_ | refine od_ ?_ | refine oe_ ?_ | refine of_ ?_ | refine og_ ?_)) | refine at_go ?_ | (with_reducible refine And.intro (at_go ?_) (at_go ?_)) | ((with_reducible refine And.intro (fun h => ?_) (fun h => ?_)) <;> try (exfalso; omega)) | (with_reducible refine And.intro (by first | omega | (simp only [maxLen]; omega)) ?_) | fail | simp (disch := first | omega | (simp only [length_rowsA, length_rowA, length_ints, List.length_set, List.length_reverse, List.length_replicate, List.length_append, List.length_cons, List.length_nil, List.length_map]; omega)) only [push_cast, ↓reduceIte, reduceIte, reduceCtorEq, Nat.reduceAdd, Nat.reduceLT, Nat.reduceEqDiff, Nat.reduceLeDiff, Int.reduceAdd, Int.reduceLT, Int.reduceLE, Nat.reduceMul, a0, a1, a2, hrow, hlen, e4])
  all_goals omega
set_option maxRecDepth 100000 in
theorem after63 (i o : Int) (la : List Row) (c : Option Nat) (hm : machOk i o la = 0) : ∀ (w : List Int) (zw : Nat) (cw : Option Nat) (s : Int), (-1 ≤ s ∧ s < la.length) → Syms i w → w.length ≤ 1000000 → (w = [] ∨ zw = 1) → PC Tryd.prog G0 63 [mA i o la c, .int .i64 s, .sl zw (ints w) cw] (.int .i64 (afterS la s w))
 | [], zw, cw, s, hs, hw, hl, hz => by
  unfold mA
  refine pc_go 0 22 [.tmp 6] Tryd.func63 rfl rfl rfl (by simp) ?_
  intro s ⟨a0, a1, a2, hz⟩
  simp only [Nat.zero_add, Nat.reduceAdd] at a1 a2
  clear hz
  repeat' (first | (first | (refine a0_ ?_; first | refine a1_ rfl rfl ?_ | refine a2_ rfl ?_ | refine a3_ rfl rfl ?_ | refine a4_ rfl ?_ | refine a5_ rfl rfl rfl ?_ | refine a6_ rfl rfl ?_) | (refine g0_ ?_; first | refine g1_ rfl ?_ | refine g2_ rfl rfl ?_ | refine go_draw (dr := allQ) rfl rfl mixed (by first | assumption | kernel_rfl) ?_ | refine g4_ rfl ?_ | refine g5_ rfl ?_ | refine g6_ rfl ?_ | refine g7_ rfl ?_ | refine g8_ rfl ?_) | (refine o0_ ?_; first | refine o1_ ?_ | refine o2_ ?_ | refine o3_ ?_ | refine o4_ ?_ | refine o5_ ?_ | refine o6_ rfl ?_ | refine o7_ rfl ?_ | refine o8_ ?_ | refine o9_ ?_ | refine oa_ ?_ | refine ob_ ?_ | refine oc_ ?_ | refine od_ ?_ | refine oe_ ?_ | refine of_ ?_ | refine og_ ?_)) | refine at_go ?_ | (with_reducible refine And.intro (at_go ?_) (at_go ?_)) | ((with_reducible refine And.intro (fun h => ?_) (fun h => ?_)) <;> try (exfalso; omega)) | (with_reducible refine And.intro (by first | omega | (simp only [maxLen]; omega)) ?_) | fail | simp (disch := first | omega | (simp only [length_rowsA, length_rowA, length_ints, List.length_set, List.length_reverse, List.length_replicate, List.length_append, List.length_cons, List.length_nil, List.length_map]; omega)) only [push_cast, ↓reduceIte, reduceIte, reduceCtorEq, Nat.reduceAdd, Nat.reduceLT, Nat.reduceEqDiff, Nat.reduceLeDiff, Int.reduceAdd, Int.reduceLT, Int.reduceLE, Nat.reduceMul, a0, a1, a2, ints_nil])
  rfl
 | y :: w, zw, cw, s, hs, hw, hl, hz => by
  obtain rfl := hz.resolve_left (by simp)
  have hy := hw y (List.mem_cons_self ..)
  have h1 := next65 i o la c hm s y hs hy
  have h2 := fun c2 => after63 i o la c hm w 1 c2 (nextS la s y).1 (nextS_range hm hs hy) (fun x hx => hw x (List.mem_cons_of_mem _ hx)) (by simp at hl; omega) (.inr rfl)
  have hl2 : w.length ≤ 1000000 := by simp at hl; omega
  rw [afterS]
  generalize afterS la (nextS la s y).1 w = u at *
  generalize nextS la s y = e at *
  unfold mA at *
  simp only [eA] at h1
  refine pc_go 0 22 [.tmp 6] Tryd.func63 rfl rfl rfl (by simp) ?_
  intro s ⟨a0, a1, a2, hz⟩
  simp only [Nat.zero_add, Nat.reduceAdd] at a1 a2
  clear hz
  repeat' (first | (first | (refine a0_ ?_; first | refine a1_ rfl rfl ?_ | refine a2_ rfl ?_ | refine a3_ rfl rfl ?_ | refine a4_ rfl ?_ | refine a5_ rfl rfl rfl ?_ | refine a6_ rfl rfl ?_) | (refine g0_ ?_; first | refine g1_ rfl ?_ | refine g2_ rfl rfl ?_ | refine go_draw (dr := allQ) rfl rfl mixed (by first | assumption | kernel_rfl) ?_ | refine g4_ rfl ?_ | refine g5_ rfl ?_ | refine g6_ rfl ?_ | refine g7_ rfl ?_ | refine g8_ rfl ?_) | (refine o0_ ?_; first | refine o1_ ?_ | refine o2_ ?_ | refine o3_ ?_ | refine o4_ ?_ | refine o5_ ?_ | refine o6_ rfl ?_ | refine o7_ rfl ?_ | refine o8_ ?_ | refine o9_ ?_ | refine oa_ ?_ | refine ob_ ?_ | refine oc_ ?_ | refine od_ ?_ | refine oe_ ?_ | refine of_ ?_ | refine og_ ?_)) | refine at_go ?_ | (with_reducible refine And.intro (at_go ?_) (at_go ?_)) | ((with_reducible refine And.intro (fun h => ?_) (fun h => ?_)) <;> try (exfalso; omega)) | (with_reducible refine And.intro (by first | omega | (simp only [maxLen]; omega)) ?_) | (first | (refine ⟨_, _, pc_lift (h1) (by (simp [idsL, idsE, AV.ids, Nat.add_zero])) _, ?_⟩) | (refine ⟨_, pc_lift (h1) (by (simp [idsL, idsE, AV.ids, Nat.add_zero])) _, ?_⟩) | (refine ⟨_, fun _ => pc_lift (h1) (by (simp [idsL, idsE, AV.ids, Nat.add_zero])) _, ?_⟩) | (refine ⟨_, _, pc_lift (h2 _) (by (simp [idsL, idsE, AV.ids, Nat.add_zero])) _, ?_⟩) | (refine ⟨_, pc_lift (h2 _) (by (simp [idsL, idsE, AV.ids, Nat.add_zero])) _, ?_⟩) | (refine ⟨_, fun _ => pc_lift (h2 _) (by (simp [idsL, idsE, AV.ids, Nat.add_zero])) _, ?_⟩)) | simp (disch := first | omega | (simp only [length_rowsA, length_rowA, length_ints, List.length_set, List.length_reverse, List.length_replicate, List.length_append, List.length_cons, List.length_nil, List.length_map]; omega)) only [push_cast, ↓reduceIte, reduceIte, reduceCtorEq, Nat.reduceAdd, Nat.reduceLT, Nat.reduceEqDiff, Nat.reduceLeDiff, Int.reduceAdd, Int.reduceLT, Int.reduceLE, Nat.reduceMul, a0, a1, a2, ints_cons])
end Go.Proofs
