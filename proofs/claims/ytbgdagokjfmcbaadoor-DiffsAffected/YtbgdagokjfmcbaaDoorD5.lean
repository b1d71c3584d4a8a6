import Derived.Test.YtbgdagokjfmcbaaDoorD2
namespace Go.Proofs
open Go Go.V
set_option linter.unusedVariables false
set_option linter.unusedSimpArgs false
set_option maxHeartbeats 0
def eD : Ed := ⟨0, 0, (0, 0), (0, 0)⟩
def isAt (s i : Int) (x : Ed) : Bool := decide (x.s = s) && decide (x.i = i)
def findM (l : List Ed) (s i : Int) : Int := match l.findIdx? (isAt s i) with | some k => k | none => -1
theorem findM_at {l : List Ed} {s i : Int} {k : Nat} (hk : k < l.length) (h : isAt s i (l.getD k eD) = true) (hb : ∀ j, j < k → isAt s i (l.getD j eD) = false) : findM l s i = k := by
 have : l.findIdx? (isAt s i) = some k := by
  rw [List.findIdx?_eq_some_iff_getElem]
  refine ⟨hk, by simpa [hk] using h, fun j hj => ?_⟩
  have := hb j hj
  simpa [show j < l.length by omega] using this
 rw [findM, this]
theorem findM_no {l : List Ed} {s i : Int} (hb : ∀ j, j < l.length → isAt s i (l.getD j eD) = false) : findM l s i = -1 := by
 have : l.findIdx? (isAt s i) = none := by
  rw [List.findIdx?_eq_none_iff]
  intro x hx
  obtain ⟨j, hj, rfl⟩ := List.getElem_of_mem hx
  simpa [hj] using hb j hj
 rw [findM, this]
set_option maxRecDepth 100000 in
theorem find64 (p : Pt) (z : Nat) (c : Option Nat) (q i : Int) (hz : p.ed = [] ∨ z = 6) (hl : p.ed.length ≤ 1000000) : PC Tryd.prog G0 64 [pA p z c,   .int .i64 q, .int .i64 i] (.int .i64 (findM p.ed q i)) := by
 unfold pA
 refine pc_go 0 34 [.tmp 6] Tryd.func64 rfl rfl rfl (by simp) ?_
 intro s ⟨a0, a1, a2, hz⟩
 simp only [Nat.zero_add, Nat.reduceAdd] at a1 a2
 clear hz
 repeat' (first | (first | (refine a0_ ?_; first | refine a1_ rfl rfl ?_ | refine a2_ rfl ?_ | refine a3_ rfl rfl ?_ | refine a4_ rfl ?_ | refine a5_ rfl rfl rfl ?_ | refine a6_ rfl rfl ?_) | (refine g0_ ?_; first | refine g1_ rfl ?_ | refine g2_ rfl rfl ?_ | refine go_draw (dr := allQ) rfl rfl mixed (by first | assumption | kernel_rfl) ?_ | refine g4_ rfl ?_ | refine g5_ rfl ?_ | refine g6_ rfl ?_ | refine g7_ rfl ?_ | refine g8_ rfl ?_) | (refine o0_ ?_; first | refine o1_ ?_ | refine o2_ ?_ | refine o3_ ?_ | refine o4_ ?_ | refine o5_ ?_ | refine o6_ rfl ?_ | refine o7_ rfl ?_ | refine o8_ ?_ | refine o9_ ?_ | refine oa_ ?_ | refine ob_ ?_ | refine oc_ ?_ | refine od_ ?_ | refine oe_ ?_ | refine of_ ?_ | refine og_ ?_)) | refine at_go ?_ | (with_reducible refine And.intro (at_go ?_) (at_go ?_)) | ((with_reducible refine And.intro (fun h => ?_) (fun h => ?_)) <;> try (exfalso; omega)) | (with_reducible refine And.intro (by first | omega | (simp only [maxLen]; omega)) ?_) | fail | simp (disch := first | omega | (simp only [length_edsA, length_rowsA, length_rowA, List.length_set, List.length_reverse, List.length_replicate, List.length_append, List.length_cons, List.length_nil, List.length_map]; omega)) only [push_cast, ↓reduceIte, reduceIte, reduceCtorEq, Nat.reduceAdd, Nat.reduceLT, Nat.reduceEqDiff, Nat.reduceLeDiff, Int.reduceAdd, Int.reduceLT, Int.reduceLE, Nat.reduceMul, a0, a1, a2])
 refine go_loop rfl (fun mz s' H' => ∃ k : Nat, k ≤ p.ed.length ∧ mz = p.ed.length - k ∧ H' = [.row 6 36 [[.int .i64 p.inp, .int .i64 p.o0, .int .i64 p.o1, .int .i64 p.s0, .int .i64 p.s1, .sl z (edsA p.ed) c]]] ∧ s' 1 = .int .i64 q ∧ s' 2 = .int .i64 i ∧ s' 3 = .ptr 0 0 0 1 ∧ s' 7 = .int .i64 k ∧ ∀ j, j < k → isAt q i (p.ed.getD j eD) = false) (m := p.ed.length) (by (first | trivial | ((repeat' apply And.intro) <;> first | trivial | assumption | omega | (simp only [maxLen]; omega) | (simp only [length_edsA, length_rowsA, length_rowA, List.length_replicate, List.length_append, List.length_cons, List.length_nil, List.length_map, List.length_take, List.length_drop, List.length_set, List.length_reverse, maxLen] <;> omega)))) (Weak.refl _ _) ⟨0, by omega, by omega, rfl, ?_⟩ ?_
 ·simp (disch := first | omega | (simp only [length_edsA, length_rowsA, length_rowA, List.length_set, List.length_reverse, List.length_replicate, List.length_append, List.length_cons, List.length_nil, List.length_map]; omega)) only [push_cast, ↓reduceIte, reduceIte, reduceCtorEq, Nat.reduceAdd, Nat.reduceLT, Nat.reduceEqDiff, Nat.reduceLeDiff, Int.reduceAdd, Int.reduceLT, Int.reduceLE, Nat.reduceMul, a0, a1, a2]
  exact fun j hj => by omega
 ·rintro mz s' H' ⟨k, hk, rfl, rfl, b1, b2, b3, b7, ik⟩
  rcases Nat.lt_or_ge k p.ed.length with hlt | hge
  ·obtain rfl : z = 6 := by
    rcases hz with h | h
    ·rw [h] at hlt; simp at hlt
    ·exact h
   have e1 := getD_edsA p.ed k hlt
   change _ = xA (p.ed.getD k eD) at e1
   have hn := findM_at (s := q) (i := i) hlt
   have hs := fun h => snocB ik (show isAt q i (p.ed.getD k eD) = false from h)
   generalize p.ed.getD k eD = x at *
   simp only [isAt] at hn hs
   simp only [xA] at e1
   repeat' (first | (first | (refine a0_ ?_; first | refine a1_ rfl rfl ?_ | refine a2_ rfl ?_ | refine a3_ rfl rfl ?_ | refine a4_ rfl ?_ | refine a5_ rfl rfl rfl ?_ | refine a6_ rfl rfl ?_) | (refine g0_ ?_; first | refine g1_ rfl ?_ | refine g2_ rfl rfl ?_ | refine go_draw (dr := allQ) rfl rfl mixed (by first | assumption | kernel_rfl) ?_ | refine g4_ rfl ?_ | refine g5_ rfl ?_ | refine g6_ rfl ?_ | refine g7_ rfl ?_ | refine g8_ rfl ?_) | (refine o0_ ?_; first | refine o1_ ?_ | refine o2_ ?_ | refine o3_ ?_ | refine o4_ ?_ | refine o5_ ?_ | refine o6_ rfl ?_ | refine o7_ rfl ?_ | refine o8_ ?_ | refine o9_ ?_ | refine oa_ ?_ | refine ob_ ?_ | refine oc_ ?_ | refine od_ ?_ | refine oe_ ?_ | refine of_ ?_ | refine og_ ?_)) | refine at_go ?_ | (with_reducible refine And.intro (at_go ?_) (at_go ?_)) | ((with_reducible refine And.intro (fun h => ?_) (fun h => ?_)) <;> try (exfalso; omega)) | (with_reducible refine And.intro (by first | omega | (simp only [maxLen]; omega)) ?_) | fail | simp (disch := first | omega | (simp only [length_edsA, length_rowsA, length_rowA, List.length_set, List.length_reverse, List.length_replicate, List.length_append, List.length_cons, List.length_nil, List.length_map]; omega)) only [push_cast, ↓reduceIte, reduceIte, reduceCtorEq, Nat.reduceAdd, Nat.reduceLT, Nat.reduceEqDiff, Nat.reduceLeDiff, Int.reduceAdd, Int.reduceLT, Int.reduceLE, Nat.reduceMul, b1, b2, b3, b7, e1])
   ·rw [hn (by simp [h]) ik]
   ·refine out_round (p.ed.length - (k + 1)) (by omega) (by (first | trivial | ((repeat' apply And.intro) <;> first | trivial | assumption | omega | (simp only [maxLen]; omega) | (simp only [length_edsA, length_rowsA, length_rowA, List.length_replicate, List.length_append, List.length_cons, List.length_nil, List.length_map, List.length_take, List.length_drop, List.length_set, List.length_reverse, maxLen] <;> omega)))) ⟨k + 1, by omega, rfl, rfl, ?_⟩
    simp (disch := first | omega | (simp only [length_edsA, length_rowsA, length_rowA, List.length_set, List.length_reverse, List.length_replicate, List.length_append, List.length_cons, List.length_nil, List.length_map]; omega)) only [push_cast, ↓reduceIte, reduceIte, reduceCtorEq, Nat.reduceAdd, Nat.reduceLT, Nat.reduceEqDiff, Nat.reduceLeDiff, Int.reduceAdd, Int.reduceLT, Int.reduceLE, Nat.reduceMul, b1, b2, b3, b7, e1]
    exact hs (by simp; omega)
  ·obtain rfl : k = p.ed.length := by omega
   repeat' (first | (first | (refine a0_ ?_; first | refine a1_ rfl rfl ?_ | refine a2_ rfl ?_ | refine a3_ rfl rfl ?_ | refine a4_ rfl ?_ | refine a5_ rfl rfl rfl ?_ | refine a6_ rfl rfl ?_) | (refine g0_ ?_; first | refine g1_ rfl ?_ | refine g2_ rfl rfl ?_ | refine go_draw (dr := allQ) rfl rfl mixed (by first | assumption | kernel_rfl) ?_ | refine g4_ rfl ?_ | refine g5_ rfl ?_ | refine g6_ rfl ?_ | refine g7_ rfl ?_ | refine g8_ rfl ?_) | (refine o0_ ?_; first | refine o1_ ?_ | refine o2_ ?_ | refine o3_ ?_ | refine o4_ ?_ | refine o5_ ?_ | refine o6_ rfl ?_ | refine o7_ rfl ?_ | refine o8_ ?_ | refine o9_ ?_ | refine oa_ ?_ | refine ob_ ?_ | refine oc_ ?_ | refine od_ ?_ | refine oe_ ?_ | refine of_ ?_ | refine og_ ?_)) | refine at_go ?_ | (with_reducible refine And.intro (at_go ?_) (at_go ?_)) | ((with_reducible refine And.intro (fun h => ?_) (fun h => ?_)) <;> try (exfalso; omega)) | (with_reducible refine And.intro (by first | omega | (simp only [maxLen]; omega)) ?_) | fail | simp (disch := first | omega | (simp only [length_edsA, length_rowsA, length_rowA, List.length_set, List.length_reverse, List.length_replicate, List.length_append, List.length_cons, List.length_nil, List.length_map]; omega)) only [push_cast, ↓reduceIte, reduceIte, reduceCtorEq, Nat.reduceAdd, Nat.reduceLT, Nat.reduceEqDiff, Nat.reduceLeDiff, Int.reduceAdd, Int.reduceLT, Int.reduceLE, Nat.reduceMul, b1, b2, b3, b7])
   rw [findM_no ik]
def fitsM (a o n : Int) (p : Pt) : Int := if p.inp ≠ a then 5 else if p.o0 ≠ o ∨ p.s0 ≠ n then 6 else 0
def invE (x : Ed) : Ed := ⟨x.s, x.i, x.new, x.old⟩
def invM (p : Pt) : Pt := ⟨p.inp, p.o1, p.o0, p.s1, p.s0, p.ed.map invE⟩
end Go.Proofs
