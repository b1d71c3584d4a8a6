import Derived.Test.YtfdnlhegmdhcjaaDoorF1
import Derived.Test.YtfdnlhegmdhcjaaDoorFP7
import Derived.Test.YtfdnlhegmdhcjaaDoorV44
namespace Go.Proofs
open Go Go.V
set_option linter.unusedVariables false
set_option linter.unusedSimpArgs false
set_option maxHeartbeats 0
def Wide (i : Int) (l : List Row) : Prop := ∀ s, s < l.length → ((l.getD s ([], none)).1.length : Int) = i
theorem machOk_zero {i o : Int} {l : List Row} (h : machOk i o l = 0) : (1 ≤ i ∧ i ≤ 16) ∧ (1 ≤ o ∧ o ≤ 16) ∧ (1 ≤ l.length ∧ l.length ≤ 64) ∧ Wide i l ∧ ∀ j, j < l.length → (l.getD j ([], none)).1.all (fitE o l.length) = true := by
 rw [machOk] at h
 by_cases h1 : 16 < i ∨ 16 < o ∨ 64 < l.length
 ·rw [if_pos h1] at h; omega
 ·by_cases h2 : i < 1 ∨ o < 1 ∨ l.length < 1
  ·rw [if_neg h1, if_pos h2] at h; omega
  ·rw [if_neg h1, if_neg h2] at h
   split at h
   ·rename_i hh
    refine ⟨by omega, by omega, by omega, fun j hj => ?_, fun j hj => ?_⟩
    ·have := hh j hj; rw [rowOk, Bool.and_eq_true, decide_eq_true_eq] at this; exact this.1
    ·have := hh j hj; rw [rowOk, Bool.and_eq_true] at this; exact this.2
   ·omega
theorem machOk_of {i o : Int} {l : List Row} (h1 : 1 ≤ i ∧ i ≤ 16) (h2 : 1 ≤ o ∧ o ≤ 16) (h3 : 1 ≤ l.length ∧ l.length ≤ 64) (h4 : Wide i l) (h5 : ∀ j, j < l.length → (l.getD j ([], none)).1.all (fitE o l.length) = true) : machOk i o l = 0 := by
 rw [machOk, if_neg (by omega), if_neg (by omega), if_pos]
 intro j hj
 rw [rowOk, h5 j hj, decide_eq_true (h4 j hj)]; rfl
def edgesOf (l : List Row) : List (List Edg) := l.map (·.1)
theorem getD_edgesOf (l : List Row) (k : Nat) : (edgesOf l).getD k [] = (l.getD k ([], none)).1 := by
 rw [edgesOf, List.getD_eq_getElem?_getD, List.getD_eq_getElem?_getD, List.getElem?_map]
 cases l[k]? <;> rfl
set_option maxRecDepth 100000 in
theorem refSame14 (i o : Int) (l : List Row) (z : Nat) (c : Option Nat) (i' o' : Int) (l' : List Row) (z' : Nat) (c' : Option Nat) (hz : l = [] ∨ z = 1) (hz' : l' = [] ∨ z' = 1) (hl : l.length ≤ 1000000) (hl' : l'.length ≤ 1000000) (hr : ∀ j, j < l.length → (l.getD j ([], none)).1.length ≤ 1000000) (hr' : ∀ j, j < l'.length → (l'.getD j ([], none)).1.length ≤ 1000000) : PC Tryd.prog G0 14 [.agg [.int .i64 i, .int .i64 o, .sl z (rowsA l) c], .agg [.int .i64 i', .int .i64 o', .sl z' (rowsA l') c']] (.bool (decide (i = i' ∧ o = o' ∧ edgesOf l = edgesOf l'))) := by
 refine pc_go 1 75 [.tmp 4] Tryd.func14 rfl rfl rfl (by simp) ?_
 intro s ⟨a0, a1, hz⟩
 simp only [Nat.zero_add, Nat.reduceAdd] at a1
 clear hz
 repeat' (first|(first|(refine a0_ ?_; first|refine a1_ rfl rfl ?_|refine a2_ rfl ?_|refine a3_ rfl rfl ?_|refine a4_ rfl ?_|refine ak_ rfl rfl ?_|refine a5_ rfl rfl rfl ?_|refine a6_ rfl rfl ?_|refine a7_ rfl rfl ?_|refine a8_ rfl rfl ?_|refine a9_ rfl rfl rfl ?_)|(refine g0_ ?_; first|refine g1_ rfl ?_|refine g2_ rfl rfl ?_|refine go_draw (dr := allQ) rfl rfl mixed (by first|assumption|kernel_rfl) ?_|refine g4_ rfl ?_|refine g5_ rfl ?_|refine g6_ rfl ?_|refine g7_ rfl ?_|refine g8_ rfl ?_|refine ga_ rfl ?_|refine gb_ rfl ?_)|(refine o0_ ?_; first|refine o1_ ?_|refine o2_ ?_|refine o3_ ?_|refine o4_ ?_|refine o5_ ?_|refine o6_ rfl ?_|refine o7_ rfl ?_|refine o8_ ?_|refine o9_ ?_|refine oa_ ?_|refine ob_ ?_|refine oc_ ?_|refine od_ ?_|refine oe_ ?_|refine of_ ?_|refine og_ ?_|refine oh_ ?_|refine oi_ ?_|refine oj_ ?_|refine ok_ ?_))|refine at_go ?_|(with_reducible refine And.intro (at_go ?_) (at_go ?_))|((with_reducible refine And.intro (fun h => ?_) (fun h => ?_)) <;> try (exfalso; omega))|(with_reducible refine And.intro (by first|omega|(simp only [maxLen]; omega)) ?_)|(refine And.intro ⟨[_], rfl⟩ ?_)|fail|simp (disch := first|omega|(simp only [length_rowsA, length_rowA, List.length_set, List.length_reverse, List.length_replicate, List.length_append, List.length_cons, List.length_nil, List.length_map]; omega)) only [push_cast, ↓reduceIte, reduceIte, reduceCtorEq, Nat.reduceAdd, Nat.reduceLT, Nat.reduceEqDiff, Nat.reduceLeDiff, Int.reduceAdd, Int.reduceLT, Int.reduceLE, Nat.reduceMul, a0, a1])
 ·rw [decide_eq_false]
  rintro ⟨h1, h2, h3⟩
  have := congrArg List.length h3
  simp [edgesOf] at this
  omega
 ·refine go_loop rfl (fun mz s' H' => ∃ k : Nat, k ≤ l.length ∧ mz = l.length - k ∧ H' = [.row 3 30 [[.int .i64 i, .int .i64 o, .sl z (rowsA l) c]], .row 3 30 [[.int .i64 i', .int .i64 o', .sl z' (rowsA l') c']]] ∧ s' 2 = .ptr 0 0 0 1 ∧ s' 3 = .ptr 1 0 0 1 ∧ s' 5 = .int .i64 k ∧ ∀ j, j < k → (l.getD j ([], none)).1 = (l'.getD j ([], none)).1) (m := l.length) (by (first|trivial|((repeat' apply And.intro) <;> first|trivial|assumption|omega|(simp only [maxLen]; omega)|(simp only [length_rowsA, length_rowA, List.length_replicate, List.length_append, List.length_cons, List.length_nil, List.length_map, List.length_take, List.length_drop, List.length_set, List.length_reverse, maxLen] <;> omega)))) (Weak.refl _ _) ⟨0, by omega, by omega, rfl, ?_⟩ ?_
  ·simp (disch := first|omega|(simp only [length_rowsA, length_rowA, List.length_set, List.length_reverse, List.length_replicate, List.length_append, List.length_cons, List.length_nil, List.length_map]; omega)) only [push_cast, ↓reduceIte, reduceIte, reduceCtorEq, Nat.reduceAdd, Nat.reduceLT, Nat.reduceEqDiff, Nat.reduceLeDiff, Int.reduceAdd, Int.reduceLT, Int.reduceLE, Nat.reduceMul, a0, a1]
   exact fun j hj => by omega
  ·rintro mz s' H' ⟨k, hk, rfl, rfl, b2, b3, b5, ik⟩
   rcases Nat.lt_or_ge k l.length with hlt|hge
   ·have hlt2 : k < l'.length := by omega
    obtain rfl : z = 1 := by
     rcases hz with h|h
     ·rw [h] at hlt; simp at hlt
     ·exact h
    obtain rfl : z' = 1 := by
     rcases hz' with h|h
     ·rw [h] at hlt2; simp at hlt2
     ·exact h
    have e1 := getD_rowsA l k hlt
    have e2 := getD_rowsA l' k hlt2
    have q1 := hr k hlt
    have q2 := hr' k hlt2
    have hs := snocB (P := fun j => (l.getD j ([], none)).1 = (l'.getD j ([], none)).1) (k := k) ik
    have hno : (l.getD k ([], none)).1 ≠ (l'.getD k ([], none)).1 → ¬(i = i' ∧ o = o' ∧ edgesOf l = edgesOf l') := fun h hh => h (by rw [← getD_edgesOf, ← getD_edgesOf, hh.2.2])
    generalize (l.getD k ([], none)).1 = r at *
    generalize (l'.getD k ([], none)).1 = r' at *
    generalize (l.getD k ([], none)).2 = cc at *
    generalize (l'.getD k ([], none)).2 = cc' at *
    repeat' (first|(first|(refine a0_ ?_; first|refine a1_ rfl rfl ?_|refine a2_ rfl ?_|refine a3_ rfl rfl ?_|refine a4_ rfl ?_|refine ak_ rfl rfl ?_|refine a5_ rfl rfl rfl ?_|refine a6_ rfl rfl ?_|refine a7_ rfl rfl ?_|refine a8_ rfl rfl ?_|refine a9_ rfl rfl rfl ?_)|(refine g0_ ?_; first|refine g1_ rfl ?_|refine g2_ rfl rfl ?_|refine go_draw (dr := allQ) rfl rfl mixed (by first|assumption|kernel_rfl) ?_|refine g4_ rfl ?_|refine g5_ rfl ?_|refine g6_ rfl ?_|refine g7_ rfl ?_|refine g8_ rfl ?_|refine ga_ rfl ?_|refine gb_ rfl ?_)|(refine o0_ ?_; first|refine o1_ ?_|refine o2_ ?_|refine o3_ ?_|refine o4_ ?_|refine o5_ ?_|refine o6_ rfl ?_|refine o7_ rfl ?_|refine o8_ ?_|refine o9_ ?_|refine oa_ ?_|refine ob_ ?_|refine oc_ ?_|refine od_ ?_|refine oe_ ?_|refine of_ ?_|refine og_ ?_|refine oh_ ?_|refine oi_ ?_|refine oj_ ?_|refine ok_ ?_))|refine at_go ?_|(with_reducible refine And.intro (at_go ?_) (at_go ?_))|((with_reducible refine And.intro (fun h => ?_) (fun h => ?_)) <;> try (exfalso; omega))|(with_reducible refine And.intro (by first|omega|(simp only [maxLen]; omega)) ?_)|(refine And.intro ⟨[_], rfl⟩ ?_)|fail|simp (disch := first|omega|(simp only [length_rowsA, length_rowA, List.length_set, List.length_reverse, List.length_replicate, List.length_append, List.length_cons, List.length_nil, List.length_map]; omega)) only [push_cast, ↓reduceIte, reduceIte, reduceCtorEq, Nat.reduceAdd, Nat.reduceLT, Nat.reduceEqDiff, Nat.reduceLeDiff, Int.reduceAdd, Int.reduceLT, Int.reduceLE, Nat.reduceMul, b2, b3, b5, e1, e2])
    ·rw [decide_eq_false]
     exact hno fun hh => by rw [hh] at h; omega
    ·rename_i hlen
     refine go_loop rfl (fun mz s' H' => ∃ m : Nat, m ≤ r.length ∧ mz = r.length - m ∧ H' = [.row 3 30 [[.int .i64 i, .int .i64 o, .sl 1 (rowsA l) c]], .row 3 30 [[.int .i64 i', .int .i64 o', .sl 1 (rowsA l') c']]] ∧ s' 2 = .ptr 0 0 0 1 ∧ s' 3 = .ptr 1 0 0 1 ∧ s' 5 = .int .i64 k ∧ s' 6 = .int .i64 m ∧ ∀ j, j < m → r.getD j (0, 0) = r'.getD j (0, 0)) (m := r.length) (by (first|trivial|((repeat' apply And.intro) <;> first|trivial|assumption|omega|(simp only [maxLen]; omega)|(simp only [length_rowsA, length_rowA, List.length_replicate, List.length_append, List.length_cons, List.length_nil, List.length_map, List.length_take, List.length_drop, List.length_set, List.length_reverse, maxLen] <;> omega)))) (Weak.refl _ _) ⟨0, by omega, by omega, rfl, ?_⟩ ?_
     ·simp (disch := first|omega|(simp only [length_rowsA, length_rowA, List.length_set, List.length_reverse, List.length_replicate, List.length_append, List.length_cons, List.length_nil, List.length_map]; omega)) only [push_cast, ↓reduceIte, reduceIte, reduceCtorEq, Nat.reduceAdd, Nat.reduceLT, Nat.reduceEqDiff, Nat.reduceLeDiff, Int.reduceAdd, Int.reduceLT, Int.reduceLE, Nat.reduceMul, b2, b3, b5, e1, e2]
      exact fun j hj => by omega
     ·rintro mz s' H' ⟨m, hm, rfl, rfl, b2, b3, b5, b6, im⟩
      rcases Nat.lt_or_ge m r.length with hlt3|hge3
      ·have hlt4 : m < r'.length := by omega
       have e3 := getD_rowA r m hlt3
       have e4 := getD_rowA r' m hlt4
       have hs3 := snocB (P := fun j => r.getD j (0, 0) = r'.getD j (0, 0)) (k := m) im
       have hno3 : r.getD m (0, 0) ≠ r'.getD m (0, 0) → ¬(i = i' ∧ o = o' ∧ edgesOf l = edgesOf l') := fun h => hno fun hh => h (by rw [hh])
       generalize r.getD m (0, 0) = x at *
       generalize r'.getD m (0, 0) = w at *
       obtain ⟨x1, x2⟩ := x
       obtain ⟨w1, w2⟩ := w
       simp only [eA] at e3 e4
       simp only [Prod.mk.injEq, Ne] at hs3 hno3
       repeat' (first|(first|(refine a0_ ?_; first|refine a1_ rfl rfl ?_|refine a2_ rfl ?_|refine a3_ rfl rfl ?_|refine a4_ rfl ?_|refine ak_ rfl rfl ?_|refine a5_ rfl rfl rfl ?_|refine a6_ rfl rfl ?_|refine a7_ rfl rfl ?_|refine a8_ rfl rfl ?_|refine a9_ rfl rfl rfl ?_)|(refine g0_ ?_; first|refine g1_ rfl ?_|refine g2_ rfl rfl ?_|refine go_draw (dr := allQ) rfl rfl mixed (by first|assumption|kernel_rfl) ?_|refine g4_ rfl ?_|refine g5_ rfl ?_|refine g6_ rfl ?_|refine g7_ rfl ?_|refine g8_ rfl ?_|refine ga_ rfl ?_|refine gb_ rfl ?_)|(refine o0_ ?_; first|refine o1_ ?_|refine o2_ ?_|refine o3_ ?_|refine o4_ ?_|refine o5_ ?_|refine o6_ rfl ?_|refine o7_ rfl ?_|refine o8_ ?_|refine o9_ ?_|refine oa_ ?_|refine ob_ ?_|refine oc_ ?_|refine od_ ?_|refine oe_ ?_|refine of_ ?_|refine og_ ?_|refine oh_ ?_|refine oi_ ?_|refine oj_ ?_|refine ok_ ?_))|refine at_go ?_|(with_reducible refine And.intro (at_go ?_) (at_go ?_))|((with_reducible refine And.intro (fun h => ?_) (fun h => ?_)) <;> try (exfalso; omega))|(with_reducible refine And.intro (by first|omega|(simp only [maxLen]; omega)) ?_)|(refine And.intro ⟨[_], rfl⟩ ?_)|fail|simp (disch := first|omega|(simp only [length_rowsA, length_rowA, List.length_set, List.length_reverse, List.length_replicate, List.length_append, List.length_cons, List.length_nil, List.length_map]; omega)) only [push_cast, ↓reduceIte, reduceIte, reduceCtorEq, Nat.reduceAdd, Nat.reduceLT, Nat.reduceEqDiff, Nat.reduceLeDiff, Int.reduceAdd, Int.reduceLT, Int.reduceLE, Nat.reduceMul, b2, b3, b5, b6, e1, e2, e3, e4])
       ·rw [decide_eq_false]
        exact hno3 (by omega)
       ·refine out_round (r.length - (m + 1)) (by omega) (by (first|trivial|((repeat' apply And.intro) <;> first|trivial|assumption|omega|(simp only [maxLen]; omega)|(simp only [length_rowsA, length_rowA, List.length_replicate, List.length_append, List.length_cons, List.length_nil, List.length_map, List.length_take, List.length_drop, List.length_set, List.length_reverse, maxLen] <;> omega)))) ⟨m + 1, by omega, rfl, rfl, ?_⟩
        simp (disch := first|omega|(simp only [length_rowsA, length_rowA, List.length_set, List.length_reverse, List.length_replicate, List.length_append, List.length_cons, List.length_nil, List.length_map]; omega)) only [push_cast, ↓reduceIte, reduceIte, reduceCtorEq, Nat.reduceAdd, Nat.reduceLT, Nat.reduceEqDiff, Nat.reduceLeDiff, Int.reduceAdd, Int.reduceLT, Int.reduceLE, Nat.reduceMul, b2, b3, b5, b6, e1, e2, e3, e4]
        exact hs3 (by omega)
      ·obtain rfl : m = r.length := by omega
       repeat' (first|(first|(refine a0_ ?_; first|refine a1_ rfl rfl ?_|refine a2_ rfl ?_|refine a3_ rfl rfl ?_|refine a4_ rfl ?_|refine ak_ rfl rfl ?_|refine a5_ rfl rfl rfl ?_|refine a6_ rfl rfl ?_|refine a7_ rfl rfl ?_|refine a8_ rfl rfl ?_|refine a9_ rfl rfl rfl ?_)|(refine g0_ ?_; first|refine g1_ rfl ?_|refine g2_ rfl rfl ?_|refine go_draw (dr := allQ) rfl rfl mixed (by first|assumption|kernel_rfl) ?_|refine g4_ rfl ?_|refine g5_ rfl ?_|refine g6_ rfl ?_|refine g7_ rfl ?_|refine g8_ rfl ?_|refine ga_ rfl ?_|refine gb_ rfl ?_)|(refine o0_ ?_; first|refine o1_ ?_|refine o2_ ?_|refine o3_ ?_|refine o4_ ?_|refine o5_ ?_|refine o6_ rfl ?_|refine o7_ rfl ?_|refine o8_ ?_|refine o9_ ?_|refine oa_ ?_|refine ob_ ?_|refine oc_ ?_|refine od_ ?_|refine oe_ ?_|refine of_ ?_|refine og_ ?_|refine oh_ ?_|refine oi_ ?_|refine oj_ ?_|refine ok_ ?_))|refine at_go ?_|(with_reducible refine And.intro (at_go ?_) (at_go ?_))|((with_reducible refine And.intro (fun h => ?_) (fun h => ?_)) <;> try (exfalso; omega))|(with_reducible refine And.intro (by first|omega|(simp only [maxLen]; omega)) ?_)|(refine And.intro ⟨[_], rfl⟩ ?_)|fail|simp (disch := first|omega|(simp only [length_rowsA, length_rowA, List.length_set, List.length_reverse, List.length_replicate, List.length_append, List.length_cons, List.length_nil, List.length_map]; omega)) only [push_cast, ↓reduceIte, reduceIte, reduceCtorEq, Nat.reduceAdd, Nat.reduceLT, Nat.reduceEqDiff, Nat.reduceLeDiff, Int.reduceAdd, Int.reduceLT, Int.reduceLE, Nat.reduceMul, b2, b3, b5, b6, e1, e2])
       refine out_round (l.length - (k + 1)) (by omega) (by (first|trivial|((repeat' apply And.intro) <;> first|trivial|assumption|omega|(simp only [maxLen]; omega)|(simp only [length_rowsA, length_rowA, List.length_replicate, List.length_append, List.length_cons, List.length_nil, List.length_map, List.length_take, List.length_drop, List.length_set, List.length_reverse, maxLen] <;> omega)))) ⟨k + 1, by omega, rfl, rfl, ?_⟩
       simp (disch := first|omega|(simp only [length_rowsA, length_rowA, List.length_set, List.length_reverse, List.length_replicate, List.length_append, List.length_cons, List.length_nil, List.length_map]; omega)) only [push_cast, ↓reduceIte, reduceIte, reduceCtorEq, Nat.reduceAdd, Nat.reduceLT, Nat.reduceEqDiff, Nat.reduceLeDiff, Int.reduceAdd, Int.reduceLT, Int.reduceLE, Nat.reduceMul, b2, b3, b5, b6, e1, e2]
       exact hs (ext_getD (0, 0) (by omega) im)
   ·obtain rfl : k = l.length := by omega
    repeat' (first|(first|(refine a0_ ?_; first|refine a1_ rfl rfl ?_|refine a2_ rfl ?_|refine a3_ rfl rfl ?_|refine a4_ rfl ?_|refine ak_ rfl rfl ?_|refine a5_ rfl rfl rfl ?_|refine a6_ rfl rfl ?_|refine a7_ rfl rfl ?_|refine a8_ rfl rfl ?_|refine a9_ rfl rfl rfl ?_)|(refine g0_ ?_; first|refine g1_ rfl ?_|refine g2_ rfl rfl ?_|refine go_draw (dr := allQ) rfl rfl mixed (by first|assumption|kernel_rfl) ?_|refine g4_ rfl ?_|refine g5_ rfl ?_|refine g6_ rfl ?_|refine g7_ rfl ?_|refine g8_ rfl ?_|refine ga_ rfl ?_|refine gb_ rfl ?_)|(refine o0_ ?_; first|refine o1_ ?_|refine o2_ ?_|refine o3_ ?_|refine o4_ ?_|refine o5_ ?_|refine o6_ rfl ?_|refine o7_ rfl ?_|refine o8_ ?_|refine o9_ ?_|refine oa_ ?_|refine ob_ ?_|refine oc_ ?_|refine od_ ?_|refine oe_ ?_|refine of_ ?_|refine og_ ?_|refine oh_ ?_|refine oi_ ?_|refine oj_ ?_|refine ok_ ?_))|refine at_go ?_|(with_reducible refine And.intro (at_go ?_) (at_go ?_))|((with_reducible refine And.intro (fun h => ?_) (fun h => ?_)) <;> try (exfalso; omega))|(with_reducible refine And.intro (by first|omega|(simp only [maxLen]; omega)) ?_)|(refine And.intro ⟨[_], rfl⟩ ?_)|fail|simp (disch := first|omega|(simp only [length_rowsA, length_rowA, List.length_set, List.length_reverse, List.length_replicate, List.length_append, List.length_cons, List.length_nil, List.length_map]; omega)) only [push_cast, ↓reduceIte, reduceIte, reduceCtorEq, Nat.reduceAdd, Nat.reduceLT, Nat.reduceEqDiff, Nat.reduceLeDiff, Int.reduceAdd, Int.reduceLT, Int.reduceLE, Nat.reduceMul, b2, b3, b5])
    rw [decide_eq_true]
    refine ⟨by omega, by omega, ext_getD [] (by simp [edgesOf]; omega) fun j hj => ?_⟩
    rw [getD_edgesOf, getD_edgesOf]
    exact ik j (by simpa [edgesOf] using hj)
def u16s (es : List Nat) : List (List AV) := es.map fun (e : Nat) => [AV.int .u16 (e : Int)]
theorem length_u16s (es : List Nat) : (u16s es).length = es.length := by simp [u16s]
theorem idsE_u16s (p : Nat → Bool) (es : List Nat) : idsE p (u16s es) = true := idsE_map _ _ fun x => by simp [idsL, AV.ids]
theorem all_u16s (p : Nat → Bool) (es : List Nat) : ((u16s es).all fun e => e.all fun x => AV.ids p x) = true := all_of_idsE (idsE_u16s p es)
attribute [simp] idsE_u16s
attribute [push_cast] all_u16s length_u16s idsE_u16s
structure MD where
 st : Nat
 inp : Nat
 ou : Nat
 pa : Bool
 es : List Nat
def MD.n (x : MD) : Nat := 1 + x.st % 6
def MD.I (x : MD) : Nat := 1 + x.inp % 3
def MD.O (x : MD) : Nat := 1 + x.ou % 3
def edM (pa : Bool) (n O v : Nat) : Edg := if pa = true ∧ v % 4 = 3 then (-1, -1) else (((v / 4 % n : Nat) : Int), ((v / 4 / n % O : Nat) : Int))
def MD.row (x : MD) (s k : Nat) : List Edg := (List.range k).map fun i => edM x.pa x.n x.O (x.es.getD (s * x.I + i) 0)
def MD.rows (x : MD) (k : Nat) : List Row := (List.range k).map fun s => (x.row s x.I, none)
structure MD.Ok (x : MD) : Prop where
 st : x.st < 256
 inp : x.inp < 256
 ou : x.ou < 256
 es : ∀ e ∈ x.es, e < 65536
def mdC (x : MD) (z : Nat) (c : Option Nat) : List AV := [.int .u8 x.st, .int .u8 x.inp, .int .u8 x.ou, .bool x.pa, .sl z (u16s x.es) c]
theorem MD.row_len (x : MD) (s k : Nat) : (x.row s k).length = k := by simp [MD.row]
theorem MD.rows_len (x : MD) (k : Nat) : (x.rows k).length = k := by simp [MD.rows]
theorem edgesOf_len (l : List Row) : (edgesOf l).length = l.length := by simp [edgesOf]
theorem fitE_iff {o n : Int} {e : Edg} : fitE o n e = true ↔ e = (-1, -1) ∨ (0 ≤ e.1 ∧ e.1 < n ∧ 0 ≤ e.2 ∧ e.2 < o) := by
 obtain ⟨a, b⟩ := e
 simp only [fitE, Bool.or_eq_true, Bool.and_eq_true, decide_eq_true_eq, Prod.mk.injEq, and_assoc]
theorem mach_okM {i o : Int} {l : List Row} (h : machOk i o l = 0) : OkM (edgesOf l) i.toNat o.toNat := by
 obtain ⟨h1, h2, h3, h4, h5⟩ := machOk_zero h
 refine ⟨by rw [edgesOf_len]; omega, by omega, by omega, fun r hr => ?_, fun r hr e he => ?_⟩
 ·obtain ⟨k, hk, rfl⟩ := List.getElem_of_mem hr
  have hk' : k < l.length := by rw [edgesOf_len] at hk; exact hk
  have := h4 k hk'
  rw [← getD_edgesOf] at this
  rw [List.getD_eq_getElem?_getD, List.getElem?_eq_getElem hk, Option.getD_some] at this
  omega
 ·obtain ⟨k, hk, rfl⟩ := List.getElem_of_mem hr
  have hk' : k < l.length := by rw [edgesOf_len] at hk; exact hk
  have := h5 k hk'
  rw [← getD_edgesOf, List.getD_eq_getElem?_getD, List.getElem?_eq_getElem hk, Option.getD_some, List.all_eq_true] at this
  have := fitE_iff.1 (this e he)
  rw [edgesOf_len]
  rcases this with q|q
  ·exact .inl q
  ·exact .inr ⟨q.1, q.2.1, q.2.2.1, by omega⟩
theorem okM_mach {I O : Nat} {l : List Row} (h : OkM (edgesOf l) I O) (hI : I ≤ 16) (hO : O ≤ 16) (hl : l.length ≤ 64) : machOk I O l = 0 := by
 have h1 := h.n1; have h2 := h.i1; have h3 := h.o1
 rw [edgesOf_len] at h1
 refine machOk_of (by omega) (by omega) (by omega) (fun s hs => ?_) fun j hj => ?_
 ·have hs' : s < (edgesOf l).length := by rw [edgesOf_len]; exact hs
  rw [← getD_edgesOf, List.getD_eq_getElem?_getD, List.getElem?_eq_getElem hs', Option.getD_some, h.row _ (List.getElem_mem hs')]
 ·have hs' : j < (edgesOf l).length := by rw [edgesOf_len]; exact hj
  rw [← getD_edgesOf, List.getD_eq_getElem?_getD, List.getElem?_eq_getElem hs', Option.getD_some, List.all_eq_true]
  intro e he
  have := h.ed _ (List.getElem_mem hs') e he
  rw [edgesOf_len] at this
  exact fitE_iff.2 this
theorem edM_ok (pa : Bool) (n O v : Nat) (hn : 1 ≤ n) (hO : 1 ≤ O) : okE n O (edM pa n O v) := by
 have h1 := Nat.mod_lt (v / 4) hn
 have h2 := Nat.mod_lt (v / 4 / n) hO
 unfold edM
 generalize v / 4 % n = a at *
 generalize v / 4 / n % O = b at *
 split
 ·exact .inl rfl
 ·exact .inr ⟨Int.natCast_nonneg a, Int.ofNat_lt.2 h1, Int.natCast_nonneg b, Int.ofNat_lt.2 h2⟩
theorem MD.bI (x : MD) : 1 ≤ x.I ∧ x.I ≤ 3 := by unfold MD.I; omega
theorem MD.bO (x : MD) : 1 ≤ x.O ∧ x.O ≤ 3 := by unfold MD.O; omega
theorem MD.bn (x : MD) : 1 ≤ x.n ∧ x.n ≤ 6 := by unfold MD.n; omega
theorem MD.edges (x : MD) : edgesOf (x.rows x.n) = (List.range x.n).map fun s => x.row s x.I := by simp [edgesOf, MD.rows]
def MD.R (x : MD) : RR := edgesOf (x.rows x.n)
theorem MD.R_len (x : MD) : x.R.length = x.n := by rw [MD.R, edgesOf_len, MD.rows_len]
theorem MD.okM (x : MD) : OkM x.R x.I x.O := by
 have := x.bI; have := x.bO; have := x.bn
 refine okM_of_rows (by rw [x.R_len]; omega) (by omega) (by omega) fun r hr => ?_
 rw [x.R_len]
 rw [MD.R, x.edges] at hr
 obtain ⟨s, _, rfl⟩ := List.mem_map.1 hr
 refine ⟨x.row_len s x.I, fun e he => ?_⟩
 obtain ⟨i, _, rfl⟩ := List.mem_map.1 he
 exact edM_ok _ _ _ _ (by omega) (by omega)
theorem MD.ok (x : MD) : machOk x.I x.O (x.rows x.n) = 0 := by
 have := x.bI; have := x.bO; have := x.bn
 exact okM_mach x.okM (by omega) (by omega) (by rw [MD.rows_len]; omega)
end Go.Proofs
