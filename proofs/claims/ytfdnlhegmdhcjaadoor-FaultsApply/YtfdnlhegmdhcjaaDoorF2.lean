import Derived.Test.YtfdnlhegmdhcjaaDoorF1
import Derived.Test.YtfdnlhegmdhcjaaDoorFP7
import Derived.Test.YtfdnlhegmdhcjaaDoorV44
namespace Go.Proofs
open Go Go.V
set_option linter.unusedVariables false
set_option linter.unusedSimpArgs false
set_option maxHeartbeats 0
def Wide (i : Int) (l : List Row) : Prop := ∀ s, s < l.length → ((l.getD s ([], none)).1.length : Int) = i
theorem machOk_zero {i o : Int} {l : List Row} (h : machOk i o l = 0) : (1 ≤ i ∧ i ≤ 16) ∧ (1 ≤ o ∧ o ≤ 16) ∧ (1 ≤ l.length ∧ l.length ≤ 64) ∧ Wide i l ∧ ∀ j, j < l.length → (l.getD j ([], none)).1.all (fitE o l.length) = true := by
 rw [machOk] at h
 by_cases h1 : 16 < i ∨ 16 < o ∨ 64 < l.length
 ·rw [if_pos h1] at h; omega
 ·by_cases h2 : i < 1 ∨ o < 1 ∨ l.length < 1
  ·rw [if_neg h1, if_pos h2] at h; omega
  ·rw [if_neg h1, if_neg h2] at h
   split at h
   ·rename_i hh
    refine ⟨by omega, by omega, by omega, fun j hj => ?_, fun j hj => ?_⟩
    ·have := hh j hj; rw [rowOk, Bool.and_eq_true, decide_eq_true_eq] at this; exact this.1
    ·have := hh j hj; rw [rowOk, Bool.and_eq_true] at this; exact this.2
   ·omega
theorem machOk_of {i o : Int} {l : List Row} (h1 : 1 ≤ i ∧ i ≤ 16) (h2 : 1 ≤ o ∧ o ≤ 16) (h3 : 1 ≤ l.length ∧ l.length ≤ 64) (h4 : Wide i l) (h5 : ∀ j, j < l.length → (l.getD j ([], none)).1.all (fitE o l.length) = true) : machOk i o l = 0 := by
 rw [machOk, if_neg (by omega), if_neg (by omega), if_pos]
 intro j hj
 rw [rowOk, h5 j hj, decide_eq_true (h4 j hj)]; rfl
def edgesOf (l : List Row) : List (List Edg) := l.map (·.1)
theorem getD_edgesOf (l : List Row) (k : Nat) : (edgesOf l).getD k [] = (l.getD k ([], none)).1 := by
 rw [edgesOf, List.getD_eq_getElem?_getD, List.getD_eq_getElem?_getD, List.getElem?_map]
 cases l[k]? <;> rfl
set_option maxRecDepth 100000 in
theorem refSame14 (i o : Int) (l : List Row) (z : Nat) (c : Option Nat) (i' o' : Int) (l' : List Row) (z' : Nat) (c' : Option Nat) (hz : l = [] ∨ z = 1) (hz' : l' = [] ∨ z' = 1) (hl : l.length ≤ 1000000) (hl' : l'.length ≤ 1000000) (hr : ∀ j, j < l.length → (l.getD j ([], none)).1.length ≤ 1000000) (hr' : ∀ j, j < l'.length → (l'.getD j ([], none)).1.length ≤ 1000000) : PC Tryd.prog G0 14 [.agg [.int .i64 i, .int .i64 o, .sl z (rowsA l) c], .agg [.int .i64 i', .int .i64 o', .sl z' (rowsA l') c']] (.bool (decide (i = i' ∧ o = o' ∧ edgesOf l = edgesOf l'))) := by
 refine pc_go 1 75 [.tmp 4] Tryd.func14 rfl rfl rfl (by simp) ?_
 intro s ⟨a0, a1, hz⟩
 simp only [Nat.zero_add, Nat.reduceAdd] at a1
 clear hz
 repeat' (first|(first|(refine a0_ ?_; first|refine a1_ rfl rfl ?_|refine a2_ rfl ?_|refine a3_ rfl rfl ?_|refine a4_ rfl ?_|refine ak_ rfl rfl ?_|refine a5_ rfl rfl rfl ?_|refine a6_ rfl rfl ?_|refine a7_ rfl rfl ?_|refine a8_ rfl rfl ?_|refine a9_ rfl rfl rfl ?_)|(refine g0_ ?_; first|refine g1_ rfl ?_|refine g2_ rfl rfl ?_|refine go_draw (dr := allQ) rfl rfl mixed (by first|assumption|kernel_rfl) ?_|refine g4_ rfl ?_|refine g5_ rfl ?_|refine g6_ rfl ?_|refine g7_ rfl ?_|refine g8_ rfl ?_|refine ga_ rfl ?_|refine gb_ rfl ?_)|(refine o0_ ?_; first|refine o1_ ?_|refine o2_ ?_|refine o3_ ?_|refine o4_ ?_|refine o5_ ?_|refine o6_ rfl ?_|refine o7_ rfl ?_|refine o8_ ?_|refine o9_ ?_|refine oa_ ?_|refine ob_ ?_|refine oc_ ?_|refine od_ ?_|refine oe_ ?_|refine of_ ?_|refine og_ ?_|refine oh_ ?_|refine oi_ ?_|refine oj_ ?_|refine ok_ ?_))|refine at_go ?_|(with_reducible refine And.intro (at_go ?_) (at_go ?_))|((with_reducible refine And.intro (fun h => ?_) (fun h => ?_)) <;> try (exfalso; omega))|(with_reducible refine And.intro (by first|omega|(simp only [maxLen]; omega)) ?_)|(refine And.intro ⟨[_], rfl⟩ ?_)|(refine And.intro ⟨[], by simp only [List.append_nil]⟩ ?_)|fail|simp (disch := first|omega|(simp only [List.length_map, lenF, lenS]; omega)) only [push_cast, ↓reduceIte, reduceIte, reduceCtorEq, Nat.reduceAdd, Nat.reduceLT, Nat.reduceEqDiff, Nat.reduceLeDiff, Int.reduceAdd, Int.reduceLT, Int.reduceLE, Nat.reduceMul, a0, a1])
 ·rw [decide_eq_false]
  rintro ⟨h1, h2, h3⟩
  have := congrArg List.length h3
  simp [edgesOf] at this
  omega
 ·refine go_loop rfl (fun mz s' H' => ∃ k : Nat, k ≤ l.length ∧ mz = l.length - k ∧ H' = [.row 3 30 [[.int .i64 i, .int .i64 o, .sl z (rowsA l) c]], .row 3 30 [[.int .i64 i', .int .i64 o', .sl z' (rowsA l') c']]] ∧ s' 2 = .ptr 0 0 0 1 ∧ s' 3 = .ptr 1 0 0 1 ∧ s' 5 = .int .i64 k ∧ ∀ j, j < k → (l.getD j ([], none)).1 = (l'.getD j ([], none)).1) (m := l.length) (by (first|trivial|((repeat' apply And.intro) <;> first|trivial|assumption|omega|(simp only [maxLen]; omega)|(simp only [List.length_map, maxLen, lenF, lenS] <;> omega)))) (Weak.refl _ _) ⟨0, by omega, by omega, rfl, ?_⟩ ?_
  ·simp (disch := first|omega|(simp only [List.length_map, lenF, lenS]; omega)) only [push_cast, ↓reduceIte, reduceIte, reduceCtorEq, Nat.reduceAdd, Nat.reduceLT, Nat.reduceEqDiff, Nat.reduceLeDiff, Int.reduceAdd, Int.reduceLT, Int.reduceLE, Nat.reduceMul, a0, a1]
   exact fun j hj => by omega
  ·rintro mz s' H' ⟨k, hk, rfl, rfl, b2, b3, b5, ik⟩
   rcases Nat.lt_or_ge k l.length with hlt|hge
   ·have hlt2 : k < l'.length := by omega
    obtain rfl : z = 1 := by
     rcases hz with h|h
     ·rw [h] at hlt; simp at hlt
     ·exact h
    obtain rfl : z' = 1 := by
     rcases hz' with h|h
     ·rw [h] at hlt2; simp at hlt2
     ·exact h
    have e1 := getD_rowsA l k hlt
    have e2 := getD_rowsA l' k hlt2
    have q1 := hr k hlt
    have q2 := hr' k hlt2
    have hs := snocB (P := fun j => (l.getD j ([], none)).1 = (l'.getD j ([], none)).1) (k := k) ik
    have hno : (l.getD k ([], none)).1 ≠ (l'.getD k ([], none)).1 → ¬(i = i' ∧ o = o' ∧ edgesOf l = edgesOf l') := fun h hh => h (by rw [← getD_edgesOf, ← getD_edgesOf, hh.2.2])
    generalize (l.getD k ([], none)).1 = r at *
    generalize (l'.getD k ([], none)).1 = r' at *
    generalize (l.getD k ([], none)).2 = cc at *
    generalize (l'.getD k ([], none)).2 = cc' at *
    repeat' (first|(first|(refine a0_ ?_; first|refine a1_ rfl rfl ?_|refine a2_ rfl ?_|refine a3_ rfl rfl ?_|refine a4_ rfl ?_|refine ak_ rfl rfl ?_|refine a5_ rfl rfl rfl ?_|refine a6_ rfl rfl ?_|refine a7_ rfl rfl ?_|refine a8_ rfl rfl ?_|refine a9_ rfl rfl rfl ?_)|(refine g0_ ?_; first|refine g1_ rfl ?_|refine g2_ rfl rfl ?_|refine go_draw (dr := allQ) rfl rfl mixed (by first|assumption|kernel_rfl) ?_|refine g4_ rfl ?_|refine g5_ rfl ?_|refine g6_ rfl ?_|refine g7_ rfl ?_|refine g8_ rfl ?_|refine ga_ rfl ?_|refine gb_ rfl ?_)|(refine o0_ ?_; first|refine o1_ ?_|refine o2_ ?_|refine o3_ ?_|refine o4_ ?_|refine o5_ ?_|refine o6_ rfl ?_|refine o7_ rfl ?_|refine o8_ ?_|refine o9_ ?_|refine oa_ ?_|refine ob_ ?_|refine oc_ ?_|refine od_ ?_|refine oe_ ?_|refine of_ ?_|refine og_ ?_|refine oh_ ?_|refine oi_ ?_|refine oj_ ?_|refine ok_ ?_))|refine at_go ?_|(with_reducible refine And.intro (at_go ?_) (at_go ?_))|((with_reducible refine And.intro (fun h => ?_) (fun h => ?_)) <;> try (exfalso; omega))|(with_reducible refine And.intro (by first|omega|(simp only [maxLen]; omega)) ?_)|(refine And.intro ⟨[_], rfl⟩ ?_)|(refine And.intro ⟨[], by simp only [List.append_nil]⟩ ?_)|fail|simp (disch := first|omega|(simp only [List.length_map, lenF, lenS]; omega)) only [push_cast, ↓reduceIte, reduceIte, reduceCtorEq, Nat.reduceAdd, Nat.reduceLT, Nat.reduceEqDiff, Nat.reduceLeDiff, Int.reduceAdd, Int.reduceLT, Int.reduceLE, Nat.reduceMul, b2, b3, b5, e1, e2])
    ·rw [decide_eq_false]
     exact hno fun hh => by rw [hh] at h; omega
    ·rename_i hlen
     refine go_loop rfl (fun mz s' H' => ∃ m : Nat, m ≤ r.length ∧ mz = r.length - m ∧ H' = [.row 3 30 [[.int .i64 i, .int .i64 o, .sl 1 (rowsA l) c]], .row 3 30 [[.int .i64 i', .int .i64 o', .sl 1 (rowsA l') c']]] ∧ s' 2 = .ptr 0 0 0 1 ∧ s' 3 = .ptr 1 0 0 1 ∧ s' 5 = .int .i64 k ∧ s' 6 = .int .i64 m ∧ ∀ j, j < m → r.getD j (0, 0) = r'.getD j (0, 0)) (m := r.length) (by (first|trivial|((repeat' apply And.intro) <;> first|trivial|assumption|omega|(simp only [maxLen]; omega)|(simp only [List.length_map, maxLen, lenF, lenS] <;> omega)))) (Weak.refl _ _) ⟨0, by omega, by omega, rfl, ?_⟩ ?_
     ·simp (disch := first|omega|(simp only [List.length_map, lenF, lenS]; omega)) only [push_cast, ↓reduceIte, reduceIte, reduceCtorEq, Nat.reduceAdd, Nat.reduceLT, Nat.reduceEqDiff, Nat.reduceLeDiff, Int.reduceAdd, Int.reduceLT, Int.reduceLE, Nat.reduceMul, b2, b3, b5, e1, e2]
      exact fun j hj => by omega
     ·rintro mz s' H' ⟨m, hm, rfl, rfl, b2, b3, b5, b6, im⟩
      rcases Nat.lt_or_ge m r.length with hlt3|hge3
      ·have hlt4 : m < r'.length := by omega
       have e3 := getD_rowA r m hlt3
       have e4 := getD_rowA r' m hlt4
       have hs3 := snocB (P := fun j => r.getD j (0, 0) = r'.getD j (0, 0)) (k := m) im
       have hno3 : r.getD m (0, 0) ≠ r'.getD m (0, 0) → ¬(i = i' ∧ o = o' ∧ edgesOf l = edgesOf l') := fun h => hno fun hh => h (by rw [hh])
       generalize r.getD m (0, 0) = x at *
       generalize r'.getD m (0, 0) = w at *
       obtain ⟨x1, x2⟩ := x
       obtain ⟨w1, w2⟩ := w
       simp only [eA] at e3 e4
       simp only [Prod.mk.injEq, Ne] at hs3 hno3
       repeat' (first|(first|(refine a0_ ?_; first|refine a1_ rfl rfl ?_|refine a2_ rfl ?_|refine a3_ rfl rfl ?_|refine a4_ rfl ?_|refine ak_ rfl rfl ?_|refine a5_ rfl rfl rfl ?_|refine a6_ rfl rfl ?_|refine a7_ rfl rfl ?_|refine a8_ rfl rfl ?_|refine a9_ rfl rfl rfl ?_)|(refine g0_ ?_; first|refine g1_ rfl ?_|refine g2_ rfl rfl ?_|refine go_draw (dr := allQ) rfl rfl mixed (by first|assumption|kernel_rfl) ?_|refine g4_ rfl ?_|refine g5_ rfl ?_|refine g6_ rfl ?_|refine g7_ rfl ?_|refine g8_ rfl ?_|refine ga_ rfl ?_|refine gb_ rfl ?_)|(refine o0_ ?_; first|refine o1_ ?_|refine o2_ ?_|refine o3_ ?_|refine o4_ ?_|refine o5_ ?_|refine o6_ rfl ?_|refine o7_ rfl ?_|refine o8_ ?_|refine o9_ ?_|refine oa_ ?_|refine ob_ ?_|refine oc_ ?_|refine od_ ?_|refine oe_ ?_|refine of_ ?_|refine og_ ?_|refine oh_ ?_|refine oi_ ?_|refine oj_ ?_|refine ok_ ?_))|refine at_go ?_|(with_reducible refine And.intro (at_go ?_) (at_go ?_))|((with_reducible refine And.intro (fun h => ?_) (fun h => ?_)) <;> try (exfalso; omega))|(with_reducible refine And.intro (by first|omega|(simp only [maxLen]; omega)) ?_)|(refine And.intro ⟨[_], rfl⟩ ?_)|(refine And.intro ⟨[], by simp only [List.append_nil]⟩ ?_)|fail|simp (disch := first|omega|(simp only [List.length_map, lenF, lenS]; omega)) only [push_cast, ↓reduceIte, reduceIte, reduceCtorEq, Nat.reduceAdd, Nat.reduceLT, Nat.reduceEqDiff, Nat.reduceLeDiff, Int.reduceAdd, Int.reduceLT, Int.reduceLE, Nat.reduceMul, b2, b3, b5, b6, e1, e2, e3, e4])
       ·rw [decide_eq_false]
        exact hno3 (by omega)
       ·refine out_round (r.length - (m + 1)) (by omega) (by (first|trivial|((repeat' apply And.intro) <;> first|trivial|assumption|omega|(simp only [maxLen]; omega)|(simp only [List.length_map, maxLen, lenF, lenS] <;> omega)))) ⟨m + 1, by omega, rfl, rfl, ?_⟩
        simp (disch := first|omega|(simp only [List.length_map, lenF, lenS]; omega)) only [push_cast, ↓reduceIte, reduceIte, reduceCtorEq, Nat.reduceAdd, Nat.reduceLT, Nat.reduceEqDiff, Nat.reduceLeDiff, Int.reduceAdd, Int.reduceLT, Int.reduceLE, Nat.reduceMul, b2, b3, b5, b6, e1, e2, e3, e4]
        exact hs3 (by omega)
      ·obtain rfl : m = r.length := by omega
       repeat' (first|(first|(refine a0_ ?_; first|refine a1_ rfl rfl ?_|refine a2_ rfl ?_|refine a3_ rfl rfl ?_|refine a4_ rfl ?_|refine ak_ rfl rfl ?_|refine a5_ rfl rfl rfl ?_|refine a6_ rfl rfl ?_|refine a7_ rfl rfl ?_|refine a8_ rfl rfl ?_|refine a9_ rfl rfl rfl ?_)|(refine g0_ ?_; first|refine g1_ rfl ?_|refine g2_ rfl rfl ?_|refine go_draw (dr := allQ) rfl rfl mixed (by first|assumption|kernel_rfl) ?_|refine g4_ rfl ?_|refine g5_ rfl ?_|refine g6_ rfl ?_|refine g7_ rfl ?_|refine g8_ rfl ?_|refine ga_ rfl ?_|refine gb_ rfl ?_)|(refine o0_ ?_; first|refine o1_ ?_|refine o2_ ?_|refine o3_ ?_|refine o4_ ?_|refine o5_ ?_|refine o6_ rfl ?_|refine o7_ rfl ?_|refine o8_ ?_|refine o9_ ?_|refine oa_ ?_|refine ob_ ?_|refine oc_ ?_|refine od_ ?_|refine oe_ ?_|refine of_ ?_|refine og_ ?_|refine oh_ ?_|refine oi_ ?_|refine oj_ ?_|refine ok_ ?_))|refine at_go ?_|(with_reducible refine And.intro (at_go ?_) (at_go ?_))|((with_reducible refine And.intro (fun h => ?_) (fun h => ?_)) <;> try (exfalso; omega))|(with_reducible refine And.intro (by first|omega|(simp only [maxLen]; omega)) ?_)|(refine And.intro ⟨[_], rfl⟩ ?_)|(refine And.intro ⟨[], by simp only [List.append_nil]⟩ ?_)|fail|simp (disch := first|omega|(simp only [List.length_map, lenF, lenS]; omega)) only [push_cast, ↓reduceIte, reduceIte, reduceCtorEq, Nat.reduceAdd, Nat.reduceLT, Nat.reduceEqDiff, Nat.reduceLeDiff, Int.reduceAdd, Int.reduceLT, Int.reduceLE, Nat.reduceMul, b2, b3, b5, b6, e1, e2])
       refine out_round (l.length - (k + 1)) (by omega) (by (first|trivial|((repeat' apply And.intro) <;> first|trivial|assumption|omega|(simp only [maxLen]; omega)|(simp only [List.length_map, maxLen, lenF, lenS] <;> omega)))) ⟨k + 1, by omega, rfl, rfl, ?_⟩
       simp (disch := first|omega|(simp only [List.length_map, lenF, lenS]; omega)) only [push_cast, ↓reduceIte, reduceIte, reduceCtorEq, Nat.reduceAdd, Nat.reduceLT, Nat.reduceEqDiff, Nat.reduceLeDiff, Int.reduceAdd, Int.reduceLT, Int.reduceLE, Nat.reduceMul, b2, b3, b5, b6, e1, e2]
       exact hs (ext_getD (0, 0) (by omega) im)
   ·obtain rfl : k = l.length := by omega
    repeat' (first|(first|(refine a0_ ?_; first|refine a1_ rfl rfl ?_|refine a2_ rfl ?_|refine a3_ rfl rfl ?_|refine a4_ rfl ?_|refine ak_ rfl rfl ?_|refine a5_ rfl rfl rfl ?_|refine a6_ rfl rfl ?_|refine a7_ rfl rfl ?_|refine a8_ rfl rfl ?_|refine a9_ rfl rfl rfl ?_)|(refine g0_ ?_; first|refine g1_ rfl ?_|refine g2_ rfl rfl ?_|refine go_draw (dr := allQ) rfl rfl mixed (by first|assumption|kernel_rfl) ?_|refine g4_ rfl ?_|refine g5_ rfl ?_|refine g6_ rfl ?_|refine g7_ rfl ?_|refine g8_ rfl ?_|refine ga_ rfl ?_|refine gb_ rfl ?_)|(refine o0_ ?_; first|refine o1_ ?_|refine o2_ ?_|refine o3_ ?_|refine o4_ ?_|refine o5_ ?_|refine o6_ rfl ?_|refine o7_ rfl ?_|refine o8_ ?_|refine o9_ ?_|refine oa_ ?_|refine ob_ ?_|refine oc_ ?_|refine od_ ?_|refine oe_ ?_|refine of_ ?_|refine og_ ?_|refine oh_ ?_|refine oi_ ?_|refine oj_ ?_|refine ok_ ?_))|refine at_go ?_|(with_reducible refine And.intro (at_go ?_) (at_go ?_))|((with_reducible refine And.intro (fun h => ?_) (fun h => ?_)) <;> try (exfalso; omega))|(with_reducible refine And.intro (by first|omega|(simp only [maxLen]; omega)) ?_)|(refine And.intro ⟨[_], rfl⟩ ?_)|(refine And.intro ⟨[], by simp only [List.append_nil]⟩ ?_)|fail|simp (disch := first|omega|(simp only [List.length_map, lenF, lenS]; omega)) only [push_cast, ↓reduceIte, reduceIte, reduceCtorEq, Nat.reduceAdd, Nat.reduceLT, Nat.reduceEqDiff, Nat.reduceLeDiff, Int.reduceAdd, Int.reduceLT, Int.reduceLE, Nat.reduceMul, b2, b3, b5])
    rw [decide_eq_true]
    refine ⟨by omega, by omega, ext_getD [] (by simp [edgesOf]; omega) fun j hj => ?_⟩
    rw [getD_edgesOf, getD_edgesOf]
    exact ik j (by simpa [edgesOf] using hj)
def u16s (es : List Nat) : List (List AV) := es.map fun (e : Nat) => [AV.int .u16 (e : Int)]
theorem length_u16s (es : List Nat) : (u16s es).length = es.length := by simp [u16s]
theorem getD_u16s (es : List Nat) (k : Nat) (h : k < es.length) : (u16s es).getD k [] = [.int .u16 (es.getD k 0 : Nat)] := by simp [u16s, h]
theorem idsE_u16s (p : Nat → Bool) (es : List Nat) : idsE p (u16s es) = true := idsE_map _ _ fun x => by simp [idsL, AV.ids]
theorem all_u16s (p : Nat → Bool) (es : List Nat) : ((u16s es).all fun e => e.all fun x => AV.ids p x) = true := all_of_idsE (idsE_u16s p es)
attribute [simp] idsE_u16s
attribute [push_cast] all_u16s length_u16s idsE_u16s
structure MD where
 st : Nat
 inp : Nat
 ou : Nat
 pa : Bool
 es : List Nat
def MD.n (x : MD) : Nat := 1 + x.st % 6
def MD.I (x : MD) : Nat := 1 + x.inp % 3
def MD.O (x : MD) : Nat := 1 + x.ou % 3
def edM (pa : Bool) (n O v : Nat) : Edg := if pa = true ∧ v % 4 = 3 then (-1, -1) else (((v / 4 % n : Nat) : Int), ((v / 4 / n % O : Nat) : Int))
def MD.row (x : MD) (s k : Nat) : List Edg := (List.range k).map fun i => edM x.pa x.n x.O (x.es.getD (s * x.I + i) 0)
def MD.rows (x : MD) (k : Nat) : List Row := (List.range k).map fun s => (x.row s x.I, none)
structure MD.Ok (x : MD) : Prop where
 st : x.st < 256
 inp : x.inp < 256
 ou : x.ou < 256
 es : ∀ e ∈ x.es, e < 65536
def mdC (x : MD) (z : Nat) (c : Option Nat) : List AV := [.int .u8 x.st, .int .u8 x.inp, .int .u8 x.ou, .bool x.pa, .sl z (u16s x.es) c]
theorem tmod_nat (a m : Nat) : (a : Int).tmod (m : Int) = ((a % m : Nat) : Int) := rfl
theorem tdiv_nat (a m : Nat) : (a : Int).tdiv (m : Int) = ((a / m : Nat) : Int) := rfl
theorem one_mod (a m : Nat) (hm : m < 1000000) (h0 : 0 < m) : IntKind.i64.wrap (1 + IntKind.i64.wrap ((a : Int).tmod (m : Int))) = ((1 + a % m : Nat) : Int) := by
 have := Nat.mod_lt a h0
 rw [tmod_nat]
 generalize a % m = r at *
 rw [wrap64 (r : Int) (by omega) (by omega), wrap64 _ (by omega) (by omega)]
 omega
theorem MD.row_succ (x : MD) (s k : Nat) : x.row s (k + 1) = x.row s k ++ [edM x.pa x.n x.O (x.es.getD (s * x.I + k) 0)] := by
 rw [MD.row, List.range_succ, List.map_append]; rfl
theorem MD.rows_succ (x : MD) (k : Nat) : x.rows (k + 1) = x.rows k ++ [(x.row k x.I, none)] := by
 rw [MD.rows, List.range_succ, List.map_append]; rfl
theorem MD.row_len (x : MD) (s k : Nat) : (x.row s k).length = k := by simp [MD.row]
theorem MD.rows_len (x : MD) (k : Nat) : (x.rows k).length = k := by simp [MD.rows]
theorem getD_pred {α : Type} {p : α → Prop} {l : List α} {d : α} (h : ∀ x ∈ l, p x) (hd : p d) (k : Nat) : p (l.getD k d) := by
 rw [List.getD_eq_getElem?_getD]
 cases hk : l[k]? with
 | none => exact hd
 | some x => exact h x (List.mem_of_getElem? hk)
set_option maxRecDepth 100000 in
theorem mOf9 (x : MD) (z : Nat) (c : Option Nat) (hx : x.Ok) (hz : x.es = [] ∨ z = 1) : PC Tryd.prog G0 9 [.agg (mdC x z c)] (mA x.I x.O (x.rows x.n) none) := by
 obtain ⟨h1, h2, h3, h4⟩ := hx
 have fn : IntKind.i64.wrap (1 + IntKind.i64.wrap ((x.st : Int).tmod 6)) = (x.n : Int) := one_mod x.st 6 (by omega) (by omega)
 have fI : IntKind.i64.wrap (1 + IntKind.i64.wrap ((x.inp : Int).tmod 3)) = (x.I : Int) := one_mod x.inp 3 (by omega) (by omega)
 have fO : IntKind.i64.wrap (1 + IntKind.i64.wrap ((x.ou : Int).tmod 3)) = (x.O : Int) := one_mod x.ou 3 (by omega) (by omega)
 have bn : 1 ≤ x.n ∧ x.n ≤ 6 := by unfold MD.n; omega
 have bI : 1 ≤ x.I ∧ x.I ≤ 3 := by unfold MD.I; omega
 have bO : 1 ≤ x.O ∧ x.O ≤ 3 := by unfold MD.O; omega
 have qn : (x.n : Int) ≠ 0 := by omega
 have qO : (x.O : Int) ≠ 0 := by omega
 unfold mdC mA
 refine pc_go 1 87 [.cell 2 30] Tryd.func9 rfl rfl rfl (by simp) ?_
 intro s ⟨a0, hz⟩
 clear hz
 repeat' (first|(first|(refine a0_ ?_; first|refine a1_ rfl rfl ?_|refine a2_ rfl ?_|refine a3_ rfl rfl ?_|refine a4_ rfl ?_|refine ak_ rfl rfl ?_|refine a5_ rfl rfl rfl ?_|refine a6_ rfl rfl ?_|refine a7_ rfl rfl ?_|refine a8_ rfl rfl ?_|refine a9_ rfl rfl rfl ?_)|(refine g0_ ?_; first|refine g1_ rfl ?_|refine g2_ rfl rfl ?_|refine go_draw (dr := allQ) rfl rfl mixed (by first|assumption|kernel_rfl) ?_|refine g4_ rfl ?_|refine g5_ rfl ?_|refine g6_ rfl ?_|refine g7_ rfl ?_|refine g8_ rfl ?_|refine ga_ rfl ?_|refine gb_ rfl ?_)|(refine o0_ ?_; first|refine o1_ ?_|refine o2_ ?_|refine o3_ ?_|refine o4_ ?_|refine o5_ ?_|refine o6_ rfl ?_|refine o7_ rfl ?_|refine o8_ ?_|refine o9_ ?_|refine oa_ ?_|refine ob_ ?_|refine oc_ ?_|refine od_ ?_|refine oe_ ?_|refine of_ ?_|refine og_ ?_|refine oh_ ?_|refine oi_ ?_|refine oj_ ?_|refine ok_ ?_))|refine at_go ?_|(with_reducible refine And.intro (at_go ?_) (at_go ?_))|((with_reducible refine And.intro (fun h => ?_) (fun h => ?_)) <;> try (exfalso; omega))|(with_reducible refine And.intro (by first|omega|(simp only [maxLen]; omega)) ?_)|(refine And.intro ⟨[_], rfl⟩ ?_)|(refine And.intro ⟨[], by simp only [List.append_nil]⟩ ?_)|fail|simp (disch := first|omega|(simp only [length_u16s, List.length_map, lenF, lenS]; omega)) only [push_cast, ↓reduceIte, reduceIte, reduceCtorEq, Nat.reduceAdd, Nat.reduceLT, Nat.reduceEqDiff, Nat.reduceLeDiff, Int.reduceAdd, Int.reduceLT, Int.reduceLE, Nat.reduceMul, a0, fn, fI, fO])
 refine go_loop rfl (fun mz s' H' => ∃ s : Nat, s ≤ x.n ∧ mz = x.n - s ∧ H' = [.row 5 24 [[.int .u8 x.st, .int .u8 x.inp, .int .u8 x.ou, .bool x.pa, .sl z (u16s x.es) c]], .row 3 30 [[.int .i64 0, .int .i64 0, .sl 0 [] (some 0)]], .row 3 30 [[.int .i64 x.I, .int .i64 x.O, .own 3 s s none]], .row 1 44 (rowsA (x.rows s))] ∧ s' 1 = .ptr 0 0 0 1 ∧ s' 2 = .ptr 1 0 0 1 ∧ s' 3 = .int .i64 x.n ∧ s' 4 = .ptr 2 0 0 1 ∧ s' 5 = .int .i64 s) (m := x.n) (by (first|trivial|((repeat' apply And.intro) <;> first|trivial|assumption|omega|(simp only [maxLen]; omega)|(simp only [length_u16s, List.length_map, maxLen, lenF, lenS] <;> omega)))) (weak_nil_cell (b := 2) (i := 0) (j := 2) (sz := 1) (ty := 44) rfl rfl rfl) ⟨0, by omega, by omega, (by first|rfl|simp [MD.rows, rowsA, List.range_zero, List.map_nil]), ?_⟩ ?_
 ·simp (disch := first|omega|(simp only [length_u16s, List.length_map, lenF, lenS]; omega)) only [push_cast, ↓reduceIte, reduceIte, reduceCtorEq, Nat.reduceAdd, Nat.reduceLT, Nat.reduceEqDiff, Nat.reduceLeDiff, Int.reduceAdd, Int.reduceLT, Int.reduceLE, Nat.reduceMul, a0, fn, fI, fO]
 ·rintro mz s' H' ⟨s, hs, rfl, rfl, b1, b2, b3, b4, b5⟩
  have e0 : (rowsA (x.rows s)).length = s := by simp [rowsA, MD.rows]
  rcases Nat.lt_or_ge s x.n with hlt|hge
  ·have e1 := x.rows_succ s
   repeat' (first|(first|(refine a0_ ?_; first|refine a1_ rfl rfl ?_|refine a2_ rfl ?_|refine a3_ rfl rfl ?_|refine a4_ rfl ?_|refine ak_ rfl rfl ?_|refine a5_ rfl rfl rfl ?_|refine a6_ rfl rfl ?_|refine a7_ rfl rfl ?_|refine a8_ rfl rfl ?_|refine a9_ rfl rfl rfl ?_)|(refine g0_ ?_; first|refine g1_ rfl ?_|refine g2_ rfl rfl ?_|refine go_draw (dr := allQ) rfl rfl mixed (by first|assumption|kernel_rfl) ?_|refine g4_ rfl ?_|refine g5_ rfl ?_|refine g6_ rfl ?_|refine g7_ rfl ?_|refine g8_ rfl ?_|refine ga_ rfl ?_|refine gb_ rfl ?_)|(refine o0_ ?_; first|refine o1_ ?_|refine o2_ ?_|refine o3_ ?_|refine o4_ ?_|refine o5_ ?_|refine o6_ rfl ?_|refine o7_ rfl ?_|refine o8_ ?_|refine o9_ ?_|refine oa_ ?_|refine ob_ ?_|refine oc_ ?_|refine od_ ?_|refine oe_ ?_|refine of_ ?_|refine og_ ?_|refine oh_ ?_|refine oi_ ?_|refine oj_ ?_|refine ok_ ?_))|refine at_go ?_|(with_reducible refine And.intro (at_go ?_) (at_go ?_))|((with_reducible refine And.intro (fun h => ?_) (fun h => ?_)) <;> try (exfalso; omega))|(with_reducible refine And.intro (by first|omega|(simp only [maxLen]; omega)) ?_)|(refine And.intro ⟨[_], rfl⟩ ?_)|(refine And.intro ⟨[], by simp only [List.append_nil]⟩ ?_)|fail|simp (disch := first|omega|(simp only [length_u16s, List.length_map, lenF, lenS]; omega)) only [push_cast, ↓reduceIte, reduceIte, reduceCtorEq, Nat.reduceAdd, Nat.reduceLT, Nat.reduceEqDiff, Nat.reduceLeDiff, Int.reduceAdd, Int.reduceLT, Int.reduceLE, Nat.reduceMul, b1, b2, b3, b4, b5, e0])
   refine go_weak (by (first|trivial|((repeat' apply And.intro) <;> first|trivial|assumption|omega|(simp only [maxLen]; omega)|(simp only [length_u16s, List.length_map, maxLen, lenF, lenS] <;> omega)))) (weak_nil (t := 6) (sz := 2) (ty := 46) rfl) ?_
   generalize x.rows s = rs at *
   obtain ⟨b, hb⟩ : ∃ b : Nat, b = s * x.I := ⟨_, rfl⟩
   have hb2 : b ≤ 18 := by
    rw [hb]; exact Nat.le_trans (Nat.mul_le_mul (show s ≤ 6 by omega) bI.2) (by omega)
   have fb : (s : Int) * (x.I : Int) = (b : Int) := by rw [hb]; exact (Int.natCast_mul s x.I).symm
   refine go_loop rfl (fun mz s' H' => ∃ i : Nat, i ≤ x.I ∧ mz = x.I - i ∧ H' = [.row 5 24 [[.int .u8 x.st, .int .u8 x.inp, .int .u8 x.ou, .bool x.pa, .sl z (u16s x.es) c]], .row 3 30 [[.int .i64 0, .int .i64 0, .sl 0 [] (some 0)]], .row 3 30 [[.int .i64 x.I, .int .i64 x.O, .own 3 s s none]], .row 1 44 (rowsA rs), .row 2 46 (rowA (x.row s i))] ∧ s' 1 = .ptr 0 0 0 1 ∧ s' 2 = .ptr 1 0 0 1 ∧ s' 3 = .int .i64 x.n ∧ s' 4 = .ptr 2 0 0 1 ∧ s' 5 = .int .i64 s ∧ s' 6 = .own 4 i i none ∧ s' 7 = .int .i64 i) (m := x.I) (by (first|trivial|((repeat' apply And.intro) <;> first|trivial|assumption|omega|(simp only [maxLen]; omega)|(simp only [length_u16s, List.length_map, maxLen, lenF, lenS] <;> omega)))) (Weak.refl _ _) ⟨0, by omega, by omega, (by first|rfl|simp [MD.row, rowA, List.range_zero, List.map_nil]), ?_⟩ ?_
   ·simp (disch := first|omega|(simp only [length_u16s, List.length_map, lenF, lenS]; omega)) only [push_cast, ↓reduceIte, reduceIte, reduceCtorEq, Nat.reduceAdd, Nat.reduceLT, Nat.reduceEqDiff, Nat.reduceLeDiff, Int.reduceAdd, Int.reduceLT, Int.reduceLE, Nat.reduceMul, b1, b2, b3, b4, b5, e0]
   ·rintro mz s' H' ⟨i, hi, rfl, rfl, b1, b2, b3, b4, b5, b6, b7⟩
    have e2 : (rowA (x.row s i)).length = i := by rw [length_rowA, MD.row_len]
    rcases Nat.lt_or_ge i x.I with hlt2|hge2
    ·have e3 := x.row_succ s i
     rw [← hb] at e3
     have e4 := fun h => getD_u16s x.es (b + i) h
     have hv : x.es.getD (b + i) 0 < 65536 := getD_pred (p := fun e => e < 65536) h4 (by omega) _
     have hv0 : x.es.length ≤ b + i → x.es.getD (b + i) 0 = 0 := fun h => by simp [h]
     generalize x.row s i = ro at *
     generalize x.es.getD (b + i) 0 = v at *
     obtain ⟨m, hm⟩ : ∃ m : Nat, m = v % 4 := ⟨_, rfl⟩
     obtain ⟨p, hp⟩ : ∃ p : Nat, p = v / 4 % x.n := ⟨_, rfl⟩
     obtain ⟨q, hq⟩ : ∃ q : Nat, q = v / 4 / x.n % x.O := ⟨_, rfl⟩
     have hed : edM x.pa x.n x.O v = if x.pa = true ∧ m = 3 then (-1, -1) else ((p : Int), (q : Int)) := by rw [edM, hm, hp, hq]
     rw [hed] at e3
     have f1 : (v : Int).tmod 4 = (m : Int) := by rw [hm]; exact tmod_nat v 4
     have f2 : (v : Int).tdiv 4 = ((v / 4 : Nat) : Int) := tdiv_nat v 4
     have b4' : v / 4 ≤ 65536 := by omega
     generalize v / 4 = v4 at *
     have f3 : (v4 : Int).tmod x.n = (p : Int) := by rw [hp]; exact tmod_nat _ _
     have f4 : (v4 : Int).tdiv x.n = ((v4 / x.n : Nat) : Int) := tdiv_nat _ _
     have b5' : v4 / x.n ≤ 65536 := Nat.le_trans (Nat.div_le_self _ _) b4'
     generalize v4 / x.n = v5 at *
     have f5 : (v5 : Int).tmod x.O = (q : Int) := by rw [hq]; exact tmod_nat _ _
     have fi : ((b : Int) + i).toNat = b + i := by omega
     rcases Nat.lt_or_ge (b + i) x.es.length with hk|hk
     ·have e4 := e4 hk
      obtain rfl := hz.resolve_left (by intro h; rw [h] at hk; simp at hk)
      cases hpa : x.pa with
      | false =>
       rw [hpa] at e3
       repeat' (first|(first|(refine a0_ ?_; first|refine a1_ rfl rfl ?_|refine a2_ rfl ?_|refine a3_ rfl rfl ?_|refine a4_ rfl ?_|refine ak_ rfl rfl ?_|refine a5_ rfl rfl rfl ?_|refine a6_ rfl rfl ?_|refine a7_ rfl rfl ?_|refine a8_ rfl rfl ?_|refine a9_ rfl rfl rfl ?_)|(refine g0_ ?_; first|refine g1_ rfl ?_|refine g2_ rfl rfl ?_|refine go_draw (dr := allQ) rfl rfl mixed (by first|assumption|kernel_rfl) ?_|refine g4_ rfl ?_|refine g5_ rfl ?_|refine g6_ rfl ?_|refine g7_ rfl ?_|refine g8_ rfl ?_|refine ga_ rfl ?_|refine gb_ rfl ?_)|(refine o0_ ?_; first|refine o1_ ?_|refine o2_ ?_|refine o3_ ?_|refine o4_ ?_|refine o5_ ?_|refine o6_ rfl ?_|refine o7_ rfl ?_|refine o8_ ?_|refine o9_ ?_|refine oa_ ?_|refine ob_ ?_|refine oc_ ?_|refine od_ ?_|refine oe_ ?_|refine of_ ?_|refine og_ ?_|refine oh_ ?_|refine oi_ ?_|refine oj_ ?_|refine ok_ ?_))|refine at_go ?_|(with_reducible refine And.intro (at_go ?_) (at_go ?_))|((with_reducible refine And.intro (fun h => ?_) (fun h => ?_)) <;> try (exfalso; omega))|(with_reducible refine And.intro (by first|omega|(simp only [maxLen]; omega)) ?_)|(refine And.intro ⟨[_], rfl⟩ ?_)|(refine And.intro ⟨[], by simp only [List.append_nil]⟩ ?_)|fail|simp (disch := first|omega|(simp only [length_u16s, List.length_map, lenF, lenS]; omega)) only [push_cast, ↓reduceIte, reduceIte, reduceCtorEq, Nat.reduceAdd, Nat.reduceLT, Nat.reduceEqDiff, Nat.reduceLeDiff, Int.reduceAdd, Int.reduceLT, Int.reduceLE, Nat.reduceMul, b1, b2, b3, b4, b5, b6, b7, e2, fb, fi, f1, f2, f3, f4, f5, qn, qO, e4])
       have e3 : x.row s (i + 1) = ro ++ [((p : Int), (q : Int))] := by rw [e3]; simp
       refine out_round (x.I - (i + 1)) (by omega) (by (first|trivial|((repeat' apply And.intro) <;> first|trivial|assumption|omega|(simp only [maxLen]; omega)|(simp only [length_u16s, List.length_map, maxLen, lenF, lenS] <;> omega)))) ⟨i + 1, by omega, rfl, by rw [e3]; simp [rowA, eA], ?_⟩
       simp (disch := first|omega|(simp only [length_u16s, List.length_map, lenF, lenS]; omega)) only [push_cast, ↓reduceIte, reduceIte, reduceCtorEq, Nat.reduceAdd, Nat.reduceLT, Nat.reduceEqDiff, Nat.reduceLeDiff, Int.reduceAdd, Int.reduceLT, Int.reduceLE, Nat.reduceMul, b1, b2, b3, b4, b5, b6, b7, e2, fb, fi, f1, f2, f3, f4, f5, qn, qO, e4]
      | true =>
       rw [hpa] at e3
       repeat' (first|(first|(refine a0_ ?_; first|refine a1_ rfl rfl ?_|refine a2_ rfl ?_|refine a3_ rfl rfl ?_|refine a4_ rfl ?_|refine ak_ rfl rfl ?_|refine a5_ rfl rfl rfl ?_|refine a6_ rfl rfl ?_|refine a7_ rfl rfl ?_|refine a8_ rfl rfl ?_|refine a9_ rfl rfl rfl ?_)|(refine g0_ ?_; first|refine g1_ rfl ?_|refine g2_ rfl rfl ?_|refine go_draw (dr := allQ) rfl rfl mixed (by first|assumption|kernel_rfl) ?_|refine g4_ rfl ?_|refine g5_ rfl ?_|refine g6_ rfl ?_|refine g7_ rfl ?_|refine g8_ rfl ?_|refine ga_ rfl ?_|refine gb_ rfl ?_)|(refine o0_ ?_; first|refine o1_ ?_|refine o2_ ?_|refine o3_ ?_|refine o4_ ?_|refine o5_ ?_|refine o6_ rfl ?_|refine o7_ rfl ?_|refine o8_ ?_|refine o9_ ?_|refine oa_ ?_|refine ob_ ?_|refine oc_ ?_|refine od_ ?_|refine oe_ ?_|refine of_ ?_|refine og_ ?_|refine oh_ ?_|refine oi_ ?_|refine oj_ ?_|refine ok_ ?_))|refine at_go ?_|(with_reducible refine And.intro (at_go ?_) (at_go ?_))|((with_reducible refine And.intro (fun h => ?_) (fun h => ?_)) <;> try (exfalso; omega))|(with_reducible refine And.intro (by first|omega|(simp only [maxLen]; omega)) ?_)|(refine And.intro ⟨[_], rfl⟩ ?_)|(refine And.intro ⟨[], by simp only [List.append_nil]⟩ ?_)|fail|simp (disch := first|omega|(simp only [length_u16s, List.length_map, lenF, lenS]; omega)) only [push_cast, ↓reduceIte, reduceIte, reduceCtorEq, Nat.reduceAdd, Nat.reduceLT, Nat.reduceEqDiff, Nat.reduceLeDiff, Int.reduceAdd, Int.reduceLT, Int.reduceLE, Nat.reduceMul, b1, b2, b3, b4, b5, b6, b7, e2, fb, fi, f1, f2, f3, f4, f5, qn, qO, e4])
       ·have e3 : x.row s (i + 1) = ro ++ [(-1, -1)] := by rw [e3, if_pos ⟨rfl, by omega⟩]
        refine out_round (x.I - (i + 1)) (by omega) (by (first|trivial|((repeat' apply And.intro) <;> first|trivial|assumption|omega|(simp only [maxLen]; omega)|(simp only [length_u16s, List.length_map, maxLen, lenF, lenS] <;> omega)))) ⟨i + 1, by omega, rfl, by rw [e3]; simp [rowA, eA], ?_⟩
        simp (disch := first|omega|(simp only [length_u16s, List.length_map, lenF, lenS]; omega)) only [push_cast, ↓reduceIte, reduceIte, reduceCtorEq, Nat.reduceAdd, Nat.reduceLT, Nat.reduceEqDiff, Nat.reduceLeDiff, Int.reduceAdd, Int.reduceLT, Int.reduceLE, Nat.reduceMul, b1, b2, b3, b4, b5, b6, b7, e2, fb, fi, f1, f2, f3, f4, f5, qn, qO, e4]
       ·have e3 : x.row s (i + 1) = ro ++ [((p : Int), (q : Int))] := by rw [e3, if_neg (by omega)]
        refine out_round (x.I - (i + 1)) (by omega) (by (first|trivial|((repeat' apply And.intro) <;> first|trivial|assumption|omega|(simp only [maxLen]; omega)|(simp only [length_u16s, List.length_map, maxLen, lenF, lenS] <;> omega)))) ⟨i + 1, by omega, rfl, by rw [e3]; simp [rowA, eA], ?_⟩
        simp (disch := first|omega|(simp only [length_u16s, List.length_map, lenF, lenS]; omega)) only [push_cast, ↓reduceIte, reduceIte, reduceCtorEq, Nat.reduceAdd, Nat.reduceLT, Nat.reduceEqDiff, Nat.reduceLeDiff, Int.reduceAdd, Int.reduceLT, Int.reduceLE, Nat.reduceMul, b1, b2, b3, b4, b5, b6, b7, e2, fb, fi, f1, f2, f3, f4, f5, qn, qO, e4]
     ·obtain rfl := hv0 hk
      have f1 : (0 : Int).tmod 4 = (m : Int) := f1
      have f2 : (0 : Int).tdiv 4 = (v4 : Int) := f2
      cases hpa : x.pa with
      | false =>
       rw [hpa] at e3
       repeat' (first|(first|(refine a0_ ?_; first|refine a1_ rfl rfl ?_|refine a2_ rfl ?_|refine a3_ rfl rfl ?_|refine a4_ rfl ?_|refine ak_ rfl rfl ?_|refine a5_ rfl rfl rfl ?_|refine a6_ rfl rfl ?_|refine a7_ rfl rfl ?_|refine a8_ rfl rfl ?_|refine a9_ rfl rfl rfl ?_)|(refine g0_ ?_; first|refine g1_ rfl ?_|refine g2_ rfl rfl ?_|refine go_draw (dr := allQ) rfl rfl mixed (by first|assumption|kernel_rfl) ?_|refine g4_ rfl ?_|refine g5_ rfl ?_|refine g6_ rfl ?_|refine g7_ rfl ?_|refine g8_ rfl ?_|refine ga_ rfl ?_|refine gb_ rfl ?_)|(refine o0_ ?_; first|refine o1_ ?_|refine o2_ ?_|refine o3_ ?_|refine o4_ ?_|refine o5_ ?_|refine o6_ rfl ?_|refine o7_ rfl ?_|refine o8_ ?_|refine o9_ ?_|refine oa_ ?_|refine ob_ ?_|refine oc_ ?_|refine od_ ?_|refine oe_ ?_|refine of_ ?_|refine og_ ?_|refine oh_ ?_|refine oi_ ?_|refine oj_ ?_|refine ok_ ?_))|refine at_go ?_|(with_reducible refine And.intro (at_go ?_) (at_go ?_))|((with_reducible refine And.intro (fun h => ?_) (fun h => ?_)) <;> try (exfalso; omega))|(with_reducible refine And.intro (by first|omega|(simp only [maxLen]; omega)) ?_)|(refine And.intro ⟨[_], rfl⟩ ?_)|(refine And.intro ⟨[], by simp only [List.append_nil]⟩ ?_)|fail|simp (disch := first|omega|(simp only [length_u16s, List.length_map, lenF, lenS]; omega)) only [push_cast, ↓reduceIte, reduceIte, reduceCtorEq, Nat.reduceAdd, Nat.reduceLT, Nat.reduceEqDiff, Nat.reduceLeDiff, Int.reduceAdd, Int.reduceLT, Int.reduceLE, Nat.reduceMul, b1, b2, b3, b4, b5, b6, b7, e2, fb, fi, f1, f2, f3, f4, f5, qn, qO])
       have e3 : x.row s (i + 1) = ro ++ [((p : Int), (q : Int))] := by rw [e3]; simp
       refine out_round (x.I - (i + 1)) (by omega) (by (first|trivial|((repeat' apply And.intro) <;> first|trivial|assumption|omega|(simp only [maxLen]; omega)|(simp only [length_u16s, List.length_map, maxLen, lenF, lenS] <;> omega)))) ⟨i + 1, by omega, rfl, by rw [e3]; simp [rowA, eA], ?_⟩
       simp (disch := first|omega|(simp only [length_u16s, List.length_map, lenF, lenS]; omega)) only [push_cast, ↓reduceIte, reduceIte, reduceCtorEq, Nat.reduceAdd, Nat.reduceLT, Nat.reduceEqDiff, Nat.reduceLeDiff, Int.reduceAdd, Int.reduceLT, Int.reduceLE, Nat.reduceMul, b1, b2, b3, b4, b5, b6, b7, e2, fb, fi, f1, f2, f3, f4, f5, qn, qO]
      | true =>
       rw [hpa] at e3
       repeat' (first|(first|(refine a0_ ?_; first|refine a1_ rfl rfl ?_|refine a2_ rfl ?_|refine a3_ rfl rfl ?_|refine a4_ rfl ?_|refine ak_ rfl rfl ?_|refine a5_ rfl rfl rfl ?_|refine a6_ rfl rfl ?_|refine a7_ rfl rfl ?_|refine a8_ rfl rfl ?_|refine a9_ rfl rfl rfl ?_)|(refine g0_ ?_; first|refine g1_ rfl ?_|refine g2_ rfl rfl ?_|refine go_draw (dr := allQ) rfl rfl mixed (by first|assumption|kernel_rfl) ?_|refine g4_ rfl ?_|refine g5_ rfl ?_|refine g6_ rfl ?_|refine g7_ rfl ?_|refine g8_ rfl ?_|refine ga_ rfl ?_|refine gb_ rfl ?_)|(refine o0_ ?_; first|refine o1_ ?_|refine o2_ ?_|refine o3_ ?_|refine o4_ ?_|refine o5_ ?_|refine o6_ rfl ?_|refine o7_ rfl ?_|refine o8_ ?_|refine o9_ ?_|refine oa_ ?_|refine ob_ ?_|refine oc_ ?_|refine od_ ?_|refine oe_ ?_|refine of_ ?_|refine og_ ?_|refine oh_ ?_|refine oi_ ?_|refine oj_ ?_|refine ok_ ?_))|refine at_go ?_|(with_reducible refine And.intro (at_go ?_) (at_go ?_))|((with_reducible refine And.intro (fun h => ?_) (fun h => ?_)) <;> try (exfalso; omega))|(with_reducible refine And.intro (by first|omega|(simp only [maxLen]; omega)) ?_)|(refine And.intro ⟨[_], rfl⟩ ?_)|(refine And.intro ⟨[], by simp only [List.append_nil]⟩ ?_)|fail|simp (disch := first|omega|(simp only [length_u16s, List.length_map, lenF, lenS]; omega)) only [push_cast, ↓reduceIte, reduceIte, reduceCtorEq, Nat.reduceAdd, Nat.reduceLT, Nat.reduceEqDiff, Nat.reduceLeDiff, Int.reduceAdd, Int.reduceLT, Int.reduceLE, Nat.reduceMul, b1, b2, b3, b4, b5, b6, b7, e2, fb, fi, f1, f2, f3, f4, f5, qn, qO])
       have e3 : x.row s (i + 1) = ro ++ [((p : Int), (q : Int))] := by rw [e3, if_neg (by omega)]
       refine out_round (x.I - (i + 1)) (by omega) (by (first|trivial|((repeat' apply And.intro) <;> first|trivial|assumption|omega|(simp only [maxLen]; omega)|(simp only [length_u16s, List.length_map, maxLen, lenF, lenS] <;> omega)))) ⟨i + 1, by omega, rfl, by rw [e3]; simp [rowA, eA], ?_⟩
       simp (disch := first|omega|(simp only [length_u16s, List.length_map, lenF, lenS]; omega)) only [push_cast, ↓reduceIte, reduceIte, reduceCtorEq, Nat.reduceAdd, Nat.reduceLT, Nat.reduceEqDiff, Nat.reduceLeDiff, Int.reduceAdd, Int.reduceLT, Int.reduceLE, Nat.reduceMul, b1, b2, b3, b4, b5, b6, b7, e2, fb, fi, f1, f2, f3, f4, f5, qn, qO]
    ·obtain rfl : i = x.I := by omega
     have et : (rowA (x.row s x.I)).take x.I = rowA (x.row s x.I) := List.take_of_length_le (by omega)
     repeat' (first|(first|(refine a0_ ?_; first|refine a1_ rfl rfl ?_|refine a2_ rfl ?_|refine a3_ rfl rfl ?_|refine a4_ rfl ?_|refine ak_ rfl rfl ?_|refine a5_ rfl rfl rfl ?_|refine a6_ rfl rfl ?_|refine a7_ rfl rfl ?_|refine a8_ rfl rfl ?_|refine a9_ rfl rfl rfl ?_)|(refine g0_ ?_; first|refine g1_ rfl ?_|refine g2_ rfl rfl ?_|refine go_draw (dr := allQ) rfl rfl mixed (by first|assumption|kernel_rfl) ?_|refine g4_ rfl ?_|refine g5_ rfl ?_|refine g6_ rfl ?_|refine g7_ rfl ?_|refine g8_ rfl ?_|refine ga_ rfl ?_|refine gb_ rfl ?_)|(refine o0_ ?_; first|refine o1_ ?_|refine o2_ ?_|refine o3_ ?_|refine o4_ ?_|refine o5_ ?_|refine o6_ rfl ?_|refine o7_ rfl ?_|refine o8_ ?_|refine o9_ ?_|refine oa_ ?_|refine ob_ ?_|refine oc_ ?_|refine od_ ?_|refine oe_ ?_|refine of_ ?_|refine og_ ?_|refine oh_ ?_|refine oi_ ?_|refine oj_ ?_|refine ok_ ?_))|refine at_go ?_|(with_reducible refine And.intro (at_go ?_) (at_go ?_))|((with_reducible refine And.intro (fun h => ?_) (fun h => ?_)) <;> try (exfalso; omega))|(with_reducible refine And.intro (by first|omega|(simp only [maxLen]; omega)) ?_)|(refine And.intro ⟨[_], rfl⟩ ?_)|(refine And.intro ⟨[], by simp only [List.append_nil]⟩ ?_)|fail|simp (disch := first|omega|(simp only [length_u16s, List.length_map, lenF, lenS]; omega)) only [push_cast, ↓reduceIte, reduceIte, reduceCtorEq, Nat.reduceAdd, Nat.reduceLT, Nat.reduceEqDiff, Nat.reduceLeDiff, Int.reduceAdd, Int.reduceLT, Int.reduceLE, Nat.reduceMul, b1, b2, b3, b4, b5, b6, b7, e2, e0])
     refine out_round_frz (x.n - (s + 1)) 4 (j := 4) rfl (by omega) (by (first|trivial|((repeat' apply And.intro) <;> first|trivial|assumption|omega|(simp only [maxLen]; omega)|(simp only [length_u16s, List.length_map, maxLen, lenF, lenS] <;> omega)))) (by omega) (by simp [frzH]) (by simp [frzH, frzB, frz, Blk.below, idsE, idsL, AV.ids, map_frz, deadRow, e2, et]) ⟨s + 1, by omega, rfl, ?_, ?_⟩
     ·rw [e1]
      simp [frzH, frzB, frz, map_frz, e2, et]
      simp [rowsA]
     ·simp (disch := first|omega|(simp only [length_u16s, List.length_map, lenF, lenS]; omega)) only [push_cast, ↓reduceIte, reduceIte, reduceCtorEq, Nat.reduceAdd, Nat.reduceLT, Nat.reduceEqDiff, Nat.reduceLeDiff, Int.reduceAdd, Int.reduceLT, Int.reduceLE, Nat.reduceMul, b1, b2, b3, b4, b5, b6, b7, scrub, frz, AV.ids, idsL]
  ·obtain rfl : s = x.n := by omega
   repeat' (first|(first|(refine a0_ ?_; first|refine a1_ rfl rfl ?_|refine a2_ rfl ?_|refine a3_ rfl rfl ?_|refine a4_ rfl ?_|refine ak_ rfl rfl ?_|refine a5_ rfl rfl rfl ?_|refine a6_ rfl rfl ?_|refine a7_ rfl rfl ?_|refine a8_ rfl rfl ?_|refine a9_ rfl rfl rfl ?_)|(refine g0_ ?_; first|refine g1_ rfl ?_|refine g2_ rfl rfl ?_|refine go_draw (dr := allQ) rfl rfl mixed (by first|assumption|kernel_rfl) ?_|refine g4_ rfl ?_|refine g5_ rfl ?_|refine g6_ rfl ?_|refine g7_ rfl ?_|refine g8_ rfl ?_|refine ga_ rfl ?_|refine gb_ rfl ?_)|(refine o0_ ?_; first|refine o1_ ?_|refine o2_ ?_|refine o3_ ?_|refine o4_ ?_|refine o5_ ?_|refine o6_ rfl ?_|refine o7_ rfl ?_|refine o8_ ?_|refine o9_ ?_|refine oa_ ?_|refine ob_ ?_|refine oc_ ?_|refine od_ ?_|refine oe_ ?_|refine of_ ?_|refine og_ ?_|refine oh_ ?_|refine oi_ ?_|refine oj_ ?_|refine ok_ ?_))|refine at_go ?_|(with_reducible refine And.intro (at_go ?_) (at_go ?_))|((with_reducible refine And.intro (fun h => ?_) (fun h => ?_)) <;> try (exfalso; omega))|(with_reducible refine And.intro (by first|omega|(simp only [maxLen]; omega)) ?_)|(refine And.intro ⟨[_], rfl⟩ ?_)|(refine And.intro ⟨[], by simp only [List.append_nil]⟩ ?_)|fail|simp (disch := first|omega|(simp only [length_u16s, List.length_map, lenF, lenS]; omega)) only [push_cast, ↓reduceIte, reduceIte, reduceCtorEq, Nat.reduceAdd, Nat.reduceLT, Nat.reduceEqDiff, Nat.reduceLeDiff, Int.reduceAdd, Int.reduceLT, Int.reduceLE, Nat.reduceMul, b1, b2, b3, b4, b5, e0])
theorem edgesOf_len (l : List Row) : (edgesOf l).length = l.length := by simp [edgesOf]
theorem fitE_iff {o n : Int} {e : Edg} : fitE o n e = true ↔ e = (-1, -1) ∨ (0 ≤ e.1 ∧ e.1 < n ∧ 0 ≤ e.2 ∧ e.2 < o) := by
 obtain ⟨a, b⟩ := e
 simp only [fitE, Bool.or_eq_true, Bool.and_eq_true, decide_eq_true_eq, Prod.mk.injEq, and_assoc]
theorem mach_okM {i o : Int} {l : List Row} (h : machOk i o l = 0) : OkM (edgesOf l) i.toNat o.toNat := by
 obtain ⟨h1, h2, h3, h4, h5⟩ := machOk_zero h
 refine ⟨by rw [edgesOf_len]; omega, by omega, by omega, fun r hr => ?_, fun r hr e he => ?_⟩
 ·obtain ⟨k, hk, rfl⟩ := List.getElem_of_mem hr
  have hk' : k < l.length := by rw [edgesOf_len] at hk; exact hk
  have := h4 k hk'
  rw [← getD_edgesOf] at this
  rw [List.getD_eq_getElem?_getD, List.getElem?_eq_getElem hk, Option.getD_some] at this
  omega
 ·obtain ⟨k, hk, rfl⟩ := List.getElem_of_mem hr
  have hk' : k < l.length := by rw [edgesOf_len] at hk; exact hk
  have := h5 k hk'
  rw [← getD_edgesOf, List.getD_eq_getElem?_getD, List.getElem?_eq_getElem hk, Option.getD_some, List.all_eq_true] at this
  have := fitE_iff.1 (this e he)
  rw [edgesOf_len]
  rcases this with q|q
  ·exact .inl q
  ·exact .inr ⟨q.1, q.2.1, q.2.2.1, by omega⟩
theorem okM_mach {I O : Nat} {l : List Row} (h : OkM (edgesOf l) I O) (hI : I ≤ 16) (hO : O ≤ 16) (hl : l.length ≤ 64) : machOk I O l = 0 := by
 have h1 := h.n1; have h2 := h.i1; have h3 := h.o1
 rw [edgesOf_len] at h1
 refine machOk_of (by omega) (by omega) (by omega) (fun s hs => ?_) fun j hj => ?_
 ·have hs' : s < (edgesOf l).length := by rw [edgesOf_len]; exact hs
  rw [← getD_edgesOf, List.getD_eq_getElem?_getD, List.getElem?_eq_getElem hs', Option.getD_some, h.row _ (List.getElem_mem hs')]
 ·have hs' : j < (edgesOf l).length := by rw [edgesOf_len]; exact hj
  rw [← getD_edgesOf, List.getD_eq_getElem?_getD, List.getElem?_eq_getElem hs', Option.getD_some, List.all_eq_true]
  intro e he
  have := h.ed _ (List.getElem_mem hs') e he
  rw [edgesOf_len] at this
  exact fitE_iff.2 this
theorem edM_ok (pa : Bool) (n O v : Nat) (hn : 1 ≤ n) (hO : 1 ≤ O) : okE n O (edM pa n O v) := by
 have h1 := Nat.mod_lt (v / 4) hn
 have h2 := Nat.mod_lt (v / 4 / n) hO
 unfold edM
 generalize v / 4 % n = a at *
 generalize v / 4 / n % O = b at *
 split
 ·exact .inl rfl
 ·exact .inr ⟨Int.natCast_nonneg a, Int.ofNat_lt.2 h1, Int.natCast_nonneg b, Int.ofNat_lt.2 h2⟩
theorem MD.bI (x : MD) : 1 ≤ x.I ∧ x.I ≤ 3 := by unfold MD.I; omega
theorem MD.bO (x : MD) : 1 ≤ x.O ∧ x.O ≤ 3 := by unfold MD.O; omega
theorem MD.bn (x : MD) : 1 ≤ x.n ∧ x.n ≤ 6 := by unfold MD.n; omega
theorem MD.edges (x : MD) : edgesOf (x.rows x.n) = (List.range x.n).map fun s => x.row s x.I := by simp [edgesOf, MD.rows]
def MD.R (x : MD) : RR := edgesOf (x.rows x.n)
theorem MD.R_len (x : MD) : x.R.length = x.n := by rw [MD.R, edgesOf_len, MD.rows_len]
theorem MD.okM (x : MD) : OkM x.R x.I x.O := by
 have := x.bI; have := x.bO; have := x.bn
 refine okM_of_rows (by rw [x.R_len]; omega) (by omega) (by omega) fun r hr => ?_
 rw [x.R_len]
 rw [MD.R, x.edges] at hr
 obtain ⟨s, _, rfl⟩ := List.mem_map.1 hr
 refine ⟨x.row_len s x.I, fun e he => ?_⟩
 obtain ⟨i, _, rfl⟩ := List.mem_map.1 he
 exact edM_ok _ _ _ _ (by omega) (by omega)
theorem MD.ok (x : MD) : machOk x.I x.O (x.rows x.n) = 0 := by
 have := x.bI; have := x.bO; have := x.bn
 exact okM_mach x.okM (by omega) (by omega) (by rw [MD.rows_len]; omega)
end Go.Proofs
