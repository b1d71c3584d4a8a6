import Derived.Test.YtnlbodnipgkpaaaDoorC1
import Derived.Test.YtnlbodnipgkpaaaDoorV44
/- Classes: count, Count, the names of a list's elements (a map), Of. -/
namespace Go.Proofs
open Go Go.V
set_option linter.unusedVariables false
set_option linter.unusedSimpArgs false
set_option maxHeartbeats 0
set_option maxRecDepth 100000
theorem countM_le : ∀ (p : List Int) (b : Nat), (∀ x ∈ p, x < (b : Int)) → countM p ≤ b := fun p => by
  refine snoc_ind (P := fun p => ∀ b : Nat, (∀ x ∈ p, x < (b : Int)) → countM p ≤ b) (fun b _ => by simp [countM]) (fun l x ih b h => ?_) p
  rw [countM_snoc]
  have h1 := ih b fun y hy => h y (by simp [hy])
  have h2 := h x (by simp)
  omega
theorem count33 (p : List Int) (c : Option Nat) (hx : p.length ≤ 1000000) (hb : ∀ x ∈ p, -1 ≤ x ∧ x ≤ 1000000) : PC Tryd.prog G0 33 [.sl 1 (ints p) c] (.int .i64 (countM p)) := by
  refine pc_go 0 18 [.tmp 2] Tryd.func33 rfl rfl rfl (by simp) ?_
  intro s ⟨a0, hz⟩
  clear hz
  repeat' (first | (first | (refine a0_ ?_; first | refine a1_ rfl rfl ?_ | refine a2_ rfl ?_ | refine a3_ rfl rfl ?_ | refine a4_ rfl ?_ | refine a5_ rfl rfl rfl ?_ | refine a6_ rfl rfl ?_ | refine a7_ rfl rfl ?_ | refine a8_ rfl rfl ?_ | refine a9_ rfl rfl rfl ?_) | (refine g0_ ?_; first | refine g1_ rfl ?_ | refine g2_ rfl rfl ?_ | refine go_draw (dr := allQ) rfl rfl mixed (by first | assumption | kernel_rfl) ?_ | refine g4_ rfl ?_ | refine g5_ rfl ?_ | refine g6_ rfl ?_ | refine g7_ rfl ?_ | refine g8_ rfl ?_ | refine ga_ rfl ?_ | refine gb_ rfl ?_) | (refine o0_ ?_; first | refine o1_ ?_ | refine o2_ ?_ | refine o3_ ?_ | refine o4_ ?_ | refine o5_ ?_ | refine o6_ rfl ?_ | refine o7_ rfl ?_ | refine o8_ ?_ | refine o9_ ?_ | refine oa_ ?_ | refine ob_ ?_ | refine oc_ ?_ | refine od_ ?_ | refine oe_ ?_ | refine of_ ?_ | refine og_ ?_ | refine oh_ ?_ | refine oi_ ?_ | refine oj_ ?_ | refine ok_ ?_)) | refine at_go ?_ | (with_reducible refine And.intro (at_go ?_) (at_go ?_)) | ((with_reducible refine And.intro (fun h => ?_) (fun h => ?_)) <;> try (exfalso; omega)) | (with_reducible refine And.intro (by first | omega | (simp only [maxLen]; omega)) ?_) | fail | simp (disch := first | omega | (simp only [length_ints, length_prs, List.length_set, List.length_reverse, List.length_replicate, List.length_append, List.length_cons, List.length_nil, List.length_map]; omega)) only [push_cast, ↓reduceIte, reduceIte, reduceCtorEq, Nat.reduceAdd, Nat.reduceLT, Nat.reduceEqDiff, Nat.reduceLeDiff, Int.reduceAdd, Int.reduceLT, Int.reduceLE, Nat.reduceMul, a0, getD_ints])
  refine go_loop rfl (fun mz s' H' => ∃ k : Nat, k ≤ p.length ∧ mz = p.length - k ∧ H' = [] ∧ s' 6 = .sl 1 (ints p) c ∧ s' 7 = .int .i64 p.length ∧ s' 8 = .int .i64 k ∧ s' 3 = .int .i64 (countM (p.take k))) (m := p.length) (by (first | trivial | ((repeat' apply And.intro) <;> first | trivial | assumption | omega | (simp only [maxLen]; omega) | (simp only [length_ints, length_prs, List.length_replicate, List.length_append, List.length_cons, List.length_nil, List.length_map, List.length_take, List.length_drop, List.length_set, List.length_reverse, maxLen] <;> omega)))) (Weak.refl _ _) ⟨0, by omega, by omega, rfl, ?_⟩ ?_
  · simp (disch := first | omega | (simp only [length_ints, length_prs, List.length_set, List.length_reverse, List.length_replicate, List.length_append, List.length_cons, List.length_nil, List.length_map]; omega)) only [push_cast, ↓reduceIte, reduceIte, reduceCtorEq, Nat.reduceAdd, Nat.reduceLT, Nat.reduceEqDiff, Nat.reduceLeDiff, Int.reduceAdd, Int.reduceLT, Int.reduceLE, Nat.reduceMul, a0, getD_ints]
    rfl
  · rintro mz s' H' ⟨k, hk, rfl, rfl, b6, b7, b8, b3⟩
    rcases Nat.lt_or_ge k p.length with hlt | hge
    · have e1 := getD_ints p k hlt
      have e2 := countM_snoc (p.take k) (p.getD k 0)
      rw [← take_snoc p 0 k hlt] at e2
      have hbd := hb _ (getD_mem 0 hlt)
      have hc : countM (p.take k) ≤ 1000001 := countM_le _ _ fun x hx => by have := hb x (List.mem_of_mem_take hx); omega
      generalize p.getD k 0 = b at *
      generalize countM (p.take k) = n at *
      repeat' (first | (first | (refine a0_ ?_; first | refine a1_ rfl rfl ?_ | refine a2_ rfl ?_ | refine a3_ rfl rfl ?_ | refine a4_ rfl ?_ | refine a5_ rfl rfl rfl ?_ | refine a6_ rfl rfl ?_ | refine a7_ rfl rfl ?_ | refine a8_ rfl rfl ?_ | refine a9_ rfl rfl rfl ?_) | (refine g0_ ?_; first | refine g1_ rfl ?_ | refine g2_ rfl rfl ?_ | refine go_draw (dr := allQ) rfl rfl mixed (by first | assumption | kernel_rfl) ?_ | refine g4_ rfl ?_ | refine g5_ rfl ?_ | refine g6_ rfl ?_ | refine g7_ rfl ?_ | refine g8_ rfl ?_ | refine ga_ rfl ?_ | refine gb_ rfl ?_) | (refine o0_ ?_; first | refine o1_ ?_ | refine o2_ ?_ | refine o3_ ?_ | refine o4_ ?_ | refine o5_ ?_ | refine o6_ rfl ?_ | refine o7_ rfl ?_ | refine o8_ ?_ | refine o9_ ?_ | refine oa_ ?_ | refine ob_ ?_ | refine oc_ ?_ | refine od_ ?_ | refine oe_ ?_ | refine of_ ?_ | refine og_ ?_ | refine oh_ ?_ | refine oi_ ?_ | refine oj_ ?_ | refine ok_ ?_)) | refine at_go ?_ | (with_reducible refine And.intro (at_go ?_) (at_go ?_)) | ((with_reducible refine And.intro (fun h => ?_) (fun h => ?_)) <;> try (exfalso; omega)) | (with_reducible refine And.intro (by first | omega | (simp only [maxLen]; omega)) ?_) | fail | simp (disch := first | omega | (simp only [length_ints, length_prs, List.length_set, List.length_reverse, List.length_replicate, List.length_append, List.length_cons, List.length_nil, List.length_map]; omega)) only [push_cast, ↓reduceIte, reduceIte, reduceCtorEq, Nat.reduceAdd, Nat.reduceLT, Nat.reduceEqDiff, Nat.reduceLeDiff, Int.reduceAdd, Int.reduceLT, Int.reduceLE, Nat.reduceMul, b6, b7, b8, b3, e1])
      refine out_round (p.length - (k + 1)) (by omega) (by (first | trivial | ((repeat' apply And.intro) <;> first | trivial | assumption | omega | (simp only [maxLen]; omega) | (simp only [length_ints, length_prs, List.length_replicate, List.length_append, List.length_cons, List.length_nil, List.length_map, List.length_take, List.length_drop, List.length_set, List.length_reverse, maxLen] <;> omega)))) ⟨k + 1, by omega, rfl, rfl, ?_⟩
      simp (disch := first | omega | (simp only [length_ints, length_prs, List.length_set, List.length_reverse, List.length_replicate, List.length_append, List.length_cons, List.length_nil, List.length_map]; omega)) only [push_cast, ↓reduceIte, reduceIte, reduceCtorEq, Nat.reduceAdd, Nat.reduceLT, Nat.reduceEqDiff, Nat.reduceLeDiff, Int.reduceAdd, Int.reduceLT, Int.reduceLE, Nat.reduceMul, b6, b7, b8, b3, e1]
      rw [show ((countM (p.take (k + 1)) : Nat) : Int) = if b + 1 > (n : Int) then b + 1 else n by rw [e2]; by_cases hh : b + 1 > (n : Int); rw [if_pos hh]; omega; rw [if_neg hh]; omega]
    · obtain rfl : k = p.length := by omega
      rw [List.take_length] at b3
      repeat' (first | (first | (refine a0_ ?_; first | refine a1_ rfl rfl ?_ | refine a2_ rfl ?_ | refine a3_ rfl rfl ?_ | refine a4_ rfl ?_ | refine a5_ rfl rfl rfl ?_ | refine a6_ rfl rfl ?_ | refine a7_ rfl rfl ?_ | refine a8_ rfl rfl ?_ | refine a9_ rfl rfl rfl ?_) | (refine g0_ ?_; first | refine g1_ rfl ?_ | refine g2_ rfl rfl ?_ | refine go_draw (dr := allQ) rfl rfl mixed (by first | assumption | kernel_rfl) ?_ | refine g4_ rfl ?_ | refine g5_ rfl ?_ | refine g6_ rfl ?_ | refine g7_ rfl ?_ | refine g8_ rfl ?_ | refine ga_ rfl ?_ | refine gb_ rfl ?_) | (refine o0_ ?_; first | refine o1_ ?_ | refine o2_ ?_ | refine o3_ ?_ | refine o4_ ?_ | refine o5_ ?_ | refine o6_ rfl ?_ | refine o7_ rfl ?_ | refine o8_ ?_ | refine o9_ ?_ | refine oa_ ?_ | refine ob_ ?_ | refine oc_ ?_ | refine od_ ?_ | refine oe_ ?_ | refine of_ ?_ | refine og_ ?_ | refine oh_ ?_ | refine oi_ ?_ | refine oj_ ?_ | refine ok_ ?_)) | refine at_go ?_ | (with_reducible refine And.intro (at_go ?_) (at_go ?_)) | ((with_reducible refine And.intro (fun h => ?_) (fun h => ?_)) <;> try (exfalso; omega)) | (with_reducible refine And.intro (by first | omega | (simp only [maxLen]; omega)) ?_) | fail | simp (disch := first | omega | (simp only [length_ints, length_prs, List.length_set, List.length_reverse, List.length_replicate, List.length_append, List.length_cons, List.length_nil, List.length_map]; omega)) only [push_cast, ↓reduceIte, reduceIte, reduceCtorEq, Nat.reduceAdd, Nat.reduceLT, Nat.reduceEqDiff, Nat.reduceLeDiff, Int.reduceAdd, Int.reduceLT, Int.reduceLE, Nat.reduceMul, b6, b7, b8, b3])
/-! ### Names in a map -/
def nmapG {α : Type} (kA : α → AV) : Nat → List α → List (AV × AV)
  | _, [] => []
  | n, x :: d => (kA x, .int .i64 n) :: nmapG kA (n + 1) d
def ixOf {α : Type} [DecidableEq α] (d : List α) (x : α) : Nat := d.idxOf x
theorem nameOf_ix {α : Type} [DecidableEq α] (l : List α) (x : α) : nameOf l x = ixOf (dd l) x := rfl
theorem ixOf_last {α : Type} [DecidableEq α] {d : List α} {x : α} (h : ¬ x ∈ d) : ixOf (d ++ [x]) x = d.length := by
  rw [ixOf, List.idxOf_append, if_neg h]; simp
theorem length_nmapG {α : Type} {kA : α → AV} : ∀ (d : List α) (n : Nat), (nmapG kA n d).length = d.length
  | [], _ => rfl
  | _ :: d, n => by rw [nmapG, List.length_cons, List.length_cons, length_nmapG d]
theorem lookA_nmapG {α : Type} [DecidableEq α] {kA : α → AV} (hs : ∀ x y, sameK (kA x) (kA y) = decide (x = y)) (z : AV) (x : α) : ∀ (d : List α) (n : Nat), lookA z (nmapG kA n d) (kA x) = if x ∈ d then .int .i64 ((n + ixOf d x : Nat) : Int) else z
  | [], n => by simp [lookA, nmapG]
  | y :: d, n => by
    have ih := lookA_nmapG hs z x d (n + 1)
    simp only [ixOf] at ih ⊢
    simp only [lookA, nmapG, List.find?_cons, hs] at ih ⊢
    by_cases h : x = y
    · subst h; simp
    · have h' : ¬ y = x := fun q => h q.symm
      rw [decide_eq_false h]
      simp only [List.mem_cons, h, false_or, List.idxOf_cons, beq_eq_false_iff_ne.2 h', cond_false] at ih ⊢
      rw [ih]
      split
      · congr 2; omega
      · rfl
theorem hasA_nmapG {α : Type} [DecidableEq α] {kA : α → AV} (hs : ∀ x y, sameK (kA x) (kA y) = decide (x = y)) (x : α) : ∀ (d : List α) (n : Nat), hasA (nmapG kA n d) (kA x) = decide (x ∈ d)
  | [], n => by simp [hasA, nmapG]
  | y :: d, n => by
    have ih := hasA_nmapG hs x d (n + 1)
    simp only [hasA, nmapG, List.any_cons, hs] at ih ⊢
    rw [ih]
    simp
theorem updA_nmapG {α : Type} [DecidableEq α] {kA : α → AV} (hs : ∀ x y, sameK (kA x) (kA y) = decide (x = y)) (x : α) : ∀ (d : List α) (n : Nat), ¬ x ∈ d → updA (nmapG kA n d) (kA x) (.int .i64 ((n + d.length : Nat) : Int)) = nmapG kA n (d ++ [x])
  | [], n, _ => by simp [updA, nmapG]
  | y :: d, n, h => by
    simp only [List.mem_cons, not_or] at h
    have ih := updA_nmapG hs x d (n + 1) h.2
    simp only [nmapG, updA, hs, decide_eq_false h.1, Bool.false_eq_true, if_false, List.cons_append]
    rw [← ih]
    congr 4
    simp only [List.length_cons]; omega
theorem ids_nmapG {α : Type} {kA : α → AV} (p : Nat → Bool) (h : ∀ x, AV.ids p (kA x) = true) : ∀ (d : List α) (n : Nat), ((nmapG kA n d).all fun x => AV.ids p x.1 && AV.ids p x.2) = true
  | [], _ => rfl
  | x :: d, n => by rw [nmapG, List.all_cons, ids_nmapG p h d]; simp [h, AV.ids]
theorem mapOk_nmapG {α : Type} {kA : α → AV} {kT : TypeId} (x : α) (h1 : eqTy Tryd.prog 8 kT = true) (h2 : keyA Tryd.prog 8 kT (kA x) = true) (h3 : ∀ y, (eqA Tryd.prog 8 kT (kA x) (kA y)) = (true, sameK (kA x) (kA y))) : ∀ (d : List α) (n : Nat), mapOk Tryd.prog kT (nmapG kA n d) (kA x) = true := fun d n => by
  simp only [mapOk, h1, h2, Bool.true_and]
  have : ∀ (d : List α) (n : Nat), ((nmapG kA n d).all fun p => (eqA Tryd.prog 8 kT (kA x) p.1).1 && ((eqA Tryd.prog 8 kT (kA x) p.1).2 == sameK (kA x) p.1)) = true := fun d => by
    induction d with
    | nil => intro n; rfl
    | cons y d ih => intro n; rw [nmapG, List.all_cons, ih]; simp [h3]
  exact this d n
def kI (x : Int) : AV := .int .i64 x
def kP (x : Pr) : AV := .agg [.int .i64 x.1, .int .i64 x.2]
theorem sameK_kI (x y : Int) : sameK (kI x) (kI y) = decide (x = y) := by
  simp only [kI, sameK, sameA]
  rw [show (IntKind.i64 == IntKind.i64) = true from rfl, Bool.true_and]
  rw [Bool.eq_iff_iff]; simp
theorem sameK_kP (x y : Pr) : sameK (kP x) (kP y) = decide (x = y) := by
  simp only [kP, sameK, sameL, sameA, Bool.and_true]
  rw [show (IntKind.i64 == IntKind.i64) = true from rfl, Bool.true_and, Bool.true_and]
  rw [Bool.eq_iff_iff]; simp [Prod.ext_iff]
theorem eqTy3 : eqTy Tryd.prog 8 3 = true := by kernel_rfl
theorem eqTy45 : eqTy Tryd.prog 8 45 = true := by kernel_rfl
theorem mapOkI (x : Int) (d : List Int) (n : Nat) : mapOk Tryd.prog 3 (nmapG kI n d) (kI x) = true :=
  mapOk_nmapG x eqTy3 (by kernel_rfl) (fun y => by rw [sameK_kI, kI, kI, eq3]) d n
theorem mapOkP (x : Pr) (d : List Pr) (n : Nat) : mapOk Tryd.prog 45 (nmapG kP n d) (kP x) = true :=
  mapOk_nmapG x eqTy45 (by kernel_rfl) (fun y => by rw [sameK_kP, kP, kP, eq45]; congr 1; rw [Bool.eq_iff_iff]; simp [Prod.ext_iff]) d n
theorem zeroV3 : zeroV Tryd.prog 3 = .int .i64 0 := by kernel_rfl
/-- The row that named fills. -/
def nmRow {α : Type} [DecidableEq α] (l : List α) (k : Nat) : List Int := namesI (l.take k) ++ List.replicate (l.length - k) 0
theorem nmRow_len {α : Type} [DecidableEq α] (l : List α) (k : Nat) (h : k ≤ l.length) : (nmRow l k).length = l.length := by
  simp [nmRow, length_namesI]; omega
theorem nmRow_set {α : Type} [DecidableEq α] (l : List α) (d : α) (k : Nat) (h : k < l.length) (v : Nat) (hv : v = if l.getD k d ∈ l.take k then nameOf (l.take k) (l.getD k d) else (dd (l.take k)).length) : (nmRow l k).set k (v : Int) = nmRow l (k + 1) := by
  rw [nmRow, nmRow, take_snoc l d k h, namesI_snoc, List.set_append_right _ _ (by simp [length_namesI]; omega)]
  rw [length_namesI, List.length_take, Nat.min_eq_left (by omega), Nat.sub_self]
  obtain ⟨m, hm⟩ : ∃ m, l.length - k = m + 1 := ⟨l.length - k - 1, by omega⟩
  rw [hm, show l.length - (k + 1) = m by omega, List.replicate_succ, List.set_cons_zero, List.append_assoc, hv]
  rfl
theorem nmRow_all {α : Type} [DecidableEq α] (l : List α) : nmRow l l.length = namesI l := by simp [nmRow]
theorem dd_len_le {α : Type} [DecidableEq α] : ∀ (l : List α), (dd l).length ≤ l.length := fun l => by
  refine snoc_ind (P := fun l => (dd l).length ≤ l.length) (by simp [dd_nil]) (fun l x ih => ?_) l
  rw [dd_len_snoc, List.length_append]
  split <;> simp <;> omega
theorem nameOf_le {α : Type} [DecidableEq α] (l : List α) (x : α) : nameOf l x ≤ (dd l).length := List.idxOf_le_length
theorem named39 (l : List Int) (z : Nat) (c : Option Nat) (hz : l = [] ∨ z = 1) (hx : l.length ≤ 1000000) : PC Tryd.prog G0 39 [.sl z (ints l) c] (.sl 1 (ints (namesI l)) (some l.length)) := by
  refine pc_go 1 40 [.tmp 2] Tryd.func39 rfl rfl rfl (by simp) ?_
  intro s ⟨a0, hz⟩
  clear hz
  repeat' (first | (first | (refine a0_ ?_; first | refine a1_ rfl rfl ?_ | refine a2_ rfl ?_ | refine a3_ rfl rfl ?_ | refine a4_ rfl ?_ | refine a5_ rfl rfl rfl ?_ | refine a6_ rfl rfl ?_ | refine a7_ rfl rfl ?_ | refine a8_ rfl rfl ?_ | refine a9_ rfl rfl rfl ?_) | (refine g0_ ?_; first | refine g1_ rfl ?_ | refine g2_ rfl rfl ?_ | refine go_draw (dr := allQ) rfl rfl mixed (by first | assumption | kernel_rfl) ?_ | refine g4_ rfl ?_ | refine g5_ rfl ?_ | refine g6_ rfl ?_ | refine g7_ rfl ?_ | refine g8_ rfl ?_ | refine ga_ rfl ?_ | refine gb_ rfl ?_) | (refine o0_ ?_; first | refine o1_ ?_ | refine o2_ ?_ | refine o3_ ?_ | refine o4_ ?_ | refine o5_ ?_ | refine o6_ rfl ?_ | refine o7_ rfl ?_ | refine o8_ ?_ | refine o9_ ?_ | refine oa_ ?_ | refine ob_ ?_ | refine oc_ ?_ | refine od_ ?_ | refine oe_ ?_ | refine of_ ?_ | refine og_ ?_ | refine oh_ ?_ | refine oi_ ?_ | refine oj_ ?_ | refine ok_ ?_)) | refine at_go ?_ | (with_reducible refine And.intro (at_go ?_) (at_go ?_)) | ((with_reducible refine And.intro (fun h => ?_) (fun h => ?_)) <;> try (exfalso; omega)) | (with_reducible refine And.intro (by first | omega | (simp only [maxLen]; omega)) ?_) | fail | simp (disch := first | omega | (simp only [length_ints, length_prs, List.length_set, List.length_reverse, List.length_replicate, List.length_append, List.length_cons, List.length_nil, List.length_map]; omega)) only [push_cast, ↓reduceIte, reduceIte, reduceCtorEq, Nat.reduceAdd, Nat.reduceLT, Nat.reduceEqDiff, Nat.reduceLeDiff, Int.reduceAdd, Int.reduceLT, Int.reduceLE, Nat.reduceMul, a0, ints_rep])
  refine go_loop rfl (fun mz s' H' => ∃ k : Nat, k ≤ l.length ∧ mz = l.length - k ∧ H' = [.ob (.map 3 3 (nmapG kI 0 (dd (l.take k)))), .row 1 3 (ints (nmRow l k))] ∧ s' 3 = .mp 0 ∧ s' 4 = .own 1 l.length l.length (some l.length) ∧ s' 13 = .sl z (ints l) c ∧ s' 14 = .int .i64 l.length ∧ s' 15 = .int .i64 k) (m := l.length) (by (first | trivial | ((repeat' apply And.intro) <;> first | trivial | assumption | omega | (simp only [maxLen]; omega) | (simp only [length_ints, length_prs, List.length_replicate, List.length_append, List.length_cons, List.length_nil, List.length_map, List.length_take, List.length_drop, List.length_set, List.length_reverse, maxLen] <;> omega)))) (Weak.refl _ _) ⟨0, by omega, by omega, rfl, ?_⟩ ?_
  · simp (disch := first | omega | (simp only [length_ints, length_prs, List.length_set, List.length_reverse, List.length_replicate, List.length_append, List.length_cons, List.length_nil, List.length_map]; omega)) only [push_cast, ↓reduceIte, reduceIte, reduceCtorEq, Nat.reduceAdd, Nat.reduceLT, Nat.reduceEqDiff, Nat.reduceLeDiff, Int.reduceAdd, Int.reduceLT, Int.reduceLE, Nat.reduceMul, a0, ints_rep]
    try simp [nmRow, namesI, named, dd_nil, nmapG]
  · rintro mz s' H' ⟨k, hk, rfl, rfl, b3, b4, b13, b14, b15⟩
    rcases Nat.lt_or_ge k l.length with hlt | hge
    · obtain rfl := hz.resolve_left (by rintro rfl; simp at hlt)
      have e1 := getD_ints l k hlt
      have e2 := nmRow_set l 0 k hlt
      have e3 := nmRow_len l k (by omega)
      have e4 := dd_snoc (l.take k) (l.getD k 0)
      rw [← take_snoc l 0 k hlt] at e4
      have e5 := nameOf_le (l.take k) (l.getD k 0)
      have e6 := dd_len_le (l.take k)
      rw [List.length_take] at e6
      have m0 := mem_dd (l.take k) (l.getD k 0)
      have k1 := mapOkI (l.getD k 0) (dd (l.take k)) 0
      have k2 := mapOkI (l.getD k 0) (dd (l.take k) ++ [l.getD k 0]) 0
      have h1 := hasA_nmapG sameK_kI (l.getD k 0) (dd (l.take k)) 0
      have h2 := lookA_nmapG sameK_kI (.int .i64 0) (l.getD k 0) (dd (l.take k)) 0
      have h3 := lookA_nmapG sameK_kI (.int .i64 0) (l.getD k 0) (dd (l.take k) ++ [l.getD k 0]) 0
      have h4 := updA_nmapG sameK_kI (l.getD k 0) (dd (l.take k)) 0
      have h5 := length_nmapG (kA := kI) (dd (l.take k)) 0
      have hids : ∀ d, ((nmapG kI 0 d).all fun x => AV.ids (fun b => decide (b < 2)) x.1 && AV.ids (fun b => decide (b < 2)) x.2) = true := fun d => ids_nmapG _ (fun x => by simp [kI, AV.ids, idsL]) d 0
      by_cases hm : l.getD k 0 ∈ l.take k
      · have hm' := m0.2 hm
        rw [if_pos hm'] at e4 h2
        simp only [hm', decide_true] at h1
        have e7 := e2 _ (if_pos hm).symm
        rw [nameOf_ix] at e7 e5
        rw [Nat.zero_add] at h2
        generalize nmRow l k = R at *
        generalize l.getD k 0 = x at *
        generalize dd (l.take k) = d at *
        generalize ixOf d x = v at *
        have e8 := ints_set R k (v : Int)
        simp only [kI] at k1 h1 h2

        repeat' (first | (first | (refine a0_ ?_; first | refine a1_ rfl rfl ?_ | refine a2_ rfl ?_ | refine a3_ rfl rfl ?_ | refine a4_ rfl ?_ | refine a5_ rfl rfl rfl ?_ | refine a6_ rfl rfl ?_ | refine a7_ rfl rfl ?_ | refine a8_ rfl rfl ?_ | refine a9_ rfl rfl rfl ?_) | (refine g0_ ?_; first | refine g1_ rfl ?_ | refine g2_ rfl rfl ?_ | refine go_draw (dr := allQ) rfl rfl mixed (by first | assumption | kernel_rfl) ?_ | refine g4_ rfl ?_ | refine g5_ rfl ?_ | refine g6_ rfl ?_ | refine g7_ rfl ?_ | refine g8_ rfl ?_ | refine ga_ rfl ?_ | refine gb_ rfl ?_) | (refine o0_ ?_; first | refine o1_ ?_ | refine o2_ ?_ | refine o3_ ?_ | refine o4_ ?_ | refine o5_ ?_ | refine o6_ rfl ?_ | refine o7_ rfl ?_ | refine o8_ ?_ | refine o9_ ?_ | refine oa_ ?_ | refine ob_ ?_ | refine oc_ ?_ | refine od_ ?_ | refine oe_ ?_ | refine of_ ?_ | refine og_ ?_ | refine oh_ ?_ | refine oi_ ?_ | refine oj_ ?_ | refine ok_ ?_)) | refine at_go ?_ | (with_reducible refine And.intro (at_go ?_) (at_go ?_)) | ((with_reducible refine And.intro (fun h => ?_) (fun h => ?_)) <;> try (exfalso; omega)) | (with_reducible refine And.intro (by first | omega | (simp only [maxLen]; omega)) ?_) | fail | simp (disch := first | omega | (simp only [length_ints, length_prs, List.length_set, List.length_reverse, List.length_replicate, List.length_append, List.length_cons, List.length_nil, List.length_map]; omega)) only [push_cast, ↓reduceIte, reduceIte, reduceCtorEq, Nat.reduceAdd, Nat.reduceLT, Nat.reduceEqDiff, Nat.reduceLeDiff, Int.reduceAdd, Int.reduceLT, Int.reduceLE, Nat.reduceMul, b3, b4, b13, b14, b15, e1, zeroV3, k1, h1, h2, e3, e8, getD_ints])
        refine out_round (l.length - (k + 1)) (by omega) (by (first | trivial | ((repeat' apply And.intro) <;> first | trivial | assumption | omega | (simp only [maxLen]; omega) | (simp only [length_ints, length_prs, List.length_replicate, List.length_append, List.length_cons, List.length_nil, List.length_map, List.length_take, List.length_drop, List.length_set, List.length_reverse, maxLen] <;> omega)))) ⟨k + 1, by omega, rfl, by rw [e4, ← e7], ?_⟩

        simp (disch := first | omega | (simp only [length_ints, length_prs, List.length_set, List.length_reverse, List.length_replicate, List.length_append, List.length_cons, List.length_nil, List.length_map]; omega)) only [push_cast, ↓reduceIte, reduceIte, reduceCtorEq, Nat.reduceAdd, Nat.reduceLT, Nat.reduceEqDiff, Nat.reduceLeDiff, Int.reduceAdd, Int.reduceLT, Int.reduceLE, Nat.reduceMul, b3, b4, b13, b14, b15, e1, zeroV3, k1, h1, h2, e3, e8, getD_ints]
      · have hm' : ¬ l.getD k 0 ∈ dd (l.take k) := fun q => hm (m0.1 q)
        rw [if_neg hm'] at e4 h2
        rw [if_pos (by simp)] at h3
        have h4 := h4 hm'
        simp only [hm', decide_false] at h1
        have e7 := e2 _ (if_neg hm).symm
        rw [ixOf_last hm'] at h3
        rw [Nat.zero_add] at h3 h4
        generalize nmRow l k = R at *
        generalize l.getD k 0 = x at *
        generalize dd (l.take k) = d at *
        generalize d.length = v at *
        have e8 := ints_set R k (v : Int)
        simp only [kI] at k1 k2 h1 h2 h3 h4
        have hids := hids (d ++ [x])
        generalize hn1 : nmapG kI 0 d = n1 at *
        generalize hn2 : nmapG kI 0 (d ++ [x]) = n2 at *

        repeat' (first | (first | (refine a0_ ?_; first | refine a1_ rfl rfl ?_ | refine a2_ rfl ?_ | refine a3_ rfl rfl ?_ | refine a4_ rfl ?_ | refine a5_ rfl rfl rfl ?_ | refine a6_ rfl rfl ?_ | refine a7_ rfl rfl ?_ | refine a8_ rfl rfl ?_ | refine a9_ rfl rfl rfl ?_) | (refine g0_ ?_; first | refine g1_ rfl ?_ | refine g2_ rfl rfl ?_ | refine go_draw (dr := allQ) rfl rfl mixed (by first | assumption | kernel_rfl) ?_ | refine g4_ rfl ?_ | refine g5_ rfl ?_ | refine g6_ rfl ?_ | refine g7_ rfl ?_ | refine g8_ rfl ?_ | refine ga_ rfl ?_ | refine gb_ rfl ?_) | (refine o0_ ?_; first | refine o1_ ?_ | refine o2_ ?_ | refine o3_ ?_ | refine o4_ ?_ | refine o5_ ?_ | refine o6_ rfl ?_ | refine o7_ rfl ?_ | refine o8_ ?_ | refine o9_ ?_ | refine oa_ ?_ | refine ob_ ?_ | refine oc_ ?_ | refine od_ ?_ | refine oe_ ?_ | refine of_ ?_ | refine og_ ?_ | refine oh_ ?_ | refine oi_ ?_ | refine oj_ ?_ | refine ok_ ?_)) | refine at_go ?_ | (with_reducible refine And.intro (at_go ?_) (at_go ?_)) | ((with_reducible refine And.intro (fun h => ?_) (fun h => ?_)) <;> try (exfalso; omega)) | (with_reducible refine And.intro (by first | omega | (simp only [maxLen]; omega)) ?_) | fail | simp (disch := first | omega | (simp only [length_ints, length_prs, List.length_set, List.length_reverse, List.length_replicate, List.length_append, List.length_cons, List.length_nil, List.length_map]; omega)) only [push_cast, ↓reduceIte, reduceIte, reduceCtorEq, Nat.reduceAdd, Nat.reduceLT, Nat.reduceEqDiff, Nat.reduceLeDiff, Int.reduceAdd, Int.reduceLT, Int.reduceLE, Nat.reduceMul, b3, b4, b13, b14, b15, e1, zeroV3, k1, h1, h2, k2, h3, h4, h5, e3, e8, getD_ints])
        refine out_round (l.length - (k + 1)) (by omega) (by (first | trivial | ((repeat' apply And.intro) <;> first | trivial | assumption | omega | (simp only [maxLen]; omega) | (simp only [length_ints, length_prs, List.length_replicate, List.length_append, List.length_cons, List.length_nil, List.length_map, List.length_take, List.length_drop, List.length_set, List.length_reverse, maxLen] <;> omega)))) ⟨k + 1, by omega, rfl, by rw [e4, ← e7, hn2], ?_⟩

        simp (disch := first | omega | (simp only [length_ints, length_prs, List.length_set, List.length_reverse, List.length_replicate, List.length_append, List.length_cons, List.length_nil, List.length_map]; omega)) only [push_cast, ↓reduceIte, reduceIte, reduceCtorEq, Nat.reduceAdd, Nat.reduceLT, Nat.reduceEqDiff, Nat.reduceLeDiff, Int.reduceAdd, Int.reduceLT, Int.reduceLE, Nat.reduceMul, b3, b4, b13, b14, b15, e1, zeroV3, k1, h1, h2, k2, h3, h4, h5, e3, e8, getD_ints]
    · obtain rfl : k = l.length := by omega
      rw [nmRow_all]
      have et : (ints (namesI l)).take l.length = ints (namesI l) := List.take_of_length_le (by rw [length_ints, length_namesI]; omega)
      have e3 := length_namesI l
      repeat' (first | (first | (refine a0_ ?_; first | refine a1_ rfl rfl ?_ | refine a2_ rfl ?_ | refine a3_ rfl rfl ?_ | refine a4_ rfl ?_ | refine a5_ rfl rfl rfl ?_ | refine a6_ rfl rfl ?_ | refine a7_ rfl rfl ?_ | refine a8_ rfl rfl ?_ | refine a9_ rfl rfl rfl ?_) | (refine g0_ ?_; first | refine g1_ rfl ?_ | refine g2_ rfl rfl ?_ | refine go_draw (dr := allQ) rfl rfl mixed (by first | assumption | kernel_rfl) ?_ | refine g4_ rfl ?_ | refine g5_ rfl ?_ | refine g6_ rfl ?_ | refine g7_ rfl ?_ | refine g8_ rfl ?_ | refine ga_ rfl ?_ | refine gb_ rfl ?_) | (refine o0_ ?_; first | refine o1_ ?_ | refine o2_ ?_ | refine o3_ ?_ | refine o4_ ?_ | refine o5_ ?_ | refine o6_ rfl ?_ | refine o7_ rfl ?_ | refine o8_ ?_ | refine o9_ ?_ | refine oa_ ?_ | refine ob_ ?_ | refine oc_ ?_ | refine od_ ?_ | refine oe_ ?_ | refine of_ ?_ | refine og_ ?_ | refine oh_ ?_ | refine oi_ ?_ | refine oj_ ?_ | refine ok_ ?_)) | refine at_go ?_ | (with_reducible refine And.intro (at_go ?_) (at_go ?_)) | ((with_reducible refine And.intro (fun h => ?_) (fun h => ?_)) <;> try (exfalso; omega)) | (with_reducible refine And.intro (by first | omega | (simp only [maxLen]; omega)) ?_) | fail | simp (disch := first | omega | (simp only [length_ints, length_prs, List.length_set, List.length_reverse, List.length_replicate, List.length_append, List.length_cons, List.length_nil, List.length_map]; omega)) only [push_cast, ↓reduceIte, reduceIte, reduceCtorEq, Nat.reduceAdd, Nat.reduceLT, Nat.reduceEqDiff, Nat.reduceLeDiff, Int.reduceAdd, Int.reduceLT, Int.reduceLE, Nat.reduceMul, b3, b4, b13, b14, b15, et, all_ints, e3])
theorem named37 (l : List Pr) (z : Nat) (c : Option Nat) (hz : l = [] ∨ z = 2) (hx : l.length ≤ 1000000) : PC Tryd.prog G0 37 [.sl z (prs l) c] (.sl 1 (ints (namesI l)) (some l.length)) := by
  refine pc_go 1 40 [.tmp 2] Tryd.func37 rfl rfl rfl (by simp) ?_
  intro s ⟨a0, hz⟩
  clear hz
  repeat' (first | (first | (refine a0_ ?_; first | refine a1_ rfl rfl ?_ | refine a2_ rfl ?_ | refine a3_ rfl rfl ?_ | refine a4_ rfl ?_ | refine a5_ rfl rfl rfl ?_ | refine a6_ rfl rfl ?_ | refine a7_ rfl rfl ?_ | refine a8_ rfl rfl ?_ | refine a9_ rfl rfl rfl ?_) | (refine g0_ ?_; first | refine g1_ rfl ?_ | refine g2_ rfl rfl ?_ | refine go_draw (dr := allQ) rfl rfl mixed (by first | assumption | kernel_rfl) ?_ | refine g4_ rfl ?_ | refine g5_ rfl ?_ | refine g6_ rfl ?_ | refine g7_ rfl ?_ | refine g8_ rfl ?_ | refine ga_ rfl ?_ | refine gb_ rfl ?_) | (refine o0_ ?_; first | refine o1_ ?_ | refine o2_ ?_ | refine o3_ ?_ | refine o4_ ?_ | refine o5_ ?_ | refine o6_ rfl ?_ | refine o7_ rfl ?_ | refine o8_ ?_ | refine o9_ ?_ | refine oa_ ?_ | refine ob_ ?_ | refine oc_ ?_ | refine od_ ?_ | refine oe_ ?_ | refine of_ ?_ | refine og_ ?_ | refine oh_ ?_ | refine oi_ ?_ | refine oj_ ?_ | refine ok_ ?_)) | refine at_go ?_ | (with_reducible refine And.intro (at_go ?_) (at_go ?_)) | ((with_reducible refine And.intro (fun h => ?_) (fun h => ?_)) <;> try (exfalso; omega)) | (with_reducible refine And.intro (by first | omega | (simp only [maxLen]; omega)) ?_) | fail | simp (disch := first | omega | (simp only [length_ints, length_prs, List.length_set, List.length_reverse, List.length_replicate, List.length_append, List.length_cons, List.length_nil, List.length_map]; omega)) only [push_cast, ↓reduceIte, reduceIte, reduceCtorEq, Nat.reduceAdd, Nat.reduceLT, Nat.reduceEqDiff, Nat.reduceLeDiff, Int.reduceAdd, Int.reduceLT, Int.reduceLE, Nat.reduceMul, a0, ints_rep])
  refine go_loop rfl (fun mz s' H' => ∃ k : Nat, k ≤ l.length ∧ mz = l.length - k ∧ H' = [.ob (.map 45 3 (nmapG kP 0 (dd (l.take k)))), .row 1 3 (ints (nmRow l k))] ∧ s' 3 = .mp 0 ∧ s' 4 = .own 1 l.length l.length (some l.length) ∧ s' 13 = .sl z (prs l) c ∧ s' 14 = .int .i64 l.length ∧ s' 15 = .int .i64 k) (m := l.length) (by (first | trivial | ((repeat' apply And.intro) <;> first | trivial | assumption | omega | (simp only [maxLen]; omega) | (simp only [length_ints, length_prs, List.length_replicate, List.length_append, List.length_cons, List.length_nil, List.length_map, List.length_take, List.length_drop, List.length_set, List.length_reverse, maxLen] <;> omega)))) (Weak.refl _ _) ⟨0, by omega, by omega, rfl, ?_⟩ ?_
  · simp (disch := first | omega | (simp only [length_ints, length_prs, List.length_set, List.length_reverse, List.length_replicate, List.length_append, List.length_cons, List.length_nil, List.length_map]; omega)) only [push_cast, ↓reduceIte, reduceIte, reduceCtorEq, Nat.reduceAdd, Nat.reduceLT, Nat.reduceEqDiff, Nat.reduceLeDiff, Int.reduceAdd, Int.reduceLT, Int.reduceLE, Nat.reduceMul, a0, ints_rep]
    try simp [nmRow, namesI, named, dd_nil, nmapG]
  · rintro mz s' H' ⟨k, hk, rfl, rfl, b3, b4, b13, b14, b15⟩
    rcases Nat.lt_or_ge k l.length with hlt | hge
    · obtain rfl := hz.resolve_left (by rintro rfl; simp at hlt)
      have e1 := getD_prs l k hlt
      have e2 := nmRow_set l (0, 0) k hlt
      have e3 := nmRow_len l k (by omega)
      have e4 := dd_snoc (l.take k) (l.getD k (0, 0))
      rw [← take_snoc l (0, 0) k hlt] at e4
      have e5 := nameOf_le (l.take k) (l.getD k (0, 0))
      have e6 := dd_len_le (l.take k)
      rw [List.length_take] at e6
      have m0 := mem_dd (l.take k) (l.getD k (0, 0))
      have k1 := mapOkP (l.getD k (0, 0)) (dd (l.take k)) 0
      have k2 := mapOkP (l.getD k (0, 0)) (dd (l.take k) ++ [l.getD k (0, 0)]) 0
      have h1 := hasA_nmapG sameK_kP (l.getD k (0, 0)) (dd (l.take k)) 0
      have h2 := lookA_nmapG sameK_kP (.int .i64 0) (l.getD k (0, 0)) (dd (l.take k)) 0
      have h3 := lookA_nmapG sameK_kP (.int .i64 0) (l.getD k (0, 0)) (dd (l.take k) ++ [l.getD k (0, 0)]) 0
      have h4 := updA_nmapG sameK_kP (l.getD k (0, 0)) (dd (l.take k)) 0
      have h5 := length_nmapG (kA := kP) (dd (l.take k)) 0
      have hids : ∀ d, ((nmapG kP 0 d).all fun x => AV.ids (fun b => decide (b < 2)) x.1 && AV.ids (fun b => decide (b < 2)) x.2) = true := fun d => ids_nmapG _ (fun x => by simp [kP, AV.ids, idsL]) d 0
      by_cases hm : l.getD k (0, 0) ∈ l.take k
      · have hm' := m0.2 hm
        rw [if_pos hm'] at e4 h2
        simp only [hm', decide_true] at h1
        have e7 := e2 _ (if_pos hm).symm
        rw [nameOf_ix] at e7 e5
        rw [Nat.zero_add] at h2
        generalize nmRow l k = R at *
        generalize l.getD k (0, 0) = x at *
        generalize dd (l.take k) = d at *
        generalize ixOf d x = v at *
        have e8 := ints_set R k (v : Int)
        simp only [kP] at k1 h1 h2
        simp only [prA] at e1
        repeat' (first | (first | (refine a0_ ?_; first | refine a1_ rfl rfl ?_ | refine a2_ rfl ?_ | refine a3_ rfl rfl ?_ | refine a4_ rfl ?_ | refine a5_ rfl rfl rfl ?_ | refine a6_ rfl rfl ?_ | refine a7_ rfl rfl ?_ | refine a8_ rfl rfl ?_ | refine a9_ rfl rfl rfl ?_) | (refine g0_ ?_; first | refine g1_ rfl ?_ | refine g2_ rfl rfl ?_ | refine go_draw (dr := allQ) rfl rfl mixed (by first | assumption | kernel_rfl) ?_ | refine g4_ rfl ?_ | refine g5_ rfl ?_ | refine g6_ rfl ?_ | refine g7_ rfl ?_ | refine g8_ rfl ?_ | refine ga_ rfl ?_ | refine gb_ rfl ?_) | (refine o0_ ?_; first | refine o1_ ?_ | refine o2_ ?_ | refine o3_ ?_ | refine o4_ ?_ | refine o5_ ?_ | refine o6_ rfl ?_ | refine o7_ rfl ?_ | refine o8_ ?_ | refine o9_ ?_ | refine oa_ ?_ | refine ob_ ?_ | refine oc_ ?_ | refine od_ ?_ | refine oe_ ?_ | refine of_ ?_ | refine og_ ?_ | refine oh_ ?_ | refine oi_ ?_ | refine oj_ ?_ | refine ok_ ?_)) | refine at_go ?_ | (with_reducible refine And.intro (at_go ?_) (at_go ?_)) | ((with_reducible refine And.intro (fun h => ?_) (fun h => ?_)) <;> try (exfalso; omega)) | (with_reducible refine And.intro (by first | omega | (simp only [maxLen]; omega)) ?_) | fail | simp (disch := first | omega | (simp only [length_ints, length_prs, List.length_set, List.length_reverse, List.length_replicate, List.length_append, List.length_cons, List.length_nil, List.length_map]; omega)) only [push_cast, ↓reduceIte, reduceIte, reduceCtorEq, Nat.reduceAdd, Nat.reduceLT, Nat.reduceEqDiff, Nat.reduceLeDiff, Int.reduceAdd, Int.reduceLT, Int.reduceLE, Nat.reduceMul, b3, b4, b13, b14, b15, e1, zeroV3, k1, h1, h2, e3, e8, getD_ints, e1])
        refine out_round_take (l.length - (k + 1)) 2 (by omega) (by (first | trivial | ((repeat' apply And.intro) <;> first | trivial | assumption | omega | (simp only [maxLen]; omega) | (simp only [length_ints, length_prs, List.length_replicate, List.length_append, List.length_cons, List.length_nil, List.length_map, List.length_take, List.length_drop, List.length_set, List.length_reverse, maxLen] <;> omega)))) (by omega) (by simp) (by simp only [List.take_succ_cons, List.take_zero, List.all_cons, List.all_nil, Blk.below, hids, e8, idsE_ints, Bool.and_true]) ⟨k + 1, by omega, rfl, by rw [e4, ← e7, ← e8]; rfl, ?_⟩
        simp (disch := first | omega | (simp only [length_ints, length_prs, List.length_set, List.length_reverse, List.length_replicate, List.length_append, List.length_cons, List.length_nil, List.length_map]; omega)) only [push_cast, ↓reduceIte, reduceIte, reduceCtorEq, Nat.reduceAdd, Nat.reduceLT, Nat.reduceEqDiff, Nat.reduceLeDiff, Int.reduceAdd, Int.reduceLT, Int.reduceLE, Nat.reduceMul, b3, b4, b13, b14, b15, scrub, AV.ids, idsL, idsE_prs]
      · have hm' : ¬ l.getD k (0, 0) ∈ dd (l.take k) := fun q => hm (m0.1 q)
        rw [if_neg hm'] at e4 h2
        rw [if_pos (by simp)] at h3
        have h4 := h4 hm'
        simp only [hm', decide_false] at h1
        have e7 := e2 _ (if_neg hm).symm
        rw [ixOf_last hm'] at h3
        rw [Nat.zero_add] at h3 h4
        generalize nmRow l k = R at *
        generalize l.getD k (0, 0) = x at *
        generalize dd (l.take k) = d at *
        generalize d.length = v at *
        have e8 := ints_set R k (v : Int)
        simp only [kP] at k1 k2 h1 h2 h3 h4
        have hids := hids (d ++ [x])
        generalize hn1 : nmapG kP 0 d = n1 at *
        generalize hn2 : nmapG kP 0 (d ++ [x]) = n2 at *
        simp only [prA] at e1
        repeat' (first | (first | (refine a0_ ?_; first | refine a1_ rfl rfl ?_ | refine a2_ rfl ?_ | refine a3_ rfl rfl ?_ | refine a4_ rfl ?_ | refine a5_ rfl rfl rfl ?_ | refine a6_ rfl rfl ?_ | refine a7_ rfl rfl ?_ | refine a8_ rfl rfl ?_ | refine a9_ rfl rfl rfl ?_) | (refine g0_ ?_; first | refine g1_ rfl ?_ | refine g2_ rfl rfl ?_ | refine go_draw (dr := allQ) rfl rfl mixed (by first | assumption | kernel_rfl) ?_ | refine g4_ rfl ?_ | refine g5_ rfl ?_ | refine g6_ rfl ?_ | refine g7_ rfl ?_ | refine g8_ rfl ?_ | refine ga_ rfl ?_ | refine gb_ rfl ?_) | (refine o0_ ?_; first | refine o1_ ?_ | refine o2_ ?_ | refine o3_ ?_ | refine o4_ ?_ | refine o5_ ?_ | refine o6_ rfl ?_ | refine o7_ rfl ?_ | refine o8_ ?_ | refine o9_ ?_ | refine oa_ ?_ | refine ob_ ?_ | refine oc_ ?_ | refine od_ ?_ | refine oe_ ?_ | refine of_ ?_ | refine og_ ?_ | refine oh_ ?_ | refine oi_ ?_ | refine oj_ ?_ | refine ok_ ?_)) | refine at_go ?_ | (with_reducible refine And.intro (at_go ?_) (at_go ?_)) | ((with_reducible refine And.intro (fun h => ?_) (fun h => ?_)) <;> try (exfalso; omega)) | (with_reducible refine And.intro (by first | omega | (simp only [maxLen]; omega)) ?_) | fail | simp (disch := first | omega | (simp only [length_ints, length_prs, List.length_set, List.length_reverse, List.length_replicate, List.length_append, List.length_cons, List.length_nil, List.length_map]; omega)) only [push_cast, ↓reduceIte, reduceIte, reduceCtorEq, Nat.reduceAdd, Nat.reduceLT, Nat.reduceEqDiff, Nat.reduceLeDiff, Int.reduceAdd, Int.reduceLT, Int.reduceLE, Nat.reduceMul, b3, b4, b13, b14, b15, e1, zeroV3, k1, h1, h2, k2, h3, h4, h5, e3, e8, getD_ints, e1])
        refine out_round_take (l.length - (k + 1)) 2 (by omega) (by (first | trivial | ((repeat' apply And.intro) <;> first | trivial | assumption | omega | (simp only [maxLen]; omega) | (simp only [length_ints, length_prs, List.length_replicate, List.length_append, List.length_cons, List.length_nil, List.length_map, List.length_take, List.length_drop, List.length_set, List.length_reverse, maxLen] <;> omega)))) (by omega) (by simp) (by simp only [List.take_succ_cons, List.take_zero, List.all_cons, List.all_nil, Blk.below, hids, e8, idsE_ints, Bool.and_true]) ⟨k + 1, by omega, rfl, by rw [e4, ← e7, hn2, ← e8]; rfl, ?_⟩
        simp (disch := first | omega | (simp only [length_ints, length_prs, List.length_set, List.length_reverse, List.length_replicate, List.length_append, List.length_cons, List.length_nil, List.length_map]; omega)) only [push_cast, ↓reduceIte, reduceIte, reduceCtorEq, Nat.reduceAdd, Nat.reduceLT, Nat.reduceEqDiff, Nat.reduceLeDiff, Int.reduceAdd, Int.reduceLT, Int.reduceLE, Nat.reduceMul, b3, b4, b13, b14, b15, scrub, AV.ids, idsL, idsE_prs]
    · obtain rfl : k = l.length := by omega
      rw [nmRow_all]
      have et : (ints (namesI l)).take l.length = ints (namesI l) := List.take_of_length_le (by rw [length_ints, length_namesI]; omega)
      have e3 := length_namesI l
      repeat' (first | (first | (refine a0_ ?_; first | refine a1_ rfl rfl ?_ | refine a2_ rfl ?_ | refine a3_ rfl rfl ?_ | refine a4_ rfl ?_ | refine a5_ rfl rfl rfl ?_ | refine a6_ rfl rfl ?_ | refine a7_ rfl rfl ?_ | refine a8_ rfl rfl ?_ | refine a9_ rfl rfl rfl ?_) | (refine g0_ ?_; first | refine g1_ rfl ?_ | refine g2_ rfl rfl ?_ | refine go_draw (dr := allQ) rfl rfl mixed (by first | assumption | kernel_rfl) ?_ | refine g4_ rfl ?_ | refine g5_ rfl ?_ | refine g6_ rfl ?_ | refine g7_ rfl ?_ | refine g8_ rfl ?_ | refine ga_ rfl ?_ | refine gb_ rfl ?_) | (refine o0_ ?_; first | refine o1_ ?_ | refine o2_ ?_ | refine o3_ ?_ | refine o4_ ?_ | refine o5_ ?_ | refine o6_ rfl ?_ | refine o7_ rfl ?_ | refine o8_ ?_ | refine o9_ ?_ | refine oa_ ?_ | refine ob_ ?_ | refine oc_ ?_ | refine od_ ?_ | refine oe_ ?_ | refine of_ ?_ | refine og_ ?_ | refine oh_ ?_ | refine oi_ ?_ | refine oj_ ?_ | refine ok_ ?_)) | refine at_go ?_ | (with_reducible refine And.intro (at_go ?_) (at_go ?_)) | ((with_reducible refine And.intro (fun h => ?_) (fun h => ?_)) <;> try (exfalso; omega)) | (with_reducible refine And.intro (by first | omega | (simp only [maxLen]; omega)) ?_) | fail | simp (disch := first | omega | (simp only [length_ints, length_prs, List.length_set, List.length_reverse, List.length_replicate, List.length_append, List.length_cons, List.length_nil, List.length_map]; omega)) only [push_cast, ↓reduceIte, reduceIte, reduceCtorEq, Nat.reduceAdd, Nat.reduceLT, Nat.reduceEqDiff, Nat.reduceLeDiff, Int.reduceAdd, Int.reduceLT, Int.reduceLE, Nat.reduceMul, b3, b4, b13, b14, b15, et, all_ints, e3])
/-- What Of answers. -/
def ofC (l : List Int) : List Int × Int := if 256 < l.length then ([], 3) else (namesI l, 0)
theorem of20 (l : List Int) (z : Nat) (c : Option Nat) (hz : l = [] ∨ z = 1) (hx : l.length ≤ 1000000) : PC Tryd.prog G0 20 [.sl z (ints l) c] (.tup [.sl 1 (ints (ofC l).1) (some (ofC l).1.length), .int .i64 (ofC l).2]) := by
  have e := length_namesI l
  refine pc_go 1 9 [.tmp 2, .tmp 3] Tryd.func20 rfl rfl rfl (by simp) ?_
  intro s ⟨a0, hz⟩
  clear hz
  repeat' (first | (first | (refine a0_ ?_; first | refine a1_ rfl rfl ?_ | refine a2_ rfl ?_ | refine a3_ rfl rfl ?_ | refine a4_ rfl ?_ | refine a5_ rfl rfl rfl ?_ | refine a6_ rfl rfl ?_ | refine a7_ rfl rfl ?_ | refine a8_ rfl rfl ?_ | refine a9_ rfl rfl rfl ?_) | (refine g0_ ?_; first | refine g1_ rfl ?_ | refine g2_ rfl rfl ?_ | refine go_draw (dr := allQ) rfl rfl mixed (by first | assumption | kernel_rfl) ?_ | refine g4_ rfl ?_ | refine g5_ rfl ?_ | refine g6_ rfl ?_ | refine g7_ rfl ?_ | refine g8_ rfl ?_ | refine ga_ rfl ?_ | refine gb_ rfl ?_) | (refine o0_ ?_; first | refine o1_ ?_ | refine o2_ ?_ | refine o3_ ?_ | refine o4_ ?_ | refine o5_ ?_ | refine o6_ rfl ?_ | refine o7_ rfl ?_ | refine o8_ ?_ | refine o9_ ?_ | refine oa_ ?_ | refine ob_ ?_ | refine oc_ ?_ | refine od_ ?_ | refine oe_ ?_ | refine of_ ?_ | refine og_ ?_ | refine oh_ ?_ | refine oi_ ?_ | refine oj_ ?_ | refine ok_ ?_)) | refine at_go ?_ | (with_reducible refine And.intro (at_go ?_) (at_go ?_)) | ((with_reducible refine And.intro (fun h => ?_) (fun h => ?_)) <;> try (exfalso; omega)) | (with_reducible refine And.intro (by first | omega | (simp only [maxLen]; omega)) ?_) | (first | (refine ⟨_, _, pc_lift (named39 l z c hz hx) (by (simp [idsL, idsE, AV.ids, Nat.add_zero])) _, ?_⟩) | (refine ⟨_, pc_lift (named39 l z c hz hx) (by (simp [idsL, idsE, AV.ids, Nat.add_zero])) _, ?_⟩) | (refine ⟨_, fun _ => pc_lift (named39 l z c hz hx) (by (simp [idsL, idsE, AV.ids, Nat.add_zero])) _, ?_⟩)) | simp (disch := first | omega | (simp only [length_ints, length_prs, List.length_set, List.length_reverse, List.length_replicate, List.length_append, List.length_cons, List.length_nil, List.length_map]; omega)) only [push_cast, ↓reduceIte, reduceIte, reduceCtorEq, Nat.reduceAdd, Nat.reduceLT, Nat.reduceEqDiff, Nat.reduceLeDiff, Int.reduceAdd, Int.reduceLT, Int.reduceLE, Nat.reduceMul, a0])
  · rw [ofC, if_pos (by omega)]
    simp [ints]
  · rw [ofC, if_neg (by omega)]
    simp [e]
end Go.Proofs
