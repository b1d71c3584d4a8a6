import Derived.Test.YtnlbodnipgkpaaaDoorC11
import Derived.Test.YtnlbodnipgkpaaaDoorC8
import Derived.Test.YtnlbodnipgkpaaaDoorC6
import Derived.KernelRfl
/- Classes: what the laws share: list, the plain data, the examples of the chapter. -/
namespace Go.Proofs
open Go Go.V
set_option linter.unusedVariables false
set_option linter.unusedSimpArgs false
set_option maxHeartbeats 0
set_option maxRecDepth 100000
theorem list19 (l w : List Int) (e f : Int) (c : Nat) (z : Nat) (d : Option Nat) (hz : w = [] ∨ z = 1) (hx : l.length ≤ 1000000) (hy : w.length ≤ 1000000) : PC Tryd.prog G0 19 [.sl 1 (ints l) (some c), .int .i64 e, .sl z (ints w) d, .int .i64 f] (.bool (decide (e = f) && (decide (l = w) && decide (c = l.length)))) := by
  have h1 := refSame30 l w (some c) d hx hy
  have key : PC Tryd.prog G0 19 [.sl 1 (ints l) (some c), .int .i64 e, .sl 1 (ints w) d, .int .i64 f] (.bool (decide (e = f) && (decide (l = w) && decide (c = l.length)))) := by
    refine pc_go 0 24 [.tmp 8] Tryd.func19 rfl rfl rfl (by simp) ?_
    intro s ⟨a0, a1, a2, a3, hz⟩
    simp only [Nat.zero_add, Nat.reduceAdd] at a1 a2 a3
    clear hz
    repeat' (first | (first | (refine a0_ ?_; first | refine a1_ rfl rfl ?_ | refine a2_ rfl ?_ | refine a3_ rfl rfl ?_ | refine a4_ rfl ?_ | refine a5_ rfl rfl rfl ?_ | refine a6_ rfl rfl ?_ | refine a7_ rfl rfl ?_ | refine a8_ rfl rfl ?_ | refine a9_ rfl rfl rfl ?_) | (refine g0_ ?_; first | refine g1_ rfl ?_ | refine g2_ rfl rfl ?_ | refine go_draw (dr := allQ) rfl rfl mixed (by first | assumption | kernel_rfl) ?_ | refine g4_ rfl ?_ | refine g5_ rfl ?_ | refine g6_ rfl ?_ | refine g7_ rfl ?_ | refine g8_ rfl ?_ | refine ga_ rfl ?_ | refine gb_ rfl ?_) | (refine o0_ ?_; first | refine o1_ ?_ | refine o2_ ?_ | refine o3_ ?_ | refine o4_ ?_ | refine o5_ ?_ | refine o6_ rfl ?_ | refine o7_ rfl ?_ | refine o8_ ?_ | refine o9_ ?_ | refine oa_ ?_ | refine ob_ ?_ | refine oc_ ?_ | refine od_ ?_ | refine oe_ ?_ | refine of_ ?_ | refine og_ ?_ | refine oh_ ?_ | refine oi_ ?_ | refine oj_ ?_ | refine ok_ ?_)) | refine at_go ?_ | (with_reducible refine And.intro (at_go ?_) (at_go ?_)) | ((with_reducible refine And.intro (fun h => ?_) (fun h => ?_)) <;> try (exfalso; omega)) | (with_reducible refine And.intro (by first | omega | (simp only [maxLen]; omega)) ?_) | (first | (refine ⟨_, _, pc_lift (h1) (by (simp [idsL, idsE, AV.ids, Nat.add_zero])) _, ?_⟩) | (refine ⟨_, pc_lift (h1) (by (simp [idsL, idsE, AV.ids, Nat.add_zero])) _, ?_⟩) | (refine ⟨_, fun _ => pc_lift (h1) (by (simp [idsL, idsE, AV.ids, Nat.add_zero])) _, ?_⟩)) | simp (disch := first | omega | (simp only [length_ints, length_natsI, List.length_set, List.length_reverse, List.length_replicate, List.length_append, List.length_cons, List.length_nil, List.length_map]; omega)) only [push_cast, ↓reduceIte, reduceIte, reduceCtorEq, Nat.reduceAdd, Nat.reduceLT, Nat.reduceEqDiff, Nat.reduceLeDiff, Int.reduceAdd, Int.reduceLT, Int.reduceLE, Nat.reduceMul, a0, a1, a2, a3])
    rw [Bool.and_assoc]
  rcases hz with rfl | rfl
  · exact ac_eqv key (by simp [eqvL, ints])
  · exact key
/-- A list as it came back. -/
def lstA (xs : List Int) : AV := .sl 1 (ints xs) (some xs.length)
theorem list_same (l : List Int) (z : Nat) (d : Option Nat) (hz : l = [] ∨ z = 1) (hx : l.length ≤ 1000000) : PC Tryd.prog G0 19 [lstA l, .int .i64 0, .sl z (ints l) d, .int .i64 0] (.bool true) := by
  have h := list19 l l 0 0 l.length z d hz hx hx
  simpa [lstA] using h
abbrev Bt := List Nat
def u8s (x : Bt) : List (List AV) := x.map fun (n : Nat) => [.int .u8 (n : Int)]
theorem length_u8s (x : Bt) : (u8s x).length = x.length := by simp [u8s]
theorem getD_u8s (x : Bt) (k : Nat) (h : k < x.length) : (u8s x).getD k [] = [.int .u8 (x.getD k 0 : Int)] := by simp [u8s, h]
theorem idsE_u8s (p : Nat → Bool) (x : Bt) : idsE p (u8s x) = true := idsE_map _ _ fun x => by simp [idsL, AV.ids]
attribute [simp] idsE_u8s
attribute [push_cast] length_u8s idsE_u8s
def pA (z : Nat) (x : Bt) (c : Option Nat) : AV := .agg [.sl z (u8s x) c]
def sizeP (x : Bt) : Nat := min x.length 14
theorem size25 (x : Bt) (z : Nat) (c : Option Nat) : PC Tryd.prog G0 25 [.agg [.sl z (u8s x) c]] (.int .i64 (sizeP x)) := by
  refine pc_go 0 7 [.tmp 2] Tryd.func25 rfl rfl rfl (by simp) ?_
  intro s ⟨a0, hz⟩
  clear hz
  repeat' (first | (first | (refine a0_ ?_; first | refine a1_ rfl rfl ?_ | refine a2_ rfl ?_ | refine a3_ rfl rfl ?_ | refine a4_ rfl ?_ | refine a5_ rfl rfl rfl ?_ | refine a6_ rfl rfl ?_ | refine a7_ rfl rfl ?_ | refine a8_ rfl rfl ?_ | refine a9_ rfl rfl rfl ?_) | (refine g0_ ?_; first | refine g1_ rfl ?_ | refine g2_ rfl rfl ?_ | refine go_draw (dr := allQ) rfl rfl mixed (by first | assumption | kernel_rfl) ?_ | refine g4_ rfl ?_ | refine g5_ rfl ?_ | refine g6_ rfl ?_ | refine g7_ rfl ?_ | refine g8_ rfl ?_ | refine ga_ rfl ?_ | refine gb_ rfl ?_) | (refine o0_ ?_; first | refine o1_ ?_ | refine o2_ ?_ | refine o3_ ?_ | refine o4_ ?_ | refine o5_ ?_ | refine o6_ rfl ?_ | refine o7_ rfl ?_ | refine o8_ ?_ | refine o9_ ?_ | refine oa_ ?_ | refine ob_ ?_ | refine oc_ ?_ | refine od_ ?_ | refine oe_ ?_ | refine of_ ?_ | refine og_ ?_ | refine oh_ ?_ | refine oi_ ?_ | refine oj_ ?_ | refine ok_ ?_)) | refine at_go ?_ | (with_reducible refine And.intro (at_go ?_) (at_go ?_)) | ((with_reducible refine And.intro (fun h => ?_) (fun h => ?_)) <;> try (exfalso; omega)) | (with_reducible refine And.intro (by first | omega | (simp only [maxLen]; omega)) ?_) | fail | simp (disch := first | omega | (simp only [length_ints, length_natsI, List.length_set, List.length_reverse, List.length_replicate, List.length_append, List.length_cons, List.length_nil, List.length_map]; omega)) only [push_cast, ↓reduceIte, reduceIte, reduceCtorEq, Nat.reduceAdd, Nat.reduceLT, Nat.reduceEqDiff, Nat.reduceLeDiff, Int.reduceAdd, Int.reduceLT, Int.reduceLE, Nat.reduceMul, a0])
  unfold sizeP
  congr 1
  split <;> omega
/-- The list of the partition of so many numbers. -/
def rawP (x : Bt) (n : Nat) : List Int := (List.range n).map fun i => (x.getD i 0 : Int)
theorem rawP_succ (x : Bt) (n : Nat) : rawP x (n + 1) = rawP x n ++ [(x.getD n 0 : Int)] := by simp [rawP, List.range_succ]
theorem length_rawP (x : Bt) (n : Nat) : (rawP x n).length = n := by simp [rawP]
def ofP (x : Bt) (n : Nat) : List Int := namesI (rawP x n)
theorem of26 (x : Bt) (z : Nat) (c : Option Nat) (n : Nat) (hz : x = [] ∨ z = 1) (hx : ∀ b ∈ x, b < 256) (hl : x.length ≤ maxLen) (hn : n ≤ 1000) : PC Tryd.prog G0 26 [.agg [.sl z (u8s x) c], .int .i64 n] (.sl 1 (ints (ofP x n)) none) := by
  refine pc_go 1 31 [.tmp 4] Tryd.func26 rfl rfl rfl (by simp) ?_
  intro s ⟨a0, a1, hz⟩
  simp only [Nat.zero_add, Nat.reduceAdd] at a1
  clear hz
  repeat' (first | (first | (refine a0_ ?_; first | refine a1_ rfl rfl ?_ | refine a2_ rfl ?_ | refine a3_ rfl rfl ?_ | refine a4_ rfl ?_ | refine a5_ rfl rfl rfl ?_ | refine a6_ rfl rfl ?_ | refine a7_ rfl rfl ?_ | refine a8_ rfl rfl ?_ | refine a9_ rfl rfl rfl ?_) | (refine g0_ ?_; first | refine g1_ rfl ?_ | refine g2_ rfl rfl ?_ | refine go_draw (dr := allQ) rfl rfl mixed (by first | assumption | kernel_rfl) ?_ | refine g4_ rfl ?_ | refine g5_ rfl ?_ | refine g6_ rfl ?_ | refine g7_ rfl ?_ | refine g8_ rfl ?_ | refine ga_ rfl ?_ | refine gb_ rfl ?_) | (refine o0_ ?_; first | refine o1_ ?_ | refine o2_ ?_ | refine o3_ ?_ | refine o4_ ?_ | refine o5_ ?_ | refine o6_ rfl ?_ | refine o7_ rfl ?_ | refine o8_ ?_ | refine o9_ ?_ | refine oa_ ?_ | refine ob_ ?_ | refine oc_ ?_ | refine od_ ?_ | refine oe_ ?_ | refine of_ ?_ | refine og_ ?_ | refine oh_ ?_ | refine oi_ ?_ | refine oj_ ?_ | refine ok_ ?_)) | refine at_go ?_ | (with_reducible refine And.intro (at_go ?_) (at_go ?_)) | ((with_reducible refine And.intro (fun h => ?_) (fun h => ?_)) <;> try (exfalso; omega)) | (with_reducible refine And.intro (by first | omega | (simp only [maxLen]; omega)) ?_) | fail | simp (disch := first | omega | (simp only [length_ints, length_natsI, List.length_set, List.length_reverse, List.length_replicate, List.length_append, List.length_cons, List.length_nil, List.length_map]; omega)) only [push_cast, ↓reduceIte, reduceIte, reduceCtorEq, Nat.reduceAdd, Nat.reduceLT, Nat.reduceEqDiff, Nat.reduceLeDiff, Int.reduceAdd, Int.reduceLT, Int.reduceLE, Nat.reduceMul, a0, a1])
  refine go_weak (by (first | trivial | ((repeat' apply And.intro) <;> first | trivial | assumption | omega | (simp only [maxLen]; omega) | (simp only [length_ints, length_natsI, List.length_replicate, List.length_append, List.length_cons, List.length_nil, List.length_map, List.length_take, List.length_drop, List.length_set, List.length_reverse, maxLen] <;> omega)))) (weak_nil (t := 5) (sz := 1) (ty := 3) rfl) ?_
  refine go_loop rfl (fun mz s' H' => ∃ k : Nat, k ≤ n ∧ mz = n - k ∧ H' = [.row 1 50 [[.sl z (u8s x) c]], .row 1 3 (ints (rawP x k))] ∧ s' 1 = .int .i64 n ∧ s' 2 = .ptr 0 0 0 1 ∧ s' 5 = .own 1 k k none ∧ s' 6 = .int .i64 k) (m := n) (by (first | trivial | ((repeat' apply And.intro) <;> first | trivial | assumption | omega | (simp only [maxLen]; omega) | (simp only [length_ints, length_natsI, List.length_replicate, List.length_append, List.length_cons, List.length_nil, List.length_map, List.length_take, List.length_drop, List.length_set, List.length_reverse, maxLen] <;> omega)))) (Weak.refl _ _) ⟨0, by omega, by omega, (by first | rfl | simp [rawP, List.range_zero, List.map_nil, ints]), ?_⟩ ?_
  · simp (disch := first | omega | (simp only [length_ints, length_natsI, List.length_set, List.length_reverse, List.length_replicate, List.length_append, List.length_cons, List.length_nil, List.length_map]; omega)) only [push_cast, ↓reduceIte, reduceIte, reduceCtorEq, Nat.reduceAdd, Nat.reduceLT, Nat.reduceEqDiff, Nat.reduceLeDiff, Int.reduceAdd, Int.reduceLT, Int.reduceLE, Nat.reduceMul, a0, a1]
    try rfl
  · rintro mz s' H' ⟨k, hk, rfl, rfl, b1, b2, b5, b6⟩
    have u1 := length_rawP x k
    have t1 : (ints (rawP x k)).take k = ints (rawP x k) := List.take_of_length_le (by rw [length_ints]; omega)
    have t2 : (ints (rawP x k)).drop (k + 1) = [] := List.drop_eq_nil_of_le (by rw [length_ints]; omega)
    rcases Nat.lt_or_ge k n with hlt | hge
    · have e3 := ints_snoc (rawP x k) (x.getD k 0 : Int)
      rw [← rawP_succ] at e3
      rcases Nat.lt_or_ge k x.length with hlt2 | hge2
      · obtain rfl := hz.resolve_left (by rintro rfl; simp at hlt2)
        have e1 := getD_u8s x k hlt2
        have hb := hx _ (getD_mem 0 hlt2)
        have w1 : IntKind.i64.wrap ((x.getD k 0 : Nat) : Int) = (x.getD k 0 : Nat) := wrap64 _ (by omega) (by omega)
        generalize x.getD k 0 = b at *
        repeat' (first | (first | (refine a0_ ?_; first | refine a1_ rfl rfl ?_ | refine a2_ rfl ?_ | refine a3_ rfl rfl ?_ | refine a4_ rfl ?_ | refine a5_ rfl rfl rfl ?_ | refine a6_ rfl rfl ?_ | refine a7_ rfl rfl ?_ | refine a8_ rfl rfl ?_ | refine a9_ rfl rfl rfl ?_) | (refine g0_ ?_; first | refine g1_ rfl ?_ | refine g2_ rfl rfl ?_ | refine go_draw (dr := allQ) rfl rfl mixed (by first | assumption | kernel_rfl) ?_ | refine g4_ rfl ?_ | refine g5_ rfl ?_ | refine g6_ rfl ?_ | refine g7_ rfl ?_ | refine g8_ rfl ?_ | refine ga_ rfl ?_ | refine gb_ rfl ?_) | (refine o0_ ?_; first | refine o1_ ?_ | refine o2_ ?_ | refine o3_ ?_ | refine o4_ ?_ | refine o5_ ?_ | refine o6_ rfl ?_ | refine o7_ rfl ?_ | refine o8_ ?_ | refine o9_ ?_ | refine oa_ ?_ | refine ob_ ?_ | refine oc_ ?_ | refine od_ ?_ | refine oe_ ?_ | refine of_ ?_ | refine og_ ?_ | refine oh_ ?_ | refine oi_ ?_ | refine oj_ ?_ | refine ok_ ?_)) | refine at_go ?_ | (with_reducible refine And.intro (at_go ?_) (at_go ?_)) | ((with_reducible refine And.intro (fun h => ?_) (fun h => ?_)) <;> try (exfalso; omega)) | (with_reducible refine And.intro (by first | omega | (simp only [maxLen]; omega)) ?_) | fail | simp (disch := first | omega | (simp only [length_ints, length_natsI, List.length_set, List.length_reverse, List.length_replicate, List.length_append, List.length_cons, List.length_nil, List.length_map]; omega)) only [push_cast, ↓reduceIte, reduceIte, reduceCtorEq, Nat.reduceAdd, Nat.reduceLT, Nat.reduceEqDiff, Nat.reduceLeDiff, Int.reduceAdd, Int.reduceLT, Int.reduceLE, Nat.reduceMul, b1, b2, b5, b6, e1, u1, t1, t2, w1])
        refine out_round (n - (k + 1)) (by omega) (by (first | trivial | ((repeat' apply And.intro) <;> first | trivial | assumption | omega | (simp only [maxLen]; omega) | (simp only [length_ints, length_natsI, List.length_replicate, List.length_append, List.length_cons, List.length_nil, List.length_map, List.length_take, List.length_drop, List.length_set, List.length_reverse, maxLen] <;> omega)))) ⟨k + 1, by omega, rfl, by rw [e3], ?_⟩
        simp (disch := first | omega | (simp only [length_ints, length_natsI, List.length_set, List.length_reverse, List.length_replicate, List.length_append, List.length_cons, List.length_nil, List.length_map]; omega)) only [push_cast, ↓reduceIte, reduceIte, reduceCtorEq, Nat.reduceAdd, Nat.reduceLT, Nat.reduceEqDiff, Nat.reduceLeDiff, Int.reduceAdd, Int.reduceLT, Int.reduceLE, Nat.reduceMul, b1, b2, b5, b6, e1, u1, t1, t2, w1]
      · have e4 : x.getD k 0 = 0 := by simp [hge2]
        rw [e4] at e3
        have hl2 : ¬ (k : Int) < x.length := by omega
        repeat' (first | (first | (refine a0_ ?_; first | refine a1_ rfl rfl ?_ | refine a2_ rfl ?_ | refine a3_ rfl rfl ?_ | refine a4_ rfl ?_ | refine a5_ rfl rfl rfl ?_ | refine a6_ rfl rfl ?_ | refine a7_ rfl rfl ?_ | refine a8_ rfl rfl ?_ | refine a9_ rfl rfl rfl ?_) | (refine g0_ ?_; first | refine g1_ rfl ?_ | refine g2_ rfl rfl ?_ | refine go_draw (dr := allQ) rfl rfl mixed (by first | assumption | kernel_rfl) ?_ | refine g4_ rfl ?_ | refine g5_ rfl ?_ | refine g6_ rfl ?_ | refine g7_ rfl ?_ | refine g8_ rfl ?_ | refine ga_ rfl ?_ | refine gb_ rfl ?_) | (refine o0_ ?_; first | refine o1_ ?_ | refine o2_ ?_ | refine o3_ ?_ | refine o4_ ?_ | refine o5_ ?_ | refine o6_ rfl ?_ | refine o7_ rfl ?_ | refine o8_ ?_ | refine o9_ ?_ | refine oa_ ?_ | refine ob_ ?_ | refine oc_ ?_ | refine od_ ?_ | refine oe_ ?_ | refine of_ ?_ | refine og_ ?_ | refine oh_ ?_ | refine oi_ ?_ | refine oj_ ?_ | refine ok_ ?_)) | refine at_go ?_ | (with_reducible refine And.intro (at_go ?_) (at_go ?_)) | ((with_reducible refine And.intro (fun h => ?_) (fun h => ?_)) <;> try (exfalso; omega)) | (with_reducible refine And.intro (by first | omega | (simp only [maxLen]; omega)) ?_) | fail | simp (disch := first | omega | (simp only [length_ints, length_natsI, List.length_set, List.length_reverse, List.length_replicate, List.length_append, List.length_cons, List.length_nil, List.length_map]; omega)) only [push_cast, ↓reduceIte, reduceIte, reduceCtorEq, Nat.reduceAdd, Nat.reduceLT, Nat.reduceEqDiff, Nat.reduceLeDiff, Int.reduceAdd, Int.reduceLT, Int.reduceLE, Nat.reduceMul, b1, b2, b5, b6, u1, t1, t2, hl2])
        refine out_round (n - (k + 1)) (by omega) (by (first | trivial | ((repeat' apply And.intro) <;> first | trivial | assumption | omega | (simp only [maxLen]; omega) | (simp only [length_ints, length_natsI, List.length_replicate, List.length_append, List.length_cons, List.length_nil, List.length_map, List.length_take, List.length_drop, List.length_set, List.length_reverse, maxLen] <;> omega)))) ⟨k + 1, by omega, rfl, by rw [← e3]; rfl, ?_⟩
        simp (disch := first | omega | (simp only [length_ints, length_natsI, List.length_set, List.length_reverse, List.length_replicate, List.length_append, List.length_cons, List.length_nil, List.length_map]; omega)) only [push_cast, ↓reduceIte, reduceIte, reduceCtorEq, Nat.reduceAdd, Nat.reduceLT, Nat.reduceEqDiff, Nat.reduceLeDiff, Int.reduceAdd, Int.reduceLT, Int.reduceLE, Nat.reduceMul, b1, b2, b5, b6, u1, t1, t2, hl2]
    · obtain rfl : k = n := by omega
      repeat' (first | (first | (refine a0_ ?_; first | refine a1_ rfl rfl ?_ | refine a2_ rfl ?_ | refine a3_ rfl rfl ?_ | refine a4_ rfl ?_ | refine a5_ rfl rfl rfl ?_ | refine a6_ rfl rfl ?_ | refine a7_ rfl rfl ?_ | refine a8_ rfl rfl ?_ | refine a9_ rfl rfl rfl ?_) | (refine g0_ ?_; first | (with_reducible refine stop_at (p := [1, 1, 1]) ?_) | refine g1_ rfl ?_ | refine g2_ rfl rfl ?_ | refine go_draw (dr := allQ) rfl rfl mixed (by first | assumption | kernel_rfl) ?_ | refine g4_ rfl ?_ | refine g5_ rfl ?_ | refine g6_ rfl ?_ | refine g7_ rfl ?_ | refine g8_ rfl ?_ | refine ga_ rfl ?_ | refine gb_ rfl ?_) | (refine o0_ ?_; first | refine o1_ ?_ | refine o2_ ?_ | refine o3_ ?_ | refine o4_ ?_ | refine o5_ ?_ | refine o6_ rfl ?_ | refine o7_ rfl ?_ | refine o8_ ?_ | refine o9_ ?_ | refine oa_ ?_ | refine ob_ ?_ | refine oc_ ?_ | refine od_ ?_ | refine oe_ ?_ | refine of_ ?_ | refine og_ ?_ | refine oh_ ?_ | refine oi_ ?_ | refine oj_ ?_ | refine ok_ ?_)) | refine at_go ?_ | (with_reducible refine And.intro (at_go ?_) (at_go ?_)) | ((with_reducible refine And.intro (fun h => ?_) (fun h => ?_)) <;> try (exfalso; omega)) | (with_reducible refine And.intro (by first | omega | (simp only [maxLen]; omega)) ?_) | fail | simp (disch := first | omega | (simp only [length_ints, length_natsI, List.length_set, List.length_reverse, List.length_replicate, List.length_append, List.length_cons, List.length_nil, List.length_map]; omega)) only [push_cast, ↓reduceIte, reduceIte, reduceCtorEq, Nat.reduceAdd, Nat.reduceLT, Nat.reduceEqDiff, Nat.reduceLeDiff, Int.reduceAdd, Int.reduceLT, Int.reduceLE, Nat.reduceMul, b1, b2, b5, b6, u1])
      refine Halt.mk (go_close 1 (by (first | trivial | ((repeat' apply And.intro) <;> first | trivial | assumption | omega | (simp only [maxLen]; omega) | (simp only [length_ints, length_natsI, List.length_replicate, List.length_append, List.length_cons, List.length_nil, List.length_map, List.length_take, List.length_drop, List.length_set, List.length_reverse, maxLen] <;> omega)))) fun s1 hs1 => ?_)
      have c5 := hs1 5
      simp only [updS, Nat.reduceEqDiff, reduceIte, b5] at c5
      rw [close_own (z := 1) (t := 3) (es := ints (rawP x k)) rfl (by rw [length_ints]; omega) (by rw [length_ints]; omega) (idsE_ints _ _)] at c5
      have hN := refOf21 (rawP x k) 1 none (.inr rfl) (by omega)
      repeat' (first | (first | (refine a0_ ?_; first | refine a1_ rfl rfl ?_ | refine a2_ rfl ?_ | refine a3_ rfl rfl ?_ | refine a4_ rfl ?_ | refine a5_ rfl rfl rfl ?_ | refine a6_ rfl rfl ?_ | refine a7_ rfl rfl ?_ | refine a8_ rfl rfl ?_ | refine a9_ rfl rfl rfl ?_) | (refine g0_ ?_; first | refine g1_ rfl ?_ | refine g2_ rfl rfl ?_ | refine go_draw (dr := allQ) rfl rfl mixed (by first | assumption | kernel_rfl) ?_ | refine g4_ rfl ?_ | refine g5_ rfl ?_ | refine g6_ rfl ?_ | refine g7_ rfl ?_ | refine g8_ rfl ?_ | refine ga_ rfl ?_ | refine gb_ rfl ?_) | (refine o0_ ?_; first | refine o1_ ?_ | refine o2_ ?_ | refine o3_ ?_ | refine o4_ ?_ | refine o5_ ?_ | refine o6_ rfl ?_ | refine o7_ rfl ?_ | refine o8_ ?_ | refine o9_ ?_ | refine oa_ ?_ | refine ob_ ?_ | refine oc_ ?_ | refine od_ ?_ | refine oe_ ?_ | refine of_ ?_ | refine og_ ?_ | refine oh_ ?_ | refine oi_ ?_ | refine oj_ ?_ | refine ok_ ?_)) | refine at_go ?_ | (with_reducible refine And.intro (at_go ?_) (at_go ?_)) | ((with_reducible refine And.intro (fun h => ?_) (fun h => ?_)) <;> try (exfalso; omega)) | (with_reducible refine And.intro (by first | omega | (simp only [maxLen]; omega)) ?_) | (first | (refine ⟨_, _, pc_lift (hN) (by (simp [idsL, idsE, AV.ids, Nat.add_zero])) _, ?_⟩) | (refine ⟨_, pc_lift (hN) (by (simp [idsL, idsE, AV.ids, Nat.add_zero])) _, ?_⟩) | (refine ⟨_, fun _ => pc_lift (hN) (by (simp [idsL, idsE, AV.ids, Nat.add_zero])) _, ?_⟩)) | simp (disch := first | omega | (simp only [length_ints, length_natsI, List.length_set, List.length_reverse, List.length_replicate, List.length_append, List.length_cons, List.length_nil, List.length_map]; omega)) only [push_cast, ↓reduceIte, reduceIte, reduceCtorEq, Nat.reduceAdd, Nat.reduceLT, Nat.reduceEqDiff, Nat.reduceLeDiff, Int.reduceAdd, Int.reduceLT, Int.reduceLE, Nat.reduceMul, c5])
      rfl
theorem xOf : PC Tryd.prog G0 20 [.sl 1 ([[.int .i64 7], [.int .i64 3], [.int .i64 7], [.int .i64 9]]) (some 4)] (.tup [.sl 1 ([[.int .i64 0], [.int .i64 1], [.int .i64 0], [.int .i64 2]]) (some 4), .int .i64 0]) := by
  have h := of20 [7, 3, 7, 9] 1 (some 4) (.inr rfl) (by decide)
  rw [show ofC [7, 3, 7, 9] = ([0, 1, 0, 2], 0) from by kernel_rfl] at h
  exact h
theorem xBl : PC Tryd.prog G0 13 [.sl 1 ([[.int .i64 0], [.int .i64 1], [.int .i64 0], [.int .i64 2]]) (some 4)] (.tup [.sl 1 [[.sl 1 ([[.int .i64 0], [.int .i64 2]]) (some 2)], [.sl 1 ([[.int .i64 1]]) (some 1)], [.sl 1 ([[.int .i64 3]]) (some 1)]] (some 3), .int .i64 0]) := by
  have h := blocks13 [0, 1, 0, 2] (some 4) (by decide)
  rw [show checkC [0, 1, 0, 2] = 0 from by kernel_rfl, if_pos rfl, if_pos rfl, show countM [0, 1, 0, 2] = 3 from by kernel_rfl, show blkRows [0, 1, 0, 2] = [([0, 2], some 2), ([1], some 1), ([3], some 1)] from by kernel_rfl] at h
  exact h
theorem xTx : PC Tryd.prog G0 14 [.sl 1 ([[.int .i64 0], [.int .i64 1], [.int .i64 0], [.int .i64 2]]) (some 4)] (.tup [.str [48, 32, 50, 32, 124, 32, 49, 32, 124, 32, 51], .int .i64 0]) := by
  have h := text14 [0, 1, 0, 2] (some 4) (by decide)
  rw [show checkC [0, 1, 0, 2] = 0 from by kernel_rfl] at h
  rw [if_pos rfl, show textC [0, 1, 0, 2] = [48, 32, 50, 32, 124, 32, 49, 32, 124, 32, 51] from by kernel_rfl] at h
  exact h
theorem xCo : PC Tryd.prog G0 12 [.sl 1 ([[.int .i64 0], [.int .i64 1], [.int .i64 0], [.int .i64 2]]) (some 4)] (.tup [.int .i64 3, .int .i64 0]) := by
  have h := count12 [0, 1, 0, 2] (some 4) (by decide)
  rw [show checkC [0, 1, 0, 2] = 0 from by kernel_rfl] at h
  rw [if_pos rfl, show countM [0, 1, 0, 2] = 3 from by kernel_rfl] at h
  exact h
theorem xMe : PC Tryd.prog G0 16 [.sl 1 ([[.int .i64 0], [.int .i64 0], [.int .i64 1], [.int .i64 1]]) (some 4), .sl 1 ([[.int .i64 0], [.int .i64 1], [.int .i64 1], [.int .i64 1]]) (some 4)] (.tup [.sl 1 ([[.int .i64 0], [.int .i64 1], [.int .i64 2], [.int .i64 2]]) (some 4), .int .i64 0]) := by
  have h := meet16 [0, 0, 1, 1] [0, 1, 1, 1] (some 4) (some 4) (by decide) (by decide)
  rw [show meetC [0, 0, 1, 1] [0, 1, 1, 1] = ([0, 1, 2, 2], 0) from by kernel_rfl] at h
  exact h
theorem xJo : PC Tryd.prog G0 17 [.sl 1 ([[.int .i64 0], [.int .i64 0], [.int .i64 1], [.int .i64 1]]) (some 4), .sl 1 ([[.int .i64 0], [.int .i64 1], [.int .i64 1], [.int .i64 1]]) (some 4)] (.tup [.sl 1 ([[.int .i64 0], [.int .i64 0], [.int .i64 0], [.int .i64 0]]) (some 4), .int .i64 0]) := by
  have h := join17 [0, 0, 1, 1] [0, 1, 1, 1] (some 4) (some 4) (by decide) (by decide)
  rw [show joinC [0, 0, 1, 1] [0, 1, 1, 1] = ([0, 0, 0, 0], 0) from by kernel_rfl] at h
  exact h
theorem xK0 : PC Tryd.prog G0 11 [.sl 1 ([[.int .i64 0], [.int .i64 1], [.int .i64 0], [.int .i64 2]]) (some 4)] (.int .i64 0) := by
  have h := check11 [0, 1, 0, 2] (some 4) (by decide)
  rw [show checkC [0, 1, 0, 2] = 0 from by kernel_rfl] at h
  exact h
theorem xK1 : PC Tryd.prog G0 11 [.sl 1 ([[.int .i64 1], [.int .i64 0]]) (some 2)] (.int .i64 1) := by
  have h := check11 [1, 0] (some 2) (by decide)
  rw [show checkC [1, 0] = 1 from by kernel_rfl] at h
  exact h
theorem xK2 : PC Tryd.prog G0 11 [.sl 1 ([[.int .i64 0], [.int .i64 2]]) (some 2)] (.int .i64 1) := by
  have h := check11 [0, 2] (some 2) (by decide)
  rw [show checkC [0, 2] = 1 from by kernel_rfl] at h
  exact h
theorem xCl : PC Tryd.prog G0 23 [.int .i64 5, .sl 2 [[.int .i64 1, .int .i64 3], [.int .i64 3, .int .i64 4]] (some 2)] (.tup [.sl 1 ([[.int .i64 0], [.int .i64 1], [.int .i64 2], [.int .i64 1], [.int .i64 1]]) (some 5), .int .i64 0]) := by
  have h := close23 5 [(1, 3), (3, 4)] 2 (some 2) (.inr rfl) (by decide)
  rw [show closeC 5 [(1, 3), (3, 4)] = ([0, 1, 2, 1, 1], 0) from by kernel_rfl] at h
  exact h
theorem xF1 : PC Tryd.prog G0 18 [.sl 1 ([[.int .i64 0], [.int .i64 1], [.int .i64 2]]) (some 3), .sl 1 ([[.int .i64 0], [.int .i64 0], [.int .i64 1]]) (some 3)] (.tup [.bool true, .int .i64 0]) := by
  have h := finer18 [0, 1, 2] [0, 0, 1] (some 3) (some 3) (by decide) (by decide)
  rw [show finC [0, 1, 2] [0, 0, 1] = (true, 0) from by kernel_rfl] at h
  exact h
theorem xF2 : PC Tryd.prog G0 18 [.sl 1 ([[.int .i64 0], [.int .i64 0], [.int .i64 1]]) (some 3), .sl 1 ([[.int .i64 0], [.int .i64 1], [.int .i64 2]]) (some 3)] (.tup [.bool false, .int .i64 0]) := by
  have h := finer18 [0, 0, 1] [0, 1, 2] (some 3) (some 3) (by decide) (by decide)
  rw [show finC [0, 0, 1] [0, 1, 2] = (false, 0) from by kernel_rfl] at h
  exact h
theorem xF3 : PC Tryd.prog G0 18 [.sl 1 ([[.int .i64 0], [.int .i64 1]]) (some 2), .sl 1 ([[.int .i64 0]]) (some 1)] (.tup [.bool false, .int .i64 16]) := by
  have h := finer18 [0, 1] [0] (some 2) (some 1) (by decide) (by decide)
  rw [show finC [0, 1] [0] = (false, 16) from by kernel_rfl] at h
  exact h
theorem xP1 : PC Tryd.prog G0 31 [.str [48, 32, 50, 32, 124, 32, 49]] (.tup [.sl 1 ([[.int .i64 0], [.int .i64 1], [.int .i64 0]]) (some 3), .int .i64 0]) := by
  have h := parse31 [48, 32, 50, 32, 124, 32, 49] (by decide)
  rw [show parseC [48, 32, 50, 32, 124, 32, 49] = ([0, 1, 0], 0) from by kernel_rfl] at h
  exact h
theorem xP2 : PC Tryd.prog G0 31 [.str [49, 32, 124, 32, 48, 32, 50]] (.tup [.sl 1 ([]) (some 0), .int .i64 4]) := by
  have h := parse31 [49, 32, 124, 32, 48, 32, 50] (by decide)
  rw [show parseC [49, 32, 124, 32, 48, 32, 50] = ([], 4) from by kernel_rfl] at h
  exact h
theorem xP3 : PC Tryd.prog G0 31 [.str [48, 32, 50]] (.tup [.sl 1 ([]) (some 0), .int .i64 4]) := by
  have h := parse31 [48, 32, 50] (by decide)
  rw [show parseC [48, 32, 50] = ([], 4) from by kernel_rfl] at h
  exact h
theorem xL1 : PC Tryd.prog G0 19 [.sl 1 ([[.int .i64 0], [.int .i64 1], [.int .i64 0], [.int .i64 2]]) (some 4), .int .i64 0, .sl 1 ([[.int .i64 0], [.int .i64 1], [.int .i64 0], [.int .i64 2]]) (some 4), .int .i64 0] (.bool true) := by
  have h := list_same [0, 1, 0, 2] 1 (some 4) (.inr rfl) (by decide)
  exact h
theorem xL2 : PC Tryd.prog G0 19 [.sl 1 ([[.int .i64 0], [.int .i64 2]]) (some 2), .int .i64 0, .sl 1 ([[.int .i64 0], [.int .i64 2]]) (some 2), .int .i64 0] (.bool true) := by
  have h := list_same [0, 2] 1 (some 2) (.inr rfl) (by decide)
  exact h
theorem xL3 : PC Tryd.prog G0 19 [.sl 1 ([[.int .i64 1]]) (some 1), .int .i64 0, .sl 1 ([[.int .i64 1]]) (some 1), .int .i64 0] (.bool true) := by
  have h := list_same [1] 1 (some 1) (.inr rfl) (by decide)
  exact h
theorem xL4 : PC Tryd.prog G0 19 [.sl 1 ([[.int .i64 3]]) (some 1), .int .i64 0, .sl 1 ([[.int .i64 3]]) (some 1), .int .i64 0] (.bool true) := by
  have h := list_same [3] 1 (some 1) (.inr rfl) (by decide)
  exact h
theorem xL5 : PC Tryd.prog G0 19 [.sl 1 ([[.int .i64 0], [.int .i64 1], [.int .i64 2], [.int .i64 2]]) (some 4), .int .i64 0, .sl 1 ([[.int .i64 0], [.int .i64 1], [.int .i64 2], [.int .i64 2]]) (some 4), .int .i64 0] (.bool true) := by
  have h := list_same [0, 1, 2, 2] 1 (some 4) (.inr rfl) (by decide)
  exact h
theorem xL6 : PC Tryd.prog G0 19 [.sl 1 ([[.int .i64 0], [.int .i64 0], [.int .i64 0], [.int .i64 0]]) (some 4), .int .i64 0, .sl 1 ([[.int .i64 0], [.int .i64 0], [.int .i64 0], [.int .i64 0]]) (some 4), .int .i64 0] (.bool true) := by
  have h := list_same [0, 0, 0, 0] 1 (some 4) (.inr rfl) (by decide)
  exact h
theorem xL7 : PC Tryd.prog G0 19 [.sl 1 ([[.int .i64 0], [.int .i64 1], [.int .i64 2], [.int .i64 1], [.int .i64 1]]) (some 5), .int .i64 0, .sl 1 ([[.int .i64 0], [.int .i64 1], [.int .i64 2], [.int .i64 1], [.int .i64 1]]) (some 5), .int .i64 0] (.bool true) := by
  have h := list_same [0, 1, 2, 1, 1] 1 (some 5) (.inr rfl) (by decide)
  exact h
theorem xL8 : PC Tryd.prog G0 19 [.sl 1 ([[.int .i64 0], [.int .i64 1], [.int .i64 0]]) (some 3), .int .i64 0, .sl 1 ([[.int .i64 0], [.int .i64 1], [.int .i64 0]]) (some 3), .int .i64 0] (.bool true) := by
  have h := list_same [0, 1, 0] 1 (some 3) (.inr rfl) (by decide)
  exact h
theorem lives15 : PC Tryd.prog G0 15 [] (.bool true) := by
  refine pc_go 0 218 [.tmp 0] Tryd.func15 rfl rfl rfl (by simp) ?_
  intro s hz
  clear hz
  repeat' (first | (first | (refine a0_ ?_; first | refine a1_ rfl rfl ?_ | refine a2_ rfl ?_ | refine a3_ rfl rfl ?_ | refine a4_ rfl ?_ | refine a5_ rfl rfl rfl ?_ | refine a6_ rfl rfl ?_ | refine a7_ rfl rfl ?_ | refine a8_ rfl rfl ?_ | refine a9_ rfl rfl rfl ?_) | (refine g0_ ?_; first | refine g1_ rfl ?_ | refine g2_ rfl rfl ?_ | refine go_draw (dr := allQ) rfl rfl mixed (by first | assumption | kernel_rfl) ?_ | refine g4_ rfl ?_ | refine g5_ rfl ?_ | refine g6_ rfl ?_ | refine g7_ rfl ?_ | refine g8_ rfl ?_ | refine ga_ rfl ?_ | refine gb_ rfl ?_) | (refine o0_ ?_; first | refine o1_ ?_ | refine o2_ ?_ | refine o3_ ?_ | refine o4_ ?_ | refine o5_ ?_ | refine o6_ rfl ?_ | refine o7_ rfl ?_ | refine o8_ ?_ | refine o9_ ?_ | refine oa_ ?_ | refine ob_ ?_ | refine oc_ ?_ | refine od_ ?_ | refine oe_ ?_ | refine of_ ?_ | refine og_ ?_ | refine oh_ ?_ | refine oi_ ?_ | refine oj_ ?_ | refine ok_ ?_)) | refine at_go ?_ | (with_reducible refine And.intro (at_go ?_) (at_go ?_)) | ((with_reducible refine And.intro (fun h => ?_) (fun h => ?_)) <;> try (exfalso; omega)) | (with_reducible refine And.intro (by first | omega | (simp only [maxLen]; omega)) ?_) | (first | (refine ⟨_, _, pc_lift (xOf) (by (simp [idsL, idsE, AV.ids, Nat.add_zero])) _, ?_⟩) | (refine ⟨_, pc_lift (xOf) (by (simp [idsL, idsE, AV.ids, Nat.add_zero])) _, ?_⟩) | (refine ⟨_, fun _ => pc_lift (xOf) (by (simp [idsL, idsE, AV.ids, Nat.add_zero])) _, ?_⟩) | (refine ⟨_, _, pc_lift (xBl) (by (simp [idsL, idsE, AV.ids, Nat.add_zero])) _, ?_⟩) | (refine ⟨_, pc_lift (xBl) (by (simp [idsL, idsE, AV.ids, Nat.add_zero])) _, ?_⟩) | (refine ⟨_, fun _ => pc_lift (xBl) (by (simp [idsL, idsE, AV.ids, Nat.add_zero])) _, ?_⟩) | (refine ⟨_, _, pc_lift (xTx) (by (simp [idsL, idsE, AV.ids, Nat.add_zero])) _, ?_⟩) | (refine ⟨_, pc_lift (xTx) (by (simp [idsL, idsE, AV.ids, Nat.add_zero])) _, ?_⟩) | (refine ⟨_, fun _ => pc_lift (xTx) (by (simp [idsL, idsE, AV.ids, Nat.add_zero])) _, ?_⟩) | (refine ⟨_, _, pc_lift (xCo) (by (simp [idsL, idsE, AV.ids, Nat.add_zero])) _, ?_⟩) | (refine ⟨_, pc_lift (xCo) (by (simp [idsL, idsE, AV.ids, Nat.add_zero])) _, ?_⟩) | (refine ⟨_, fun _ => pc_lift (xCo) (by (simp [idsL, idsE, AV.ids, Nat.add_zero])) _, ?_⟩) | (refine ⟨_, _, pc_lift (xMe) (by (simp [idsL, idsE, AV.ids, Nat.add_zero])) _, ?_⟩) | (refine ⟨_, pc_lift (xMe) (by (simp [idsL, idsE, AV.ids, Nat.add_zero])) _, ?_⟩) | (refine ⟨_, fun _ => pc_lift (xMe) (by (simp [idsL, idsE, AV.ids, Nat.add_zero])) _, ?_⟩) | (refine ⟨_, _, pc_lift (xJo) (by (simp [idsL, idsE, AV.ids, Nat.add_zero])) _, ?_⟩) | (refine ⟨_, pc_lift (xJo) (by (simp [idsL, idsE, AV.ids, Nat.add_zero])) _, ?_⟩) | (refine ⟨_, fun _ => pc_lift (xJo) (by (simp [idsL, idsE, AV.ids, Nat.add_zero])) _, ?_⟩) | (refine ⟨_, _, pc_lift (xK0) (by (simp [idsL, idsE, AV.ids, Nat.add_zero])) _, ?_⟩) | (refine ⟨_, pc_lift (xK0) (by (simp [idsL, idsE, AV.ids, Nat.add_zero])) _, ?_⟩) | (refine ⟨_, fun _ => pc_lift (xK0) (by (simp [idsL, idsE, AV.ids, Nat.add_zero])) _, ?_⟩) | (refine ⟨_, _, pc_lift (xK1) (by (simp [idsL, idsE, AV.ids, Nat.add_zero])) _, ?_⟩) | (refine ⟨_, pc_lift (xK1) (by (simp [idsL, idsE, AV.ids, Nat.add_zero])) _, ?_⟩) | (refine ⟨_, fun _ => pc_lift (xK1) (by (simp [idsL, idsE, AV.ids, Nat.add_zero])) _, ?_⟩) | (refine ⟨_, _, pc_lift (xK2) (by (simp [idsL, idsE, AV.ids, Nat.add_zero])) _, ?_⟩) | (refine ⟨_, pc_lift (xK2) (by (simp [idsL, idsE, AV.ids, Nat.add_zero])) _, ?_⟩) | (refine ⟨_, fun _ => pc_lift (xK2) (by (simp [idsL, idsE, AV.ids, Nat.add_zero])) _, ?_⟩) | (refine ⟨_, _, pc_lift (xCl) (by (simp [idsL, idsE, AV.ids, Nat.add_zero])) _, ?_⟩) | (refine ⟨_, pc_lift (xCl) (by (simp [idsL, idsE, AV.ids, Nat.add_zero])) _, ?_⟩) | (refine ⟨_, fun _ => pc_lift (xCl) (by (simp [idsL, idsE, AV.ids, Nat.add_zero])) _, ?_⟩) | (refine ⟨_, _, pc_lift (xF1) (by (simp [idsL, idsE, AV.ids, Nat.add_zero])) _, ?_⟩) | (refine ⟨_, pc_lift (xF1) (by (simp [idsL, idsE, AV.ids, Nat.add_zero])) _, ?_⟩) | (refine ⟨_, fun _ => pc_lift (xF1) (by (simp [idsL, idsE, AV.ids, Nat.add_zero])) _, ?_⟩) | (refine ⟨_, _, pc_lift (xF2) (by (simp [idsL, idsE, AV.ids, Nat.add_zero])) _, ?_⟩) | (refine ⟨_, pc_lift (xF2) (by (simp [idsL, idsE, AV.ids, Nat.add_zero])) _, ?_⟩) | (refine ⟨_, fun _ => pc_lift (xF2) (by (simp [idsL, idsE, AV.ids, Nat.add_zero])) _, ?_⟩) | (refine ⟨_, _, pc_lift (xF3) (by (simp [idsL, idsE, AV.ids, Nat.add_zero])) _, ?_⟩) | (refine ⟨_, pc_lift (xF3) (by (simp [idsL, idsE, AV.ids, Nat.add_zero])) _, ?_⟩) | (refine ⟨_, fun _ => pc_lift (xF3) (by (simp [idsL, idsE, AV.ids, Nat.add_zero])) _, ?_⟩) | (refine ⟨_, _, pc_lift (xP1) (by (simp [idsL, idsE, AV.ids, Nat.add_zero])) _, ?_⟩) | (refine ⟨_, pc_lift (xP1) (by (simp [idsL, idsE, AV.ids, Nat.add_zero])) _, ?_⟩) | (refine ⟨_, fun _ => pc_lift (xP1) (by (simp [idsL, idsE, AV.ids, Nat.add_zero])) _, ?_⟩) | (refine ⟨_, _, pc_lift (xP2) (by (simp [idsL, idsE, AV.ids, Nat.add_zero])) _, ?_⟩) | (refine ⟨_, pc_lift (xP2) (by (simp [idsL, idsE, AV.ids, Nat.add_zero])) _, ?_⟩) | (refine ⟨_, fun _ => pc_lift (xP2) (by (simp [idsL, idsE, AV.ids, Nat.add_zero])) _, ?_⟩) | (refine ⟨_, _, pc_lift (xP3) (by (simp [idsL, idsE, AV.ids, Nat.add_zero])) _, ?_⟩) | (refine ⟨_, pc_lift (xP3) (by (simp [idsL, idsE, AV.ids, Nat.add_zero])) _, ?_⟩) | (refine ⟨_, fun _ => pc_lift (xP3) (by (simp [idsL, idsE, AV.ids, Nat.add_zero])) _, ?_⟩) | (refine ⟨_, _, pc_lift (xL1) (by (simp [idsL, idsE, AV.ids, Nat.add_zero])) _, ?_⟩) | (refine ⟨_, pc_lift (xL1) (by (simp [idsL, idsE, AV.ids, Nat.add_zero])) _, ?_⟩) | (refine ⟨_, fun _ => pc_lift (xL1) (by (simp [idsL, idsE, AV.ids, Nat.add_zero])) _, ?_⟩) | (refine ⟨_, _, pc_lift (xL2) (by (simp [idsL, idsE, AV.ids, Nat.add_zero])) _, ?_⟩) | (refine ⟨_, pc_lift (xL2) (by (simp [idsL, idsE, AV.ids, Nat.add_zero])) _, ?_⟩) | (refine ⟨_, fun _ => pc_lift (xL2) (by (simp [idsL, idsE, AV.ids, Nat.add_zero])) _, ?_⟩) | (refine ⟨_, _, pc_lift (xL3) (by (simp [idsL, idsE, AV.ids, Nat.add_zero])) _, ?_⟩) | (refine ⟨_, pc_lift (xL3) (by (simp [idsL, idsE, AV.ids, Nat.add_zero])) _, ?_⟩) | (refine ⟨_, fun _ => pc_lift (xL3) (by (simp [idsL, idsE, AV.ids, Nat.add_zero])) _, ?_⟩) | (refine ⟨_, _, pc_lift (xL4) (by (simp [idsL, idsE, AV.ids, Nat.add_zero])) _, ?_⟩) | (refine ⟨_, pc_lift (xL4) (by (simp [idsL, idsE, AV.ids, Nat.add_zero])) _, ?_⟩) | (refine ⟨_, fun _ => pc_lift (xL4) (by (simp [idsL, idsE, AV.ids, Nat.add_zero])) _, ?_⟩) | (refine ⟨_, _, pc_lift (xL5) (by (simp [idsL, idsE, AV.ids, Nat.add_zero])) _, ?_⟩) | (refine ⟨_, pc_lift (xL5) (by (simp [idsL, idsE, AV.ids, Nat.add_zero])) _, ?_⟩) | (refine ⟨_, fun _ => pc_lift (xL5) (by (simp [idsL, idsE, AV.ids, Nat.add_zero])) _, ?_⟩) | (refine ⟨_, _, pc_lift (xL6) (by (simp [idsL, idsE, AV.ids, Nat.add_zero])) _, ?_⟩) | (refine ⟨_, pc_lift (xL6) (by (simp [idsL, idsE, AV.ids, Nat.add_zero])) _, ?_⟩) | (refine ⟨_, fun _ => pc_lift (xL6) (by (simp [idsL, idsE, AV.ids, Nat.add_zero])) _, ?_⟩) | (refine ⟨_, _, pc_lift (xL7) (by (simp [idsL, idsE, AV.ids, Nat.add_zero])) _, ?_⟩) | (refine ⟨_, pc_lift (xL7) (by (simp [idsL, idsE, AV.ids, Nat.add_zero])) _, ?_⟩) | (refine ⟨_, fun _ => pc_lift (xL7) (by (simp [idsL, idsE, AV.ids, Nat.add_zero])) _, ?_⟩) | (refine ⟨_, _, pc_lift (xL8) (by (simp [idsL, idsE, AV.ids, Nat.add_zero])) _, ?_⟩) | (refine ⟨_, pc_lift (xL8) (by (simp [idsL, idsE, AV.ids, Nat.add_zero])) _, ?_⟩) | (refine ⟨_, fun _ => pc_lift (xL8) (by (simp [idsL, idsE, AV.ids, Nat.add_zero])) _, ?_⟩)) | simp (disch := first | omega | (simp only [length_ints, length_natsI, List.length_set, List.length_reverse, List.length_replicate, List.length_append, List.length_cons, List.length_nil, List.length_map]; omega)) only [push_cast, ↓reduceIte, reduceIte, reduceCtorEq, Nat.reduceAdd, Nat.reduceLT, Nat.reduceEqDiff, Nat.reduceLeDiff, Int.reduceAdd, Int.reduceLT, Int.reduceLE, Nat.reduceMul, Nat.add_zero, Int.reduceToNat])
end Go.Proofs
