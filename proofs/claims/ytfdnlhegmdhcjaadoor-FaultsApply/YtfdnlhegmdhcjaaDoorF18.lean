import Derived.Test.YtfdnlhegmdhcjaaDoorF17
namespace Go.Proofs
open Go Go.V
set_option linter.unusedVariables false
set_option linter.unusedSimpArgs false
set_option maxHeartbeats 0
def kdA (k : Int) : List AV := [.str (nameF k), .bool (hasT k), .bool (hasA k), .bool (hasO k)]
def kdsA : List (List AV) := [kdA 0, kdA 1, kdA 2, kdA 3, kdA 4]
theorem kds_get (k : Nat) (h : k < 5) : kdsA.getD k [] = kdA k := by
 have hk : k = 0 ∨ k = 1 ∨ k = 2 ∨ k = 3 ∨ k = 4 := by omega
 rcases hk with rfl|rfl|rfl|rfl|rfl <;> rfl
def kdN (w : Bs) : Int := if nameF 0 = w then 0 else if nameF 1 = w then 1 else if nameF 2 = w then 2 else if nameF 3 = w then 3 else if nameF 4 = w then 4 else -1
theorem kdN_hit {w : Bs} {k : Nat} (hk : k < 5) (hb : ∀ j : Nat, j < k → ¬ nameF j = w) (h : nameF k = w) : kdN w = k := by
 have hk5 : k = 0 ∨ k = 1 ∨ k = 2 ∨ k = 3 ∨ k = 4 := by omega
 rcases hk5 with rfl|rfl|rfl|rfl|rfl
 ·have h : nameF 0 = w := h
  rw [kdN, if_pos h]; rfl
 ·have h : nameF 1 = w := h
  have h0 : ¬ nameF 0 = w := hb 0 (by omega)
  rw [kdN, if_neg h0, if_pos h]; rfl
 ·have h : nameF 2 = w := h
  have h0 : ¬ nameF 0 = w := hb 0 (by omega)
  have h1 : ¬ nameF 1 = w := hb 1 (by omega)
  rw [kdN, if_neg h0, if_neg h1, if_pos h]; rfl
 ·have h : nameF 3 = w := h
  have h0 : ¬ nameF 0 = w := hb 0 (by omega)
  have h1 : ¬ nameF 1 = w := hb 1 (by omega)
  have h2 : ¬ nameF 2 = w := hb 2 (by omega)
  rw [kdN, if_neg h0, if_neg h1, if_neg h2, if_pos h]; rfl
 ·have h : nameF 4 = w := h
  have h0 : ¬ nameF 0 = w := hb 0 (by omega)
  have h1 : ¬ nameF 1 = w := hb 1 (by omega)
  have h2 : ¬ nameF 2 = w := hb 2 (by omega)
  have h3 : ¬ nameF 3 = w := hb 3 (by omega)
  rw [kdN, if_neg h0, if_neg h1, if_neg h2, if_neg h3, if_pos h]; rfl
theorem kdN_no {w : Bs} (hb : ∀ j : Nat, j < 5 → ¬ nameF j = w) : kdN w = -1 := by
 have h0 : ¬ nameF 0 = w := hb 0 (by omega)
 have h1 : ¬ nameF 1 = w := hb 1 (by omega)
 have h2 : ¬ nameF 2 = w := hb 2 (by omega)
 have h3 : ¬ nameF 3 = w := hb 3 (by omega)
 have h4 : ¬ nameF 4 = w := hb 4 (by omega)
 rw [kdN, if_neg h0, if_neg h1, if_neg h2, if_neg h3, if_neg h4]
set_option maxRecDepth 100000 in
theorem parse55 (k : Int) (w : Bs) (ws : List Bs) (c : Option Nat) (b : Nat) (H : List Blk) (hb : H[b]? = some (.row 1 93 [[.sl 1 (strs (w :: ws)) c]])) (hbl : H.all (Blk.below H.length) = true) :
  ACalls Tryd.prog G0 55 [.agg (kdA k), .ptr b 0 0 1] H (.bool (decide (nameF k = w))) H := by
 have hb' : ∀ B, (H ++ [B])[b]? = some (Blk.row 1 93 [[.sl 1 (strs (w :: ws)) c]]) := fun B => by rw [List.getElem?_append_left (List.getElem?_eq_some_iff.1 hb).1]; exact hb
 refine ac_drop (K := [.row 4 81 [kdA k]]) ?_ hbl rfl
 have e0 : (strs (w :: ws)).getD 0 [] = [.str w] := rfl
 have l0 : 0 < (strs (w :: ws)).length := by simp [strs]
 have l1 : (0 : Int) < ((strs (w :: ws)).length : Int) := by omega
 have i0 : ∀ p, idsE p (strs (w :: ws)) = true := fun p => idsE_map _ _ fun x => by simp [idsL, AV.ids]
 generalize strs (w :: ws) = es at *
 unfold kdA
 refine ac_go 10 [.tmp 3] Tryd.func55 rfl rfl rfl (by simp) ?_
 intro s ⟨a0, a1, hz⟩
 simp only [Nat.zero_add, Nat.reduceAdd] at a1
 clear hz
 repeat' (first|(first|(refine a0_ ?_; first|refine a1_ rfl rfl ?_|refine a2_ rfl ?_|refine a3_ rfl rfl ?_|refine a4_ rfl ?_|refine ak_ rfl rfl ?_|refine a5_ rfl rfl rfl ?_|refine a6_ rfl rfl ?_|refine a7_ rfl rfl ?_|refine a8_ rfl rfl ?_|refine a9_ rfl rfl rfl ?_)|(refine g0_ ?_; first|refine g1_ rfl ?_|refine g2_ rfl rfl ?_|refine go_draw (dr := allQ) rfl rfl mixed (by first|assumption|kernel_rfl) ?_|refine g4_ rfl ?_|refine g5_ rfl ?_|refine g6_ rfl ?_|refine g7_ rfl ?_|refine g8_ rfl ?_|refine ga_ rfl ?_|refine gb_ rfl ?_)|(refine o0_ ?_; first|refine o1_ ?_|refine o2_ ?_|refine o3_ ?_|refine o4_ ?_|refine o5_ ?_|refine o6_ rfl ?_|refine o7_ rfl ?_|refine o8_ ?_|refine o9_ ?_|refine oa_ ?_|refine ob_ ?_|refine oc_ ?_|refine od_ ?_|refine oe_ ?_|refine of_ ?_|refine og_ ?_|refine oh_ ?_|refine oi_ ?_|refine oj_ ?_|refine ok_ ?_))|refine at_go ?_|(with_reducible refine And.intro (at_go ?_) (at_go ?_))|((with_reducible refine And.intro (fun h => ?_) (fun h => ?_)) <;> try (exfalso; omega))|(with_reducible refine And.intro (by first|omega|(simp only [maxLen]; omega)) ?_)|(refine And.intro ⟨[_], rfl⟩ ?_)|(refine And.intro ⟨[], by simp only [List.append_nil]⟩ ?_)|fail|simp (disch := first|omega|(simp only [List.length_map, lenF, lenS]; omega)) only [push_cast, ↓reduceIte, reduceIte, reduceCtorEq, Nat.reduceAdd, Nat.reduceLT, Nat.reduceEqDiff, Nat.reduceLeDiff, Int.reduceAdd, Int.reduceLT, Int.reduceLE, Nat.reduceMul, a0, a1, hb', hb, e0, l0, l1])
set_option maxRecDepth 100000 in
theorem indexFunc54 (w : Bs) (ws : List Bs) (c : Option Nat) (b : Nat) (H : List Blk) (hb : H[b]? = some (.row 1 93 [[.sl 1 (strs (w :: ws)) c]])) (hbl : H.all (Blk.below H.length) = true) :
  ACalls Tryd.prog G0 54 [.sl 4 kdsA (some 5), .fn 55 [.ptr b 0 0 1]] H (.int .i64 (kdN w)) H := by
 have hP := fun k => parse55 k w ws c b H hb hbl
 have hl : kdsA.length = 5 := rfl
 refine ac_go 19 [.tmp 4] Tryd.func54 rfl rfl rfl (by simp) ?_
 intro s ⟨a0, a1, hz⟩
 simp only [Nat.zero_add, Nat.reduceAdd] at a1
 clear hz
 repeat' (first|(first|(refine a0_ ?_; first|refine a1_ rfl rfl ?_|refine a2_ rfl ?_|refine a3_ rfl rfl ?_|refine a4_ rfl ?_|refine ak_ rfl rfl ?_|refine a5_ rfl rfl rfl ?_|refine a6_ rfl rfl ?_|refine a7_ rfl rfl ?_|refine a8_ rfl rfl ?_|refine a9_ rfl rfl rfl ?_)|(refine g0_ ?_; first|refine g1_ rfl ?_|refine g2_ rfl rfl ?_|refine go_draw (dr := allQ) rfl rfl mixed (by first|assumption|kernel_rfl) ?_|refine g4_ rfl ?_|refine g5_ rfl ?_|refine g6_ rfl ?_|refine g7_ rfl ?_|refine g8_ rfl ?_|refine ga_ rfl ?_|refine gb_ rfl ?_)|(refine o0_ ?_; first|refine o1_ ?_|refine o2_ ?_|refine o3_ ?_|refine o4_ ?_|refine o5_ ?_|refine o6_ rfl ?_|refine o7_ rfl ?_|refine o8_ ?_|refine o9_ ?_|refine oa_ ?_|refine ob_ ?_|refine oc_ ?_|refine od_ ?_|refine oe_ ?_|refine of_ ?_|refine og_ ?_|refine oh_ ?_|refine oi_ ?_|refine oj_ ?_|refine ok_ ?_))|refine at_go ?_|(with_reducible refine And.intro (at_go ?_) (at_go ?_))|((with_reducible refine And.intro (fun h => ?_) (fun h => ?_)) <;> try (exfalso; omega))|(with_reducible refine And.intro (by first|omega|(simp only [maxLen]; omega)) ?_)|(refine And.intro ⟨[_], rfl⟩ ?_)|(refine And.intro ⟨[], by simp only [List.append_nil]⟩ ?_)|fail|simp (disch := first|omega|(simp only [List.length_map, lenF, lenS]; omega)) only [push_cast, ↓reduceIte, reduceIte, reduceCtorEq, Nat.reduceAdd, Nat.reduceLT, Nat.reduceEqDiff, Nat.reduceLeDiff, Int.reduceAdd, Int.reduceLT, Int.reduceLE, Nat.reduceMul, a0, a1, hl])
 refine go_loop rfl (fun mz s' H' => ∃ k : Nat, k ≤ 5 ∧ mz = 5 - k ∧ H' = H ∧ s' 0 = .sl 4 kdsA (some 5) ∧ s' 1 = .fn 55 [.ptr b 0 0 1] ∧ s' 7 = .int .i64 5 ∧ s' 8 = .int .i64 k ∧ ∀ j : Nat, j < k → ¬ nameF j = w) (m := 5) (by (first|trivial|((repeat' apply And.intro) <;> first|trivial|assumption|omega|(simp only [maxLen]; omega)|(simp only [List.length_map, maxLen, lenF, lenS] <;> omega)))) (Weak.refl _ _) ⟨0, by omega, by omega, rfl, ?_⟩ ?_
 ·simp (disch := first|omega|(simp only [List.length_map, lenF, lenS]; omega)) only [push_cast, ↓reduceIte, reduceIte, reduceCtorEq, Nat.reduceAdd, Nat.reduceLT, Nat.reduceEqDiff, Nat.reduceLeDiff, Int.reduceAdd, Int.reduceLT, Int.reduceLE, Nat.reduceMul, a0, a1, hl]
  exact fun j hj => by omega
 ·rintro mz s' H' ⟨k, hk, rfl, rfl, b0, b1, b7, b8, ik⟩
  rcases Nat.lt_or_ge k 5 with hlt|hge
  ·have e1 := kds_get k hlt
   have hPk := hP k
   have hhit := kdN_hit hlt ik
   have hs := snocB (P := fun j => ¬ nameF j = w) (k := k) ik
   have en : enters Tryd.prog 55 = true := by kernel_rfl
   unfold kdA at e1 hPk
   repeat' (first|(first|(refine a0_ ?_; first|refine a1_ rfl rfl ?_|refine a2_ rfl ?_|refine a3_ rfl rfl ?_|refine a4_ rfl ?_|refine ak_ rfl rfl ?_|refine a5_ rfl rfl rfl ?_|refine a6_ rfl rfl ?_|refine a7_ rfl rfl ?_|refine a8_ rfl rfl ?_|refine a9_ rfl rfl rfl ?_)|(refine g0_ ?_; first|refine g1_ rfl ?_|refine g2_ rfl rfl ?_|refine go_draw (dr := allQ) rfl rfl mixed (by first|assumption|kernel_rfl) ?_|refine g4_ rfl ?_|refine g5_ rfl ?_|refine g6_ rfl ?_|refine g7_ rfl ?_|refine g8_ rfl ?_|refine ga_ rfl ?_|refine gb_ rfl ?_)|(refine o0_ ?_; first|refine o1_ ?_|refine o2_ ?_|refine o3_ ?_|refine o4_ ?_|refine o5_ ?_|refine o6_ rfl ?_|refine o7_ rfl ?_|refine o8_ ?_|refine o9_ ?_|refine oa_ ?_|refine ob_ ?_|refine oc_ ?_|refine od_ ?_|refine oe_ ?_|refine of_ ?_|refine og_ ?_|refine oh_ ?_|refine oi_ ?_|refine oj_ ?_|refine ok_ ?_))|refine at_go ?_|(with_reducible refine And.intro (at_go ?_) (at_go ?_))|((with_reducible refine And.intro (fun h => ?_) (fun h => ?_)) <;> try (exfalso; omega))|(with_reducible refine And.intro (by first|omega|(simp only [maxLen]; omega)) ?_)|(refine And.intro ⟨[_], rfl⟩ ?_)|(refine And.intro ⟨[], by simp only [List.append_nil]⟩ ?_)|(first|(refine ⟨_, _, hPk, ?_⟩)|(refine ⟨_, hPk, ?_⟩)|(refine ⟨_, fun _ => hPk, ?_⟩))|simp (disch := first|omega|(simp only [List.length_map, lenF, lenS]; omega)) only [push_cast, ↓reduceIte, reduceIte, reduceCtorEq, Nat.reduceAdd, Nat.reduceLT, Nat.reduceEqDiff, Nat.reduceLeDiff, Int.reduceAdd, Int.reduceLT, Int.reduceLE, Nat.reduceMul, b0, b1, b7, b8, e1, hl, en])
   ·rw [hhit h]
   ·refine out_round (5 - (k + 1)) (by omega) (by (first|trivial|((repeat' apply And.intro) <;> first|trivial|assumption|omega|(simp only [maxLen]; omega)|(simp only [List.length_map, maxLen, lenF, lenS] <;> omega)))) ⟨k + 1, by omega, rfl, rfl, ?_⟩
    simp (disch := first|omega|(simp only [List.length_map, lenF, lenS]; omega)) only [push_cast, ↓reduceIte, reduceIte, reduceCtorEq, Nat.reduceAdd, Nat.reduceLT, Nat.reduceEqDiff, Nat.reduceLeDiff, Int.reduceAdd, Int.reduceLT, Int.reduceLE, Nat.reduceMul, b0, b1, b7, b8, e1, hl, en]
    exact hs h
  ·obtain rfl : k = 5 := by omega
   repeat' (first|(first|(refine a0_ ?_; first|refine a1_ rfl rfl ?_|refine a2_ rfl ?_|refine a3_ rfl rfl ?_|refine a4_ rfl ?_|refine ak_ rfl rfl ?_|refine a5_ rfl rfl rfl ?_|refine a6_ rfl rfl ?_|refine a7_ rfl rfl ?_|refine a8_ rfl rfl ?_|refine a9_ rfl rfl rfl ?_)|(refine g0_ ?_; first|refine g1_ rfl ?_|refine g2_ rfl rfl ?_|refine go_draw (dr := allQ) rfl rfl mixed (by first|assumption|kernel_rfl) ?_|refine g4_ rfl ?_|refine g5_ rfl ?_|refine g6_ rfl ?_|refine g7_ rfl ?_|refine g8_ rfl ?_|refine ga_ rfl ?_|refine gb_ rfl ?_)|(refine o0_ ?_; first|refine o1_ ?_|refine o2_ ?_|refine o3_ ?_|refine o4_ ?_|refine o5_ ?_|refine o6_ rfl ?_|refine o7_ rfl ?_|refine o8_ ?_|refine o9_ ?_|refine oa_ ?_|refine ob_ ?_|refine oc_ ?_|refine od_ ?_|refine oe_ ?_|refine of_ ?_|refine og_ ?_|refine oh_ ?_|refine oi_ ?_|refine oj_ ?_|refine ok_ ?_))|refine at_go ?_|(with_reducible refine And.intro (at_go ?_) (at_go ?_))|((with_reducible refine And.intro (fun h => ?_) (fun h => ?_)) <;> try (exfalso; omega))|(with_reducible refine And.intro (by first|omega|(simp only [maxLen]; omega)) ?_)|(refine And.intro ⟨[_], rfl⟩ ?_)|(refine And.intro ⟨[], by simp only [List.append_nil]⟩ ?_)|(first|(refine ⟨_, _, hPk, ?_⟩)|(refine ⟨_, hPk, ?_⟩)|(refine ⟨_, fun _ => hPk, ?_⟩))|simp (disch := first|omega|(simp only [List.length_map, lenF, lenS]; omega)) only [push_cast, ↓reduceIte, reduceIte, reduceCtorEq, Nat.reduceAdd, Nat.reduceLT, Nat.reduceEqDiff, Nat.reduceLeDiff, Int.reduceAdd, Int.reduceLT, Int.reduceLE, Nat.reduceMul, b0, b1, b7, b8, hl])
   rw [kdN_no ik]
end Go.Proofs
