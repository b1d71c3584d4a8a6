import Derived.Test.YtnlbodnipgkpaaaDoorC14
import Derived.Test.YtnlbodnipgkpaaaDoorC16
namespace Go.Proofs
open Go Go.V
set_option linter.unusedVariables false
set_option linter.unusedSimpArgs false
set_option maxHeartbeats 0
set_option maxRecDepth 100000
def dg (n : Nat) : List Nat := [n % 5, n / 5 % 5, n / 25 % 5, n / 125 % 5, n / 625]
def dgI (n : Nat) : List Int := [((n % 5 : Nat) : Int), ((n / 5 % 5 : Nat) : Int), ((n / 25 % 5 : Nat) : Int), ((n / 125 % 5 : Nat) : Int), ((n / 625 : Nat) : Int)]
def cntV : Nat → Nat
 | 0 => 0
 | n + 1 => cntV n + if checkC (dgI n) = 0 then 1 else 0
theorem cntV_all : cntV 3125 = 52 := by kernel_rfl
theorem cntV_le : ∀ n, cntV n ≤ n
 | 0 => Nat.le_refl _
 | n + 1 => by rw [cntV]; have := cntV_le n; split <;> omega
def y5 (n : Nat) : Bt := [n % 256, n / 3 % 256, n / 7 % 3, n / 11 % 256, n % 2]
def z256 : List Int := List.replicate 256 0
def z257 : List Int := List.replicate 257 0
theorem mk256 {n : Nat} {s : Nat → AV} {H : List Blk} : Made Tryd.prog (.makeSlice 22 (.const (.int .i64 256)) (.const (.int .i64 256))) (evS G0 n s) H (.sl 1 (ints z256) (some 256)) := by
 have h := made_const (G := G0) (n := n) (s := s) (H := H) (k1 := .i64) (k2 := .i64) (l := 256) (c := 256) ti22 rfl ti3 rfl (by decide) (by decide) (by decide) (by decide)
 rw [z256, ← ints_rep]; exact h
theorem mk257 {n : Nat} {s : Nat → AV} {H : List Blk} : Made Tryd.prog (.makeSlice 22 (.const (.int .i64 257)) (.const (.int .i64 257))) (evS G0 n s) H (.sl 1 (ints z257) (some 257)) := by
 have h := made_const (G := G0) (n := n) (s := s) (H := H) (k1 := .i64) (k2 := .i64) (l := 257) (c := 257) ti22 rfl ti3 rfl (by decide) (by decide) (by decide) (by decide)
 rw [z257, ← ints_rep]; exact h
theorem known9 : PC Tryd.prog G0 9 [] (.bool true) := by
 have h15 := lives15
 have k1 := law3 z256 z256 (some 256) (some 256) 1 1 (.inr rfl) (.inr rfl)
 have k2 := law3 z257 [] (some 257) (some 0) 1 0 (.inr rfl) (.inl rfl)
 have k3 := law5 256 [(0, 255)] 2 (some 1) (.inr rfl)
 have k4 := law5 257 [] 0 (some 0) (.inl rfl)
 have k5 := law5 0 [] 0 (some 0) (.inl rfl)
 have k6 := law4 z257 (some 257) 1 (.inr rfl) (by simp [z257, maxLen])
 have hc52 := cntV_all
 simp only [ints_nil, prs_nil] at k2 k4 k5
 refine pc_go 0 124 [.tmp 0] Tryd.func9 rfl rfl rfl (by simp) ?_
 intro s hz
 clear hz
 repeat' (first|(first|(refine a0_ ?_; first|refine a1_ rfl rfl ?_|refine a2_ rfl ?_|refine a3_ rfl rfl ?_|refine a4_ rfl ?_|refine a5_ rfl rfl rfl ?_|refine a6_ rfl rfl ?_|refine a7_ rfl rfl ?_|refine a8_ rfl rfl ?_|refine a9_ rfl rfl rfl ?_)|(refine g0_ ?_; first|refine g1_ rfl ?_|refine g2_ rfl rfl ?_|refine go_drawN (dr := allQ) (p := [0, 1, 1, 1, 0, 0, 1, 0, 0, 1, 0, 1, 1]) [] [] [(22, 23)] rfl rfl mixed (by kernel_rfl) ?_|refine go_drawN (dr := allQ) (p := [0, 1, 1, 1]) [] [(99, none)] [] rfl rfl mixed (by kernel_rfl) ?_|refine go_draw (dr := allQ) rfl rfl mixed (by first|assumption|kernel_rfl) ?_|refine g4_ rfl ?_|refine g5_ rfl ?_|refine g6_ rfl ?_|refine g7_ rfl ?_|refine g8_ rfl ?_|refine ga_ rfl ?_|refine gb_ rfl ?_)|(refine o0_ ?_; first|refine o1_ ?_|refine o2_ ?_|refine o3_ ?_|refine o4_ ?_|refine o5_ ?_|refine o6_ rfl ?_|refine o7_ rfl ?_|refine o8_ ?_|refine o9_ ?_|refine oa_ ?_|refine ob_ ?_|refine oc_ ?_|refine od_ ?_|refine oe_ ?_|refine of_ ?_|refine og_ ?_|refine oh_ ?_|refine oi_ ?_|refine oj_ ?_|refine ok_ ?_))|refine at_go ?_|(with_reducible refine And.intro (at_go ?_) (at_go ?_))|((with_reducible refine And.intro (fun h => ?_) (fun h => ?_)) <;> try (exfalso; omega))|(with_reducible refine And.intro (by first|omega|(simp only [maxLen]; omega)) ?_)|fail|simp (disch := first|omega|(simp only [length_ints, length_natsI, length_u8s, List.length_set, List.length_reverse, List.length_replicate, List.length_append, List.length_cons, List.length_nil, List.length_map]; omega)) only [push_cast, ↓reduceIte, reduceIte, reduceCtorEq, Nat.reduceAdd, Nat.reduceLT, Nat.reduceEqDiff, Nat.reduceLeDiff, Int.reduceAdd, Int.reduceLT, Int.reduceLE, Nat.reduceMul, Nat.add_zero])
 refine go_loop rfl (fun mz s' H' => ∃ n : Nat, n ≤ 3125 ∧ mz = 3125 - n ∧ H' = [] ∧ s' 1 = .int .i64 (cntV n) ∧ s' 2 = .int .i64 n) (m := 3125) (by (first|trivial|((repeat' apply And.intro) <;> first|trivial|assumption|omega|(simp only [maxLen]; omega)|(simp only [length_ints, length_natsI, length_u8s, List.length_replicate, List.length_append, List.length_cons, List.length_nil, List.length_map, List.length_take, List.length_drop, List.length_set, List.length_reverse, maxLen] <;> omega)))) (Weak.refl _ _) ⟨0, by omega, by omega, rfl, ?_⟩ ?_
 ·simp (disch := first|omega|(simp only [length_ints, length_natsI, length_u8s, List.length_set, List.length_reverse, List.length_replicate, List.length_append, List.length_cons, List.length_nil, List.length_map]; omega)) only [push_cast, ↓reduceIte, reduceIte, reduceCtorEq, Nat.reduceAdd, Nat.reduceLT, Nat.reduceEqDiff, Nat.reduceLeDiff, Int.reduceAdd, Int.reduceLT, Int.reduceLE, Nat.reduceMul, Nat.add_zero]
  rfl
 ·rintro mz s' H' ⟨n, hn, rfl, rfl, b1, b2⟩
  have hcl := cntV_le n
  rcases Nat.lt_or_ge n 3125 with hlt|hge
  ·have hcs : cntV (n + 1) = cntV n + if checkC (dgI n) = 0 then 1 else 0 := rfl
   have hce : checkC (dgI n) = 0 ∨ checkC (dgI n) = 1 := by
    rw [checkC_eq, if_neg (by simp [dgI])]; split
    ·exact .inl rfl
    ·exact .inr rfl
   have hdl : (dgI n).length = 5 := rfl
   have h10 := refCheck10 (dgI n) (some 5) (by omega)
   have h11 := check11 (dgI n) (some 5) (by omega)
   have hof := law4 (dgI n) (some 5) 1 (.inr rfl) (by rw [hdl]; decide)
   have d1 : Int.tmod (n : Int) 5 = ((n % 5 : Nat) : Int) := rfl
   have d2 : Int.tdiv (n : Int) 5 = ((n / 5 : Nat) : Int) := rfl
   have d3 : Int.tmod ((n / 5 : Nat) : Int) 5 = ((n / 5 % 5 : Nat) : Int) := rfl
   have d4 : Int.tdiv (n : Int) 25 = ((n / 25 : Nat) : Int) := rfl
   have d5 : Int.tmod ((n / 25 : Nat) : Int) 5 = ((n / 25 % 5 : Nat) : Int) := rfl
   have d6 : Int.tdiv (n : Int) 125 = ((n / 125 : Nat) : Int) := rfl
   have d7 : Int.tmod ((n / 125 : Nat) : Int) 5 = ((n / 125 % 5 : Nat) : Int) := rfl
   have d8 : Int.tdiv (n : Int) 625 = ((n / 625 : Nat) : Int) := rfl
   have d9 : Int.tmod (n : Int) 11 = ((n % 11 : Nat) : Int) := rfl
   have w1 : IntKind.u8.wrap (n : Int) = ((n % 256 : Nat) : Int) := by rw [IntKind.wrap_u8]; omega
   have w2 : Int.tdiv (n : Int) 3 = ((n / 3 : Nat) : Int) := rfl
   have w3 : IntKind.u8.wrap ((n / 3 : Nat) : Int) = ((n / 3 % 256 : Nat) : Int) := by rw [IntKind.wrap_u8]; omega
   have w4 : Int.tdiv (n : Int) 7 = ((n / 7 : Nat) : Int) := rfl
   have w5 : Int.tmod ((n / 7 : Nat) : Int) 3 = ((n / 7 % 3 : Nat) : Int) := rfl
   have w6 : IntKind.u8.wrap ((n / 7 % 3 : Nat) : Int) = ((n / 7 % 3 : Nat) : Int) := by rw [IntKind.wrap_u8]; omega
   have w7 : Int.tdiv (n : Int) 11 = ((n / 11 : Nat) : Int) := rfl
   have w8 : IntKind.u8.wrap ((n / 11 : Nat) : Int) = ((n / 11 % 256 : Nat) : Int) := by rw [IntKind.wrap_u8]; omega
   have w9 : Int.tmod (n : Int) 2 = ((n % 2 : Nat) : Int) := rfl
   have wa : IntKind.u8.wrap ((n % 2 : Nat) : Int) = ((n % 2 : Nat) : Int) := by rw [IntKind.wrap_u8]; omega
   have hdg : dgI n = [((n % 5 : Nat) : Int), ((n / 5 % 5 : Nat) : Int), ((n / 25 % 5 : Nat) : Int), ((n / 125 % 5 : Nat) : Int), ((n / 625 : Nat) : Int)] := rfl
   have r0 : n % 5 < 256 := by omega
   have r1 : n / 5 % 5 < 256 := by omega
   have r2 : n / 25 % 5 < 256 := by omega
   have r3 : n / 125 % 5 < 256 := by omega
   have r4 : n / 625 < 256 := by omega
   have s0 : n % 256 < 256 := by omega
   have s1 : n / 3 % 256 < 256 := by omega
   have s2 : n / 7 % 3 < 256 := by omega
   have s3 : n / 11 % 256 < 256 := by omega
   have s4 : n % 2 < 256 := by omega
   have u1 : n / 5 ≤ 3125 := by omega
   have u2 : n / 25 ≤ 3125 := by omega
   have u3 : n / 125 ≤ 3125 := by omega
   have u4 : n / 3 ≤ 3125 := by omega
   have u5 : n / 7 ≤ 3125 := by omega
   have u6 : n / 11 ≤ 3125 := by omega
   generalize n % 5 = a0 at *
   generalize n / 5 % 5 = a1 at *
   generalize n / 25 % 5 = a2 at *
   generalize n / 125 % 5 = a3 at *
   generalize n / 625 = a4 at *
   generalize n / 5 = q1 at *
   generalize n / 25 = q2 at *
   generalize n / 125 = q3 at *
   generalize n % 11 = m11 at *
   generalize n % 256 = y0 at *
   generalize n / 3 % 256 = y1 at *
   generalize n / 3 = p3 at *
   generalize n / 7 % 3 = y2 at *
   generalize n / 7 = p7 at *
   generalize n / 11 % 256 = y3 at *
   generalize n / 11 = p11 at *
   generalize n % 2 = y4 at *
   have hlst : [[AV.int .i64 (a0 : Int)], [AV.int .i64 (a1 : Int)], [AV.int .i64 (a2 : Int)], [AV.int .i64 (a3 : Int)], [AV.int .i64 (a4 : Int)]] = ints (dgI n) := by rw [hdg]; rfl
   rcases hce with he|he
   ·rw [he] at h10 h11
    rw [he, if_pos rfl] at hcs
    have v0 : IntKind.u8.wrap (a0 : Int) = a0 := by rw [IntKind.wrap_u8]; omega
    have v1 : IntKind.u8.wrap (a1 : Int) = a1 := by rw [IntKind.wrap_u8]; omega
    have v2 : IntKind.u8.wrap (a2 : Int) = a2 := by rw [IntKind.wrap_u8]; omega
    have v3 : IntKind.u8.wrap (a3 : Int) = a3 := by rw [IntKind.wrap_u8]; omega
    have v4 : IntKind.u8.wrap (a4 : Int) = a4 := by rw [IntKind.wrap_u8]; omega
    have e0 : (ints (dgI n)).getD 0 [] = [.int .i64 (a0 : Int)] := by rw [← hlst]; rfl
    have e1 : (ints (dgI n)).getD 1 [] = [.int .i64 (a1 : Int)] := by rw [← hlst]; rfl
    have e2 : (ints (dgI n)).getD 2 [] = [.int .i64 (a2 : Int)] := by rw [← hlst]; rfl
    have e3 : (ints (dgI n)).getD 3 [] = [.int .i64 (a3 : Int)] := by rw [← hlst]; rfl
    have e4 : (ints (dgI n)).getD 4 [] = [.int .i64 (a4 : Int)] := by rw [← hlst]; rfl
    have hX : [[AV.int .u8 (a0 : Int)], [AV.int .u8 (a1 : Int)], [AV.int .u8 (a2 : Int)], [AV.int .u8 (a3 : Int)], [AV.int .u8 (a4 : Int)]] = u8s [a0, a1, a2, a3, a4] := rfl
    have hY : [[AV.int .u8 (y0 : Int)], [AV.int .u8 (y1 : Int)], [AV.int .u8 (y2 : Int)], [AV.int .u8 (y3 : Int)], [AV.int .u8 (y4 : Int)]] = u8s [y0, y1, y2, y3, y4] := rfl
    have bX : ∀ b ∈ [a0, a1, a2, a3, a4], b < 256 := fun b hb => by simp at hb; omega
    have bY : ∀ b ∈ [y0, y1, y2, y3, y4], b < 256 := fun b hb => by simp at hb; omega
    have l6 := law6 [a0, a1, a2, a3, a4] [y0, y1, y2, y3, y4] 1 1 (some 5) (some 5) (.inr rfl) (.inr rfl) bX bY (by simp [maxLen]) (by simp [maxLen])
    have l8 := law8 [a0, a1, a2, a3, a4] 1 (some 5) [48, 32, 49, 32, 124, 32, 50] (.inr rfl) bX (by simp [maxLen])
    unfold pA at l6 l8
    generalize dgI n = D at *
    generalize [a0, a1, a2, a3, a4] = X at *
    generalize [y0, y1, y2, y3, y4] = Y at *
    clear hof hdg
    repeat' (first|(((first|(refine a0_ ?_; first|refine a1_ rfl rfl ?_|refine a2_ rfl ?_|refine a3_ rfl rfl ?_|refine a4_ rfl ?_|refine a5_ rfl rfl rfl ?_|refine a6_ rfl rfl ?_|refine a7_ rfl rfl ?_|refine a8_ rfl rfl ?_|refine a9_ rfl rfl rfl ?_)|(refine g0_ ?_; first|refine g1_ rfl ?_|refine g2_ rfl rfl ?_|refine go_drawN (dr := allQ) (p := [0, 1, 1, 1, 0, 0, 1, 0, 0, 1, 0, 1, 1]) [] [] [(22, 23)] rfl rfl mixed (by kernel_rfl) ?_|refine go_drawN (dr := allQ) (p := [0, 1, 1, 1]) [] [(99, none)] [] rfl rfl mixed (by kernel_rfl) ?_|refine go_draw (dr := allQ) rfl rfl mixed (by first|assumption|kernel_rfl) ?_|refine g4_ rfl ?_|refine g5_ rfl ?_|refine g6_ rfl ?_|refine g7_ rfl ?_|refine g8_ rfl ?_|refine ga_ rfl ?_|refine gb_ rfl ?_)|(refine o0_ ?_; first|refine o1_ ?_|refine o2_ ?_|refine o3_ ?_|refine o4_ ?_|refine o5_ ?_|refine o6_ rfl ?_|refine o7_ rfl ?_|refine o8_ ?_|refine o9_ ?_|refine oa_ ?_|refine ob_ ?_|refine oc_ ?_|refine od_ ?_|refine oe_ ?_|refine of_ ?_|refine og_ ?_|refine oh_ ?_|refine oi_ ?_|refine oj_ ?_|refine ok_ ?_))) <;> (try simp (disch := first|omega|(simp only [length_ints, length_natsI, length_u8s, List.length_set, List.length_reverse, List.length_replicate, List.length_append, List.length_cons, List.length_nil, List.length_map]; omega)) only [push_cast, ↓reduceIte, reduceIte, reduceCtorEq, Nat.reduceAdd, Nat.reduceLT, Nat.reduceEqDiff, Nat.reduceLeDiff, Int.reduceAdd, Int.reduceLT, Int.reduceLE, Nat.reduceMul, b1, b2, d1, d2, d3, d4, d5, d6, d7, d8, hlst, hdl, e0, e1, e2, e3, e4, v0, v1, v2, v3, v4, w1, w2, w3, w4, w5, w6, w7, w8, w9, wa, hX, hY, Int.reduceToNat]))|refine at_go ?_|(with_reducible refine And.intro (at_go ?_) (at_go ?_))|((with_reducible refine And.intro (fun h => ?_) (fun h => ?_)) <;> try (exfalso; omega))|(with_reducible refine And.intro (by first|omega|(simp only [maxLen]; omega)) ?_)|(first|(refine ⟨_, _, pc_lift (h10) (by (simp [idsL, idsE, AV.ids, Nat.add_zero])) _, ?_⟩)|(refine ⟨_, pc_lift (h10) (by (simp [idsL, idsE, AV.ids, Nat.add_zero])) _, ?_⟩)|(refine ⟨_, fun _ => pc_lift (h10) (by (simp [idsL, idsE, AV.ids, Nat.add_zero])) _, ?_⟩)|(refine ⟨_, _, pc_lift (h11) (by (simp [idsL, idsE, AV.ids, Nat.add_zero])) _, ?_⟩)|(refine ⟨_, pc_lift (h11) (by (simp [idsL, idsE, AV.ids, Nat.add_zero])) _, ?_⟩)|(refine ⟨_, fun _ => pc_lift (h11) (by (simp [idsL, idsE, AV.ids, Nat.add_zero])) _, ?_⟩)|(refine ⟨_, _, pc_lift (l6) (by (simp [idsL, idsE, AV.ids, Nat.add_zero])) _, ?_⟩)|(refine ⟨_, pc_lift (l6) (by (simp [idsL, idsE, AV.ids, Nat.add_zero])) _, ?_⟩)|(refine ⟨_, fun _ => pc_lift (l6) (by (simp [idsL, idsE, AV.ids, Nat.add_zero])) _, ?_⟩)|(refine ⟨_, _, pc_lift (l8) (by (simp [idsL, idsE, AV.ids, Nat.add_zero])) _, ?_⟩)|(refine ⟨_, pc_lift (l8) (by (simp [idsL, idsE, AV.ids, Nat.add_zero])) _, ?_⟩)|(refine ⟨_, fun _ => pc_lift (l8) (by (simp [idsL, idsE, AV.ids, Nat.add_zero])) _, ?_⟩))|simp (disch := first|omega|(simp only [length_ints, length_natsI, length_u8s, List.length_set, List.length_reverse, List.length_replicate, List.length_append, List.length_cons, List.length_nil, List.length_map]; omega)) only [push_cast, ↓reduceIte, reduceIte, reduceCtorEq, Nat.reduceAdd, Nat.reduceLT, Nat.reduceEqDiff, Nat.reduceLeDiff, Int.reduceAdd, Int.reduceLT, Int.reduceLE, Nat.reduceMul, b1, b2, d1, d2, d3, d4, d5, d6, d7, d8, hlst, hdl, e0, e1, e2, e3, e4, v0, v1, v2, v3, v4, w1, w2, w3, w4, w5, w6, w7, w8, w9, wa, hX, hY, Int.reduceToNat])
    refine out_round_take (3125 - (n + 1)) 0 (by omega) (by (first|trivial|((repeat' apply And.intro) <;> first|trivial|assumption|omega|(simp only [maxLen]; omega)|(simp only [length_ints, length_natsI, length_u8s, List.length_replicate, List.length_append, List.length_cons, List.length_nil, List.length_map, List.length_take, List.length_drop, List.length_set, List.length_reverse, maxLen] <;> omega)))) (by omega) (by simp) (by simp [Blk.below, idsE, idsL, AV.ids]) ⟨n + 1, by omega, rfl, rfl, ?_⟩
    simp (disch := first|omega|(simp only [length_ints, length_natsI, length_u8s, List.length_set, List.length_reverse, List.length_replicate, List.length_append, List.length_cons, List.length_nil, List.length_map]; omega)) only [push_cast, ↓reduceIte, reduceIte, reduceCtorEq, Nat.reduceAdd, Nat.reduceLT, Nat.reduceEqDiff, Nat.reduceLeDiff, Int.reduceAdd, Int.reduceLT, Int.reduceLE, Nat.reduceMul, b1, b2, hcs, scrub, AV.ids]
   ·rw [he] at h10 h11
    rw [he, if_neg (by decide)] at hcs
    clear hdg
    generalize dgI n = D at *
    by_cases h11' : (m11 : Int) = 0
    ·repeat' (first|(first|(refine a0_ ?_; first|refine a1_ rfl rfl ?_|refine a2_ rfl ?_|refine a3_ rfl rfl ?_|refine a4_ rfl ?_|refine a5_ rfl rfl rfl ?_|refine a6_ rfl rfl ?_|refine a7_ rfl rfl ?_|refine a8_ rfl rfl ?_|refine a9_ rfl rfl rfl ?_)|(refine g0_ ?_; first|refine g1_ rfl ?_|refine g2_ rfl rfl ?_|refine go_drawN (dr := allQ) (p := [0, 1, 1, 1, 0, 0, 1, 0, 0, 1, 0, 1, 1]) [] [] [(22, 23)] rfl rfl mixed (by kernel_rfl) ?_|refine go_drawN (dr := allQ) (p := [0, 1, 1, 1]) [] [(99, none)] [] rfl rfl mixed (by kernel_rfl) ?_|refine go_draw (dr := allQ) rfl rfl mixed (by first|assumption|kernel_rfl) ?_|refine g4_ rfl ?_|refine g5_ rfl ?_|refine g6_ rfl ?_|refine g7_ rfl ?_|refine g8_ rfl ?_|refine ga_ rfl ?_|refine gb_ rfl ?_)|(refine o0_ ?_; first|refine o1_ ?_|refine o2_ ?_|refine o3_ ?_|refine o4_ ?_|refine o5_ ?_|refine o6_ rfl ?_|refine o7_ rfl ?_|refine o8_ ?_|refine o9_ ?_|refine oa_ ?_|refine ob_ ?_|refine oc_ ?_|refine od_ ?_|refine oe_ ?_|refine of_ ?_|refine og_ ?_|refine oh_ ?_|refine oi_ ?_|refine oj_ ?_|refine ok_ ?_))|refine at_go ?_|(with_reducible refine And.intro (at_go ?_) (at_go ?_))|((with_reducible refine And.intro (fun h => ?_) (fun h => ?_)) <;> try (exfalso; omega))|(with_reducible refine And.intro (by first|omega|(simp only [maxLen]; omega)) ?_)|(first|(refine ⟨_, _, pc_lift (h10) (by (simp [idsL, idsE, AV.ids, Nat.add_zero])) _, ?_⟩)|(refine ⟨_, pc_lift (h10) (by (simp [idsL, idsE, AV.ids, Nat.add_zero])) _, ?_⟩)|(refine ⟨_, fun _ => pc_lift (h10) (by (simp [idsL, idsE, AV.ids, Nat.add_zero])) _, ?_⟩)|(refine ⟨_, _, pc_lift (h11) (by (simp [idsL, idsE, AV.ids, Nat.add_zero])) _, ?_⟩)|(refine ⟨_, pc_lift (h11) (by (simp [idsL, idsE, AV.ids, Nat.add_zero])) _, ?_⟩)|(refine ⟨_, fun _ => pc_lift (h11) (by (simp [idsL, idsE, AV.ids, Nat.add_zero])) _, ?_⟩)|(refine ⟨_, _, pc_lift (hof) (by (simp [idsL, idsE, AV.ids, Nat.add_zero])) _, ?_⟩)|(refine ⟨_, pc_lift (hof) (by (simp [idsL, idsE, AV.ids, Nat.add_zero])) _, ?_⟩)|(refine ⟨_, fun _ => pc_lift (hof) (by (simp [idsL, idsE, AV.ids, Nat.add_zero])) _, ?_⟩))|simp (disch := first|omega|(simp only [length_ints, length_natsI, length_u8s, List.length_set, List.length_reverse, List.length_replicate, List.length_append, List.length_cons, List.length_nil, List.length_map]; omega)) only [push_cast, ↓reduceIte, reduceIte, reduceCtorEq, Nat.reduceAdd, Nat.reduceLT, Nat.reduceEqDiff, Nat.reduceLeDiff, Int.reduceAdd, Int.reduceLT, Int.reduceLE, Nat.reduceMul, b1, b2, d1, d2, d3, d4, d5, d6, d7, d8, d9, hlst, h11'])
     refine out_round (3125 - (n + 1)) (by omega) (by (first|trivial|((repeat' apply And.intro) <;> first|trivial|assumption|omega|(simp only [maxLen]; omega)|(simp only [length_ints, length_natsI, length_u8s, List.length_replicate, List.length_append, List.length_cons, List.length_nil, List.length_map, List.length_take, List.length_drop, List.length_set, List.length_reverse, maxLen] <;> omega)))) ⟨n + 1, by omega, rfl, rfl, ?_⟩
     simp (disch := first|omega|(simp only [length_ints, length_natsI, length_u8s, List.length_set, List.length_reverse, List.length_replicate, List.length_append, List.length_cons, List.length_nil, List.length_map]; omega)) only [push_cast, ↓reduceIte, reduceIte, reduceCtorEq, Nat.reduceAdd, Nat.reduceLT, Nat.reduceEqDiff, Nat.reduceLeDiff, Int.reduceAdd, Int.reduceLT, Int.reduceLE, Nat.reduceMul, b1, b2, d1, d2, d3, d4, d5, d6, d7, d8, d9, hlst, h11']
     rw [hcs]; rfl
    ·have h11n : ¬ m11 = 0 := by omega
     repeat' (first|(first|(refine a0_ ?_; first|refine a1_ rfl rfl ?_|refine a2_ rfl ?_|refine a3_ rfl rfl ?_|refine a4_ rfl ?_|refine a5_ rfl rfl rfl ?_|refine a6_ rfl rfl ?_|refine a7_ rfl rfl ?_|refine a8_ rfl rfl ?_|refine a9_ rfl rfl rfl ?_)|(refine g0_ ?_; first|refine g1_ rfl ?_|refine g2_ rfl rfl ?_|refine go_drawN (dr := allQ) (p := [0, 1, 1, 1, 0, 0, 1, 0, 0, 1, 0, 1, 1]) [] [] [(22, 23)] rfl rfl mixed (by kernel_rfl) ?_|refine go_drawN (dr := allQ) (p := [0, 1, 1, 1]) [] [(99, none)] [] rfl rfl mixed (by kernel_rfl) ?_|refine go_draw (dr := allQ) rfl rfl mixed (by first|assumption|kernel_rfl) ?_|refine g4_ rfl ?_|refine g5_ rfl ?_|refine g6_ rfl ?_|refine g7_ rfl ?_|refine g8_ rfl ?_|refine ga_ rfl ?_|refine gb_ rfl ?_)|(refine o0_ ?_; first|refine o1_ ?_|refine o2_ ?_|refine o3_ ?_|refine o4_ ?_|refine o5_ ?_|refine o6_ rfl ?_|refine o7_ rfl ?_|refine o8_ ?_|refine o9_ ?_|refine oa_ ?_|refine ob_ ?_|refine oc_ ?_|refine od_ ?_|refine oe_ ?_|refine of_ ?_|refine og_ ?_|refine oh_ ?_|refine oi_ ?_|refine oj_ ?_|refine ok_ ?_))|refine at_go ?_|(with_reducible refine And.intro (at_go ?_) (at_go ?_))|((with_reducible refine And.intro (fun h => ?_) (fun h => ?_)) <;> try (exfalso; omega))|(with_reducible refine And.intro (by first|omega|(simp only [maxLen]; omega)) ?_)|(first|(refine ⟨_, _, pc_lift (h10) (by (simp [idsL, idsE, AV.ids, Nat.add_zero])) _, ?_⟩)|(refine ⟨_, pc_lift (h10) (by (simp [idsL, idsE, AV.ids, Nat.add_zero])) _, ?_⟩)|(refine ⟨_, fun _ => pc_lift (h10) (by (simp [idsL, idsE, AV.ids, Nat.add_zero])) _, ?_⟩)|(refine ⟨AV.int .i64 1, ?_⟩; refine acc_id ?_))|simp (disch := first|omega|(simp only [length_ints, length_natsI, length_u8s, List.length_set, List.length_reverse, List.length_replicate, List.length_append, List.length_cons, List.length_nil, List.length_map]; omega)) only [push_cast, ↓reduceIte, reduceIte, reduceCtorEq, Nat.reduceAdd, Nat.reduceLT, Nat.reduceEqDiff, Nat.reduceLeDiff, Int.reduceAdd, Int.reduceLT, Int.reduceLE, Nat.reduceMul, b1, b2, d1, d2, d3, d4, d5, d6, d7, d8, d9, hlst, h11', h11n])
     refine out_round (3125 - (n + 1)) (by omega) (by (first|trivial|((repeat' apply And.intro) <;> first|trivial|assumption|omega|(simp only [maxLen]; omega)|(simp only [length_ints, length_natsI, length_u8s, List.length_replicate, List.length_append, List.length_cons, List.length_nil, List.length_map, List.length_take, List.length_drop, List.length_set, List.length_reverse, maxLen] <;> omega)))) ⟨n + 1, by omega, rfl, rfl, ?_⟩
     simp (disch := first|omega|(simp only [length_ints, length_natsI, length_u8s, List.length_set, List.length_reverse, List.length_replicate, List.length_append, List.length_cons, List.length_nil, List.length_map]; omega)) only [push_cast, ↓reduceIte, reduceIte, reduceCtorEq, Nat.reduceAdd, Nat.reduceLT, Nat.reduceEqDiff, Nat.reduceLeDiff, Int.reduceAdd, Int.reduceLT, Int.reduceLE, Nat.reduceMul, b1, b2, d1, d2, d3, d4, d5, d6, d7, d8, d9, hlst, h11', h11n]
     rw [hcs]; rfl
  ·obtain rfl : n = 3125 := by omega
   rw [hc52] at b1
   repeat' (first|(first|(refine a0_ ?_; first|refine a1_ rfl rfl ?_|refine a2_ rfl ?_|refine a3_ rfl rfl ?_|refine a4_ rfl ?_|refine a5_ rfl rfl rfl ?_|refine a6_ rfl rfl ?_|refine a7_ rfl rfl ?_|refine a8_ rfl rfl ?_|refine a9_ rfl rfl rfl ?_)|(refine g0_ ?_; first|(with_reducible refine stop_at (p := [0, 1, 1, 1]) ?_)|refine g1_ rfl ?_|refine g2_ rfl rfl ?_|refine go_drawN (dr := allQ) (p := [0, 1, 1, 1, 0, 0, 1, 0, 0, 1, 0, 1, 1]) [] [] [(22, 23)] rfl rfl mixed (by kernel_rfl) ?_|refine go_drawN (dr := allQ) (p := [0, 1, 1, 1]) [] [(99, none)] [] rfl rfl mixed (by kernel_rfl) ?_|refine go_draw (dr := allQ) rfl rfl mixed (by first|assumption|kernel_rfl) ?_|refine g4_ rfl ?_|refine g5_ rfl ?_|refine g6_ rfl ?_|refine g7_ rfl ?_|refine g8_ rfl ?_|refine ga_ rfl ?_|refine gb_ rfl ?_)|(refine o0_ ?_; first|refine o1_ ?_|refine o2_ ?_|refine o3_ ?_|refine o4_ ?_|refine o5_ ?_|refine o6_ rfl ?_|refine o7_ rfl ?_|refine o8_ ?_|refine o9_ ?_|refine oa_ ?_|refine ob_ ?_|refine oc_ ?_|refine od_ ?_|refine oe_ ?_|refine of_ ?_|refine og_ ?_|refine oh_ ?_|refine oi_ ?_|refine oj_ ?_|refine ok_ ?_))|refine at_go ?_|(with_reducible refine And.intro (at_go ?_) (at_go ?_))|((with_reducible refine And.intro (fun h => ?_) (fun h => ?_)) <;> try (exfalso; omega))|(with_reducible refine And.intro (by first|omega|(simp only [maxLen]; omega)) ?_)|(first|(refine ⟨_, _, pc_lift (h10) (by (simp [idsL, idsE, AV.ids, Nat.add_zero])) _, ?_⟩)|(refine ⟨_, pc_lift (h10) (by (simp [idsL, idsE, AV.ids, Nat.add_zero])) _, ?_⟩)|(refine ⟨_, fun _ => pc_lift (h10) (by (simp [idsL, idsE, AV.ids, Nat.add_zero])) _, ?_⟩)|(refine ⟨AV.int .i64 1, ?_⟩; refine acc_id ?_))|simp (disch := first|omega|(simp only [length_ints, length_natsI, length_u8s, List.length_set, List.length_reverse, List.length_replicate, List.length_append, List.length_cons, List.length_nil, List.length_map]; omega)) only [push_cast, ↓reduceIte, reduceIte, reduceCtorEq, Nat.reduceAdd, Nat.reduceLT, Nat.reduceEqDiff, Nat.reduceLeDiff, Int.reduceAdd, Int.reduceLT, Int.reduceLE, Nat.reduceMul, b1, b2])
   refine Halt.mk ?_
   refine go_draw (dr := mxQ) rfl rfl mixed (by kernel_rfl) ?_
   repeat' (first|(first|(refine a0_ ?_; first|refine a1_ rfl rfl ?_|refine a2_ rfl ?_|refine a3_ rfl rfl ?_|refine a4_ rfl ?_|refine a5_ rfl rfl rfl ?_|refine a6_ rfl rfl ?_|refine a7_ rfl rfl ?_|refine a8_ rfl rfl ?_|refine a9_ rfl rfl rfl ?_)|(refine g0_ ?_; first|refine g1_ rfl ?_|refine g2_ rfl rfl ?_|refine go_drawN (dr := allQ) (p := [0, 1, 1, 1, 0, 0, 1, 0, 0, 1, 0, 1, 1]) [] [] [(22, 23)] rfl rfl mixed (by kernel_rfl) ?_|refine go_drawN (dr := allQ) (p := [0, 1, 1, 1]) [] [(99, none)] [] rfl rfl mixed (by kernel_rfl) ?_|refine go_draw (dr := allQ) rfl rfl mixed (by first|assumption|kernel_rfl) ?_|refine g4_ rfl ?_|refine g5_ rfl ?_|refine g6_ rfl ?_|refine g7_ rfl ?_|refine g8_ rfl ?_|refine ga_ rfl ?_|refine gb_ rfl ?_)|(refine o0_ ?_; first|refine o1_ ?_|refine o2_ ?_|refine o3_ ?_|refine o4_ ?_|refine o5_ ?_|refine o6_ rfl ?_|refine o7_ rfl ?_|refine o8_ ?_|refine o9_ ?_|refine oa_ ?_|refine ob_ ?_|refine oc_ ?_|refine od_ ?_|refine oe_ ?_|refine of_ ?_|refine og_ ?_|refine oh_ ?_|refine oi_ ?_|refine oj_ ?_|refine ok_ ?_))|refine at_go ?_|(with_reducible refine And.intro (at_go ?_) (at_go ?_))|((with_reducible refine And.intro (fun h => ?_) (fun h => ?_)) <;> try (exfalso; omega))|(with_reducible refine And.intro (by first|omega|(simp only [maxLen]; omega)) ?_)|(first|(refine ⟨_, _, mk256, ?_⟩)|(refine ⟨_, mk256, ?_⟩)|(refine ⟨_, fun _ => mk256, ?_⟩)|(refine ⟨_, _, mk257, ?_⟩)|(refine ⟨_, mk257, ?_⟩)|(refine ⟨_, fun _ => mk257, ?_⟩)|(refine ⟨_, _, pc_lift (k1) (by (simp [idsL, idsE, AV.ids, Nat.add_zero])) _, ?_⟩)|(refine ⟨_, pc_lift (k1) (by (simp [idsL, idsE, AV.ids, Nat.add_zero])) _, ?_⟩)|(refine ⟨_, fun _ => pc_lift (k1) (by (simp [idsL, idsE, AV.ids, Nat.add_zero])) _, ?_⟩)|(refine ⟨_, _, pc_lift (k2) (by (simp [idsL, idsE, AV.ids, Nat.add_zero])) _, ?_⟩)|(refine ⟨_, pc_lift (k2) (by (simp [idsL, idsE, AV.ids, Nat.add_zero])) _, ?_⟩)|(refine ⟨_, fun _ => pc_lift (k2) (by (simp [idsL, idsE, AV.ids, Nat.add_zero])) _, ?_⟩)|(refine ⟨_, _, pc_lift (k3) (by (simp [idsL, idsE, AV.ids, Nat.add_zero])) _, ?_⟩)|(refine ⟨_, pc_lift (k3) (by (simp [idsL, idsE, AV.ids, Nat.add_zero])) _, ?_⟩)|(refine ⟨_, fun _ => pc_lift (k3) (by (simp [idsL, idsE, AV.ids, Nat.add_zero])) _, ?_⟩)|(refine ⟨_, _, pc_lift (k4) (by (simp [idsL, idsE, AV.ids, Nat.add_zero])) _, ?_⟩)|(refine ⟨_, pc_lift (k4) (by (simp [idsL, idsE, AV.ids, Nat.add_zero])) _, ?_⟩)|(refine ⟨_, fun _ => pc_lift (k4) (by (simp [idsL, idsE, AV.ids, Nat.add_zero])) _, ?_⟩)|(refine ⟨_, _, pc_lift (k5) (by (simp [idsL, idsE, AV.ids, Nat.add_zero])) _, ?_⟩)|(refine ⟨_, pc_lift (k5) (by (simp [idsL, idsE, AV.ids, Nat.add_zero])) _, ?_⟩)|(refine ⟨_, fun _ => pc_lift (k5) (by (simp [idsL, idsE, AV.ids, Nat.add_zero])) _, ?_⟩)|(refine ⟨_, _, pc_lift (k6) (by (simp [idsL, idsE, AV.ids, Nat.add_zero])) _, ?_⟩)|(refine ⟨_, pc_lift (k6) (by (simp [idsL, idsE, AV.ids, Nat.add_zero])) _, ?_⟩)|(refine ⟨_, fun _ => pc_lift (k6) (by (simp [idsL, idsE, AV.ids, Nat.add_zero])) _, ?_⟩)|(refine ⟨_, _, pc_lift (h15) (by (simp [idsL, idsE, AV.ids, Nat.add_zero])) _, ?_⟩)|(refine ⟨_, pc_lift (h15) (by (simp [idsL, idsE, AV.ids, Nat.add_zero])) _, ?_⟩)|(refine ⟨_, fun _ => pc_lift (h15) (by (simp [idsL, idsE, AV.ids, Nat.add_zero])) _, ?_⟩))|simp (disch := first|omega|(simp only [length_ints, length_natsI, length_u8s, List.length_set, List.length_reverse, List.length_replicate, List.length_append, List.length_cons, List.length_nil, List.length_map]; omega)) only [push_cast, ↓reduceIte, reduceIte, reduceCtorEq, Nat.reduceAdd, Nat.reduceLT, Nat.reduceEqDiff, Nat.reduceLeDiff, Int.reduceAdd, Int.reduceLT, Int.reduceLE, Nat.reduceMul, b1, b2])
end Go.Proofs
