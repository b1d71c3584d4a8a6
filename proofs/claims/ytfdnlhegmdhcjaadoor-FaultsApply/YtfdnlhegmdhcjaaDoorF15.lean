import Derived.Test.YtfdnlhegmdhcjaaDoorF3
import Derived.Test.YtfdnlhegmdhcjaaDoorV44
import Derived.Test.YtfdnlhegmdhcjaaDoorV54
namespace Go.Proofs
open Go Go.V
set_option linter.unusedVariables false
set_option linter.unusedSimpArgs false
set_option maxHeartbeats 0
theorem rowA_cons (e : Edg) (r : List Edg) : rowA (e :: r) = eA e :: rowA r := rfl
set_option maxRecDepth 100000 in
theorem clone34 (r : List Edg) (c : Option Nat) (H : List Blk) (hr : 1 ≤ r.length ∧ r.length ≤ 1000000) : ACalls Tryd.prog G0 34 [.sl 2 (rowA r) c] H (.own H.length r.length r.length none) (H ++ [.row 2 46 (rowA r)]) := by
 cases r with
 | nil => simp at hr
 | cons x xs =>
  simp only [List.length_cons] at hr
  refine ac_go 8 [.tmp 2] Tryd.func34 rfl rfl rfl (by simp) ?_
  intro s ⟨a0, hz⟩
  clear hz
  repeat' (first|(first|(refine a0_ ?_; first|refine a1_ rfl rfl ?_|refine a2_ rfl ?_|refine a3_ rfl rfl ?_|refine a4_ rfl ?_|refine ak_ rfl rfl ?_|refine a5_ rfl rfl rfl ?_|refine a6_ rfl rfl ?_|refine a7_ rfl rfl ?_|refine a8_ rfl rfl ?_|refine a9_ rfl rfl rfl ?_)|(refine g0_ ?_; first|refine g1_ rfl ?_|refine g2_ rfl rfl ?_|refine go_draw (dr := allQ) rfl rfl mixed (by first|assumption|kernel_rfl) ?_|refine g4_ rfl ?_|refine g5_ rfl ?_|refine g6_ rfl ?_|refine g7_ rfl ?_|refine g8_ rfl ?_|refine ga_ rfl ?_|refine gb_ rfl ?_)|(refine o0_ ?_; first|refine o1_ ?_|refine o2_ ?_|refine o3_ ?_|refine o4_ ?_|refine o5_ ?_|refine o6_ rfl ?_|refine o7_ rfl ?_|refine o8_ ?_|refine o9_ ?_|refine oa_ ?_|refine ob_ ?_|refine oc_ ?_|refine od_ ?_|refine oe_ ?_|refine of_ ?_|refine og_ ?_|refine oh_ ?_|refine oi_ ?_|refine oj_ ?_|refine ok_ ?_))|refine at_go ?_|(with_reducible refine And.intro (at_go ?_) (at_go ?_))|((with_reducible refine And.intro (fun h => ?_) (fun h => ?_)) <;> try (exfalso; omega))|(with_reducible refine And.intro (by first|omega|(simp only [maxLen]; omega)) ?_)|(refine And.intro ⟨[_], rfl⟩ ?_)|(refine And.intro ⟨[], by simp only [List.append_nil]⟩ ?_)|fail|simp (disch := first|omega|(simp only [List.length_map, lenF, lenS]; omega)) only [push_cast, ↓reduceIte, reduceIte, reduceCtorEq, Nat.reduceAdd, Nat.reduceLT, Nat.reduceEqDiff, Nat.reduceLeDiff, Int.reduceAdd, Int.reduceLT, Int.reduceLE, Nat.reduceMul, a0, rowA_cons, length_rowA])
  (first|trivial|((repeat' apply And.intro) <;> first|trivial|assumption|omega|(simp only [maxLen]; omega)|(simp only [List.length_map, maxLen, lenF, lenS] <;> omega)))
set_option maxRecDepth 100000 in
theorem clip33_own (b n : Nat) (t : TypeId) (es : List (List AV)) (c : Option Nat) (H : List Blk) (hb : H[b]? = some (.row 2 t es)) (hh : n = es.length) : ACalls Tryd.prog G0 33 [.own b n n c] H (.own b n n (some n)) H := by
 subst hh
 refine ac_go 9 [.tmp 2] Tryd.func33 rfl rfl rfl (by simp) ?_
 intro s ⟨a0, hz⟩
 clear hz
 repeat' (first|(first|(refine a0_ ?_; first|refine a1_ rfl rfl ?_|refine a2_ rfl ?_|refine a3_ rfl rfl ?_|refine a4_ rfl ?_|refine ak_ rfl rfl ?_|refine a5_ rfl rfl rfl ?_|refine a6_ rfl rfl ?_|refine a7_ rfl rfl ?_|refine a8_ rfl rfl ?_|refine a9_ rfl rfl rfl ?_)|(refine g0_ ?_; first|refine g1_ rfl ?_|refine g2_ rfl rfl ?_|refine go_draw (dr := allQ) rfl rfl mixed (by first|assumption|kernel_rfl) ?_|refine g4_ rfl ?_|refine g5_ rfl ?_|refine g6_ rfl ?_|refine g7_ rfl ?_|refine g8_ rfl ?_|refine ga_ rfl ?_|refine gb_ rfl ?_)|(refine o0_ ?_; first|refine o1_ ?_|refine o2_ ?_|refine o3_ ?_|refine o4_ ?_|refine o5_ ?_|refine o6_ rfl ?_|refine o7_ rfl ?_|refine o8_ ?_|refine o9_ ?_|refine oa_ ?_|refine ob_ ?_|refine oc_ ?_|refine od_ ?_|refine oe_ ?_|refine of_ ?_|refine og_ ?_|refine oh_ ?_|refine oi_ ?_|refine oj_ ?_|refine ok_ ?_))|refine at_go ?_|(with_reducible refine And.intro (at_go ?_) (at_go ?_))|((with_reducible refine And.intro (fun h => ?_) (fun h => ?_)) <;> try (exfalso; omega))|(with_reducible refine And.intro (by first|omega|(simp only [maxLen]; omega)) ?_)|(refine And.intro ⟨[_], rfl⟩ ?_)|(refine And.intro ⟨[], by simp only [List.append_nil]⟩ ?_)|fail|simp (disch := first|omega|(simp only [List.length_map, lenF, lenS]; omega)) only [push_cast, ↓reduceIte, reduceIte, reduceCtorEq, Nat.reduceAdd, Nat.reduceLT, Nat.reduceEqDiff, Nat.reduceLeDiff, Int.reduceAdd, Int.reduceLT, Int.reduceLE, Nat.reduceMul, a0, hb])
set_option maxRecDepth 100000 in
theorem clip35_own (b n : Nat) (t : TypeId) (es : List (List AV)) (c : Option Nat) (H : List Blk) (hb : H[b]? = some (.row 1 t es)) (hh : n = es.length) : ACalls Tryd.prog G0 35 [.own b n n c] H (.own b n n (some n)) H := by
 subst hh
 refine ac_go 9 [.tmp 2] Tryd.func35 rfl rfl rfl (by simp) ?_
 intro s ⟨a0, hz⟩
 clear hz
 repeat' (first|(first|(refine a0_ ?_; first|refine a1_ rfl rfl ?_|refine a2_ rfl ?_|refine a3_ rfl rfl ?_|refine a4_ rfl ?_|refine ak_ rfl rfl ?_|refine a5_ rfl rfl rfl ?_|refine a6_ rfl rfl ?_|refine a7_ rfl rfl ?_|refine a8_ rfl rfl ?_|refine a9_ rfl rfl rfl ?_)|(refine g0_ ?_; first|refine g1_ rfl ?_|refine g2_ rfl rfl ?_|refine go_draw (dr := allQ) rfl rfl mixed (by first|assumption|kernel_rfl) ?_|refine g4_ rfl ?_|refine g5_ rfl ?_|refine g6_ rfl ?_|refine g7_ rfl ?_|refine g8_ rfl ?_|refine ga_ rfl ?_|refine gb_ rfl ?_)|(refine o0_ ?_; first|refine o1_ ?_|refine o2_ ?_|refine o3_ ?_|refine o4_ ?_|refine o5_ ?_|refine o6_ rfl ?_|refine o7_ rfl ?_|refine o8_ ?_|refine o9_ ?_|refine oa_ ?_|refine ob_ ?_|refine oc_ ?_|refine od_ ?_|refine oe_ ?_|refine of_ ?_|refine og_ ?_|refine oh_ ?_|refine oi_ ?_|refine oj_ ?_|refine ok_ ?_))|refine at_go ?_|(with_reducible refine And.intro (at_go ?_) (at_go ?_))|((with_reducible refine And.intro (fun h => ?_) (fun h => ?_)) <;> try (exfalso; omega))|(with_reducible refine And.intro (by first|omega|(simp only [maxLen]; omega)) ?_)|(refine And.intro ⟨[_], rfl⟩ ?_)|(refine And.intro ⟨[], by simp only [List.append_nil]⟩ ?_)|fail|simp (disch := first|omega|(simp only [List.length_map, lenF, lenS]; omega)) only [push_cast, ↓reduceIte, reduceIte, reduceCtorEq, Nat.reduceAdd, Nat.reduceLT, Nat.reduceEqDiff, Nat.reduceLeDiff, Int.reduceAdd, Int.reduceLT, Int.reduceLE, Nat.reduceMul, a0, hb])
theorem rowA_set (r : List Edg) (v : Nat) (x y : Int) : (rowA r).set v [.int .i64 x, .int .i64 y] = rowA (r.set v (x, y)) := by
 rw [rowA, rowA, List.map_set]; rfl
theorem mapA_set (T : List (List Edg)) (u : Nat) (r : List Edg) : (T.map rowA).set u (rowA r) = (T.set u r).map rowA := by rw [List.map_set]
theorem getD_mapA (T : List (List Edg)) (u : Nat) : (T.map rowA).getD u [] = rowA (T.getD u []) := by
 rw [List.getD_eq_getElem?_getD, List.getElem?_map, List.getD_eq_getElem?_getD]
 cases T[u]? <;> rfl
theorem applyR_small {R : RR} {k t a o : Int} {u v : Nat} (h3 : k ≠ 3) (h4 : k ≠ 4) : applyR R ⟨k, u, v, t, a, o⟩ = R.set u ((R.getD u []).set v (newE R ⟨k, u, v, t, a, o⟩)) := by
 rw [applyR, newR, if_neg h3, if_neg h4, List.append_nil, setE]
 simp
theorem applyR_big {R : RR} {f : Flt} {u v : Nat} {r : List (Int × Int)} (hs : f.s = u) (hi : f.i = v) (hr : newR R f = [r]) (hu : u < R.length) : applyR R f = R.set u ((R.getD u []).set v (newE R f)) ++ [r] := by
 rw [applyR, hr, setE, hs, hi]
 simp only [Int.toNat_natCast]
 rw [getD_left _ _ _ _ hu, List.set_append_left _ _ hu]
end Go.Proofs
