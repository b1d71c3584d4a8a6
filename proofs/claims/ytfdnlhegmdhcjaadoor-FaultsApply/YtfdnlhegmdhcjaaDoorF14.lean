import Derived.Test.YtfdnlhegmdhcjaaDoorF12
namespace Go.Proofs
open Go Go.V
set_option linter.unusedVariables false
set_option linter.unusedSimpArgs false
set_option maxHeartbeats 0
def orM : List Int → Int
 | [] => 0
 | x :: xs => if x = 0 then orM xs else x
def cmpL : List Int → List Int → Int
 | x :: xs, y :: ys => if cmpI x y ≠ 0 then cmpI x y else cmpL xs ys
 | _, _ => 0
set_option maxRecDepth 100000 in
theorem fOf10 (I O : Nat) (l : List Row) (c : Option Nat) (n : Nat) (hn : n < 65536) (hm : machOk I O l = 0) (hO : O ≤ 3) (hI : I ≤ 3) (hl : l.length ≤ 6) :
  PC Tryd.prog G0 10 [.agg [.int .u16 n], mA I O l c] (if (refF (edgesOf l) I O [0, 1, 2, 3, 4]).length = 0 then .tup [.agg (flA fl0), .bool false] else .tup [.agg (flA ((refF (edgesOf l) I O [0, 1, 2, 3, 4]).getD (n % (refF (edgesOf l) I O [0, 1, 2, 3, 4]).length) fl0)), .bool true]) := by
 have hr := refAll25 I O l c 1 [0, 1, 2, 3, 4] (some 5) hm hO hI hl (.inr rfl) (by decide)
 have hln : (refF (edgesOf l) I O [0, 1, 2, 3, 4]).length ≤ 5 * 972 := by
  rw [← p1_all]; exact p1_len _ _ _ _ hO hI (by rw [edgesOf_len]; exact hl) _ (by simp)
 simp only [ints, List.map_cons, List.map_nil] at hr
 unfold mA at *
 generalize refF (edgesOf l) I O [0, 1, 2, 3, 4] = L at *
 by_cases h0 : L.length = 0
 ·rw [if_pos h0]
  unfold flA
  refine pc_go 0 23 [.cell 4 33, .tmp 5] Tryd.func10 rfl rfl rfl (by simp) ?_
  intro s ⟨a0, a1, hz⟩
  simp only [Nat.zero_add, Nat.reduceAdd] at a1
  clear hz
  repeat' (first|(first|(refine a0_ ?_; first|refine a1_ rfl rfl ?_|refine a2_ rfl ?_|refine a3_ rfl rfl ?_|refine a4_ rfl ?_|refine ak_ rfl rfl ?_|refine a5_ rfl rfl rfl ?_|refine a6_ rfl rfl ?_|refine a7_ rfl rfl ?_|refine a8_ rfl rfl ?_|refine a9_ rfl rfl rfl ?_)|(refine g0_ ?_; first|refine g1_ rfl ?_|refine g2_ rfl rfl ?_|refine go_draw (dr := allQ) rfl rfl mixed (by first|assumption|kernel_rfl) ?_|refine g4_ rfl ?_|refine g5_ rfl ?_|refine g6_ rfl ?_|refine g7_ rfl ?_|refine g8_ rfl ?_|refine ga_ rfl ?_|refine gb_ rfl ?_)|(refine o0_ ?_; first|refine o1_ ?_|refine o2_ ?_|refine o3_ ?_|refine o4_ ?_|refine o5_ ?_|refine o6_ rfl ?_|refine o7_ rfl ?_|refine o8_ ?_|refine o9_ ?_|refine oa_ ?_|refine ob_ ?_|refine oc_ ?_|refine od_ ?_|refine oe_ ?_|refine of_ ?_|refine og_ ?_|refine oh_ ?_|refine oi_ ?_|refine oj_ ?_|refine ok_ ?_))|refine at_go ?_|(with_reducible refine And.intro (at_go ?_) (at_go ?_))|((with_reducible refine And.intro (fun h => ?_) (fun h => ?_)) <;> try (exfalso; omega))|(with_reducible refine And.intro (by first|omega|(simp only [maxLen]; omega)) ?_)|(refine And.intro ⟨[_], rfl⟩ ?_)|(refine And.intro ⟨[], by simp only [List.append_nil]⟩ ?_)|(first|(refine ⟨_, _, pc_lift (hr) (by (simp [idsL, idsE, AV.ids, Nat.add_zero])) _, ?_⟩)|(refine ⟨_, pc_lift (hr) (by (simp [idsL, idsE, AV.ids, Nat.add_zero])) _, ?_⟩)|(refine ⟨_, fun _ => pc_lift (hr) (by (simp [idsL, idsE, AV.ids, Nat.add_zero])) _, ?_⟩))|simp (disch := first|omega|(simp only [List.length_map, lenF, lenS]; omega)) only [push_cast, ↓reduceIte, reduceIte, reduceCtorEq, Nat.reduceAdd, Nat.reduceLT, Nat.reduceEqDiff, Nat.reduceLeDiff, Int.reduceAdd, Int.reduceLT, Int.reduceLE, Nat.reduceMul, a0, a1, h0])
  exact ⟨rfl, rfl, rfl, rfl, rfl, rfl⟩
 ·rw [if_neg h0]
  have hmod := Nat.mod_lt n (show 0 < L.length by omega)
  have h3 : (n : Int).tmod (L.length : Int) = ((n % L.length : Nat) : Int) := rfl
  generalize n % L.length = q at *
  have e1 := getD_fls L q hmod
  generalize L.getD q fl0 = f at *
  unfold flA at *
  have h0' : ¬ ((L.length : Int) = 0) := by omega
  refine pc_go 0 23 [.cell 4 33, .tmp 5] Tryd.func10 rfl rfl rfl (by simp) ?_
  intro s ⟨a0, a1, hz⟩
  simp only [Nat.zero_add, Nat.reduceAdd] at a1
  clear hz
  repeat' (first|(first|(refine a0_ ?_; first|refine a1_ rfl rfl ?_|refine a2_ rfl ?_|refine a3_ rfl rfl ?_|refine a4_ rfl ?_|refine ak_ rfl rfl ?_|refine a5_ rfl rfl rfl ?_|refine a6_ rfl rfl ?_|refine a7_ rfl rfl ?_|refine a8_ rfl rfl ?_|refine a9_ rfl rfl rfl ?_)|(refine g0_ ?_; first|refine g1_ rfl ?_|refine g2_ rfl rfl ?_|refine go_draw (dr := allQ) rfl rfl mixed (by first|assumption|kernel_rfl) ?_|refine g4_ rfl ?_|refine g5_ rfl ?_|refine g6_ rfl ?_|refine g7_ rfl ?_|refine g8_ rfl ?_|refine ga_ rfl ?_|refine gb_ rfl ?_)|(refine o0_ ?_; first|refine o1_ ?_|refine o2_ ?_|refine o3_ ?_|refine o4_ ?_|refine o5_ ?_|refine o6_ rfl ?_|refine o7_ rfl ?_|refine o8_ ?_|refine o9_ ?_|refine oa_ ?_|refine ob_ ?_|refine oc_ ?_|refine od_ ?_|refine oe_ ?_|refine of_ ?_|refine og_ ?_|refine oh_ ?_|refine oi_ ?_|refine oj_ ?_|refine ok_ ?_))|refine at_go ?_|(with_reducible refine And.intro (at_go ?_) (at_go ?_))|((with_reducible refine And.intro (fun h => ?_) (fun h => ?_)) <;> try (exfalso; omega))|(with_reducible refine And.intro (by first|omega|(simp only [maxLen]; omega)) ?_)|(refine And.intro ⟨[_], rfl⟩ ?_)|(refine And.intro ⟨[], by simp only [List.append_nil]⟩ ?_)|(first|(refine ⟨_, _, pc_lift (hr) (by (simp [idsL, idsE, AV.ids, Nat.add_zero])) _, ?_⟩)|(refine ⟨_, pc_lift (hr) (by (simp [idsL, idsE, AV.ids, Nat.add_zero])) _, ?_⟩)|(refine ⟨_, fun _ => pc_lift (hr) (by (simp [idsL, idsE, AV.ids, Nat.add_zero])) _, ?_⟩))|simp (disch := first|omega|(simp only [List.length_map, lenF, lenS]; omega)) only [push_cast, ↓reduceIte, reduceIte, reduceCtorEq, Nat.reduceAdd, Nat.reduceLT, Nat.reduceEqDiff, Nat.reduceLeDiff, Int.reduceAdd, Int.reduceLT, Int.reduceLE, Nat.reduceMul, a0, a1, h0, h0', h3, e1])
  omega
end Go.Proofs
