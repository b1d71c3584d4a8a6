import Derived.Test.YtfdnlhegmdhcjaaDoorF7
namespace Go.Proofs
open Go Go.V
set_option linter.unusedVariables false
set_option linter.unusedSimpArgs false
set_option maxHeartbeats 0
set_option maxRecDepth 100000 in
theorem all41 (i o : Int) (l : List Row) (c : Option Nat) (z : Nat) (ks : List Int) (ck : Option Nat) : PC Tryd.prog G0 41 [mA i o l c, .sl z (ints ks) ck] (.fn 61 [.iptr [.sl z (ints ks) ck] 0, .iptr (macC i o l c) 0]) := by
 unfold mA macC
 refine pc_go 3 6 [.tmp 4] Tryd.func41 rfl rfl rfl (by simp) ?_
 intro s ⟨a0, a1, hz⟩
 simp only [Nat.zero_add, Nat.reduceAdd] at a1
 clear hz
 repeat' (first|(first|(refine a0_ ?_; first|refine a1_ rfl rfl ?_|refine a2_ rfl ?_|refine a3_ rfl rfl ?_|refine a4_ rfl ?_|refine ak_ rfl rfl ?_|refine a5_ rfl rfl rfl ?_|refine a6_ rfl rfl ?_|refine a7_ rfl rfl ?_|refine a8_ rfl rfl ?_|refine a9_ rfl rfl rfl ?_)|(refine g0_ ?_; first|refine g1_ rfl ?_|refine g2_ rfl rfl ?_|refine go_draw (dr := allQ) rfl rfl mixed (by first|assumption|kernel_rfl) ?_|refine g4_ rfl ?_|refine g5_ rfl ?_|refine g6_ rfl ?_|refine g7_ rfl ?_|refine g8_ rfl ?_|refine ga_ rfl ?_|refine gb_ rfl ?_)|(refine o0_ ?_; first|refine o1_ ?_|refine o2_ ?_|refine o3_ ?_|refine o4_ ?_|refine o5_ ?_|refine o6_ rfl ?_|refine o7_ rfl ?_|refine o8_ ?_|refine o9_ ?_|refine oa_ ?_|refine ob_ ?_|refine oc_ ?_|refine od_ ?_|refine oe_ ?_|refine of_ ?_|refine og_ ?_|refine oh_ ?_|refine oi_ ?_|refine oj_ ?_|refine ok_ ?_))|refine at_go ?_|(with_reducible refine And.intro (at_go ?_) (at_go ?_))|((with_reducible refine And.intro (fun h => ?_) (fun h => ?_)) <;> try (exfalso; omega))|(with_reducible refine And.intro (by first|omega|(simp only [maxLen]; omega)) ?_)|(refine And.intro ⟨[_], rfl⟩ ?_)|(refine And.intro ⟨[], by simp only [List.append_nil]⟩ ?_)|fail|simp (disch := first|omega|(simp only [List.length_map, lenF, lenS]; omega)) only [push_cast, ↓reduceIte, reduceIte, reduceCtorEq, Nat.reduceAdd, Nat.reduceLT, Nat.reduceEqDiff, Nat.reduceLeDiff, Int.reduceAdd, Int.reduceLT, Int.reduceLE, Nat.reduceMul, a0, a1])
def fK (R : RR) (I O : Nat) (k : Int) (j : Nat) : List Flt := ((edL R I R.length).take j).flatMap fun p => ofF R I O k (p.1 : Nat) (p.2 : Nat)
theorem fK_all (R : RR) (I O : Nat) (k : Int) : fK R I O k (edL R I R.length).length = edgF R I O k := by
 rw [fK, List.take_length, edL, edgF, List.flatMap_assoc]
 congr 1; funext s
 rw [List.flatMap_assoc]
 congr 1; funext i
 split <;> simp
theorem fK_succ (R : RR) (I O : Nat) (k : Int) (j : Nat) (h : j < (edL R I R.length).length) : fK R I O k (j + 1) = fK R I O k j ++ ofF R I O k (((edL R I R.length).getD j (0, 0)).1 : Nat) (((edL R I R.length).getD j (0, 0)).2 : Nat) := by
 rw [fK, List.take_succ_eq_append_getElem h, List.flatMap_append, fK]
 congr 1
 simp [h]
theorem edL_def {R : RR} {I n j : Nat} (h : j < (edL R I n).length) : ((edL R I n).getD j (0, 0)).1 < n ∧ ((edL R I n).getD j (0, 0)).2 < I ∧ defR R I (((edL R I n).getD j (0, 0)).1 : Nat) (((edL R I n).getD j (0, 0)).2 : Nat) = true := by
 have hm : (edL R I n).getD j (0, 0) ∈ edL R I n := by
  rw [List.getD_eq_getElem?_getD, List.getElem?_eq_getElem h]; exact List.getElem_mem h
 generalize (edL R I n).getD j (0, 0) = p at *
 rw [edL, List.mem_flatMap] at hm
 obtain ⟨s, hs, hm⟩ := hm
 rw [List.mem_flatMap] at hm
 obtain ⟨i, hi, hm⟩ := hm
 split at hm
 ·rename_i hd
  rw [List.mem_singleton] at hm
  subst hm
  exact ⟨List.mem_range.1 hs, List.mem_range.1 hi, hd⟩
 ·cases hm
theorem allF_take (R : RR) (I O : Nat) (ks : List Int) (p : Nat) (h : p < ks.length) : allF R I O (ks.take (p + 1)) = allF R I O (ks.take p) ++ edgF R I O (ks.getD p 0) := by
 rw [allF, List.take_succ_eq_append_getElem h, List.flatMap_append, allF]
 simp [h]
theorem step_over (f : Nat → Nat) (q : Nat) : ∀ N, f 0 ≤ q → q < f N → ∃ m, m < N ∧ f m ≤ q ∧ q < f (m + 1)
 | 0, h0, h => by omega
 | N + 1, h0, h => by
  rcases Nat.lt_or_ge q (f N) with h1|h1
  ·obtain ⟨m, a, b, c⟩ := step_over f q N h0 h1
   exact ⟨m, by omega, b, c⟩
  ·exact ⟨N, by omega, h1, h⟩
theorem of63 (i o : Int) (l : List Row) (c : Option Nat) (hm : machOk i o l = 0) (k : Int) (hk : 0 ≤ k ∧ k ≤ 4) (u v : Nat) (hdt : defA i l u v = true) :
  PC Tryd.prog G0 63 [mA i o l c, .int .i64 k, .int .i64 u, .int .i64 v] (.sl 6 (fls (ofF (edgesOf l) i.toNat o.toNat k u v)) none) ∧ (ofF (edgesOf l) i.toNat o.toNat k u v).length ≤ 1000 := by
 obtain ⟨m1, m2, m3, m4, m5⟩ := machOk_zero hm
 obtain ⟨d1, d2, d3, d4, d5⟩ := defR_iff.1 hdt
 rw [edgesOf_len] at d2
 have hu : u < l.length := by omega
 have e1 := getD_rowsA l u hu
 have hq := m4 u hu
 have e2 := getD_rowA (l.getD u ([], none)).1 v (by omega)
 obtain ⟨x1, x2, hx⟩ : ∃ x1 x2, (l.getD u ([], none)).1.getD v (0, 0) = (x1, x2) := ⟨_, _, rfl⟩
 have hE : edR (edgesOf l) u v = (x1, x2) := (edR_rows l u v).trans hx
 rw [hx] at e2
 unfold mA
 have hk' : k = 0 ∨ k = 1 ∨ k = 2 ∨ k = 3 ∨ k = 4 := by omega
 have hrl : (l.getD u ([], none)).1.length ≤ 1000 := by omega
 rcases hk' with rfl|rfl|rfl|rfl|rfl
 ·have h := of63_0 i o l c _ u v _ x1 x2 o.toNat (by omega) (by omega) e1 hu (by omega) (by omega) hrl e2
  have e : ofF (edgesOf l) i.toNat o.toNat 0 u v = outsL 0 u v x2 o.toNat := by rw [ofF, if_pos rfl, hE]; rfl
  rw [e]
  exact ⟨h, Nat.le_trans (outsL_len _ _ _ _ _) (by omega)⟩
 ·have h := of63_1 i o l c _ u v _ x1 x2 l.length rfl (by omega) e1 hu (by omega) (by omega) hrl e2
  have e : ofF (edgesOf l) i.toNat o.toNat 1 u v = tosL 1 u v x1 l.length := by rw [ofF, if_neg (by decide), if_pos rfl, hE, edgesOf_len]; rfl
  rw [e]
  exact ⟨h, Nat.le_trans (tosL_len _ _ _ _ _) (by omega)⟩
 ·have h := of63_2 i o l c _ u v _ x1 x2 e1 hu (by omega) (by omega) hrl e2
  have e : ofF (edgesOf l) i.toNat o.toNat 2 u v = [⟨2, u, v, 0, 0, 0⟩] := by rw [ofF, if_neg (by decide), if_neg (by decide), if_pos rfl]
  rw [e]
  exact ⟨h, by simp⟩
 ·have h := of63_3 i o l c _ u v _ x1 x2 l.length rfl (by omega) e1 hu (by omega) (by omega) hrl e2
  have e : ofF (edgesOf l) i.toNat o.toNat 3 u v = allL 3 u v l.length := by rw [ofF, if_neg (by decide), if_neg (by decide), if_neg (by decide), if_pos rfl, edgesOf_len]; rfl
  rw [e]
  exact ⟨h, Nat.le_trans (allL_len _ _ _ _) (by omega)⟩
 ·have hE2 := edR_mem (mach_okM hm) (s := u) (i := v) (by omega) (by rw [edgesOf_len]; omega) (by omega) d4
  rw [hE] at hE2 d5
  have hx1 : 0 ≤ x1 ∧ x1 < l.length := by
   rw [edgesOf_len] at hE2
   rcases hE2 with q|q
   ·injection q with q1 q2; exact absurd q1 d5
   ·exact ⟨q.1, q.2.1⟩
  obtain ⟨p, rfl⟩ : ∃ p : Nat, x1 = p := ⟨x1.toNat, by omega⟩
  have hp : p < l.length := by omega
  have e3 := getD_rowsA l p hp
  have hq2 := m4 p hp
  have h := of63_4 i o l c _ _ u v p _ _ x2 o.toNat (by omega) (by omega) e1 hu (by omega) (by omega) hrl e2 e3 hp (by omega)
  have e : ofF (edgesOf l) i.toNat o.toNat 4 u v = deepL 4 u v (l.getD p ([], none)).1 o.toNat (l.getD p ([], none)).1.length := by
   rw [ofF, if_neg (by decide), if_neg (by decide), if_neg (by decide), if_neg (by decide), if_pos rfl, hE, deepL]
   have : i.toNat = (l.getD p ([], none)).1.length := by omega
   rw [this]
   congr 1; funext a
   simp only [deepI, edR_rows]
  rw [e]
  refine ⟨h, Nat.le_trans (deepL_len _ _ _ _ _ _) ?_⟩
  exact Nat.le_trans (Nat.mul_le_mul (show _ ≤ 16 by omega) (show _ ≤ 16 by omega)) (by omega)
theorem fK_at {R : RR} {I O : Nat} {k : Int} {j r : Nat} (h : j < (edL R I R.length).length) (hr : r < (ofF R I O k (((edL R I R.length).getD j (0, 0)).1 : Nat) (((edL R I R.length).getD j (0, 0)).2 : Nat)).length) :
  (edgF R I O k).getD ((fK R I O k j).length + r) fl0 = (ofF R I O k (((edL R I R.length).getD j (0, 0)).1 : Nat) (((edL R I R.length).getD j (0, 0)).2 : Nat)).getD r fl0 ∧ (fK R I O k j).length + r < (edgF R I O k).length := by
 have e : edgF R I O k = fK R I O k (j + 1) ++ ((edL R I R.length).drop (j + 1)).flatMap fun p => ofF R I O k (p.1 : Nat) (p.2 : Nat) := by
  rw [← fK_all, fK, fK, ← List.flatMap_append, List.take_append_drop, List.take_length]
 rw [e, fK_succ R I O k j h, List.append_assoc, List.length_append, List.length_append]
 refine ⟨?_, by omega⟩
 rw [List.getD_eq_getElem?_getD, List.getElem?_append_right (by omega), Nat.add_sub_cancel_left, List.getElem?_append_left hr, ← List.getD_eq_getElem?_getD]
theorem fK_zero (R : RR) (I O : Nat) (k : Int) : fK R I O k 0 = [] := by simp [fK]
end Go.Proofs
