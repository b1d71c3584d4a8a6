import Derived.Test.YtfdnlhegmdhcjaaDoorF19
import Derived.Test.YtfdnlhegmdhcjaaDoorF13
namespace Go.Proofs
open Go Go.V
set_option linter.unusedVariables false
set_option linter.unusedSimpArgs false
set_option maxHeartbeats 0
theorem atoi_itoa {n : Int} (h : 0 ≤ n ∧ n ≤ 999) : (atoiM (Lib.itoa n)).1 = n := by
 have hf : ∀ k : Fin 1000, (atoiM (Lib.itoa ((k.1 : Nat) : Int))).1 = ((k.1 : Nat) : Int) := by decide +kernel
 obtain ⟨m, rfl⟩ : ∃ m : Nat, n = m := ⟨n.toNat, by omega⟩
 exact hf ⟨m, by omega⟩
theorem kdN_name (k : Int) (h : 0 ≤ k ∧ k ≤ 4) : kdN (nameF k) = k := by
 have hk : k = 0 ∨ k = 1 ∨ k = 2 ∨ k = 3 ∨ k = 4 := by omega
 rcases hk with rfl|rfl|rfl|rfl|rfl <;> decide
theorem textF_eq {f : Flt} {s : Bs} : textF f = some s ↔ okF f = true ∧ nameF f.k ++ numsB (fldF f) = s := by
 unfold textF
 split
 ·rename_i h
  simp [h]
 ·rename_i h
  simp [h]
def parV (s : Bs) : AV := match parseF s with
 | some f => .tup [.agg (flA f), .int .i64 0]
 | none => .tup [.agg (flA fl0), .int .i64 4]
theorem parse30 (s : Bs) (hl : s.length ≤ 100000) : PC Tryd.prog G0 30 [.str s] (parV s) := by
 obtain ⟨_, hne⟩ := split_back [32] (by decide) s.length s (Nat.le_refl _)
 obtain ⟨w, r0, hs⟩ : ∃ w r0, splitM s [32] = w :: r0 := by
  cases h : splitM s [32] with
  | nil => exact absurd h hne
  | cons w r0 => exact ⟨w, r0, rfl⟩
 have hp := parse30_go s w r0 hs hl
 have e : parV s = if kdN w < 0 then .tup [.agg (flA fl0), .int .i64 4] else parG s (takeF (kdN w) (r0.map fun w => (atoiM w).1)) := by
  unfold parV
  cases hpf : parseF s with
  | some f =>
   have ht := text_parseF hpf
   obtain ⟨hok, htx⟩ := textF_eq.1 ht
   have hsp := split_textF ht
   rw [hs] at hsp
   injection hsp with h1 h2
   have hk : 0 ≤ f.k ∧ f.k ≤ 4 := by
    simp only [okF, plainF, Bool.and_eq_true, decide_eq_true_eq] at hok
    omega
   have hm : (r0.map fun w => (atoiM w).1) = fldF f := by
    rw [h2, List.map_map]
    have hfp := fld_pos hok
    conv => rhs; rw [← List.map_id (fldF f)]
    exact List.map_congr_left fun n hn => atoi_itoa (hfp n hn)
   rw [h1, kdN_name f.k hk, if_neg (by omega), hm, takeF_fld hok, parG, if_pos ⟨hok, htx⟩]
  | none =>
   by_cases hkk : kdN w < 0
   ·rw [if_pos hkk]
   ·rw [if_neg hkk, parG, if_neg]
    intro hh
    have := parse_textF (textF_eq.2 hh)
    rw [hpf] at this; cases this
 rw [e]
 exact hp
set_option maxRecDepth 100000 in
theorem texts32 (L : List Flt) (W : List Bs) (c d : Option Nat) (hl : L.length = W.length) (hn : L.length ≤ 1000) (hne : L ≠ []) (hW : ∀ w ∈ W, w.length ≤ 1000) (h : ∀ k, k < L.length → textF (L.getD k fl0) = some (W.getD k [])) :
  PC Tryd.prog G0 32 [.sl 6 (fls L) c, .sl 1 (strs W) d] (.bool true) := by
 have hlw : (strs W).length = L.length := by rw [strs_len, hl]
 refine pc_go 0 59 [.tmp 4] Tryd.func32 rfl rfl rfl (by simp) ?_
 intro s ⟨a0, a1, hz⟩
 simp only [Nat.zero_add, Nat.reduceAdd] at a1
 clear hz
 repeat' (first|(first|(refine a0_ ?_; first|refine a1_ rfl rfl ?_|refine a2_ rfl ?_|refine a3_ rfl rfl ?_|refine a4_ rfl ?_|refine ak_ rfl rfl ?_|refine a5_ rfl rfl rfl ?_|refine a6_ rfl rfl ?_|refine a7_ rfl rfl ?_|refine a8_ rfl rfl ?_|refine a9_ rfl rfl rfl ?_)|(refine g0_ ?_; first|refine g1_ rfl ?_|refine g2_ rfl rfl ?_|refine go_draw (dr := allQ) rfl rfl mixed (by first|assumption|kernel_rfl) ?_|refine g4_ rfl ?_|refine g5_ rfl ?_|refine g6_ rfl ?_|refine g7_ rfl ?_|refine g8_ rfl ?_|refine ga_ rfl ?_|refine gb_ rfl ?_)|(refine o0_ ?_; first|refine o1_ ?_|refine o2_ ?_|refine o3_ ?_|refine o4_ ?_|refine o5_ ?_|refine o6_ rfl ?_|refine o7_ rfl ?_|refine o8_ ?_|refine o9_ ?_|refine oa_ ?_|refine ob_ ?_|refine oc_ ?_|refine od_ ?_|refine oe_ ?_|refine of_ ?_|refine og_ ?_|refine oh_ ?_|refine oi_ ?_|refine oj_ ?_|refine ok_ ?_))|refine at_go ?_|(with_reducible refine And.intro (at_go ?_) (at_go ?_))|((with_reducible refine And.intro (fun h => ?_) (fun h => ?_)) <;> try (exfalso; omega))|(with_reducible refine And.intro (by first|omega|(simp only [maxLen]; omega)) ?_)|(refine And.intro ⟨[_], rfl⟩ ?_)|(refine And.intro ⟨[], by simp only [List.append_nil]⟩ ?_)|fail|simp (disch := first|omega|(simp only [List.length_map, lenF, lenS]; omega)) only [push_cast, ↓reduceIte, reduceIte, reduceCtorEq, Nat.reduceAdd, Nat.reduceLT, Nat.reduceEqDiff, Nat.reduceLeDiff, Int.reduceAdd, Int.reduceLT, Int.reduceLE, Nat.reduceMul, a0, a1, hlw])
 refine go_loop rfl (fun mz s' H' => ∃ k : Nat, k ≤ L.length ∧ mz = L.length - k ∧ H' = [] ∧ s' 0 = .sl 6 (fls L) c ∧ s' 1 = .sl 1 (strs W) d ∧ s' 5 = .int .i64 k) (m := L.length) (by (first|trivial|((repeat' apply And.intro) <;> first|trivial|assumption|omega|(simp only [maxLen]; omega)|(simp only [List.length_map, maxLen, lenF, lenS] <;> omega)))) (Weak.refl _ _) ⟨0, by omega, by omega, rfl, ?_⟩ ?_
 ·simp (disch := first|omega|(simp only [List.length_map, lenF, lenS]; omega)) only [push_cast, ↓reduceIte, reduceIte, reduceCtorEq, Nat.reduceAdd, Nat.reduceLT, Nat.reduceEqDiff, Nat.reduceLeDiff, Int.reduceAdd, Int.reduceLT, Int.reduceLE, Nat.reduceMul, a0, a1, hlw]
 ·rintro mz s' H' ⟨k, hk, rfl, rfl, b0, b1, b5⟩
  rcases Nat.lt_or_ge k L.length with hlt|hge
  ·have e1 := getD_fls L k hlt
   have e2 : (strs W).getD k [] = [.str (W.getD k [])] := by
    have : k < W.length := by omega
    simp [strs, this]
   have ht := h k hlt
   have hw1 : (W.getD k []).length ≤ 1000 := hW _ (by rw [List.getD_eq_getElem?_getD, List.getElem?_eq_getElem (by omega : k < W.length)]; exact List.getElem_mem _)
   obtain ⟨hok, htx⟩ := textF_eq.1 ht
   have hT := text23 (L.getD k fl0)
   have hP := parse30 (W.getD k []) (by omega)
   unfold textV at hT
   rw [if_pos hok, htx] at hT
   unfold parV at hP
   rw [parse_textF ht] at hP
   dsimp only at hP
   generalize W.getD k [] = w at *
   generalize L.getD k fl0 = f at *
   have hfe := eq33u f.k f.s f.i f.t f.a f.o f.k f.s f.i f.t f.a f.o
   unfold flA at *
   repeat' (first|(first|(refine a0_ ?_; first|refine a1_ rfl rfl ?_|refine a2_ rfl ?_|refine a3_ rfl rfl ?_|refine a4_ rfl ?_|refine ak_ rfl rfl ?_|refine a5_ rfl rfl rfl ?_|refine a6_ rfl rfl ?_|refine a7_ rfl rfl ?_|refine a8_ rfl rfl ?_|refine a9_ rfl rfl rfl ?_)|(refine g0_ ?_; first|refine g1_ rfl ?_|refine g2_ rfl rfl ?_|refine go_draw (dr := allQ) rfl rfl mixed (by first|assumption|kernel_rfl) ?_|refine g4_ rfl ?_|refine g5_ rfl ?_|refine g6_ rfl ?_|refine g7_ rfl ?_|refine g8_ rfl ?_|refine ga_ rfl ?_|refine gb_ rfl ?_)|(refine o0_ ?_; first|refine o1_ ?_|refine o2_ ?_|refine o3_ ?_|refine o4_ ?_|refine o5_ ?_|refine o6_ rfl ?_|refine o7_ rfl ?_|refine o8_ ?_|refine o9_ ?_|refine oa_ ?_|refine ob_ ?_|refine oc_ ?_|refine od_ ?_|refine oe_ ?_|refine of_ ?_|refine og_ ?_|refine oh_ ?_|refine oi_ ?_|refine oj_ ?_|refine ok_ ?_))|refine at_go ?_|(with_reducible refine And.intro (at_go ?_) (at_go ?_))|((with_reducible refine And.intro (fun h => ?_) (fun h => ?_)) <;> try (exfalso; omega))|(with_reducible refine And.intro (by first|omega|(simp only [maxLen]; omega)) ?_)|(refine And.intro ⟨[_], rfl⟩ ?_)|(refine And.intro ⟨[], by simp only [List.append_nil]⟩ ?_)|(first|(refine ⟨_, _, pc_lift (hT) (by (simp [idsL, idsE, AV.ids, Nat.add_zero])) _, ?_⟩)|(refine ⟨_, pc_lift (hT) (by (simp [idsL, idsE, AV.ids, Nat.add_zero])) _, ?_⟩)|(refine ⟨_, fun _ => pc_lift (hT) (by (simp [idsL, idsE, AV.ids, Nat.add_zero])) _, ?_⟩)|(refine ⟨_, _, pc_lift (hP) (by (simp [idsL, idsE, AV.ids, Nat.add_zero])) _, ?_⟩)|(refine ⟨_, pc_lift (hP) (by (simp [idsL, idsE, AV.ids, Nat.add_zero])) _, ?_⟩)|(refine ⟨_, fun _ => pc_lift (hP) (by (simp [idsL, idsE, AV.ids, Nat.add_zero])) _, ?_⟩))|simp (disch := first|omega|(simp only [List.length_map, lenF, lenS]; omega)) only [push_cast, ↓reduceIte, reduceIte, reduceCtorEq, Nat.reduceAdd, Nat.reduceLT, Nat.reduceEqDiff, Nat.reduceLeDiff, Int.reduceAdd, Int.reduceLT, Int.reduceLE, Nat.reduceMul, b0, b1, b5, e1, e2, hlw, hfe, Int.reduceEq])
   have hids : ∀ p, idsE p (strs W) = true := fun p => idsE_map _ _ fun x => by simp [idsL, AV.ids]
   refine out_round_take (L.length - (k + 1)) 0 (by omega) (by (first|trivial|((repeat' apply And.intro) <;> first|trivial|assumption|omega|(simp only [maxLen]; omega)|(simp only [List.length_map, maxLen, lenF, lenS] <;> omega)))) (by omega) (by simp) (by simp) ⟨k + 1, by omega, rfl, rfl, ?_⟩
   simp (disch := first|omega|(simp only [List.length_map, lenF, lenS]; omega)) only [push_cast, ↓reduceIte, reduceIte, reduceCtorEq, Nat.reduceAdd, Nat.reduceLT, Nat.reduceEqDiff, Nat.reduceLeDiff, Int.reduceAdd, Int.reduceLT, Int.reduceLE, Nat.reduceMul, b0, b1, b5, scrub, AV.ids, idsL, idsE_fls, hids]
  ·obtain rfl : k = L.length := by omega
   repeat' (first|(first|(refine a0_ ?_; first|refine a1_ rfl rfl ?_|refine a2_ rfl ?_|refine a3_ rfl rfl ?_|refine a4_ rfl ?_|refine ak_ rfl rfl ?_|refine a5_ rfl rfl rfl ?_|refine a6_ rfl rfl ?_|refine a7_ rfl rfl ?_|refine a8_ rfl rfl ?_|refine a9_ rfl rfl rfl ?_)|(refine g0_ ?_; first|refine g1_ rfl ?_|refine g2_ rfl rfl ?_|refine go_draw (dr := allQ) rfl rfl mixed (by first|assumption|kernel_rfl) ?_|refine g4_ rfl ?_|refine g5_ rfl ?_|refine g6_ rfl ?_|refine g7_ rfl ?_|refine g8_ rfl ?_|refine ga_ rfl ?_|refine gb_ rfl ?_)|(refine o0_ ?_; first|refine o1_ ?_|refine o2_ ?_|refine o3_ ?_|refine o4_ ?_|refine o5_ ?_|refine o6_ rfl ?_|refine o7_ rfl ?_|refine o8_ ?_|refine o9_ ?_|refine oa_ ?_|refine ob_ ?_|refine oc_ ?_|refine od_ ?_|refine oe_ ?_|refine of_ ?_|refine og_ ?_|refine oh_ ?_|refine oi_ ?_|refine oj_ ?_|refine ok_ ?_))|refine at_go ?_|(with_reducible refine And.intro (at_go ?_) (at_go ?_))|((with_reducible refine And.intro (fun h => ?_) (fun h => ?_)) <;> try (exfalso; omega))|(with_reducible refine And.intro (by first|omega|(simp only [maxLen]; omega)) ?_)|(refine And.intro ⟨[_], rfl⟩ ?_)|(refine And.intro ⟨[], by simp only [List.append_nil]⟩ ?_)|(first|(refine ⟨_, _, pc_lift (hT) (by (simp [idsL, idsE, AV.ids, Nat.add_zero])) _, ?_⟩)|(refine ⟨_, pc_lift (hT) (by (simp [idsL, idsE, AV.ids, Nat.add_zero])) _, ?_⟩)|(refine ⟨_, fun _ => pc_lift (hT) (by (simp [idsL, idsE, AV.ids, Nat.add_zero])) _, ?_⟩)|(refine ⟨_, _, pc_lift (hP) (by (simp [idsL, idsE, AV.ids, Nat.add_zero])) _, ?_⟩)|(refine ⟨_, pc_lift (hP) (by (simp [idsL, idsE, AV.ids, Nat.add_zero])) _, ?_⟩)|(refine ⟨_, fun _ => pc_lift (hP) (by (simp [idsL, idsE, AV.ids, Nat.add_zero])) _, ?_⟩))|simp (disch := first|omega|(simp only [List.length_map, lenF, lenS]; omega)) only [push_cast, ↓reduceIte, reduceIte, reduceCtorEq, Nat.reduceAdd, Nat.reduceLT, Nat.reduceEqDiff, Nat.reduceLeDiff, Int.reduceAdd, Int.reduceLT, Int.reduceLE, Nat.reduceMul, b0, b1, b5, hlw])
end Go.Proofs
