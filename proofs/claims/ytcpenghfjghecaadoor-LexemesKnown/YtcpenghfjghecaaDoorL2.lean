import Derived.Test.YtcpenghfjghecaaDoorL1
import Derived.Test.YtcpenghfjghecaaDoorLL
import Derived.Lib.IndexAny
/- Lexemes: marks, words, tokens, gaps, walked. -/
namespace Go.Proofs
open Go Go.V
set_option linter.unusedVariables false
set_option linter.unusedSimpArgs false
set_option maxHeartbeats 0
set_option maxRecDepth 100000
theorem pairH_pre (s0 : Bs) : pairH s0 = (Lib.hasPrefix s0 [45, 62] || (Lib.hasPrefix s0 [60, 61] || (Lib.hasPrefix s0 [62, 61] || (Lib.hasPrefix s0 [33, 61] || Lib.hasPrefix s0 [58, 61])))) := by
  match s0 with
  | [] => rfl
  | [c] => simp [pairH, Lib.hasPrefix, List.isPrefixOf]
  | c :: d :: r =>
    simp only [pairH, pairB, Lib.hasPrefix, List.isPrefixOf, Bool.and_true]
    rw [Bool.eq_iff_iff]
    simp only [Bool.or_eq_true, Bool.and_eq_true, decide_eq_true_eq, beq_iff_eq]
    constructor
    · rintro (⟨rfl, rfl⟩ | ⟨(((rfl | rfl) | rfl) | rfl), rfl⟩) <;> simp
    · rintro (⟨rfl, rfl⟩ | ⟨rfl, rfl⟩ | ⟨rfl, rfl⟩ | ⟨rfl, rfl⟩ | ⟨rfl, rfl⟩) <;> simp
theorem take_pre {s0 : Bs} {a b : UInt8} (h : Lib.hasPrefix s0 [a, b] = true) : s0.take 2 = [a, b] := by
  match s0, h with
  | [], h => cases h
  | [c], h => simp [Lib.hasPrefix] at h
  | c :: d :: r, h =>
    simp only [Lib.hasPrefix, List.isPrefixOf, Bool.and_true, Bool.and_eq_true, beq_iff_eq] at h
    obtain ⟨rfl, rfl⟩ := h; rfl
theorem sng_idx (c : UInt8) : (0 ≤ Lib.indexByte sngs c) = (sngB c = true) := by
  have := Lib.contains_iff_indexByte sngs c
  apply propext
  unfold sngB
  rw [this]; simp
theorem headD_getD (s0 : Bs) : s0.headD 0 = s0.getD 0 0 := by cases s0 <;> rfl
theorem markN_no (s : Bs) (q : pairH s = false) : markN s = if s = [] then 0 else if sngB (s.getD 0 0) = true then 1 else 0 := by
  unfold markN
  rw [if_neg (by rw [q]; decide)]
  cases s <;> rfl
theorem mark44_nil : PC Tryd.prog G0 44 [.str []] (.str []) := by
  have q : ∀ (a b : UInt8) (H : List Blk), ACalls Tryd.prog G0 57 [.str [], .str [a, b]] H (.bool false) H := fun a b H => pre57 H [] [a, b]
  refine pc_go 0 24 [.tmp 2] Tryd.func44 rfl rfl rfl (by simp) ?_
  intro s ⟨a0, hz⟩
  clear hz
  repeat' (first | (first | (refine a0_ ?_; first | refine a1_ rfl rfl ?_ | refine a2_ rfl ?_ | refine a3_ rfl rfl ?_ | refine a4_ rfl ?_ | refine a5_ rfl rfl rfl ?_ | refine a6_ rfl rfl ?_ | refine a7_ rfl rfl ?_ | refine a8_ rfl rfl ?_ | refine a9_ rfl rfl rfl ?_) | (refine g0_ ?_; first | (with_reducible refine stop_at (p := [0, 1, 0, 1]) ?_) | refine g1_ rfl ?_ | refine g2_ rfl rfl ?_ | refine go_draw (dr := allQ) rfl rfl mixed (by first | assumption | kernel_rfl) ?_ | refine g4_ rfl ?_ | refine g5_ rfl ?_ | refine g6_ rfl ?_ | refine g7_ rfl ?_ | refine g8_ rfl ?_ | refine ga_ rfl ?_ | refine gb_ rfl ?_) | (refine o0_ ?_; first | refine o1_ ?_ | refine o2_ ?_ | refine o3_ ?_ | refine o4_ ?_ | refine o5_ ?_ | refine o6_ rfl ?_ | refine o7_ rfl ?_ | refine o8_ ?_ | refine o9_ ?_ | refine oa_ ?_ | refine ob_ ?_ | refine oc_ ?_ | refine od_ ?_ | refine oe_ ?_ | refine of_ ?_ | refine og_ ?_ | refine oh_ ?_ | refine oi_ ?_ | refine oj_ ?_ | refine ok_ ?_)) | refine at_go ?_ | (with_reducible refine And.intro (at_go ?_) (at_go ?_)) | ((with_reducible refine And.intro (fun h => ?_) (fun h => ?_)) <;> try (exfalso; omega)) | (with_reducible refine And.intro (by first | omega | (simp only [maxLen]; omega)) ?_) | (first | (refine ⟨_, _, q _ _ _, ?_⟩) | (refine ⟨_, q _ _ _, ?_⟩) | (refine ⟨_, fun _ => q _ _ _, ?_⟩) | (refine ⟨AV.str [], ?_⟩; refine acc_id ?_)) | simp (disch := first | omega | (simp only [List.length_nil, List.length_set, List.length_reverse, List.length_replicate, List.length_append, List.length_cons, List.length_nil, List.length_map]; omega)) only [push_cast, ↓reduceIte, reduceIte, reduceCtorEq, Nat.reduceAdd, Nat.reduceLT, Nat.reduceEqDiff, Nat.reduceLeDiff, Int.reduceAdd, Int.reduceLT, Int.reduceLE, Nat.reduceMul, a0, evS, G0_1, pairsG])
  refine Halt.mk ?_
  repeat' (first | (first | (refine a0_ ?_; first | refine a1_ rfl rfl ?_ | refine a2_ rfl ?_ | refine a3_ rfl rfl ?_ | refine a4_ rfl ?_ | refine a5_ rfl rfl rfl ?_ | refine a6_ rfl rfl ?_ | refine a7_ rfl rfl ?_ | refine a8_ rfl rfl ?_ | refine a9_ rfl rfl rfl ?_) | (refine g0_ ?_; first | refine g1_ rfl ?_ | refine g2_ rfl rfl ?_ | refine go_draw (dr := allQ) rfl rfl mixed (by first | assumption | kernel_rfl) ?_ | refine g4_ rfl ?_ | refine g5_ rfl ?_ | refine g6_ rfl ?_ | refine g7_ rfl ?_ | refine g8_ rfl ?_ | refine ga_ rfl ?_ | refine gb_ rfl ?_ | refine go_unroll 6 rfl ?_) | (refine o0_ ?_; first | refine o1_ ?_ | refine o2_ ?_ | refine o3_ ?_ | refine o4_ ?_ | refine o5_ ?_ | refine o6_ rfl ?_ | refine o7_ rfl ?_ | refine o8_ ?_ | refine o9_ ?_ | refine oa_ ?_ | refine ob_ ?_ | refine oc_ ?_ | refine od_ ?_ | refine oe_ ?_ | refine of_ ?_ | refine og_ ?_ | refine oh_ ?_ | refine oi_ ?_ | refine oj_ ?_ | refine ok_ ?_)) | refine at_go ?_ | (with_reducible refine And.intro (at_go ?_) (at_go ?_)) | ((with_reducible refine And.intro (fun h => ?_) (fun h => ?_)) <;> try (exfalso; omega)) | (with_reducible refine And.intro (by first | omega | (simp only [maxLen]; omega)) ?_) | (first | (refine ⟨_, _, q _ _ _, ?_⟩) | (refine ⟨_, q _ _ _, ?_⟩) | (refine ⟨_, fun _ => q _ _ _, ?_⟩) | (refine ⟨AV.str [], ?_⟩; refine acc_id ?_)) | simp (disch := first | omega | (simp only [List.length_nil, List.length_set, List.length_reverse, List.length_replicate, List.length_append, List.length_cons, List.length_nil, List.length_map]; omega)) only [push_cast, ↓reduceIte, reduceIte, reduceCtorEq, Nat.reduceAdd, Nat.reduceLT, Nat.reduceEqDiff, Nat.reduceLeDiff, Int.reduceAdd, Int.reduceLT, Int.reduceLE, Nat.reduceMul, a0, Int.reduceToNat])
theorem mark44_pos (s0 : Bs) (h0 : ¬ s0 = []) : PC Tryd.prog G0 44 [.str s0] (.str (s0.take (markN s0))) := by
  have hp := pairH_pre s0
  have t1 := @take_pre s0 45 62
  have t2 := @take_pre s0 60 61
  have t3 := @take_pre s0 62 61
  have t4 := @take_pre s0 33 61
  have t5 := @take_pre s0 58 61
  have q1 := fun H => pre57 H s0 [45, 62]
  have q2 := fun H => pre57 H s0 [60, 61]
  have q3 := fun H => pre57 H s0 [62, 61]
  have q4 := fun H => pre57 H s0 [33, 61]
  have q5 := fun H => pre57 H s0 [58, 61]
  have hm : pairH s0 = true → markN s0 = 2 := fun q => by unfold markN; rw [if_pos q]
  have hn := markN_no s0
  have hi := fun H => idx41 H sngs (s0.getD 0 0) ((s0.getD 0 0).toNat : Int) rfl
  have hx := sng_idx (s0.getD 0 0)
  generalize Lib.indexByte sngs (s0.getD 0 0) = ix at *
  generalize Lib.hasPrefix s0 [45, 62] = x1 at *
  generalize Lib.hasPrefix s0 [60, 61] = x2 at *
  generalize Lib.hasPrefix s0 [62, 61] = x3 at *
  generalize Lib.hasPrefix s0 [33, 61] = x4 at *
  generalize Lib.hasPrefix s0 [58, 61] = x5 at *
  have hcl : ∀ (a b : UInt8) (x : Bool), pairH s0 = true → (x = true → s0.take 2 = [a, b]) → x = true → AV.str [a, b] = AV.str (s0.take (markN s0)) := fun a b x h1 h2 h3 => by rw [hm h1, h2 h3]
  refine pc_go 0 24 [.tmp 2] Tryd.func44 rfl rfl rfl (by simp) ?_
  intro s ⟨a0, hz⟩
  clear hz
  repeat' (first | (first | (refine a0_ ?_; first | refine a1_ rfl rfl ?_ | refine a2_ rfl ?_ | refine a3_ rfl rfl ?_ | refine a4_ rfl ?_ | refine a5_ rfl rfl rfl ?_ | refine a6_ rfl rfl ?_ | refine a7_ rfl rfl ?_ | refine a8_ rfl rfl ?_ | refine a9_ rfl rfl rfl ?_) | (refine g0_ ?_; first | (with_reducible refine stop_at (p := [0, 1, 0, 1]) ?_) | refine g1_ rfl ?_ | refine g2_ rfl rfl ?_ | refine go_draw (dr := allQ) rfl rfl mixed (by first | assumption | kernel_rfl) ?_ | refine g4_ rfl ?_ | refine g5_ rfl ?_ | refine g6_ rfl ?_ | refine g7_ rfl ?_ | refine g8_ rfl ?_ | refine ga_ rfl ?_ | refine gb_ rfl ?_) | (refine o0_ ?_; first | refine o1_ ?_ | refine o2_ ?_ | refine o3_ ?_ | refine o4_ ?_ | refine o5_ ?_ | refine o6_ rfl ?_ | refine o7_ rfl ?_ | refine o8_ ?_ | refine o9_ ?_ | refine oa_ ?_ | refine ob_ ?_ | refine oc_ ?_ | refine od_ ?_ | refine oe_ ?_ | refine of_ ?_ | refine og_ ?_ | refine oh_ ?_ | refine oi_ ?_ | refine oj_ ?_ | refine ok_ ?_)) | refine at_go ?_ | (with_reducible refine And.intro (at_go ?_) (at_go ?_)) | ((with_reducible refine And.intro (fun h => ?_) (fun h => ?_)) <;> try (exfalso; omega)) | (with_reducible refine And.intro (by first | omega | (simp only [maxLen]; omega)) ?_) | (first | (refine ⟨_, _, q1 _, ?_⟩) | (refine ⟨_, q1 _, ?_⟩) | (refine ⟨_, fun _ => q1 _, ?_⟩) | (refine ⟨_, _, q2 _, ?_⟩) | (refine ⟨_, q2 _, ?_⟩) | (refine ⟨_, fun _ => q2 _, ?_⟩) | (refine ⟨_, _, q3 _, ?_⟩) | (refine ⟨_, q3 _, ?_⟩) | (refine ⟨_, fun _ => q3 _, ?_⟩) | (refine ⟨_, _, q4 _, ?_⟩) | (refine ⟨_, q4 _, ?_⟩) | (refine ⟨_, fun _ => q4 _, ?_⟩) | (refine ⟨_, _, q5 _, ?_⟩) | (refine ⟨_, q5 _, ?_⟩) | (refine ⟨_, fun _ => q5 _, ?_⟩) | (refine ⟨_, _, hi _, ?_⟩) | (refine ⟨_, hi _, ?_⟩) | (refine ⟨_, fun _ => hi _, ?_⟩)) | simp (disch := first | omega | (simp only [List.length_nil, List.length_set, List.length_reverse, List.length_replicate, List.length_append, List.length_cons, List.length_nil, List.length_map]; omega)) only [push_cast, ↓reduceIte, reduceIte, reduceCtorEq, Nat.reduceAdd, Nat.reduceLT, Nat.reduceEqDiff, Nat.reduceLeDiff, Int.reduceAdd, Int.reduceLT, Int.reduceLE, Nat.reduceMul, a0, evS, G0_1, pairsG])
  refine Halt.mk ?_
  have hl : (0 : Int) < s0.length := by have := List.length_pos_iff.2 h0; omega
  have hl1 : 1 ≤ s0.length := by omega
  repeat' (first | (first | (refine a0_ ?_; first | refine a1_ rfl rfl ?_ | refine a2_ rfl ?_ | refine a3_ rfl rfl ?_ | refine a4_ rfl ?_ | refine a5_ rfl rfl rfl ?_ | refine a6_ rfl rfl ?_ | refine a7_ rfl rfl ?_ | refine a8_ rfl rfl ?_ | refine a9_ rfl rfl rfl ?_) | (refine g0_ ?_; first | refine g1_ rfl ?_ | refine g2_ rfl rfl ?_ | refine go_draw (dr := allQ) rfl rfl mixed (by first | assumption | kernel_rfl) ?_ | refine g4_ rfl ?_ | refine g5_ rfl ?_ | refine g6_ rfl ?_ | refine g7_ rfl ?_ | refine g8_ rfl ?_ | refine ga_ rfl ?_ | refine gb_ rfl ?_ | refine go_unroll 6 rfl ?_) | (refine o0_ ?_; first | refine o1_ ?_ | refine o2_ ?_ | refine o3_ ?_ | refine o4_ ?_ | refine o5_ ?_ | refine o6_ rfl ?_ | refine o7_ rfl ?_ | refine o8_ ?_ | refine o9_ ?_ | refine oa_ ?_ | refine ob_ ?_ | refine oc_ ?_ | refine od_ ?_ | refine oe_ ?_ | refine of_ ?_ | refine og_ ?_ | refine oh_ ?_ | refine oi_ ?_ | refine oj_ ?_ | refine ok_ ?_)) | refine at_go ?_ | (with_reducible refine And.intro (at_go ?_) (at_go ?_)) | ((with_reducible refine And.intro (fun h => ?_) (fun h => ?_)) <;> try (exfalso; omega)) | (with_reducible refine And.intro (by first | omega | (simp only [maxLen]; omega)) ?_) | (first | (refine ⟨_, _, q1 _, ?_⟩) | (refine ⟨_, q1 _, ?_⟩) | (refine ⟨_, fun _ => q1 _, ?_⟩) | (refine ⟨_, _, q2 _, ?_⟩) | (refine ⟨_, q2 _, ?_⟩) | (refine ⟨_, fun _ => q2 _, ?_⟩) | (refine ⟨_, _, q3 _, ?_⟩) | (refine ⟨_, q3 _, ?_⟩) | (refine ⟨_, fun _ => q3 _, ?_⟩) | (refine ⟨_, _, q4 _, ?_⟩) | (refine ⟨_, q4 _, ?_⟩) | (refine ⟨_, fun _ => q4 _, ?_⟩) | (refine ⟨_, _, q5 _, ?_⟩) | (refine ⟨_, q5 _, ?_⟩) | (refine ⟨_, fun _ => q5 _, ?_⟩) | (refine ⟨_, _, hi _, ?_⟩) | (refine ⟨_, hi _, ?_⟩) | (refine ⟨_, fun _ => hi _, ?_⟩)) | simp (disch := first | omega | (simp only [List.length_nil, List.length_set, List.length_reverse, List.length_replicate, List.length_append, List.length_cons, List.length_nil, List.length_map]; omega)) only [push_cast, ↓reduceIte, reduceIte, reduceCtorEq, Nat.reduceAdd, Nat.reduceLT, Nat.reduceEqDiff, Nat.reduceLeDiff, Int.reduceAdd, Int.reduceLT, Int.reduceLE, Nat.reduceMul, a0, hx, Int.reduceToNat, h0, hl])
  · exact hcl _ _ _ (by rw [hp, h]; rfl) t1 h
  · rename_i h1; exact hcl _ _ _ (by rw [hp, h1, h]; rfl) t2 h
  · rename_i h1 h2; exact hcl _ _ _ (by rw [hp, h1, h2, h]; rfl) t3 h
  · rename_i h1 h2 h3; exact hcl _ _ _ (by rw [hp, h1, h2, h3, h]; rfl) t4 h
  · rename_i h1 h2 h3 h4; exact hcl _ _ _ (by rw [hp, h1, h2, h3, h4, h]; rfl) t5 h
  · rename_i h1 h2 h3 h4 h5
    rw [hn (by rw [hp, h1, h2, h3, h4, h5]; rfl), if_neg h0, if_pos h]
  · rename_i h1 h2 h3 h4 h5
    rw [hn (by rw [hp, h1, h2, h3, h4, h5]; rfl), if_neg h0, if_neg h]
    rfl
theorem mark44 (s0 : Bs) : PC Tryd.prog G0 44 [.str s0] (.str (s0.take (markN s0))) := by
  by_cases h : s0 = []
  · subst h; exact mark44_nil
  · exact mark44_pos s0 h
end Go.Proofs
