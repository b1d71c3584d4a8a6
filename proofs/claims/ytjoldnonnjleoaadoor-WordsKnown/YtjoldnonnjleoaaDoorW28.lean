import Derived.Test.YtjoldnonnjleoaaDoorW27
import Derived.Test.YtjoldnonnjleoaaDoorW25
/- Words: the walk of WordsNext, joined. -/
namespace Go.Proofs
open Go Go.V
set_option linter.unusedVariables false
set_option linter.unusedSimpArgs false
set_option maxHeartbeats 0
set_option maxRecDepth 100000
theorem idsE_u8s (xs : List Int) : idsE none_ (u8s xs) = true := idsE_map _ _ fun x => by simp [idsL, AV.ids]
theorem next_law1 (xs ys : List Int) (cx cy : Option Nat) (i n : Int) (hx : xs.length ≤ maxLen) (hy : ys.length ≤ maxLen) (hbx : ∀ x ∈ xs, 0 ≤ x ∧ x < 256) (hby : ∀ x ∈ ys, 0 ≤ x ∧ x < 256) (hi : 0 ≤ i ∧ i ≤ 255) (hn : n = 1 + i.tmod 16) :
    PC Tryd.prog G0 4 [.agg [.sl 1 (u8s xs) cx], .int .u8 i, .agg [.sl 1 (u8s ys) cy]] (.bool true) := by
  have hn1 : 1 ≤ n ∧ n ≤ 16 := by
    rw [Int.tmod_eq_emod_of_nonneg hi.1] at hn; omega
  have hX := of17L xs cx n hx hbx (by omega) (by omega)
  have hY := of17L ys cy n hy hby (by omega) (by omega)
  have okx := wOf_ok hn1.1 xs hbx
  have oky := wOf_ok hn1.1 ys hby
  generalize wOf xs n = w at *
  generalize wOf ys n = v at *
  have hN := wNext w none n (by omega)
  rw [next_short hn1.1 hn1.2 w okx.1 okx.2] at hN
  have hr := after_rank hn1.1 w okx.1
  have ho := after_ok hn1.1 w okx.1
  generalize afterM w n = z at *
  have hC := refCheck z (some z.length) n (by omega)
  rw [check_of_ok hn1.1 hn1.2 z ho.1 (by omega)] at hC
  have c1 := rank_cmp hn1.1 w z okx.1 ho.1
  rw [if_pos (by omega)] at c1
  have c2 := rank_cmp hn1.1 w v okx.1 oky.1
  have c3 := rank_cmp hn1.1 v z oky.1 ho.1
  have d1 := refCompare w z none (some z.length) (by omega) (by omega)
  have d2 := refCompare w v none none (by omega) (by omega)
  have d3 := refCompare v z none (some z.length) (by omega) (by omega)
  rw [c1] at d1
  have hno : ¬ (cmpM w v = -1 ∧ cmpM v z = -1) := by
    intro ⟨q1, q2⟩
    rw [q1] at c2; rw [q2] at c3
    split at c2
    · split at c3
      · omega
      · split at c3 <;> simp at c3
    · split at c2 <;> simp at c2
  clear c1 c2 c3
  generalize cmpM w v = p at *
  generalize cmpM v z = q at *
  have hconv : IntKind.i64.wrap (i.tmod 16) = i.tmod 16 := by rw [wrap64 _ (by omega) (by omega)]
  have hne : i.tmod 16 = n - 1 := by omega
  have hne1 : 1 + (n - 1) = n := by omega
  have hT := times20_own (.row 1 30 [[.sl 1 (u8s xs) cx]]) (.row 1 30 [[.sl 1 (u8s ys) cy]]) 256 (n - 1) (by omega)
  have hT2 := wNext_own3 (.row 1 30 [[.sl 1 (u8s xs) cx]]) (.row 1 30 [[.sl 1 (u8s ys) cy]]) (List.replicate 256 (n - 1)) n (by simp) (next_top hn1.1 hn1.2)
  rw [List.length_replicate] at hT2
  rw [show (256 : Int).toNat = 256 from rfl] at hT
  obtain ⟨M, hM⟩ : ∃ M, M = longM n := ⟨_, rfl⟩
  have hML : M.length = 256 := by rw [hM, longM_len]
  have hS : (List.replicate 256 (n - 1)).set 200 0 = M := hM.symm
  have hL : (List.replicate 256 (n - 1)).length = 256 := List.length_replicate
  generalize List.replicate 256 (n - 1) = L at *
  have e200 : (200 : Int).toNat = 200 := rfl
  have hG : (ints L).getD 200 [] = [.int .i64 (L.getD 200 0)] := getD_ints L 200 (by omega)
  have hTM : (ints M).take 256 = ints M := List.take_of_length_le (by rw [length_ints]; omega)
  refine pc_go 1 127 [.tmp 6] Tryd.func4 rfl rfl rfl (by simp) ?_
  intro s ⟨a0, a1, a2, hz⟩
  simp only [Nat.zero_add, Nat.reduceAdd] at a1 a2
  clear hz
  repeat' (first | (first | (refine acc_id ?_; first | refine acc_pure rfl rfl ?_ | refine acc_end rfl ?_ | refine acc_eff rfl rfl ?_ | refine acc_call rfl ?_ | refine acc_gp rfl rfl rfl ?_ | refine acc_gc rfl rfl ?_) | (refine go_id ?_; first | (with_reducible refine stop_at (p := [0, 1, 1, 1, 1, 1, 1, 1, 1, 1]) ?_) | refine go_seq rfl ?_ | refine go_region rfl rfl ?_ | refine go_draw (dr := allQ) rfl rfl mixed (by kernel_rfl) ?_ | refine go_cond rfl ?_ | refine go_block rfl ?_ | refine go_skip rfl ?_ | refine go_ret rfl ?_ | refine go_exit rfl ?_) | (refine out_id ?_; first | refine out_then ?_ | refine out_then_ret ?_ | refine out_then_exit ?_ | refine out_block_ret ?_ | refine out_block ?_ | refine out_block_exit rfl ?_ | refine out_block_exit' rfl ?_ | refine out_thenS_ret ?_ | refine out_thenS_exit ?_ | refine out_ret ?_ | refine out_normal ?_ | refine out_retH ?_ | refine out_normalH ?_ | refine out_end ?_)) | refine at_go ?_ | (with_reducible refine And.intro (at_go ?_) (at_go ?_)) | ((with_reducible refine And.intro (fun h => ?_) (fun h => ?_)) <;> try (exfalso; omega)) | (with_reducible refine And.intro (by omega) ?_) | (first | (refine ⟨_, _, pc_lift (hX) (by (simp [idsL, idsE, AV.ids, idsE_ints, idsE_u8s])) _, ?_⟩) | (refine ⟨_, pc_lift (hX) (by (simp [idsL, idsE, AV.ids, idsE_ints, idsE_u8s])) _, ?_⟩) | (refine ⟨_, fun _ => pc_lift (hX) (by (simp [idsL, idsE, AV.ids, idsE_ints, idsE_u8s])) _, ?_⟩) | (refine ⟨_, _, pc_lift (hY) (by (simp [idsL, idsE, AV.ids, idsE_ints, idsE_u8s])) _, ?_⟩) | (refine ⟨_, pc_lift (hY) (by (simp [idsL, idsE, AV.ids, idsE_ints, idsE_u8s])) _, ?_⟩) | (refine ⟨_, fun _ => pc_lift (hY) (by (simp [idsL, idsE, AV.ids, idsE_ints, idsE_u8s])) _, ?_⟩) | (refine ⟨_, _, pc_lift (hN) (by (simp [idsL, idsE, AV.ids, idsE_ints, idsE_u8s])) _, ?_⟩) | (refine ⟨_, pc_lift (hN) (by (simp [idsL, idsE, AV.ids, idsE_ints, idsE_u8s])) _, ?_⟩) | (refine ⟨_, fun _ => pc_lift (hN) (by (simp [idsL, idsE, AV.ids, idsE_ints, idsE_u8s])) _, ?_⟩) | (refine ⟨_, _, pc_lift (hC) (by (simp [idsL, idsE, AV.ids, idsE_ints, idsE_u8s])) _, ?_⟩) | (refine ⟨_, pc_lift (hC) (by (simp [idsL, idsE, AV.ids, idsE_ints, idsE_u8s])) _, ?_⟩) | (refine ⟨_, fun _ => pc_lift (hC) (by (simp [idsL, idsE, AV.ids, idsE_ints, idsE_u8s])) _, ?_⟩) | (refine ⟨_, _, pc_lift (d1) (by (simp [idsL, idsE, AV.ids, idsE_ints, idsE_u8s])) _, ?_⟩) | (refine ⟨_, pc_lift (d1) (by (simp [idsL, idsE, AV.ids, idsE_ints, idsE_u8s])) _, ?_⟩) | (refine ⟨_, fun _ => pc_lift (d1) (by (simp [idsL, idsE, AV.ids, idsE_ints, idsE_u8s])) _, ?_⟩) | (refine ⟨_, _, pc_lift (d2) (by (simp [idsL, idsE, AV.ids, idsE_ints, idsE_u8s])) _, ?_⟩) | (refine ⟨_, pc_lift (d2) (by (simp [idsL, idsE, AV.ids, idsE_ints, idsE_u8s])) _, ?_⟩) | (refine ⟨_, fun _ => pc_lift (d2) (by (simp [idsL, idsE, AV.ids, idsE_ints, idsE_u8s])) _, ?_⟩) | (refine ⟨_, _, pc_lift (d3) (by (simp [idsL, idsE, AV.ids, idsE_ints, idsE_u8s])) _, ?_⟩) | (refine ⟨_, pc_lift (d3) (by (simp [idsL, idsE, AV.ids, idsE_ints, idsE_u8s])) _, ?_⟩) | (refine ⟨_, fun _ => pc_lift (d3) (by (simp [idsL, idsE, AV.ids, idsE_ints, idsE_u8s])) _, ?_⟩) | (refine ⟨_, _, hT, ?_⟩) | (refine ⟨_, hT, ?_⟩) | (refine ⟨_, fun _ => hT, ?_⟩) | (refine ⟨_, _, hT2, ?_⟩) | (refine ⟨_, hT2, ?_⟩) | (refine ⟨_, fun _ => hT2, ?_⟩)) | simp (disch := first | omega | (simp only [length_ints, length_u8s, List.length_take, List.length_set, List.length_reverse, List.length_replicate, List.length_append, List.length_cons, List.length_nil, List.length_map]; omega)) only [push_cast, ↓reduceIte, reduceIte, reduceCtorEq, Nat.reduceAdd, Nat.reduceLT, Nat.reduceEqDiff, Nat.reduceLeDiff, Int.reduceAdd, Int.reduceLT, Int.reduceLE, Nat.reduceMul, ti1, ti3, ti5, ti22, ti28, ti30, ti32, en12, en16, en17, en18, en19, en20, en21, a0, a1, a2, length_ints, wrap64, length_u8s, hne, hconv, hne1, hL, hML, ints_set, hS, e200, hG])
  refine Halt.mk (go_close 1 trivial fun s1 hs1 => ?_)
  have b7 := hs1 7
  have b12 := hs1 12
  have b13 := hs1 13
  have b14 := hs1 14
  clear hs1
  simp (disch := first | omega | (simp only [length_ints, length_u8s, List.length_take, List.length_set, List.length_reverse, List.length_replicate, List.length_append, List.length_cons, List.length_nil, List.length_map]; omega)) only [push_cast, ↓reduceIte, reduceIte, reduceCtorEq, Nat.reduceAdd, Nat.reduceLT, Nat.reduceEqDiff, Nat.reduceLeDiff, Int.reduceAdd, Int.reduceLT, Int.reduceLE, Nat.reduceMul, ti1, ti3, ti5, ti22, ti28, ti30, ti32, en12, en16, en17, en18, en19, en20, en21, a0, a1, a2, length_ints, hML, hTM, closeT, all_ints] at b7 b12 b13 b14
  have hN2 := wNext M none n (by omega)
  by_cases hn2 : n = 1
  · have hm : nextM M n = ([], 3) := by
      rw [hM, hn2]; kernel_rfl
    rw [hm] at hN2
    rw [hn2] at hN2
    repeat' (first | (first | (refine acc_id ?_; first | refine acc_pure rfl rfl ?_ | refine acc_end rfl ?_ | refine acc_eff rfl rfl ?_ | refine acc_call rfl ?_ | refine acc_gp rfl rfl rfl ?_ | refine acc_gc rfl rfl ?_) | (refine go_id ?_; first | refine go_seq rfl ?_ | refine go_region rfl rfl ?_ | refine go_draw (dr := allQ) rfl rfl mixed (by kernel_rfl) ?_ | refine go_cond rfl ?_ | refine go_block rfl ?_ | refine go_skip rfl ?_ | refine go_ret rfl ?_ | refine go_exit rfl ?_) | (refine out_id ?_; first | refine out_then ?_ | refine out_then_ret ?_ | refine out_then_exit ?_ | refine out_block_ret ?_ | refine out_block ?_ | refine out_block_exit rfl ?_ | refine out_block_exit' rfl ?_ | refine out_thenS_ret ?_ | refine out_thenS_exit ?_ | refine out_ret ?_ | refine out_normal ?_ | refine out_retH ?_ | refine out_normalH ?_ | refine out_end ?_)) | refine at_go ?_ | (with_reducible refine And.intro (at_go ?_) (at_go ?_)) | ((with_reducible refine And.intro (fun h => ?_) (fun h => ?_)) <;> try (exfalso; omega)) | (with_reducible refine And.intro (by omega) ?_) | (first | (refine ⟨_, _, pc_lift (hN2) (by (simp [idsL, idsE, AV.ids, idsE_ints, idsE_u8s])) _, ?_⟩) | (refine ⟨_, pc_lift (hN2) (by (simp [idsL, idsE, AV.ids, idsE_ints, idsE_u8s])) _, ?_⟩) | (refine ⟨_, fun _ => pc_lift (hN2) (by (simp [idsL, idsE, AV.ids, idsE_ints, idsE_u8s])) _, ?_⟩) | (refine ⟨_, _, pc_lift (lives16) (by (simp [idsL, idsE, AV.ids, idsE_ints, idsE_u8s])) _, ?_⟩) | (refine ⟨_, pc_lift (lives16) (by (simp [idsL, idsE, AV.ids, idsE_ints, idsE_u8s])) _, ?_⟩) | (refine ⟨_, fun _ => pc_lift (lives16) (by (simp [idsL, idsE, AV.ids, idsE_ints, idsE_u8s])) _, ?_⟩)) | simp (disch := first | omega | (simp only [length_ints, length_u8s, List.length_take, List.length_set, List.length_reverse, List.length_replicate, List.length_append, List.length_cons, List.length_nil, List.length_map]; omega)) only [push_cast, ↓reduceIte, reduceIte, reduceCtorEq, Nat.reduceAdd, Nat.reduceLT, Nat.reduceEqDiff, Nat.reduceLeDiff, Int.reduceAdd, Int.reduceLT, Int.reduceLE, Nat.reduceMul, ti1, ti3, ti5, ti22, ti28, ti30, ti32, en12, en16, en17, en18, en19, en20, en21, b7, b12, b13, b14, hn2, length_ints])
  · have hm : nextM M n = (nextLong n, 0) := by rw [hM]; exact next_long (by omega) hn1.2
    rw [hm] at hN2
    have hl := nextLong_len n
    have g2 := getD_ints (nextLong n) 200 (by omega)
    have g3 := getD_ints (nextLong n) 255 (by omega)
    have g1 := getD_ints (nextLong n) 199 (by omega)
    rw [nextLong_200] at g2
    rw [nextLong_255] at g3
    rw [nextLong_199] at g1
    generalize nextLong n = K at *
    have e255 : (255 : Int).toNat = 255 := rfl
    have e199 : (199 : Int).toNat = 199 := rfl
    simp only [hl] at hN2
    repeat' (first | (first | (refine acc_id ?_; first | refine acc_pure rfl rfl ?_ | refine acc_end rfl ?_ | refine acc_eff rfl rfl ?_ | refine acc_call rfl ?_ | refine acc_gp rfl rfl rfl ?_ | refine acc_gc rfl rfl ?_) | (refine go_id ?_; first | refine go_seq rfl ?_ | refine go_region rfl rfl ?_ | refine go_draw (dr := allQ) rfl rfl mixed (by kernel_rfl) ?_ | refine go_cond rfl ?_ | refine go_block rfl ?_ | refine go_skip rfl ?_ | refine go_ret rfl ?_ | refine go_exit rfl ?_) | (refine out_id ?_; first | refine out_then ?_ | refine out_then_ret ?_ | refine out_then_exit ?_ | refine out_block_ret ?_ | refine out_block ?_ | refine out_block_exit rfl ?_ | refine out_block_exit' rfl ?_ | refine out_thenS_ret ?_ | refine out_thenS_exit ?_ | refine out_ret ?_ | refine out_normal ?_ | refine out_retH ?_ | refine out_normalH ?_ | refine out_end ?_)) | refine at_go ?_ | (with_reducible refine And.intro (at_go ?_) (at_go ?_)) | ((with_reducible refine And.intro (fun h => ?_) (fun h => ?_)) <;> try (exfalso; omega)) | (with_reducible refine And.intro (by omega) ?_) | (first | (refine ⟨_, _, pc_lift (hN2) (by (simp [idsL, idsE, AV.ids, idsE_ints, idsE_u8s])) _, ?_⟩) | (refine ⟨_, pc_lift (hN2) (by (simp [idsL, idsE, AV.ids, idsE_ints, idsE_u8s])) _, ?_⟩) | (refine ⟨_, fun _ => pc_lift (hN2) (by (simp [idsL, idsE, AV.ids, idsE_ints, idsE_u8s])) _, ?_⟩) | (refine ⟨_, _, pc_lift (wordNil 3) (by (simp [idsL, idsE, AV.ids, idsE_ints, idsE_u8s])) _, ?_⟩) | (refine ⟨_, pc_lift (wordNil 3) (by (simp [idsL, idsE, AV.ids, idsE_ints, idsE_u8s])) _, ?_⟩) | (refine ⟨_, fun _ => pc_lift (wordNil 3) (by (simp [idsL, idsE, AV.ids, idsE_ints, idsE_u8s])) _, ?_⟩) | (refine ⟨_, _, pc_lift (lives16) (by (simp [idsL, idsE, AV.ids, idsE_ints, idsE_u8s])) _, ?_⟩) | (refine ⟨_, pc_lift (lives16) (by (simp [idsL, idsE, AV.ids, idsE_ints, idsE_u8s])) _, ?_⟩) | (refine ⟨_, fun _ => pc_lift (lives16) (by (simp [idsL, idsE, AV.ids, idsE_ints, idsE_u8s])) _, ?_⟩)) | simp (disch := first | omega | (simp only [length_ints, length_u8s, List.length_take, List.length_set, List.length_reverse, List.length_replicate, List.length_append, List.length_cons, List.length_nil, List.length_map]; omega)) only [push_cast, ↓reduceIte, reduceIte, reduceCtorEq, Nat.reduceAdd, Nat.reduceLT, Nat.reduceEqDiff, Nat.reduceLeDiff, Int.reduceAdd, Int.reduceLT, Int.reduceLE, Nat.reduceMul, ti1, ti3, ti5, ti22, ti28, ti30, ti32, en12, en16, en17, en18, en19, en20, en21, b7, b12, b13, b14, length_ints, hl, g1, g2, g3, e200, e255, e199, wrap64])
end Go.Proofs
