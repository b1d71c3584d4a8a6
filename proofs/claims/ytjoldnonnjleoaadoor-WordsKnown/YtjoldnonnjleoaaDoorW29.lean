import Derived.Test.YtjoldnonnjleoaaDoorW28
/- Words: the reference's Rank. -/
namespace Go.Proofs
open Go Go.V
set_option linter.unusedVariables false
set_option linter.unusedSimpArgs false
set_option maxHeartbeats 0
set_option maxRecDepth 100000
theorem powM_nat (N : Nat) (hN : N ≤ 6) : ∀ k : Nat, k ≤ 12 → powM N k = ((N ^ k : Nat) : Int) ∧ N ^ k ≤ 2176782336
  | 0, _ => by simp [powM]
  | k + 1, h => by
    have ih := powM_nat N hN k (by omega)
    have h1 : N ^ (k + 1) ≤ 6 ^ (k + 1) := Nat.pow_le_pow_left hN _
    have h2 : 6 ^ (k + 1) ≤ 6 ^ 12 := Nat.pow_le_pow_right (by decide) h
    have h3 : (6 : Nat) ^ 12 = 2176782336 := by decide
    have h4 : N ^ (k + 1) ≤ 2176782336 := by omega
    refine ⟨?_, h4⟩
    have e : ((N ^ k : Nat) : Int) * (N : Int) = ((N ^ (k + 1) : Nat) : Int) := by rw [Nat.pow_succ]; simp
    rw [powM, ih.1, e, wrap64 _ (by omega) (by omega)]
def geo (N : Nat) : Nat → Int
  | 0 => 0
  | k + 1 => geo N k + ((N ^ k : Nat) : Int)
def valF (N : Nat) : List Int → Int
  | [] => 0
  | c :: cs => c * ((N ^ cs.length : Nat) : Int) + valF N cs
theorem rankA_val (N : Nat) : ∀ (w : List Int) (acc : Int), rankA N acc w = acc * ((N ^ w.length : Nat) : Int) + (geo N w.length + valF N w)
  | [], acc => by simp [rankA, geo, valF]
  | c :: cs, acc => by
    rw [rankA, rankA_val N cs, List.length_cons, geo, valF]
    generalize hP : N ^ cs.length = P
    have e : N ^ (cs.length + 1) = P * N := by rw [Nat.pow_succ, hP]
    rw [e, Int.natCast_mul, Int.add_mul, Int.add_mul, Int.one_mul, Int.mul_assoc, Int.mul_comm (N : Int)]
    omega
theorem valF_drop (N : Nat) (w : List Int) (k : Nat) (h : k < w.length) : valF N (w.drop k) = w.getD k 0 * ((N ^ (w.length - 1 - k) : Nat) : Int) + valF N (w.drop (k + 1)) := by
  rw [drop_getD w k h, valF, List.length_drop, show w.length - (k + 1) = w.length - 1 - k by omega]
theorem refRank (w : List Int) (c : Option Nat) (N : Nat) (hN : N ≤ 6) (hl : w.length ≤ 12) (hw : okW N w) : PC Tryd.prog G0 23 [.sl 1 (ints w) c, .int .i64 N] (.int .i64 (rankA N 0 w)) := by
  have hend : rankA N 0 w = geo N w.length + valF N w := by rw [rankA_val]; simp
  refine pc_go 0 32 [.tmp 4] Tryd.func23 rfl rfl rfl (by simp) ?_
  intro s ⟨a0, a1, hz⟩
  simp only [Nat.zero_add, Nat.reduceAdd] at a1
  clear hz
  repeat' (first | (first | (refine acc_id ?_; first | refine acc_pure rfl rfl ?_ | refine acc_end rfl ?_ | refine acc_eff rfl rfl ?_ | refine acc_call rfl ?_ | refine acc_gp rfl rfl rfl ?_ | refine acc_gc rfl rfl ?_) | (refine go_id ?_; first | refine go_seq rfl ?_ | refine go_region rfl rfl ?_ | refine go_draw (dr := allQ) rfl rfl mixed (by kernel_rfl) ?_ | refine go_cond rfl ?_ | refine go_block rfl ?_ | refine go_skip rfl ?_ | refine go_ret rfl ?_ | refine go_exit rfl ?_) | (refine out_id ?_; first | refine out_then ?_ | refine out_then_ret ?_ | refine out_then_exit ?_ | refine out_block_ret ?_ | refine out_block ?_ | refine out_block_exit rfl ?_ | refine out_block_exit' rfl ?_ | refine out_thenS_ret ?_ | refine out_thenS_exit ?_ | refine out_ret ?_ | refine out_normal ?_ | refine out_retH ?_ | refine out_normalH ?_ | refine out_end ?_)) | refine at_go ?_ | (with_reducible refine And.intro (at_go ?_) (at_go ?_)) | ((with_reducible refine And.intro (fun h => ?_) (fun h => ?_)) <;> try (exfalso; omega)) | (with_reducible refine And.intro (by omega) ?_) | (first | (refine ⟨_, _, pc_lift (fail) (by (simp [idsL, idsE, AV.ids, idsE_ints])) _, ?_⟩) | (refine ⟨_, pc_lift (fail) (by (simp [idsL, idsE, AV.ids, idsE_ints])) _, ?_⟩) | (refine ⟨_, fun _ => pc_lift (fail) (by (simp [idsL, idsE, AV.ids, idsE_ints])) _, ?_⟩)) | simp (disch := first | omega | (simp only [length_ints, List.length_set, List.length_reverse, List.length_replicate, List.length_append, List.length_cons, List.length_nil, List.length_map]; omega)) only [push_cast, ↓reduceIte, reduceIte, reduceCtorEq, Nat.reduceAdd, Nat.reduceLT, Nat.reduceEqDiff, Nat.reduceLeDiff, Int.reduceAdd, Int.reduceLT, Int.reduceLE, Nat.reduceMul, ti3, ti22, en38, a0, a1, length_ints])
  refine go_loop rfl (fun m s H => ∃ (k : Nat) (a : Int), k ≤ w.length ∧ m = w.length - k ∧ H = [] ∧ s 0 = .sl 1 (ints w) c ∧ s 1 = .int .i64 N ∧ s 5 = .int .i64 a ∧ s 6 = .int .i64 (k : Int) ∧ a = geo N k + valF N w - valF N (w.drop k) ∧ 0 ≤ a ∧ a ≤ k * 15237476352) trivial (Weak.refl _ _) ⟨0, 0, by omega, rfl, rfl, ?_⟩ ?_
  · simp (disch := first | omega | (simp only [length_ints, List.length_set, List.length_reverse, List.length_replicate, List.length_append, List.length_cons, List.length_nil, List.length_map]; omega)) only [push_cast, ↓reduceIte, reduceIte, reduceCtorEq, Nat.reduceAdd, Nat.reduceLT, Nat.reduceEqDiff, Nat.reduceLeDiff, Int.reduceAdd, Int.reduceLT, Int.reduceLE, Nat.reduceMul, ti3, ti22, en38, a0, a1, length_ints]
    simp [geo]
  · rintro m s H ⟨k, a, hk, rfl, rfl, a0, a1, a5, a6, ha, ha0, ha1⟩
    by_cases hlt : k < w.length
    · have hv := valF_drop N w k hlt
      have p1 := powM_nat N hN k (by omega)
      have p2 := powM_nat N hN (w.length - 1 - k) (by omega)
      have h1 := refPower N k (by omega)
      have h2 := refPower N ((w.length : Int) - 1 - k) (by omega)
      rw [Int.toNat_natCast, p1.1] at h1
      rw [show ((w.length : Int) - 1 - k).toNat = w.length - 1 - k by omega, p2.1] at h2
      have hx := hw (w.getD k 0) (by rw [List.getD_eq_getElem?_getD, List.getElem?_eq_getElem hlt]; exact List.getElem_mem _)
      have hg : geo N (k + 1) = geo N k + ((N ^ k : Nat) : Int) := rfl
      have hgd := getD_ints w k hlt
      generalize N ^ k = P1 at *
      generalize N ^ (w.length - 1 - k) = P2 at *
      generalize w.getD k 0 = x at *
      have hX0 : 0 ≤ x * (P2 : Int) := Int.mul_nonneg hx.1 (by omega)
      have hX1 : x * (P2 : Int) ≤ 5 * 2176782336 := Int.mul_le_mul (by omega) (by omega) (by omega) (by omega)
      repeat' (first | (first | (refine acc_id ?_; first | refine acc_pure rfl rfl ?_ | refine acc_end rfl ?_ | refine acc_eff rfl rfl ?_ | refine acc_call rfl ?_ | refine acc_gp rfl rfl rfl ?_ | refine acc_gc rfl rfl ?_) | (refine go_id ?_; first | refine go_seq rfl ?_ | refine go_region rfl rfl ?_ | refine go_draw (dr := allQ) rfl rfl mixed (by kernel_rfl) ?_ | refine go_cond rfl ?_ | refine go_block rfl ?_ | refine go_skip rfl ?_ | refine go_ret rfl ?_ | refine go_exit rfl ?_) | (refine out_id ?_; first | refine out_then ?_ | refine out_then_ret ?_ | refine out_then_exit ?_ | refine out_block_ret ?_ | refine out_block ?_ | refine out_block_exit rfl ?_ | refine out_block_exit' rfl ?_ | refine out_thenS_ret ?_ | refine out_thenS_exit ?_ | refine out_ret ?_ | refine out_normal ?_ | refine out_retH ?_ | refine out_normalH ?_ | refine out_end ?_)) | refine at_go ?_ | (with_reducible refine And.intro (at_go ?_) (at_go ?_)) | ((with_reducible refine And.intro (fun h => ?_) (fun h => ?_)) <;> try (exfalso; omega)) | (with_reducible refine And.intro (by omega) ?_) | (first | (refine ⟨_, _, pc_lift (h1) (by (simp [idsL, idsE, AV.ids, idsE_ints])) _, ?_⟩) | (refine ⟨_, pc_lift (h1) (by (simp [idsL, idsE, AV.ids, idsE_ints])) _, ?_⟩) | (refine ⟨_, fun _ => pc_lift (h1) (by (simp [idsL, idsE, AV.ids, idsE_ints])) _, ?_⟩) | (refine ⟨_, _, pc_lift (h2) (by (simp [idsL, idsE, AV.ids, idsE_ints])) _, ?_⟩) | (refine ⟨_, pc_lift (h2) (by (simp [idsL, idsE, AV.ids, idsE_ints])) _, ?_⟩) | (refine ⟨_, fun _ => pc_lift (h2) (by (simp [idsL, idsE, AV.ids, idsE_ints])) _, ?_⟩)) | simp (disch := first | omega | (simp only [length_ints, List.length_set, List.length_reverse, List.length_replicate, List.length_append, List.length_cons, List.length_nil, List.length_map]; omega)) only [push_cast, ↓reduceIte, reduceIte, reduceCtorEq, Nat.reduceAdd, Nat.reduceLT, Nat.reduceEqDiff, Nat.reduceLeDiff, Int.reduceAdd, Int.reduceLT, Int.reduceLE, Nat.reduceMul, ti3, ti22, en38, a0, a1, a5, a6, length_ints, hgd, wrap64])
      refine out_round (w.length - (k + 1)) (by omega) trivial ⟨k + 1, a + (P1 + x * P2), by omega, rfl, rfl, ?_⟩
      simp (disch := first | omega | (simp only [length_ints, List.length_set, List.length_reverse, List.length_replicate, List.length_append, List.length_cons, List.length_nil, List.length_map]; omega)) only [push_cast, ↓reduceIte, reduceIte, reduceCtorEq, Nat.reduceAdd, Nat.reduceLT, Nat.reduceEqDiff, Nat.reduceLeDiff, Int.reduceAdd, Int.reduceLT, Int.reduceLE, Nat.reduceMul, ti3, ti22, en38, a0, a1, a5, a6, length_ints, hgd, wrap64]
      refine ⟨?_, ?_, ?_⟩ <;> omega
    · have hk' : k = w.length := by omega
      subst hk'
      repeat' (first | (first | (refine acc_id ?_; first | refine acc_pure rfl rfl ?_ | refine acc_end rfl ?_ | refine acc_eff rfl rfl ?_ | refine acc_call rfl ?_ | refine acc_gp rfl rfl rfl ?_ | refine acc_gc rfl rfl ?_) | (refine go_id ?_; first | refine go_seq rfl ?_ | refine go_region rfl rfl ?_ | refine go_draw (dr := allQ) rfl rfl mixed (by kernel_rfl) ?_ | refine go_cond rfl ?_ | refine go_block rfl ?_ | refine go_skip rfl ?_ | refine go_ret rfl ?_ | refine go_exit rfl ?_) | (refine out_id ?_; first | refine out_then ?_ | refine out_then_ret ?_ | refine out_then_exit ?_ | refine out_block_ret ?_ | refine out_block ?_ | refine out_block_exit rfl ?_ | refine out_block_exit' rfl ?_ | refine out_thenS_ret ?_ | refine out_thenS_exit ?_ | refine out_ret ?_ | refine out_normal ?_ | refine out_retH ?_ | refine out_normalH ?_ | refine out_end ?_)) | refine at_go ?_ | (with_reducible refine And.intro (at_go ?_) (at_go ?_)) | ((with_reducible refine And.intro (fun h => ?_) (fun h => ?_)) <;> try (exfalso; omega)) | (with_reducible refine And.intro (by omega) ?_) | (first | (refine ⟨_, _, pc_lift (fail) (by (simp [idsL, idsE, AV.ids, idsE_ints])) _, ?_⟩) | (refine ⟨_, pc_lift (fail) (by (simp [idsL, idsE, AV.ids, idsE_ints])) _, ?_⟩) | (refine ⟨_, fun _ => pc_lift (fail) (by (simp [idsL, idsE, AV.ids, idsE_ints])) _, ?_⟩)) | simp (disch := first | omega | (simp only [length_ints, List.length_set, List.length_reverse, List.length_replicate, List.length_append, List.length_cons, List.length_nil, List.length_map]; omega)) only [push_cast, ↓reduceIte, reduceIte, reduceCtorEq, Nat.reduceAdd, Nat.reduceLT, Nat.reduceEqDiff, Nat.reduceLeDiff, Int.reduceAdd, Int.reduceLT, Int.reduceLE, Nat.reduceMul, ti3, ti22, en38, a0, a1, a5, a6, length_ints])
      rw [ha, hend, List.drop_length, valF]; simp
/-! At behind Rank. -/
theorem atL_rank (N : Nat) (hN : 1 ≤ N) : ∀ ds : List Int, okW N ds → ∃ R : Nat, rankB N ds = R ∧ atL N R = ds
  | [], _ => ⟨0, rfl, atL_zero N⟩
  | d :: ds, h => by
    have hd := okW_cons h
    obtain ⟨R, h1, h2⟩ := atL_rank N hN ds hd.2
    obtain ⟨D, hD⟩ : ∃ D : Nat, d = D := ⟨d.toNat, by omega⟩
    subst hD
    refine ⟨R * N + D + 1, by rw [rankB, h1]; simp, ?_⟩
    rw [atL_pos N _ (by omega), Nat.add_sub_cancel]
    have hlt : D < N := by omega
    have e1 : (R * N + D) % N = D := by rw [Nat.mul_comm, Nat.mul_add_mod, Nat.mod_eq_of_lt hlt]
    have e2 : (R * N + D) / N = R := by rw [Nat.mul_comm, Nat.mul_add_div (by omega), Nat.div_eq_of_lt hlt, Nat.add_zero]
    rw [e1, e2, h2]
theorem at_of_rank {n : Int} (hn : 1 ≤ n) (hn2 : n ≤ 16) (w : List Int) (hw : okW n w) (h2 : rankA n 0 w ≤ 4611686018427387903) (h3 : n = 1 → rankA n 0 w ≤ 256) : atM (rankA n 0 w) n = (w, 0) := by
  obtain ⟨N, rfl⟩ : ∃ N : Nat, n = N := ⟨n.toNat, by omega⟩
  have hr : okW N w.reverse := fun x hx => hw x (List.mem_reverse.1 hx)
  obtain ⟨R, h1, h4⟩ := atL_rank N (by omega) w.reverse hr
  have e : rankA N 0 w = R := by rw [← h1, ← rankB_rev, List.reverse_reverse]
  rw [e] at h2 h3 ⊢
  have hE : atE R N = 0 := by
    rw [atE, if_neg (by omega), if_neg (by omega), if_neg (by intro q; have := h3 q.1; omega)]
  rw [atM, if_neg (fun q => q hE), Int.toNat_natCast, Int.toNat_natCast, h4, List.reverse_reverse]
theorem rank_six {n : Int} (hn1 : 1 ≤ n) (hn : n ≤ 6) : ∀ (w : List Int) (acc : Int), 0 ≤ acc → okW n w → rankA n acc w + 2 ≤ (acc + 2) * ((6 ^ w.length : Nat) : Int)
  | [], acc, _, _ => by simp [rankA]
  | c :: cs, acc, h, hw => by
    have hc := okW_cons hw
    have h0 : 0 ≤ acc * n := Int.mul_nonneg h (by omega)
    have h1 : acc * n ≤ acc * 6 := Int.mul_le_mul_of_nonneg_left hn h
    have ih := rank_six hn1 hn cs (acc * n + c + 1) (by omega) hc.2
    rw [rankA, List.length_cons, Nat.pow_succ, Int.natCast_mul]
    refine Int.le_trans ih ?_
    rw [Int.mul_comm ((6 ^ cs.length : Nat) : Int), ← Int.mul_assoc]
    exact Int.mul_le_mul_of_nonneg_right (by omega) (Int.natCast_nonneg _)
/-- The rank of a short word over few inputs. -/
theorem rank_bound {n : Int} (hn1 : 1 ≤ n) (hn : n ≤ 6) (w : List Int) (hl : w.length ≤ 13) (hw : okW n w) : 0 ≤ rankA n 0 w ∧ rankA n 0 w ≤ 26121388032 := by
  refine ⟨rankA_ge hn1 w 0 (by omega) hw, ?_⟩
  have h1 := rank_six hn1 hn w 0 (by omega) hw
  have h2 : 6 ^ w.length ≤ 6 ^ 13 := Nat.pow_le_pow_right (by decide) hl
  have h3 : (6 : Nat) ^ 13 = 13060694016 := by decide
  generalize 6 ^ w.length = P at *
  omega
theorem rank_one : ∀ (w : List Int) (acc : Int), okW 1 w → rankA 1 acc w = acc + w.length
  | [], acc, _ => by simp [rankA]
  | c :: cs, acc, hw => by
    have hc := okW_cons hw
    rw [rankA, rank_one cs _ hc.2, List.length_cons]
    have : c = 0 := by omega
    subst this
    rw [Int.mul_one]; simp; omega
theorem rankR_some {n : Int} (hn : 1 ≤ n) : ∀ (w : List Int) (acc : Int), 0 ≤ acc → okW n w → rankA n acc w ≤ 4611686018427387903 → rankR n acc w = some (rankA n acc w)
  | [], acc, _, _, _ => rfl
  | c :: cs, acc, h, hw, hb => by
    have hc := okW_cons hw
    have h0 : 0 ≤ acc * n := Int.mul_nonneg h (by omega)
    rw [rankA] at hb ⊢
    have hge := rankA_ge hn cs (acc * n + c + 1) (by omega) hc.2
    rw [rankR, if_neg, rankR_some hn cs _ (by omega) hc.2 hb]
    rw [Int.tdiv_eq_ediv_of_nonneg (by omega), Int.not_lt, Int.le_ediv_iff_mul_le (by omega)]
    omega
theorem rankM_short {n : Int} (hn1 : 1 ≤ n) (hn : n ≤ 6) (w : List Int) (hl : w.length ≤ 13) (hw : okW n w) : rankM w n = (rankA n 0 w, 0) := by
  have h1 := check_of_ok hn1 (by omega) w hw (by omega)
  have h2 := rank_bound hn1 hn w hl hw
  rw [rankM_ok h1, rankR_some hn1 w 0 (by omega) hw (by omega)]
theorem atM_short {n : Int} (hn1 : 1 ≤ n) (hn : n ≤ 6) (w : List Int) (hl : w.length ≤ 13) (hw : okW n w) : atM (rankA n 0 w) n = (w, 0) := by
  have h2 := rank_bound hn1 hn w hl hw
  refine at_of_rank hn1 (by omega) w hw (by omega) fun e => ?_
  subst e
  rw [rank_one w 0 hw]; omega
theorem rank_law (xs ys : List Int) (cx cy : Option Nat) (i n : Int) (hx : xs.length ≤ maxLen) (hy : ys.length ≤ maxLen) (hbx : ∀ x ∈ xs, 0 ≤ x ∧ x < 256) (hby : ∀ x ∈ ys, 0 ≤ x ∧ x < 256) (hi : 0 ≤ i ∧ i ≤ 255) (hn : n = 1 + i.tmod 6) :
    PC Tryd.prog G0 5 [.agg [.sl 1 (u8s xs) cx], .agg [.sl 1 (u8s ys) cy], .int .u8 i] (.bool true) := by
  have hn1 : 1 ≤ n ∧ n ≤ 6 := by
    rw [Int.tmod_eq_emod_of_nonneg hi.1] at hn; omega
  have hX := of17L xs cx n hx hbx (by omega) (by omega)
  have hY := of17L ys cy n hy hby (by omega) (by omega)
  have okx := wOf_ok hn1.1 xs hbx
  have oky := wOf_ok hn1.1 ys hby
  generalize wOf xs n = w at *
  generalize wOf ys n = v at *
  have hN := wNext w none n (by omega)
  rw [next_short hn1.1 (by omega) w okx.1 okx.2] at hN
  have hr := after_rank hn1.1 w okx.1
  have ho := after_ok hn1.1 w okx.1
  generalize afterM w n = z at *
  have hRw := wRank w none n (by omega)
  have hRv := wRank v none n (by omega)
  rw [rankM_short hn1.1 hn1.2 w (by omega) okx.1] at hRw
  rw [rankM_short hn1.1 hn1.2 v (by omega) oky.1] at hRv
  have hF : PC Tryd.prog G0 23 [.sl 1 (ints w) none, .int .i64 n] (.int .i64 (rankA n 0 w)) := by
    obtain ⟨N, rfl⟩ : ∃ N : Nat, n = N := ⟨n.toNat, by omega⟩
    exact refRank w none N (by omega) okx.2 okx.1
  have hC := refCompare w v none none (by omega) (by omega)
  have hS := refSame w v none none (by omega) (by omega)
  have c1 := rank_cmp hn1.1 w v okx.1 oky.1
  have bw := rank_bound hn1.1 hn1.2 w (by omega) okx.1
  have hA := wAt (rankA n 0 w) n
  rw [atM_short hn1.1 hn1.2 w (by omega) okx.1] at hA
  have hB := wAt (rankA n 0 z) n
  rw [atM_short hn1.1 hn1.2 z (by omega) ho.1, hr] at hB
  have hW := wordSame w none 0 (by omega)
  have hZ := wordSame z (some z.length) 0 (by omega)
  have hsd : sameM w v = decide (rankA n 0 w = rankA n 0 v) := by
    rw [sameM, c1]
    by_cases q : rankA n 0 w < rankA n 0 v
    · rw [if_pos q]; simp; omega
    · rw [if_neg q]
      by_cases q2 : rankA n 0 v < rankA n 0 w
      · rw [if_pos q2]; simp; omega
      · rw [if_neg q2]; simp; omega
  have hcd : decide (cmpM w v < 0) = decide (rankA n 0 w < rankA n 0 v) := by
    rw [c1]
    by_cases q : rankA n 0 w < rankA n 0 v
    · rw [if_pos q]; simp [q]
    · rw [if_neg q]
      by_cases q2 : rankA n 0 v < rankA n 0 w
      · rw [if_pos q2]; simp [q]
      · rw [if_neg q2]; simp [q]
  rw [hsd] at hS
  clear hsd c1
  generalize cmpM w v = p at *
  generalize rankA n 0 w = a at *
  generalize rankA n 0 v = b at *
  have hconv : IntKind.i64.wrap (i.tmod 6) = i.tmod 6 := by rw [wrap64 _ (by omega) (by omega)]
  have hne : i.tmod 6 = n - 1 := by omega
  have hne1 : 1 + (n - 1) = n := by omega
  refine pc_go 1 110 [.tmp 6] Tryd.func5 rfl rfl rfl (by simp) ?_
  intro s ⟨a0, a1, a2, hz⟩
  simp only [Nat.zero_add, Nat.reduceAdd] at a1 a2
  clear hz
  repeat' (first | (first | (refine acc_id ?_; first | refine acc_pure rfl rfl ?_ | refine acc_end rfl ?_ | refine acc_eff rfl rfl ?_ | refine acc_call rfl ?_ | refine acc_gp rfl rfl rfl ?_ | refine acc_gc rfl rfl ?_) | (refine go_id ?_; first | refine go_seq rfl ?_ | refine go_region rfl rfl ?_ | refine go_draw (dr := allQ) rfl rfl mixed (by kernel_rfl) ?_ | refine go_cond rfl ?_ | refine go_block rfl ?_ | refine go_skip rfl ?_ | refine go_ret rfl ?_ | refine go_exit rfl ?_) | (refine out_id ?_; first | refine out_then ?_ | refine out_then_ret ?_ | refine out_then_exit ?_ | refine out_block_ret ?_ | refine out_block ?_ | refine out_block_exit rfl ?_ | refine out_block_exit' rfl ?_ | refine out_thenS_ret ?_ | refine out_thenS_exit ?_ | refine out_ret ?_ | refine out_normal ?_ | refine out_retH ?_ | refine out_normalH ?_ | refine out_end ?_)) | refine at_go ?_ | (with_reducible refine And.intro (at_go ?_) (at_go ?_)) | ((with_reducible refine And.intro (fun h => ?_) (fun h => ?_)) <;> try (exfalso; omega)) | (with_reducible refine And.intro (by omega) ?_) | (first | (refine ⟨_, _, pc_lift (hX) (by (simp [idsL, idsE, AV.ids, idsE_ints, idsE_u8s])) _, ?_⟩) | (refine ⟨_, pc_lift (hX) (by (simp [idsL, idsE, AV.ids, idsE_ints, idsE_u8s])) _, ?_⟩) | (refine ⟨_, fun _ => pc_lift (hX) (by (simp [idsL, idsE, AV.ids, idsE_ints, idsE_u8s])) _, ?_⟩) | (refine ⟨_, _, pc_lift (hY) (by (simp [idsL, idsE, AV.ids, idsE_ints, idsE_u8s])) _, ?_⟩) | (refine ⟨_, pc_lift (hY) (by (simp [idsL, idsE, AV.ids, idsE_ints, idsE_u8s])) _, ?_⟩) | (refine ⟨_, fun _ => pc_lift (hY) (by (simp [idsL, idsE, AV.ids, idsE_ints, idsE_u8s])) _, ?_⟩) | (refine ⟨_, _, pc_lift (hN) (by (simp [idsL, idsE, AV.ids, idsE_ints, idsE_u8s])) _, ?_⟩) | (refine ⟨_, pc_lift (hN) (by (simp [idsL, idsE, AV.ids, idsE_ints, idsE_u8s])) _, ?_⟩) | (refine ⟨_, fun _ => pc_lift (hN) (by (simp [idsL, idsE, AV.ids, idsE_ints, idsE_u8s])) _, ?_⟩) | (refine ⟨_, _, pc_lift (hRw) (by (simp [idsL, idsE, AV.ids, idsE_ints, idsE_u8s])) _, ?_⟩) | (refine ⟨_, pc_lift (hRw) (by (simp [idsL, idsE, AV.ids, idsE_ints, idsE_u8s])) _, ?_⟩) | (refine ⟨_, fun _ => pc_lift (hRw) (by (simp [idsL, idsE, AV.ids, idsE_ints, idsE_u8s])) _, ?_⟩) | (refine ⟨_, _, pc_lift (hRv) (by (simp [idsL, idsE, AV.ids, idsE_ints, idsE_u8s])) _, ?_⟩) | (refine ⟨_, pc_lift (hRv) (by (simp [idsL, idsE, AV.ids, idsE_ints, idsE_u8s])) _, ?_⟩) | (refine ⟨_, fun _ => pc_lift (hRv) (by (simp [idsL, idsE, AV.ids, idsE_ints, idsE_u8s])) _, ?_⟩) | (refine ⟨_, _, pc_lift (hF) (by (simp [idsL, idsE, AV.ids, idsE_ints, idsE_u8s])) _, ?_⟩) | (refine ⟨_, pc_lift (hF) (by (simp [idsL, idsE, AV.ids, idsE_ints, idsE_u8s])) _, ?_⟩) | (refine ⟨_, fun _ => pc_lift (hF) (by (simp [idsL, idsE, AV.ids, idsE_ints, idsE_u8s])) _, ?_⟩) | (refine ⟨_, _, pc_lift (hC) (by (simp [idsL, idsE, AV.ids, idsE_ints, idsE_u8s])) _, ?_⟩) | (refine ⟨_, pc_lift (hC) (by (simp [idsL, idsE, AV.ids, idsE_ints, idsE_u8s])) _, ?_⟩) | (refine ⟨_, fun _ => pc_lift (hC) (by (simp [idsL, idsE, AV.ids, idsE_ints, idsE_u8s])) _, ?_⟩) | (refine ⟨_, _, pc_lift (hS) (by (simp [idsL, idsE, AV.ids, idsE_ints, idsE_u8s])) _, ?_⟩) | (refine ⟨_, pc_lift (hS) (by (simp [idsL, idsE, AV.ids, idsE_ints, idsE_u8s])) _, ?_⟩) | (refine ⟨_, fun _ => pc_lift (hS) (by (simp [idsL, idsE, AV.ids, idsE_ints, idsE_u8s])) _, ?_⟩) | (refine ⟨_, _, pc_lift (hA) (by (simp [idsL, idsE, AV.ids, idsE_ints, idsE_u8s])) _, ?_⟩) | (refine ⟨_, pc_lift (hA) (by (simp [idsL, idsE, AV.ids, idsE_ints, idsE_u8s])) _, ?_⟩) | (refine ⟨_, fun _ => pc_lift (hA) (by (simp [idsL, idsE, AV.ids, idsE_ints, idsE_u8s])) _, ?_⟩) | (refine ⟨_, _, pc_lift (hB) (by (simp [idsL, idsE, AV.ids, idsE_ints, idsE_u8s])) _, ?_⟩) | (refine ⟨_, pc_lift (hB) (by (simp [idsL, idsE, AV.ids, idsE_ints, idsE_u8s])) _, ?_⟩) | (refine ⟨_, fun _ => pc_lift (hB) (by (simp [idsL, idsE, AV.ids, idsE_ints, idsE_u8s])) _, ?_⟩) | (refine ⟨_, _, pc_lift (hW) (by (simp [idsL, idsE, AV.ids, idsE_ints, idsE_u8s])) _, ?_⟩) | (refine ⟨_, pc_lift (hW) (by (simp [idsL, idsE, AV.ids, idsE_ints, idsE_u8s])) _, ?_⟩) | (refine ⟨_, fun _ => pc_lift (hW) (by (simp [idsL, idsE, AV.ids, idsE_ints, idsE_u8s])) _, ?_⟩) | (refine ⟨_, _, pc_lift (hZ) (by (simp [idsL, idsE, AV.ids, idsE_ints, idsE_u8s])) _, ?_⟩) | (refine ⟨_, pc_lift (hZ) (by (simp [idsL, idsE, AV.ids, idsE_ints, idsE_u8s])) _, ?_⟩) | (refine ⟨_, fun _ => pc_lift (hZ) (by (simp [idsL, idsE, AV.ids, idsE_ints, idsE_u8s])) _, ?_⟩) | (refine ⟨_, _, pc_lift (lives16) (by (simp [idsL, idsE, AV.ids, idsE_ints, idsE_u8s])) _, ?_⟩) | (refine ⟨_, pc_lift (lives16) (by (simp [idsL, idsE, AV.ids, idsE_ints, idsE_u8s])) _, ?_⟩) | (refine ⟨_, fun _ => pc_lift (lives16) (by (simp [idsL, idsE, AV.ids, idsE_ints, idsE_u8s])) _, ?_⟩)) | simp (disch := first | omega | (simp only [length_ints, length_u8s, List.length_take, List.length_set, List.length_reverse, List.length_replicate, List.length_append, List.length_cons, List.length_nil, List.length_map]; omega)) only [push_cast, ↓reduceIte, reduceIte, reduceCtorEq, Nat.reduceAdd, Nat.reduceLT, Nat.reduceEqDiff, Nat.reduceLeDiff, Int.reduceAdd, Int.reduceLT, Int.reduceLE, Nat.reduceMul, ti3, ti4, ti5, ti22, ti28, ti30, ti32, en12, en16, en17, en18, en21, en22, en23, en24, en25, a0, a1, a2, length_ints, wrap64, length_u8s, hne, hconv, hne1, hcd, beq_self_eq_true])
end Go.Proofs
