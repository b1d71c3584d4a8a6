import Derived.Test.YtjoldnonnjleoaaDoorW14
/- Words: words.Rank, words.At. -/
namespace Go.Proofs
open Go Go.V
set_option linter.unusedVariables false
set_option linter.unusedSimpArgs false
set_option maxHeartbeats 0
set_option maxRecDepth 100000
/-- The rank behind the symbols, none where it is too great. -/
def rankR (n : Int) : Int → List Int → Option Int
  | acc, [] => some acc
  | acc, c :: cs => if (4611686018427387903 - c - 1).tdiv n < acc then none else rankR n (acc * n + c + 1) cs
def rankM (xs : List Int) (n : Int) : Int × Int :=
  if checkM xs n ≠ 0 then (0, checkM xs n) else match rankR n 0 xs with | some r => (r, 0) | none => (0, 3)
theorem tdiv_le {a n : Int} (ha : 0 ≤ a) (hn : 1 ≤ n) : 0 ≤ a.tdiv n ∧ a.tdiv n ≤ a := by
  rw [Int.tdiv_eq_ediv_of_nonneg ha]
  exact ⟨Int.ediv_nonneg ha (by omega), Int.ediv_le_self _ ha⟩
theorem mul_le_of_tdiv {a n acc : Int} (ha : 0 ≤ a) (hn : 1 ≤ n) (h : ¬ a.tdiv n < acc) : acc * n ≤ a := by
  rw [Int.tdiv_eq_ediv_of_nonneg ha] at h
  have h1 : acc ≤ a / n := by omega
  exact Int.le_trans (Int.mul_le_mul_of_nonneg_right h1 (by omega)) (Int.ediv_mul_le _ (by omega))
theorem wRank (xs : List Int) (c : Option Nat) (n : Int) (hx : xs.length ≤ 1000000) : PC Tryd.prog G0 22 [.sl 1 (ints xs) c, .int .i64 n] (.tup [.int .i64 (rankM xs n).1, .int .i64 (rankM xs n).2]) := by
  refine pc_go 0 37 [.tmp 4, .tmp 5] Tryd.func22 rfl rfl rfl (by simp) ?_
  intro s ⟨a0, a1, hz⟩
  simp only [Nat.zero_add, Nat.reduceAdd] at a1
  clear hz
  repeat' (first | (first | (refine acc_id ?_; first | refine acc_pure rfl rfl ?_ | refine acc_end rfl ?_ | refine acc_eff rfl rfl ?_ | refine acc_call rfl ?_ | refine acc_gp rfl rfl rfl ?_ | refine acc_gc rfl rfl ?_) | (refine go_id ?_; first | refine go_seq rfl ?_ | refine go_region rfl rfl ?_ | refine go_draw (dr := allQ) rfl rfl mixed (by kernel_rfl) ?_ | refine go_cond rfl ?_ | refine go_block rfl ?_ | refine go_skip rfl ?_ | refine go_ret rfl ?_ | refine go_exit rfl ?_) | (refine out_id ?_; first | refine out_then ?_ | refine out_then_ret ?_ | refine out_then_exit ?_ | refine out_block_ret ?_ | refine out_block ?_ | refine out_block_exit rfl ?_ | refine out_block_exit' rfl ?_ | refine out_thenS_ret ?_ | refine out_thenS_exit ?_ | refine out_ret ?_ | refine out_normal ?_ | refine out_retH ?_ | refine out_normalH ?_ | refine out_end ?_)) | refine at_go ?_ | (with_reducible refine And.intro (at_go ?_) (at_go ?_)) | ((with_reducible refine And.intro (fun h => ?_) (fun h => ?_)) <;> try (exfalso; omega)) | (with_reducible refine And.intro (by omega) ?_) | (first | (refine ⟨_, _, pc_lift (wCheck xs c n hx) (by (simp [idsL, idsE, AV.ids, idsE_ints])) _, ?_⟩) | (refine ⟨_, pc_lift (wCheck xs c n hx) (by (simp [idsL, idsE, AV.ids, idsE_ints])) _, ?_⟩) | (refine ⟨_, fun _ => pc_lift (wCheck xs c n hx) (by (simp [idsL, idsE, AV.ids, idsE_ints])) _, ?_⟩)) | simp (disch := first | omega | (simp only [length_ints, List.length_set, List.length_reverse, List.length_replicate, List.length_append, List.length_cons, List.length_nil, List.length_map]; omega)) only [push_cast, ↓reduceIte, reduceIte, reduceCtorEq, Nat.reduceAdd, Nat.reduceLT, Nat.reduceEqDiff, Nat.reduceLeDiff, Int.reduceAdd, Int.reduceLT, Int.reduceLE, Nat.reduceMul, ti3, ti22, ti32, en30, a0, a1, length_ints])
  · simp [rankM, h]
  · have hc := checkM_ok h
    have hr : rankM xs n = match rankR n 0 xs with | some r => (r, 0) | none => (0, 3) := by rw [rankM, if_neg (by simp [h])]
    refine go_loop rfl (fun m s H' => ∃ k acc, k ≤ xs.length ∧ m = xs.length - k ∧ H' = [] ∧ s 0 = .sl 1 (ints xs) c ∧ s 1 = .int .i64 n ∧ s 7 = .int .i64 acc ∧ s 16 = .sl 1 (ints xs) c ∧ s 17 = .int .i64 xs.length ∧ s 18 = .int .i64 (k : Int) ∧ 0 ≤ acc ∧ acc ≤ 4611686018427387903 ∧ rankR n 0 xs = rankR n acc (xs.drop k)) trivial (Weak.refl _ _) ⟨0, 0, by omega, rfl, rfl, ?_⟩ ?_
    · (simp (disch := first | omega | (simp only [length_ints, List.length_set, List.length_reverse, List.length_replicate, List.length_append, List.length_cons, List.length_nil, List.length_map]; omega)) only [push_cast, ↓reduceIte, reduceIte, reduceCtorEq, Nat.reduceAdd, Nat.reduceLT, Nat.reduceEqDiff, Nat.reduceLeDiff, Int.reduceAdd, Int.reduceLT, Int.reduceLE, Nat.reduceMul, ti3, ti22, ti32, en30, a0, a1, length_ints]) <;> (first | rfl | exact ⟨rfl, rfl⟩ | omega | (congr 1; omega) | (simp; done) | ((repeat' apply And.intro) <;> first | rfl | omega | (congr 1; omega)))
    · rintro m s H' ⟨k, acc, hk, rfl, rfl, a0, a1, a7, a16, a17, a18, h0, h1, hm⟩
      by_cases hlt : k < xs.length
      · have hxk : 0 ≤ xs.getD k 0 ∧ xs.getD k 0 < n := by
          rw [List.getD_eq_getElem?_getD, List.getElem?_eq_getElem hlt]; exact hc.2.2.2 _ (List.getElem_mem _)
        have e1 := tdiv_le (a := 4611686018427387903 - xs.getD k 0 - 1) (n := n) (by omega) (by omega)
        have e2 : ¬ (4611686018427387903 - xs.getD k 0 - 1).tdiv n < acc → acc * n ≤ 4611686018427387903 - xs.getD k 0 - 1 := mul_le_of_tdiv (by omega) (by omega)
        have e3 : 0 ≤ acc * n := Int.mul_nonneg h0 (by omega)
        have hd := drop_getD xs k hlt
        generalize hq : (4611686018427387903 - xs.getD k 0 - 1).tdiv n = q at *
        repeat' (first | (first | (refine acc_id ?_; first | refine acc_pure rfl rfl ?_ | refine acc_end rfl ?_ | refine acc_eff rfl rfl ?_ | refine acc_call rfl ?_ | refine acc_gp rfl rfl rfl ?_ | refine acc_gc rfl rfl ?_) | (refine go_id ?_; first | refine go_seq rfl ?_ | refine go_region rfl rfl ?_ | refine go_draw (dr := allQ) rfl rfl mixed (by kernel_rfl) ?_ | refine go_cond rfl ?_ | refine go_block rfl ?_ | refine go_skip rfl ?_ | refine go_ret rfl ?_ | refine go_exit rfl ?_) | (refine out_id ?_; first | refine out_then ?_ | refine out_then_ret ?_ | refine out_then_exit ?_ | refine out_block_ret ?_ | refine out_block ?_ | refine out_block_exit rfl ?_ | refine out_block_exit' rfl ?_ | refine out_thenS_ret ?_ | refine out_thenS_exit ?_ | refine out_ret ?_ | refine out_normal ?_ | refine out_retH ?_ | refine out_normalH ?_ | refine out_end ?_)) | refine at_go ?_ | (with_reducible refine And.intro (at_go ?_) (at_go ?_)) | ((with_reducible refine And.intro (fun h => ?_) (fun h => ?_)) <;> try (exfalso; omega)) | (with_reducible refine And.intro (by omega) ?_) | (first | (refine ⟨_, _, pc_lift (wCheck xs c n hx) (by (simp [idsL, idsE, AV.ids, idsE_ints])) _, ?_⟩) | (refine ⟨_, pc_lift (wCheck xs c n hx) (by (simp [idsL, idsE, AV.ids, idsE_ints])) _, ?_⟩) | (refine ⟨_, fun _ => pc_lift (wCheck xs c n hx) (by (simp [idsL, idsE, AV.ids, idsE_ints])) _, ?_⟩)) | simp (disch := first | omega | (simp only [length_ints, List.length_set, List.length_reverse, List.length_replicate, List.length_append, List.length_cons, List.length_nil, List.length_map]; omega)) only [push_cast, ↓reduceIte, reduceIte, reduceCtorEq, Nat.reduceAdd, Nat.reduceLT, Nat.reduceEqDiff, Nat.reduceLeDiff, Int.reduceAdd, Int.reduceLT, Int.reduceLE, Nat.reduceMul, ti3, ti22, ti32, en30, a0, a1, a7, a16, a17, a18, hq, length_ints, getD_ints, wrap64])
        · rw [hr, hm, hd, rankR, hq, if_pos h]; exact ⟨rfl, rfl⟩
        · refine out_round (xs.length - (k + 1)) (by omega) (by (first | trivial | ((repeat' apply And.intro) <;> first | trivial | assumption | omega | (simp only [maxLen]; omega) | (simp only [length_ints, List.length_replicate, List.length_append, List.length_cons, List.length_nil, List.length_map, List.length_take, List.length_drop, List.length_set, List.length_reverse, maxLen] <;> omega)))) ⟨k + 1, acc * n + xs.getD k 0 + 1, by omega, rfl, rfl, ?_⟩
          simp (disch := first | omega | (simp only [length_ints, List.length_set, List.length_reverse, List.length_replicate, List.length_append, List.length_cons, List.length_nil, List.length_map]; omega)) only [push_cast, ↓reduceIte, reduceIte, reduceCtorEq, Nat.reduceAdd, Nat.reduceLT, Nat.reduceEqDiff, Nat.reduceLeDiff, Int.reduceAdd, Int.reduceLT, Int.reduceLE, Nat.reduceMul, ti3, ti22, ti32, en30, a0, a1, a7, a16, a17, a18, hq, length_ints, getD_ints, wrap64]
          exact ⟨by omega, by have := e2 h; omega, by rw [hm, hd, rankR, hq, if_neg h]⟩
      · have hk' : k = xs.length := by omega
        subst hk'
        rw [List.drop_length, rankR] at hm
        repeat' (first | (first | (refine acc_id ?_; first | refine acc_pure rfl rfl ?_ | refine acc_end rfl ?_ | refine acc_eff rfl rfl ?_ | refine acc_call rfl ?_ | refine acc_gp rfl rfl rfl ?_ | refine acc_gc rfl rfl ?_) | (refine go_id ?_; first | refine go_seq rfl ?_ | refine go_region rfl rfl ?_ | refine go_draw (dr := allQ) rfl rfl mixed (by kernel_rfl) ?_ | refine go_cond rfl ?_ | refine go_block rfl ?_ | refine go_skip rfl ?_ | refine go_ret rfl ?_ | refine go_exit rfl ?_) | (refine out_id ?_; first | refine out_then ?_ | refine out_then_ret ?_ | refine out_then_exit ?_ | refine out_block_ret ?_ | refine out_block ?_ | refine out_block_exit rfl ?_ | refine out_block_exit' rfl ?_ | refine out_thenS_ret ?_ | refine out_thenS_exit ?_ | refine out_ret ?_ | refine out_normal ?_ | refine out_retH ?_ | refine out_normalH ?_ | refine out_end ?_)) | refine at_go ?_ | (with_reducible refine And.intro (at_go ?_) (at_go ?_)) | ((with_reducible refine And.intro (fun h => ?_) (fun h => ?_)) <;> try (exfalso; omega)) | (with_reducible refine And.intro (by omega) ?_) | (first | (refine ⟨_, _, pc_lift (wCheck xs c n hx) (by (simp [idsL, idsE, AV.ids, idsE_ints])) _, ?_⟩) | (refine ⟨_, pc_lift (wCheck xs c n hx) (by (simp [idsL, idsE, AV.ids, idsE_ints])) _, ?_⟩) | (refine ⟨_, fun _ => pc_lift (wCheck xs c n hx) (by (simp [idsL, idsE, AV.ids, idsE_ints])) _, ?_⟩)) | simp (disch := first | omega | (simp only [length_ints, List.length_set, List.length_reverse, List.length_replicate, List.length_append, List.length_cons, List.length_nil, List.length_map]; omega)) only [push_cast, ↓reduceIte, reduceIte, reduceCtorEq, Nat.reduceAdd, Nat.reduceLT, Nat.reduceEqDiff, Nat.reduceLeDiff, Int.reduceAdd, Int.reduceLT, Int.reduceLE, Nat.reduceMul, ti3, ti22, ti32, en30, a0, a1, a7, a16, a17, a18, length_ints, wrap64])
        · rw [hr, hm]; exact ⟨rfl, rfl⟩
theorem rankM_ok {xs : List Int} {n : Int} (h : checkM xs n = 0) : rankM xs n = match rankR n 0 xs with | some r => (r, 0) | none => (0, 3) := by rw [rankM, if_neg (by simp [h])]

/-- The symbols of the word with rank r, the last one first. -/
def atL (n : Nat) (r : Nat) : List Int := if h : r = 0 then [] else (((r - 1) % n : Nat) : Int) :: atL n ((r - 1) / n)
termination_by r
decreasing_by
  have := Nat.div_le_self (r - 1) n
  omega
theorem atL_zero (n : Nat) : atL n 0 = [] := by rw [atL, dif_pos rfl]
theorem atL_pos (n r : Nat) (h : 0 < r) : atL n r = (((r - 1) % n : Nat) : Int) :: atL n ((r - 1) / n) := by rw [atL, dif_neg (by omega)]
theorem atL_len1 : ∀ r : Nat, (atL 1 r).length = r
  | 0 => by rw [atL_zero]; rfl
  | r + 1 => by rw [atL_pos 1 _ (by omega), List.length_cons, Nat.div_one, Nat.add_sub_cancel, atL_len1 r]
theorem atL_len (n : Nat) (hn : 2 ≤ n) : ∀ (k r : Nat), r < 2 ^ k → (atL n r).length ≤ k
  | 0, r, h => by
    have : r = 0 := by simpa using h
    subst this; rw [atL_zero]; simp
  | k + 1, r, h => by
    rcases Nat.eq_zero_or_pos r with h0 | h0
    · subst h0; rw [atL_zero]; simp
    · rw [atL_pos n r h0, List.length_cons]
      have h1 : (r - 1) / n ≤ (r - 1) / 2 := Nat.div_le_div_left hn (by omega)
      have h2 : (r - 1) / 2 < 2 ^ k := by rw [Nat.pow_succ] at h; omega
      have := atL_len n hn k _ (Nat.lt_of_le_of_lt h1 h2)
      omega
def atE (r n : Int) : Int := if 16 < n then 3 else if n < 1 ∨ r < 0 ∨ 4611686018427387903 < r then 1 else if n = 1 ∧ 256 < r then 3 else 0
def atM (r n : Int) : List Int × Int := if atE r n ≠ 0 then ([], atE r n) else ((atL n.toNat r.toNat).reverse, 0)
theorem atL_short (r n : Int) (h : atE r n = 0) : (atL n.toNat r.toNat).length ≤ 256 := by
  unfold atE at h
  split at h
  · cases h
  split at h
  · cases h
  split at h
  · cases h
  rename_i h1 h2 h3
  by_cases hn : n = 1
  · subst hn
    have := atL_len1 r.toNat
    simp only [Int.toNat_one]
    omega
  · have := atL_len n.toNat (by omega) 62 r.toNat (by have : (2 : Nat) ^ 62 = 4611686018427387904 := by decide
                                                      omega)
    omega
theorem wAt (r n : Int) : PC Tryd.prog G0 25 [.int .i64 r, .int .i64 n] (.tup [.sl 1 (ints (atM r n).1) (some (atM r n).1.length), .int .i64 (atM r n).2]) := by
  refine pc_go 1 45 [.tmp 4, .tmp 5] Tryd.func25 rfl rfl rfl (by simp) ?_
  intro s ⟨a0, a1, hz⟩
  simp only [Nat.zero_add, Nat.reduceAdd] at a1
  clear hz
  repeat' (first | (first | (refine acc_id ?_; first | refine acc_pure rfl rfl ?_ | refine acc_end rfl ?_ | refine acc_eff rfl rfl ?_ | refine acc_call rfl ?_ | refine acc_gp rfl rfl rfl ?_ | refine acc_gc rfl rfl ?_) | (refine go_id ?_; first | refine go_seq rfl ?_ | refine go_region rfl rfl ?_ | refine go_draw (dr := allQ) rfl rfl mixed (by kernel_rfl) ?_ | refine go_cond rfl ?_ | refine go_block rfl ?_ | refine go_skip rfl ?_ | refine go_ret rfl ?_ | refine go_exit rfl ?_) | (refine out_id ?_; first | refine out_then ?_ | refine out_then_ret ?_ | refine out_then_exit ?_ | refine out_block_ret ?_ | refine out_block ?_ | refine out_block_exit rfl ?_ | refine out_block_exit' rfl ?_ | refine out_thenS_ret ?_ | refine out_thenS_exit ?_ | refine out_ret ?_ | refine out_normal ?_ | refine out_retH ?_ | refine out_normalH ?_ | refine out_end ?_)) | refine at_go ?_ | (with_reducible refine And.intro (at_go ?_) (at_go ?_)) | ((with_reducible refine And.intro (fun h => ?_) (fun h => ?_)) <;> try (exfalso; omega)) | (with_reducible refine And.intro (by omega) ?_) | (first | (refine ⟨_, _, pc_lift (fail) (by (simp [idsL, idsE, AV.ids, idsE_ints])) _, ?_⟩) | (refine ⟨_, pc_lift (fail) (by (simp [idsL, idsE, AV.ids, idsE_ints])) _, ?_⟩) | (refine ⟨_, fun _ => pc_lift (fail) (by (simp [idsL, idsE, AV.ids, idsE_ints])) _, ?_⟩)) | simp (disch := first | omega | (simp only [length_ints, List.length_set, List.length_reverse, List.length_replicate, List.length_append, List.length_cons, List.length_nil, List.length_map]; omega)) only [push_cast, ↓reduceIte, reduceIte, reduceCtorEq, Nat.reduceAdd, Nat.reduceLT, Nat.reduceEqDiff, Nat.reduceLeDiff, Int.reduceAdd, Int.reduceLT, Int.reduceLE, Nat.reduceMul, ti3, ti22, en39, en40, a0, a1, length_ints])
  · simp [atM, atE, h, ints]
  · have he : atE r n = 1 := by rw [atE, if_neg (by omega), if_pos (by omega)]
    simp [atM, he, ints]
  · have he : atE r n = 3 := by rw [atE, if_neg (by omega), if_neg (by omega), if_pos h]
    simp [atM, he, ints]
  · have he : atE r n = 0 := by rw [atE, if_neg (by omega), if_neg (by omega), if_neg (by omega)]
    have hat : atM r n = ((atL n.toNat r.toNat).reverse, 0) := by rw [atM, if_neg (by simp [he])]
    have hlen := atL_short r n he
    obtain ⟨R, hR⟩ : ∃ R : Nat, r = R := ⟨r.toNat, by omega⟩
    obtain ⟨N, hN⟩ : ∃ N : Nat, n = N := ⟨n.toNat, by omega⟩
    subst hR; subst hN
    simp only [Int.toNat_natCast] at hat hlen
    refine go_loop rfl (fun m s H' => ∃ xs q, m = q ∧ q ≤ R ∧ H' = [.row 1 3 (ints xs)] ∧ s 0 = .int .i64 (q : Int) ∧ s 1 = .int .i64 N ∧ s 6 = .own 0 xs.length xs.length none ∧ atL N R = xs ++ atL N q) trivial (weak_nil (t := 6) (sz := 1) (ty := 3) (z := 0) ?_) ⟨[], R, rfl, Nat.le_refl _, rfl, ?_⟩ ?_
    · (simp (disch := first | omega | (simp only [length_ints, List.length_set, List.length_reverse, List.length_replicate, List.length_append, List.length_cons, List.length_nil, List.length_map]; omega)) only [push_cast, ↓reduceIte, reduceIte, reduceCtorEq, Nat.reduceAdd, Nat.reduceLT, Nat.reduceEqDiff, Nat.reduceLeDiff, Int.reduceAdd, Int.reduceLT, Int.reduceLE, Nat.reduceMul, ti3, ti22, en39, en40, a0, a1, length_ints]) <;> (first | rfl | exact ⟨rfl, rfl⟩ | omega | (congr 1; omega) | (simp; done) | ((repeat' apply And.intro) <;> first | rfl | omega | (congr 1; omega)))
    · (simp (disch := first | omega | (simp only [length_ints, List.length_set, List.length_reverse, List.length_replicate, List.length_append, List.length_cons, List.length_nil, List.length_map]; omega)) only [push_cast, ↓reduceIte, reduceIte, reduceCtorEq, Nat.reduceAdd, Nat.reduceLT, Nat.reduceEqDiff, Nat.reduceLeDiff, Int.reduceAdd, Int.reduceLT, Int.reduceLE, Nat.reduceMul, ti3, ti22, en39, en40, a0, a1, length_ints]) <;> (first | rfl | exact ⟨rfl, rfl⟩ | omega | (congr 1; omega) | (simp; done) | ((repeat' apply And.intro) <;> first | rfl | omega | (congr 1; omega)))
    · rintro q s H' ⟨xs, q', rfl, hq, rfl, a0, a1, a6, hm⟩
      have hxl : xs.length ≤ 256 := by
        have := congrArg List.length hm
        rw [List.length_append] at this; omega
      have hN1 : 1 ≤ N := by omega
      by_cases hlt : 0 < q
      · have e0 : (q : Int) - 1 = ((q - 1 : Nat) : Int) := by omega
        obtain ⟨X, hX⟩ : ∃ X, X = (q - 1) % N := ⟨_, rfl⟩
        obtain ⟨Q, hQ⟩ : ∃ Q, Q = (q - 1) / N := ⟨_, rfl⟩
        have e1 : ((q : Int) - 1).tmod N = X := by
          rw [Int.tmod_eq_emod_of_nonneg (by omega), e0, hX]; rfl
        have e2 : ((q : Int) - 1).tdiv N = Q := by
          rw [Int.tdiv_eq_ediv_of_nonneg (by omega), e0, hQ]; rfl
        have e3 : Q ≤ q - 1 := by rw [hQ]; exact Nat.div_le_self (q - 1) N
        repeat' (first | (first | (refine acc_id ?_; first | refine acc_pure rfl rfl ?_ | refine acc_end rfl ?_ | refine acc_eff rfl rfl ?_ | refine acc_call rfl ?_ | refine acc_gp rfl rfl rfl ?_ | refine acc_gc rfl rfl ?_) | (refine go_id ?_; first | refine go_seq rfl ?_ | refine go_region rfl rfl ?_ | refine go_draw (dr := allQ) rfl rfl mixed (by kernel_rfl) ?_ | refine go_cond rfl ?_ | refine go_block rfl ?_ | refine go_skip rfl ?_ | refine go_ret rfl ?_ | refine go_exit rfl ?_) | (refine out_id ?_; first | refine out_then ?_ | refine out_then_ret ?_ | refine out_then_exit ?_ | refine out_block_ret ?_ | refine out_block ?_ | refine out_block_exit rfl ?_ | refine out_block_exit' rfl ?_ | refine out_thenS_ret ?_ | refine out_thenS_exit ?_ | refine out_ret ?_ | refine out_normal ?_ | refine out_retH ?_ | refine out_normalH ?_ | refine out_end ?_)) | refine at_go ?_ | (with_reducible refine And.intro (at_go ?_) (at_go ?_)) | ((with_reducible refine And.intro (fun h => ?_) (fun h => ?_)) <;> try (exfalso; omega)) | (with_reducible refine And.intro (by omega) ?_) | (first | (refine ⟨_, _, pc_lift (fail) (by (simp [idsL, idsE, AV.ids, idsE_ints])) _, ?_⟩) | (refine ⟨_, pc_lift (fail) (by (simp [idsL, idsE, AV.ids, idsE_ints])) _, ?_⟩) | (refine ⟨_, fun _ => pc_lift (fail) (by (simp [idsL, idsE, AV.ids, idsE_ints])) _, ?_⟩)) | simp (disch := first | omega | (simp only [length_ints, List.length_set, List.length_reverse, List.length_replicate, List.length_append, List.length_cons, List.length_nil, List.length_map]; omega)) only [push_cast, ↓reduceIte, reduceIte, reduceCtorEq, Nat.reduceAdd, Nat.reduceLT, Nat.reduceEqDiff, Nat.reduceLeDiff, Int.reduceAdd, Int.reduceLT, Int.reduceLE, Nat.reduceMul, ti3, ti22, en39, en40, a0, a1, a6, e1, e2, length_ints, wrap64, ints_snoc])
        · refine out_round Q (by omega) (by (first | trivial | ((repeat' apply And.intro) <;> first | trivial | assumption | omega | (simp only [maxLen]; omega) | (simp only [length_ints, List.length_replicate, List.length_append, List.length_cons, List.length_nil, List.length_map, List.length_take, List.length_drop, List.length_set, List.length_reverse, maxLen] <;> omega)))) ⟨xs ++ [(X : Int)], _, rfl, by omega, rfl, ?_⟩
          simp (disch := first | omega | (simp only [length_ints, List.length_set, List.length_reverse, List.length_replicate, List.length_append, List.length_cons, List.length_nil, List.length_map]; omega)) only [push_cast, ↓reduceIte, reduceIte, reduceCtorEq, Nat.reduceAdd, Nat.reduceLT, Nat.reduceEqDiff, Nat.reduceLeDiff, Int.reduceAdd, Int.reduceLT, Int.reduceLE, Nat.reduceMul, ti3, ti22, en39, en40, a0, a1, a6, e1, e2, length_ints, wrap64, ints_snoc]
          rw [hm, atL_pos N q hlt, List.append_assoc, ← hX, ← hQ]; rfl
      · have hq0 : q = 0 := by omega
        subst hq0
        rw [atL_zero, List.append_nil] at hm
        repeat' (first | (first | (refine acc_id ?_; first | refine acc_pure rfl rfl ?_ | refine acc_end rfl ?_ | refine acc_eff rfl rfl ?_ | refine acc_call rfl ?_ | refine acc_gp rfl rfl rfl ?_ | refine acc_gc rfl rfl ?_) | (refine go_id ?_; first | refine go_seq rfl ?_ | refine go_region rfl rfl ?_ | refine go_draw (dr := allQ) rfl rfl mixed (by kernel_rfl) ?_ | refine go_cond rfl ?_ | refine go_block rfl ?_ | refine go_skip rfl ?_ | refine go_ret rfl ?_ | refine go_exit rfl ?_) | (refine out_id ?_; first | refine out_then ?_ | refine out_then_ret ?_ | refine out_then_exit ?_ | refine out_block_ret ?_ | refine out_block ?_ | refine out_block_exit rfl ?_ | refine out_block_exit' rfl ?_ | refine out_thenS_ret ?_ | refine out_thenS_exit ?_ | refine out_ret ?_ | refine out_normal ?_ | refine out_retH ?_ | refine out_normalH ?_ | refine out_end ?_)) | refine at_go ?_ | (with_reducible refine And.intro (at_go ?_) (at_go ?_)) | ((with_reducible refine And.intro (fun h => ?_) (fun h => ?_)) <;> try (exfalso; omega)) | (with_reducible refine And.intro (by omega) ?_) | (first | (refine ⟨_, _, reverse39 0 3 xs none _ rfl (by omega), ?_⟩) | (refine ⟨_, reverse39 0 3 xs none _ rfl (by omega), ?_⟩) | (refine ⟨_, fun _ => reverse39 0 3 xs none _ rfl (by omega), ?_⟩) | (refine ⟨_, _, clip40_own 0 _ _ 3 _ _ _ rfl (by (first | assumption | omega | (simp only [length_ints, List.length_set, List.length_reverse, List.length_replicate, List.length_append, List.length_cons, List.length_nil, List.length_map, List.length_take, List.length_drop] <;> omega) | (simp; done) | (simp; omega))), ?_⟩) | (refine ⟨_, clip40_own 0 _ _ 3 _ _ _ rfl (by (first | assumption | omega | (simp only [length_ints, List.length_set, List.length_reverse, List.length_replicate, List.length_append, List.length_cons, List.length_nil, List.length_map, List.length_take, List.length_drop] <;> omega) | (simp; done) | (simp; omega))), ?_⟩) | (refine ⟨_, fun _ => clip40_own 0 _ _ 3 _ _ _ rfl (by (first | assumption | omega | (simp only [length_ints, List.length_set, List.length_reverse, List.length_replicate, List.length_append, List.length_cons, List.length_nil, List.length_map, List.length_take, List.length_drop] <;> omega) | (simp; done) | (simp; omega))), ?_⟩)) | simp (disch := first | omega | (simp only [length_ints, List.length_set, List.length_reverse, List.length_replicate, List.length_append, List.length_cons, List.length_nil, List.length_map]; omega)) only [push_cast, ↓reduceIte, reduceIte, reduceCtorEq, Nat.reduceAdd, Nat.reduceLT, Nat.reduceEqDiff, Nat.reduceLeDiff, Int.reduceAdd, Int.reduceLT, Int.reduceLE, Nat.reduceMul, ti3, ti22, en39, en40, a0, a1, a6, length_ints, wrap64])
        rw [hat, hm]; simp [all_ints]
end Go.Proofs
