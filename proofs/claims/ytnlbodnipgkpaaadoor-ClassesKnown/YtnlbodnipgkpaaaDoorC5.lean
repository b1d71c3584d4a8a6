import Derived.Test.YtnlbodnipgkpaaaDoorC4
/- Classes: blocks, Blocks. -/
namespace Go.Proofs
open Go Go.V
set_option linter.unusedVariables false
set_option linter.unusedSimpArgs false
set_option maxHeartbeats 0
set_option maxRecDepth 100000
/-- What the row of blocks holds when k numbers were put in; the blocks. -/
def mK (p : List Int) (k : Nat) : Nat := (dd (p.take k)).length
def bF (p : List Int) (k s : Nat) : AV := if s < mK p k then .own (s + 1) (idxsK p k s).length (idxsK p k s).length none else .sl 0 [] (some 0)
def gF (p : List Int) (k s : Nat) : List (List AV) := ints (natsI (idxsK p k s))
theorem dd_mono (r : List Int) : ∀ (l : List Int), (dd l).length ≤ (dd (l ++ r)).length := by
  refine snoc_ind (P := fun r => ∀ l : List Int, (dd l).length ≤ (dd (l ++ r)).length) (fun l => by simp) (fun r x ih l => ?_) r
  rw [← List.append_assoc, dd_len_snoc]
  have := ih l
  split <;> omega
theorem mK_le {p : List Int} (h : Valid p) {k : Nat} (hk : k ≤ p.length) : mK p k ≤ countM p := by
  rw [mK, valid_count h]
  have h2 := dd_mono (p.drop k) (p.take k)
  rwa [List.take_append_drop] at h2
theorem idxsK_ne {p : List Int} {k b s : Nat} (hk : gI p k = b) (hs : ¬ s = b) : idxsK p (k + 1) s = idxsK p k s := by
  rw [idxsK_succ, if_neg (by omega), List.append_nil]
theorem mK_step {p : List Int} (h : Valid p) {k : Nat} (hk : k < p.length) : ∃ b : Nat, p.getD k 0 = b ∧ ((b < mK p k ∧ mK p (k + 1) = mK p k) ∨ (b = mK p k ∧ mK p (k + 1) = mK p k + 1)) := by
  have e := take_snoc p 0 k hk
  have hv : Valid (p.take (k + 1)) := valid_pre (r := p.drop (k + 1)) (by rw [List.take_append_drop]; exact h)
  rw [e] at hv
  have hv0 := valid_pre hv
  obtain ⟨q1, q2⟩ := (valid_snoc hv0 _).1 hv
  have hm := valid_mem hv0 (b := p.getD k 0)
  have hl := dd_len_snoc (p.take k) (p.getD k 0)
  rw [← e] at hl
  refine ⟨(p.getD k 0).toNat, by omega, ?_⟩
  unfold mK
  by_cases hx : p.getD k 0 ∈ p.take k
  · rw [if_pos hx] at hl
    have := hm.1 hx
    exact .inl ⟨by omega, hl⟩
  · rw [if_neg hx] at hl
    have : ¬ (0 ≤ p.getD k 0 ∧ p.getD k 0 < (dd (p.take k)).length) := fun q => hx (hm.2 q)
    exact .inr ⟨by omega, hl⟩
theorem idxsK_new {p : List Int} (h : Valid p) {k : Nat} (hk : k ≤ p.length) {s : Nat} (hs : mK p k ≤ s) : idxsK p k s = [] := by
  rw [idxsK, List.filter_eq_nil_iff]
  intro i hi
  have hi := List.mem_range.1 hi
  have hv : Valid (p.take k) := valid_pre (r := p.drop k) (by rw [List.take_append_drop]; exact h)
  have hm : gI p i ∈ p.take k := by
    have : gI p i = (p.take k).getD i 0 := (getD_take p 0 i k hi).symm
    rw [this]; exact getD_mem 0 (by rw [List.length_take]; omega)
  have := (valid_mem hv).1 hm
  unfold mK at hs
  simp only [decide_eq_true_eq]
  omega
theorem bF_old {p : List Int} {k b : Nat} (hk : gI p k = b) (hb : b < mK p k) (hm : mK p (k + 1) = mK p k) (N : Nat) : cellsF (updF (bF p k) b (.own (b + 1) ((idxsK p k b).length + 1) ((idxsK p k b).length + 1) none)) N = cellsF (bF p (k + 1)) N := by
  refine cellsF_congr fun s hs => ?_
  unfold updF bF
  rw [hm]
  by_cases e : s = b
  · subst e
    rw [if_pos rfl, if_pos hb, idxsK_succ, if_pos hk]; simp
  · rw [if_neg e, idxsK_ne hk e]
theorem gF_old {p : List Int} {k b : Nat} (hk : gI p k = b) (m : Nat) : rowsF 1 3 (updF (gF p k) b (gF p k b ++ [[.int .i64 (k : Int)]])) m = rowsF 1 3 (gF p (k + 1)) m := by
  refine rf_congr fun s hs => ?_
  unfold updF gF
  by_cases e : s = b
  · subst e
    rw [if_pos rfl, ints_snoc, idxsK_succ, if_pos hk]; simp [natsI]
  · rw [if_neg e, idxsK_ne hk e]
theorem bF_new {p : List Int} (h : Valid p) {k b : Nat} (hkl : k ≤ p.length) (hk : gI p k = b) (hb : b = mK p k) (hm : mK p (k + 1) = mK p k + 1) (N : Nat) : cellsF (updF (bF p k) b (.own (b + 1) 1 1 none)) N = cellsF (bF p (k + 1)) N := by
  refine cellsF_congr fun s hs => ?_
  unfold updF bF
  rw [hm]
  by_cases e : s = b
  · subst e
    rw [if_pos rfl, if_pos (by omega), idxsK_succ, if_pos hk, idxsK_new h hkl (by omega)]; simp
  · rw [if_neg e, idxsK_ne hk e]
    by_cases q : s < mK p k
    · rw [if_pos q, if_pos (by omega)]
    · rw [if_neg q, if_neg (by omega)]
theorem gF_new {p : List Int} (h : Valid p) {k b : Nat} (hkl : k ≤ p.length) (hk : gI p k = b) (hb : b = mK p k) : rowsF 1 3 (gF p k) b ++ [.row 1 3 [[.int .i64 (k : Int)]]] = rowsF 1 3 (gF p (k + 1)) (b + 1) := by
  rw [← rf_snoc]
  congr 1
  · refine rf_congr fun s hs => ?_
    unfold gF
    rw [idxsK_ne hk (by omega)]
  · unfold gF
    rw [idxsK_succ, if_pos hk, idxsK_new h hkl (by omega)]
    simp [natsI, ints]
/-- Behind the first loop, and in the second one. -/
def cF (p : List Int) (k s : Nat) : AV := .own (s + 1) (idxs p s).length (idxs p s).length (if s < k then some (idxs p s).length else none)
theorem bF_all {p : List Int} (h : Valid p) : cellsF (bF p p.length) (countM p) = cellsF (cF p 0) (countM p) := by
  refine cellsF_congr fun s hs => ?_
  unfold bF cF
  rw [if_pos (by rw [mK, List.take_length, ← valid_count h]; exact hs), if_neg (by omega), idxsK_all]
theorem cF_succ (p : List Int) (k N : Nat) : cellsF (updF (cF p k) k (.own (k + 1) (idxs p k).length (idxs p k).length (some (idxs p k).length))) N = cellsF (cF p (k + 1)) N := by
  refine cellsF_congr fun s hs => ?_
  unfold updF cF
  by_cases e : s = k
  · subst e; rw [if_pos rfl, if_pos (by omega)]
  · rw [if_neg e]
    by_cases q : s < k
    · rw [if_pos q, if_pos (by omega)]
    · rw [if_neg q, if_neg (by omega)]
def blkRows (p : List Int) : List Row := (blocksM p).map fun l => (natsI l, some l.length)
theorem rows_blk (p : List Int) : cellsF (fun s => AV.sl 1 (ints (natsI (idxs p s))) (some (idxs p s).length)) (countM p) = rowsA (blkRows p) := by
  simp [cellsF, rowsA, blkRows, blocksM, List.map_map, Function.comp_def]
theorem blocks34 (p : List Int) (c : Option Nat) (hx : p.length ≤ 1000000) (hv : Valid p) : PC Tryd.prog G0 34 [.sl 1 (ints p) c] (.sl 1 (rowsA (blkRows p)) (some (countM p))) := by
  have hb : ∀ x ∈ p, -1 ≤ x ∧ x ≤ 1000000 := fun x hx' => by
    have h1 := (valid_mem hv).1 hx'
    have h2 := dd_len_le p
    omega
  have hC := count33 p c hx hb
  have hN : countM p ≤ 1000000 := by rw [valid_count hv]; have := dd_len_le p; omega
  have hmk := fun k (hk : k ≤ p.length) => mK_le hv hk
  have hall := bF_all hv
  have hra := rows_blk p
  generalize hNe : countM p = N at *
  refine pc_go 2 43 [.tmp 2] Tryd.func34 rfl rfl rfl (by simp) ?_
  intro s ⟨a0, hz⟩
  clear hz
  repeat' (first | (first | (refine a0_ ?_; first | refine a1_ rfl rfl ?_ | refine a2_ rfl ?_ | refine a3_ rfl rfl ?_ | refine a4_ rfl ?_ | refine a5_ rfl rfl rfl ?_ | refine a6_ rfl rfl ?_ | refine a7_ rfl rfl ?_ | refine a8_ rfl rfl ?_ | refine a9_ rfl rfl rfl ?_) | (refine g0_ ?_; first | refine g1_ rfl ?_ | refine g2_ rfl rfl ?_ | refine go_draw (dr := allQ) rfl rfl mixed (by first | assumption | kernel_rfl) ?_ | refine g4_ rfl ?_ | refine g5_ rfl ?_ | refine g6_ rfl ?_ | refine g7_ rfl ?_ | refine g8_ rfl ?_ | refine ga_ rfl ?_ | refine gb_ rfl ?_) | (refine o0_ ?_; first | refine o1_ ?_ | refine o2_ ?_ | refine o3_ ?_ | refine o4_ ?_ | refine o5_ ?_ | refine o6_ rfl ?_ | refine o7_ rfl ?_ | refine o8_ ?_ | refine o9_ ?_ | refine oa_ ?_ | refine ob_ ?_ | refine oc_ ?_ | refine od_ ?_ | refine oe_ ?_ | refine of_ ?_ | refine og_ ?_ | refine oh_ ?_ | refine oi_ ?_ | refine oj_ ?_ | refine ok_ ?_)) | refine at_go ?_ | (with_reducible refine And.intro (at_go ?_) (at_go ?_)) | ((with_reducible refine And.intro (fun h => ?_) (fun h => ?_)) <;> try (exfalso; omega)) | (with_reducible refine And.intro (by first | omega | (simp only [maxLen]; omega)) ?_) | (first | (refine ⟨_, _, pc_lift (hC) (by (simp [idsL, idsE, AV.ids, Nat.add_zero])) _, ?_⟩) | (refine ⟨_, pc_lift (hC) (by (simp [idsL, idsE, AV.ids, Nat.add_zero])) _, ?_⟩) | (refine ⟨_, fun _ => pc_lift (hC) (by (simp [idsL, idsE, AV.ids, Nat.add_zero])) _, ?_⟩)) | simp (disch := first | omega | (simp only [length_ints, length_prs, length_natsI, length_prsI, length_cellsF, rf_len, List.length_set, List.length_reverse, List.length_replicate, List.length_append, List.length_cons, List.length_nil, List.length_map]; omega)) only [push_cast, ↓reduceIte, reduceIte, reduceCtorEq, Nat.reduceAdd, Nat.reduceLT, Nat.reduceEqDiff, Nat.reduceLeDiff, Int.reduceAdd, Int.reduceLT, Int.reduceLE, Nat.reduceMul, a0])
  refine go_loop rfl (fun mz s' H' => ∃ k : Nat, k ≤ p.length ∧ mz = p.length - k ∧ H' = .row 1 22 (cellsF (bF p k) N) :: rowsF 1 3 (gF p k) (mK p k) ∧ s' 3 = .own 0 N N (some N) ∧ s' 10 = .sl 1 (ints p) c ∧ s' 11 = .int .i64 p.length ∧ s' 12 = .int .i64 k) (m := p.length) (by (first | trivial | ((repeat' apply And.intro) <;> first | trivial | assumption | omega | (simp only [maxLen]; omega) | (simp only [length_ints, length_prs, length_natsI, length_prsI, length_cellsF, rf_len, List.length_replicate, List.length_append, List.length_cons, List.length_nil, List.length_map, List.length_take, List.length_drop, List.length_set, List.length_reverse, maxLen] <;> omega)))) (Weak.refl _ _) ⟨0, by omega, by omega, ?_, ?_⟩ ?_
  · simp [mK, dd_nil, rowsF, cellsF_replicate]
    exact cellsF_congr fun s _ => by simp [bF, mK, dd_nil]
  · simp (disch := first | omega | (simp only [length_ints, length_prs, length_natsI, length_prsI, length_cellsF, rf_len, List.length_set, List.length_reverse, List.length_replicate, List.length_append, List.length_cons, List.length_nil, List.length_map]; omega)) only [push_cast, ↓reduceIte, reduceIte, reduceCtorEq, Nat.reduceAdd, Nat.reduceLT, Nat.reduceEqDiff, Nat.reduceLeDiff, Int.reduceAdd, Int.reduceLT, Int.reduceLE, Nat.reduceMul, a0]
  · rintro mz s' H' ⟨k, hk, rfl, rfl, b3, b10, b11, b12⟩
    rcases Nat.lt_or_ge k p.length with hlt | hge
    · obtain ⟨b, hbe, hcase⟩ := mK_step hv hlt
      have e1 := getD_ints p k hlt
      rw [hbe] at e1
      have l1 := hmk k hk
      have l2 := hmk (k + 1) hlt
      have hbN : b < N := by omega
      have e2 := getD_cellsF (f := bF p k) hbN
      have e3 : ∀ v, (cellsF (bF p k) N).set b [v] = cellsF (updF (bF p k) b v) N := fun v => set_cellsF v
      rcases hcase with ⟨q1, q2⟩ | ⟨q1, q2⟩
      · have e4 : bF p k b = .own (b + 1) (idxsK p k b).length (idxsK p k b).length none := by rw [bF, if_pos q1]
        have e5 := rf_get (z := 1) (t := 3) (g := gF p k) q1
        have e6 := fun es => rf_set (z := 1) (N := mK p k) (q := b) (t := 3) (g := gF p k) es
        have e7 := bF_old hbe q1 q2 N
        have e8 := gF_old (p := p) (k := k) (b := b) hbe (mK p k)
        have e9 : (gF p k b).length = (idxsK p k b).length := by simp [gF, length_ints, length_natsI]
        have e10 := idxsK_len p k b
        have e11 := rf_get (z := 1) (t := 3) (g := updF (gF p k) b (gF p k b ++ [[.int .i64 (k : Int)]])) q1
        rw [updF, if_pos rfl] at e11
        rw [e4] at e2
        generalize gF p k b = gb at *
        repeat' (first | (first | (refine a0_ ?_; first | refine a1_ rfl rfl ?_ | refine a2_ rfl ?_ | refine a3_ rfl rfl ?_ | refine a4_ rfl ?_ | refine a5_ rfl rfl rfl ?_ | refine a6_ rfl rfl ?_ | refine a7_ rfl rfl ?_ | refine a8_ rfl rfl ?_ | refine a9_ rfl rfl rfl ?_) | (refine g0_ ?_; first | refine g1_ rfl ?_ | refine g2_ rfl rfl ?_ | refine go_draw (dr := allQ) rfl rfl mixed (by first | assumption | kernel_rfl) ?_ | refine g4_ rfl ?_ | refine g5_ rfl ?_ | refine g6_ rfl ?_ | refine g7_ rfl ?_ | refine g8_ rfl ?_ | refine ga_ rfl ?_ | refine gb_ rfl ?_) | (refine o0_ ?_; first | refine o1_ ?_ | refine o2_ ?_ | refine o3_ ?_ | refine o4_ ?_ | refine o5_ ?_ | refine o6_ rfl ?_ | refine o7_ rfl ?_ | refine o8_ ?_ | refine o9_ ?_ | refine oa_ ?_ | refine ob_ ?_ | refine oc_ ?_ | refine od_ ?_ | refine oe_ ?_ | refine of_ ?_ | refine og_ ?_ | refine oh_ ?_ | refine oi_ ?_ | refine oj_ ?_ | refine ok_ ?_)) | refine at_go ?_ | (with_reducible refine And.intro (at_go ?_) (at_go ?_)) | ((with_reducible refine And.intro (fun h => ?_) (fun h => ?_)) <;> try (exfalso; omega)) | (with_reducible refine And.intro (by first | omega | (simp only [maxLen]; omega)) ?_) | fail | simp (disch := first | omega | (simp only [length_ints, length_prs, length_natsI, length_prsI, length_cellsF, rf_len, List.length_set, List.length_reverse, List.length_replicate, List.length_append, List.length_cons, List.length_nil, List.length_map]; omega)) only [push_cast, ↓reduceIte, reduceIte, reduceCtorEq, Nat.reduceAdd, Nat.reduceLT, Nat.reduceEqDiff, Nat.reduceLeDiff, Int.reduceAdd, Int.reduceLT, Int.reduceLE, Nat.reduceMul, b3, b10, b11, b12, e1, e2, e3, e5, e6, e9, e11, length_cellsF])
        refine out_round (p.length - (k + 1)) (by omega) (by (first | trivial | ((repeat' apply And.intro) <;> first | trivial | assumption | omega | (simp only [maxLen]; omega) | (simp only [length_ints, length_prs, length_natsI, length_prsI, length_cellsF, rf_len, List.length_replicate, List.length_append, List.length_cons, List.length_nil, List.length_map, List.length_take, List.length_drop, List.length_set, List.length_reverse, maxLen] <;> omega)))) ⟨k + 1, by omega, rfl, by rw [e7, e8, q2], ?_⟩
        simp (disch := first | omega | (simp only [length_ints, length_prs, length_natsI, length_prsI, length_cellsF, rf_len, List.length_set, List.length_reverse, List.length_replicate, List.length_append, List.length_cons, List.length_nil, List.length_map]; omega)) only [push_cast, ↓reduceIte, reduceIte, reduceCtorEq, Nat.reduceAdd, Nat.reduceLT, Nat.reduceEqDiff, Nat.reduceLeDiff, Int.reduceAdd, Int.reduceLT, Int.reduceLE, Nat.reduceMul, b3, b10, b11, b12, e1, e2, e3, e5, e6, e9, e11, length_cellsF]
      · have e4 : bF p k b = .sl 0 [] (some 0) := by rw [bF, if_neg (by omega)]
        have e7 := bF_new hv hk hbe q1 q2 N
        have e8 := gF_new hv hk hbe q1
        rw [e4] at e2
        repeat' (first | (first | (refine a0_ ?_; first | refine a1_ rfl rfl ?_ | refine a2_ rfl ?_ | refine a3_ rfl rfl ?_ | refine a4_ rfl ?_ | refine a5_ rfl rfl rfl ?_ | refine a6_ rfl rfl ?_ | refine a7_ rfl rfl ?_ | refine a8_ rfl rfl ?_ | refine a9_ rfl rfl rfl ?_) | (refine g0_ ?_; first | refine g1_ rfl ?_ | refine g2_ rfl rfl ?_ | refine go_draw (dr := allQ) rfl rfl mixed (by first | assumption | kernel_rfl) ?_ | refine g4_ rfl ?_ | refine g5_ rfl ?_ | refine g6_ rfl ?_ | refine g7_ rfl ?_ | refine g8_ rfl ?_ | refine ga_ rfl ?_ | refine gb_ rfl ?_) | (refine o0_ ?_; first | refine o1_ ?_ | refine o2_ ?_ | refine o3_ ?_ | refine o4_ ?_ | refine o5_ ?_ | refine o6_ rfl ?_ | refine o7_ rfl ?_ | refine o8_ ?_ | refine o9_ ?_ | refine oa_ ?_ | refine ob_ ?_ | refine oc_ ?_ | refine od_ ?_ | refine oe_ ?_ | refine of_ ?_ | refine og_ ?_ | refine oh_ ?_ | refine oi_ ?_ | refine oj_ ?_ | refine ok_ ?_)) | refine at_go ?_ | (with_reducible refine And.intro (at_go ?_) (at_go ?_)) | ((with_reducible refine And.intro (fun h => ?_) (fun h => ?_)) <;> try (exfalso; omega)) | (with_reducible refine And.intro (by first | omega | (simp only [maxLen]; omega)) ?_) | fail | simp (disch := first | omega | (simp only [length_ints, length_prs, length_natsI, length_prsI, length_cellsF, rf_len, List.length_set, List.length_reverse, List.length_replicate, List.length_append, List.length_cons, List.length_nil, List.length_map]; omega)) only [push_cast, ↓reduceIte, reduceIte, reduceCtorEq, Nat.reduceAdd, Nat.reduceLT, Nat.reduceEqDiff, Nat.reduceLeDiff, Int.reduceAdd, Int.reduceLT, Int.reduceLE, Nat.reduceMul, b3, b10, b11, b12, e1, e2, e3, length_cellsF, rf_len, rf_at0, q1.symm])
        refine out_round (p.length - (k + 1)) (by omega) (by (first | trivial | ((repeat' apply And.intro) <;> first | trivial | assumption | omega | (simp only [maxLen]; omega) | (simp only [length_ints, length_prs, length_natsI, length_prsI, length_cellsF, rf_len, List.length_replicate, List.length_append, List.length_cons, List.length_nil, List.length_map, List.length_take, List.length_drop, List.length_set, List.length_reverse, maxLen] <;> omega)))) ⟨k + 1, by omega, rfl, by rw [q2, ← q1, ← e8, ← e7], ?_⟩
        simp (disch := first | omega | (simp only [length_ints, length_prs, length_natsI, length_prsI, length_cellsF, rf_len, List.length_set, List.length_reverse, List.length_replicate, List.length_append, List.length_cons, List.length_nil, List.length_map]; omega)) only [push_cast, ↓reduceIte, reduceIte, reduceCtorEq, Nat.reduceAdd, Nat.reduceLT, Nat.reduceEqDiff, Nat.reduceLeDiff, Int.reduceAdd, Int.reduceLT, Int.reduceLE, Nat.reduceMul, b3, b10, b11, b12, e1, e2, e3, length_cellsF, rf_len, rf_at0, q1.symm]
    · obtain rfl : k = p.length := by omega
      have hm : mK p p.length = N := by rw [mK, List.take_length, ← valid_count hv]; exact hNe
      rw [hall, hm]
      have hg : rowsF 1 3 (gF p p.length) N = rowsF 1 3 (fun s => ints (natsI (idxs p s))) N := rf_congr fun s _ => by rw [gF, idxsK_all]
      rw [hg]
      repeat' (first | (first | (refine a0_ ?_; first | refine a1_ rfl rfl ?_ | refine a2_ rfl ?_ | refine a3_ rfl rfl ?_ | refine a4_ rfl ?_ | refine a5_ rfl rfl rfl ?_ | refine a6_ rfl rfl ?_ | refine a7_ rfl rfl ?_ | refine a8_ rfl rfl ?_ | refine a9_ rfl rfl rfl ?_) | (refine g0_ ?_; first | refine g1_ rfl ?_ | refine g2_ rfl rfl ?_ | refine go_draw (dr := allQ) rfl rfl mixed (by first | assumption | kernel_rfl) ?_ | refine g4_ rfl ?_ | refine g5_ rfl ?_ | refine g6_ rfl ?_ | refine g7_ rfl ?_ | refine g8_ rfl ?_ | refine ga_ rfl ?_ | refine gb_ rfl ?_) | (refine o0_ ?_; first | refine o1_ ?_ | refine o2_ ?_ | refine o3_ ?_ | refine o4_ ?_ | refine o5_ ?_ | refine o6_ rfl ?_ | refine o7_ rfl ?_ | refine o8_ ?_ | refine o9_ ?_ | refine oa_ ?_ | refine ob_ ?_ | refine oc_ ?_ | refine od_ ?_ | refine oe_ ?_ | refine of_ ?_ | refine og_ ?_ | refine oh_ ?_ | refine oi_ ?_ | refine oj_ ?_ | refine ok_ ?_)) | refine at_go ?_ | (with_reducible refine And.intro (at_go ?_) (at_go ?_)) | ((with_reducible refine And.intro (fun h => ?_) (fun h => ?_)) <;> try (exfalso; omega)) | (with_reducible refine And.intro (by first | omega | (simp only [maxLen]; omega)) ?_) | fail | simp (disch := first | omega | (simp only [length_ints, length_prs, length_natsI, length_prsI, length_cellsF, rf_len, List.length_set, List.length_reverse, List.length_replicate, List.length_append, List.length_cons, List.length_nil, List.length_map]; omega)) only [push_cast, ↓reduceIte, reduceIte, reduceCtorEq, Nat.reduceAdd, Nat.reduceLT, Nat.reduceEqDiff, Nat.reduceLeDiff, Int.reduceAdd, Int.reduceLT, Int.reduceLE, Nat.reduceMul, b3, b10, b11, b12, length_cellsF])
      refine go_loop rfl (fun mz s' H' => ∃ j : Nat, j ≤ N ∧ mz = N - j ∧ H' = List.cons (Blk.row 1 22 (cellsF (cF p j) N)) (rowsF 1 3 (fun s => ints (natsI (idxs p s))) N) ∧ s' 3 = .own 0 N N (some N) ∧ s' 29 = .int .i64 N ∧ s' 30 = .int .i64 j) (m := N) (by (first | trivial | ((repeat' apply And.intro) <;> first | trivial | assumption | omega | (simp only [maxLen]; omega) | (simp only [length_ints, length_prs, length_natsI, length_prsI, length_cellsF, rf_len, List.length_replicate, List.length_append, List.length_cons, List.length_nil, List.length_map, List.length_take, List.length_drop, List.length_set, List.length_reverse, maxLen] <;> omega)))) (Weak.refl _ _) ⟨0, by omega, by omega, rfl, ?_⟩ ?_
      · simp (disch := first | omega | (simp only [length_ints, length_prs, length_natsI, length_prsI, length_cellsF, rf_len, List.length_set, List.length_reverse, List.length_replicate, List.length_append, List.length_cons, List.length_nil, List.length_map]; omega)) only [push_cast, ↓reduceIte, reduceIte, reduceCtorEq, Nat.reduceAdd, Nat.reduceLT, Nat.reduceEqDiff, Nat.reduceLeDiff, Int.reduceAdd, Int.reduceLT, Int.reduceLE, Nat.reduceMul, b3, b10, b11, b12, length_cellsF]
      · rintro mz s' H' ⟨j, hj, rfl, rfl, b3, b29, b30⟩
        rcases Nat.lt_or_ge j N with hlt | hge
        · have e2 := getD_cellsF (f := cF p j) hlt
          have e3 : ∀ v, (cellsF (cF p j) N).set j [v] = cellsF (updF (cF p j) j v) N := fun v => set_cellsF v
          have e4 : cF p j j = .own (j + 1) (idxs p j).length (idxs p j).length none := by rw [cF, if_neg (by omega)]
          have e5 := rf_get (z := 1) (t := 3) (g := fun s => ints (natsI (idxs p s))) hlt
          have e7 := cF_succ p j N
          have g1 := fun K => clip44_own (j + 1) (idxs p j).length (idxs p j).length 3 (ints (natsI (idxs p j))) none (.row 1 22 K :: rowsF 1 3 (fun s => ints (natsI (idxs p s))) N) e5 (by simp [length_ints, length_natsI])
          rw [e4] at e2
          repeat' (first | (first | (refine a0_ ?_; first | refine a1_ rfl rfl ?_ | refine a2_ rfl ?_ | refine a3_ rfl rfl ?_ | refine a4_ rfl ?_ | refine a5_ rfl rfl rfl ?_ | refine a6_ rfl rfl ?_ | refine a7_ rfl rfl ?_ | refine a8_ rfl rfl ?_ | refine a9_ rfl rfl rfl ?_) | (refine g0_ ?_; first | refine g1_ rfl ?_ | refine g2_ rfl rfl ?_ | refine go_draw (dr := allQ) rfl rfl mixed (by first | assumption | kernel_rfl) ?_ | refine g4_ rfl ?_ | refine g5_ rfl ?_ | refine g6_ rfl ?_ | refine g7_ rfl ?_ | refine g8_ rfl ?_ | refine ga_ rfl ?_ | refine gb_ rfl ?_) | (refine o0_ ?_; first | refine o1_ ?_ | refine o2_ ?_ | refine o3_ ?_ | refine o4_ ?_ | refine o5_ ?_ | refine o6_ rfl ?_ | refine o7_ rfl ?_ | refine o8_ ?_ | refine o9_ ?_ | refine oa_ ?_ | refine ob_ ?_ | refine oc_ ?_ | refine od_ ?_ | refine oe_ ?_ | refine of_ ?_ | refine og_ ?_ | refine oh_ ?_ | refine oi_ ?_ | refine oj_ ?_ | refine ok_ ?_)) | refine at_go ?_ | (with_reducible refine And.intro (at_go ?_) (at_go ?_)) | ((with_reducible refine And.intro (fun h => ?_) (fun h => ?_)) <;> try (exfalso; omega)) | (with_reducible refine And.intro (by first | omega | (simp only [maxLen]; omega)) ?_) | (first | (refine ⟨_, _, g1 _, ?_⟩) | (refine ⟨_, g1 _, ?_⟩) | (refine ⟨_, fun _ => g1 _, ?_⟩)) | simp (disch := first | omega | (simp only [length_ints, length_prs, length_natsI, length_prsI, length_cellsF, rf_len, List.length_set, List.length_reverse, List.length_replicate, List.length_append, List.length_cons, List.length_nil, List.length_map]; omega)) only [push_cast, ↓reduceIte, reduceIte, reduceCtorEq, Nat.reduceAdd, Nat.reduceLT, Nat.reduceEqDiff, Nat.reduceLeDiff, Int.reduceAdd, Int.reduceLT, Int.reduceLE, Nat.reduceMul, b3, b29, b30, e2, e3, e5, length_cellsF])
          refine out_round (N - (j + 1)) (by omega) (by (first | trivial | ((repeat' apply And.intro) <;> first | trivial | assumption | omega | (simp only [maxLen]; omega) | (simp only [length_ints, length_prs, length_natsI, length_prsI, length_cellsF, rf_len, List.length_replicate, List.length_append, List.length_cons, List.length_nil, List.length_map, List.length_take, List.length_drop, List.length_set, List.length_reverse, maxLen] <;> omega)))) ⟨j + 1, by omega, rfl, by rw [e7], ?_⟩
          simp (disch := first | omega | (simp only [length_ints, length_prs, length_natsI, length_prsI, length_cellsF, rf_len, List.length_set, List.length_reverse, List.length_replicate, List.length_append, List.length_cons, List.length_nil, List.length_map]; omega)) only [push_cast, ↓reduceIte, reduceIte, reduceCtorEq, Nat.reduceAdd, Nat.reduceLT, Nat.reduceEqDiff, Nat.reduceLeDiff, Int.reduceAdd, Int.reduceLT, Int.reduceLE, Nat.reduceMul, b3, b29, b30, e2, e3, e5, length_cellsF]
        · obtain rfl : j = N := by omega
          have h1 := close_cellsF (z := 1) (t := 3) (b0 := 1) (f := cF p j) (g := fun s => ints (natsI (idxs p s))) (c := fun s => some (idxs p s).length) (N := j) (H := .row 1 22 (cellsF (cF p j) j) :: rowsF 1 3 (fun s => ints (natsI (idxs p s))) j) (fun s hs => by simp [cF, hs, length_ints, length_natsI]) (fun s hs => by simpa using rf_get hs)
          have h2 := ok_cellsF (z := 1) (t := 3) (b0 := 1) (f := cF p j) (g := fun s => ints (natsI (idxs p s))) (c := fun s => some (idxs p s).length) (N := j) (H := .row 1 22 (cellsF (cF p j) j) :: rowsF 1 3 (fun s => ints (natsI (idxs p s))) j) (fun s hs => by simp [cF, hs, length_ints, length_natsI]) (fun s hs => by simpa using rf_get hs) (fun s hs => idsE_ints _ _)
          have h3 : (cellsF (cF p j) j).take j = cellsF (cF p j) j := List.take_of_length_le (by rw [length_cellsF]; omega)
          rw [hra] at h1
          repeat' (first | (first | (refine a0_ ?_; first | refine a1_ rfl rfl ?_ | refine a2_ rfl ?_ | refine a3_ rfl rfl ?_ | refine a4_ rfl ?_ | refine a5_ rfl rfl rfl ?_ | refine a6_ rfl rfl ?_ | refine a7_ rfl rfl ?_ | refine a8_ rfl rfl ?_ | refine a9_ rfl rfl rfl ?_) | (refine g0_ ?_; first | refine g1_ rfl ?_ | refine g2_ rfl rfl ?_ | refine go_draw (dr := allQ) rfl rfl mixed (by first | assumption | kernel_rfl) ?_ | refine g4_ rfl ?_ | refine g5_ rfl ?_ | refine g6_ rfl ?_ | refine g7_ rfl ?_ | refine g8_ rfl ?_ | refine ga_ rfl ?_ | refine gb_ rfl ?_) | (refine o0_ ?_; first | refine o1_ ?_ | refine o2_ ?_ | refine o3_ ?_ | refine o4_ ?_ | refine o5_ ?_ | refine o6_ rfl ?_ | refine o7_ rfl ?_ | refine o8_ ?_ | refine o9_ ?_ | refine oa_ ?_ | refine ob_ ?_ | refine oc_ ?_ | refine od_ ?_ | refine oe_ ?_ | refine of_ ?_ | refine og_ ?_ | refine oh_ ?_ | refine oi_ ?_ | refine oj_ ?_ | refine ok_ ?_)) | refine at_go ?_ | (with_reducible refine And.intro (at_go ?_) (at_go ?_)) | ((with_reducible refine And.intro (fun h => ?_) (fun h => ?_)) <;> try (exfalso; omega)) | (with_reducible refine And.intro (by first | omega | (simp only [maxLen]; omega)) ?_) | fail | simp (disch := first | omega | (simp only [length_ints, length_prs, length_natsI, length_prsI, length_cellsF, rf_len, List.length_set, List.length_reverse, List.length_replicate, List.length_append, List.length_cons, List.length_nil, List.length_map]; omega)) only [push_cast, ↓reduceIte, reduceIte, reduceCtorEq, Nat.reduceAdd, Nat.reduceLT, Nat.reduceEqDiff, Nat.reduceLeDiff, Int.reduceAdd, Int.reduceLT, Int.reduceLE, Nat.reduceMul, b3, b29, b30, length_cellsF, h1, h2, h3])
theorem length_blkRows (p : List Int) : (blkRows p).length = countM p := by simp [blkRows, length_blocksM]
theorem blocks13 (p : List Int) (c : Option Nat) (hx : p.length ≤ 1000000) : PC Tryd.prog G0 13 [.sl 1 (ints p) c] (.tup [.sl 1 (rowsA (if checkC p = 0 then blkRows p else [])) (some (if checkC p = 0 then countM p else 0)), .int .i64 (checkC p)]) := by
  have hv : checkC p = 0 → Valid p := fun h => by
    rw [checkC_eq] at h
    split at h
    · cases h
    · split at h
      · assumption
      · cases h
  have hC := check11 p c hx
  generalize hE : checkC p = e at *
  refine pc_go 1 12 [.tmp 2, .tmp 3] Tryd.func13 rfl rfl rfl (by simp) ?_
  intro s ⟨a0, hz⟩
  clear hz
  by_cases he : e = 0
  · subst he
    have h2 := blocks34 p c hx (hv rfl)
    repeat' (first | (first | (refine a0_ ?_; first | refine a1_ rfl rfl ?_ | refine a2_ rfl ?_ | refine a3_ rfl rfl ?_ | refine a4_ rfl ?_ | refine a5_ rfl rfl rfl ?_ | refine a6_ rfl rfl ?_ | refine a7_ rfl rfl ?_ | refine a8_ rfl rfl ?_ | refine a9_ rfl rfl rfl ?_) | (refine g0_ ?_; first | refine g1_ rfl ?_ | refine g2_ rfl rfl ?_ | refine go_draw (dr := allQ) rfl rfl mixed (by first | assumption | kernel_rfl) ?_ | refine g4_ rfl ?_ | refine g5_ rfl ?_ | refine g6_ rfl ?_ | refine g7_ rfl ?_ | refine g8_ rfl ?_ | refine ga_ rfl ?_ | refine gb_ rfl ?_) | (refine o0_ ?_; first | refine o1_ ?_ | refine o2_ ?_ | refine o3_ ?_ | refine o4_ ?_ | refine o5_ ?_ | refine o6_ rfl ?_ | refine o7_ rfl ?_ | refine o8_ ?_ | refine o9_ ?_ | refine oa_ ?_ | refine ob_ ?_ | refine oc_ ?_ | refine od_ ?_ | refine oe_ ?_ | refine of_ ?_ | refine og_ ?_ | refine oh_ ?_ | refine oi_ ?_ | refine oj_ ?_ | refine ok_ ?_)) | refine at_go ?_ | (with_reducible refine And.intro (at_go ?_) (at_go ?_)) | ((with_reducible refine And.intro (fun h => ?_) (fun h => ?_)) <;> try (exfalso; omega)) | (with_reducible refine And.intro (by first | omega | (simp only [maxLen]; omega)) ?_) | (first | (refine ⟨_, _, pc_lift (hC) (by (simp [idsL, idsE, AV.ids, Nat.add_zero])) _, ?_⟩) | (refine ⟨_, pc_lift (hC) (by (simp [idsL, idsE, AV.ids, Nat.add_zero])) _, ?_⟩) | (refine ⟨_, fun _ => pc_lift (hC) (by (simp [idsL, idsE, AV.ids, Nat.add_zero])) _, ?_⟩) | (refine ⟨_, _, pc_lift (h2) (by (simp [idsL, idsE, AV.ids, Nat.add_zero])) _, ?_⟩) | (refine ⟨_, pc_lift (h2) (by (simp [idsL, idsE, AV.ids, Nat.add_zero])) _, ?_⟩) | (refine ⟨_, fun _ => pc_lift (h2) (by (simp [idsL, idsE, AV.ids, Nat.add_zero])) _, ?_⟩)) | simp (disch := first | omega | (simp only [length_ints, length_prs, length_natsI, length_prsI, length_cellsF, rf_len, List.length_set, List.length_reverse, List.length_replicate, List.length_append, List.length_cons, List.length_nil, List.length_map]; omega)) only [push_cast, ↓reduceIte, reduceIte, reduceCtorEq, Nat.reduceAdd, Nat.reduceLT, Nat.reduceEqDiff, Nat.reduceLeDiff, Int.reduceAdd, Int.reduceLT, Int.reduceLE, Nat.reduceMul, a0, rowsA_nil])
  · rw [if_neg he, if_neg he]
    repeat' (first | (first | (refine a0_ ?_; first | refine a1_ rfl rfl ?_ | refine a2_ rfl ?_ | refine a3_ rfl rfl ?_ | refine a4_ rfl ?_ | refine a5_ rfl rfl rfl ?_ | refine a6_ rfl rfl ?_ | refine a7_ rfl rfl ?_ | refine a8_ rfl rfl ?_ | refine a9_ rfl rfl rfl ?_) | (refine g0_ ?_; first | refine g1_ rfl ?_ | refine g2_ rfl rfl ?_ | refine go_draw (dr := allQ) rfl rfl mixed (by first | assumption | kernel_rfl) ?_ | refine g4_ rfl ?_ | refine g5_ rfl ?_ | refine g6_ rfl ?_ | refine g7_ rfl ?_ | refine g8_ rfl ?_ | refine ga_ rfl ?_ | refine gb_ rfl ?_) | (refine o0_ ?_; first | refine o1_ ?_ | refine o2_ ?_ | refine o3_ ?_ | refine o4_ ?_ | refine o5_ ?_ | refine o6_ rfl ?_ | refine o7_ rfl ?_ | refine o8_ ?_ | refine o9_ ?_ | refine oa_ ?_ | refine ob_ ?_ | refine oc_ ?_ | refine od_ ?_ | refine oe_ ?_ | refine of_ ?_ | refine og_ ?_ | refine oh_ ?_ | refine oi_ ?_ | refine oj_ ?_ | refine ok_ ?_)) | refine at_go ?_ | (with_reducible refine And.intro (at_go ?_) (at_go ?_)) | ((with_reducible refine And.intro (fun h => ?_) (fun h => ?_)) <;> try (exfalso; omega)) | (with_reducible refine And.intro (by first | omega | (simp only [maxLen]; omega)) ?_) | (first | (refine ⟨_, _, pc_lift (hC) (by (simp [idsL, idsE, AV.ids, Nat.add_zero])) _, ?_⟩) | (refine ⟨_, pc_lift (hC) (by (simp [idsL, idsE, AV.ids, Nat.add_zero])) _, ?_⟩) | (refine ⟨_, fun _ => pc_lift (hC) (by (simp [idsL, idsE, AV.ids, Nat.add_zero])) _, ?_⟩)) | simp (disch := first | omega | (simp only [length_ints, length_prs, length_natsI, length_prsI, length_cellsF, rf_len, List.length_set, List.length_reverse, List.length_replicate, List.length_append, List.length_cons, List.length_nil, List.length_map]; omega)) only [push_cast, ↓reduceIte, reduceIte, reduceCtorEq, Nat.reduceAdd, Nat.reduceLT, Nat.reduceEqDiff, Nat.reduceLeDiff, Int.reduceAdd, Int.reduceLT, Int.reduceLE, Nat.reduceMul, a0, he, rowsA_nil])
end Go.Proofs
