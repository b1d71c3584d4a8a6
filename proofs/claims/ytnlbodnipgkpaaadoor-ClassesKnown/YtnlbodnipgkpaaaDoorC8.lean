import Derived.Test.YtnlbodnipgkpaaaDoorC7
import Derived.Test.YtnlbodnipgkpaaaDoorC8P
/- Classes: Parse. -/
namespace Go.Proofs
open Go Go.V
set_option linter.unusedVariables false
set_option linter.unusedSimpArgs false
set_option maxHeartbeats 0
set_option maxRecDepth 100000
def mapKV (m : KV) : List (AV × AV) := m.map fun x => (.int .i64 x.1, .int .i64 x.2)
theorem length_mapKV (m : KV) : (mapKV m).length = m.length := by simp [mapKV]
theorem sameK_int (a b : Int) : sameK (.int .i64 a) (.int .i64 b) = decide (a = b) := sameK_kI a b
theorem updA_mapKV (k v : Int) : ∀ m : KV, KN m → updA (mapKV m) (.int .i64 k) (.int .i64 v) = mapKV (updK m k v)
  | [], _ => rfl
  | x :: m, h => by
    have h1 : KN m := (List.nodup_cons.1 h).2
    have h2 : ∀ y ∈ m, y.1 ≠ x.1 := fun y hy e => (List.nodup_cons.1 h).1 (List.mem_map.2 ⟨y, hy, e⟩)
    have ih := updA_mapKV k v m h1
    simp only [mapKV, List.map_cons, updA, sameK_int] at ih ⊢
    by_cases e : k = x.1
    · rw [decide_eq_true e, if_pos rfl]
      have : updK (x :: m) k v = (k, v) :: m := by
        unfold updK
        rw [if_pos (by simp [e]), List.map_cons, if_pos e.symm]
        congr 1
        conv => rhs; rw [← List.map_id m]
        refine List.map_congr_left fun y hy => ?_
        rw [if_neg (by rw [e]; exact h2 y hy)]; rfl
      rw [this]; rfl
    · have e' : ¬ x.1 = k := fun q => e q.symm
      rw [decide_eq_false e, if_neg (by simp), ih]
      have : updK (x :: m) k v = x :: updK m k v := by
        unfold updK
        simp only [List.any_cons, decide_eq_false e', Bool.false_or, List.map_cons, if_neg e']
        split <;> rfl
      rw [this]; rfl
theorem lookA_mapKV (z : AV) (k : Int) : ∀ m : KV, lookA z (mapKV m) (.int .i64 k) = match lookK m k with | some v => .int .i64 v | none => z
  | [] => rfl
  | x :: m => by
    have ih := lookA_mapKV z k m
    simp only [lookA, mapKV, List.map_cons, List.find?_cons, sameK_int, lookK] at ih ⊢
    by_cases e : k = x.1
    · rw [decide_eq_true e, decide_eq_true e.symm]; rfl
    · have e' : ¬ x.1 = k := fun q => e q.symm
      rw [decide_eq_false e, decide_eq_false e']; exact ih
theorem hasA_mapKV (k : Int) : ∀ m : KV, hasA (mapKV m) (.int .i64 k) = (lookK m k).isSome
  | [] => rfl
  | x :: m => by
    have ih := hasA_mapKV k m
    simp only [hasA, mapKV, List.map_cons, List.any_cons, List.find?_cons, sameK_int, lookK] at ih ⊢
    by_cases e : k = x.1
    · rw [decide_eq_true e, decide_eq_true e.symm]; rfl
    · have e' : ¬ x.1 = k := fun q => e q.symm
      rw [decide_eq_false e, decide_eq_false e']; exact ih
theorem mapOkKV (k : Int) (m : KV) : mapOk Tryd.prog 3 (mapKV m) (.int .i64 k) = true := by
  have h2 : keyA Tryd.prog 8 3 (.int .i64 k) = true := by kernel_rfl
  simp only [mapOk, eqTy3, h2, Bool.true_and]
  rw [mapKV, List.all_map, List.all_eq_true]
  intro x _
  simp [eq3, sameK_int]
theorem all_mapKV (p : Nat → Bool) (m : KV) : ((mapKV m).all fun x => AV.ids p x.1 && AV.ids p x.2) = true := by
  rw [mapKV, List.all_map, List.all_eq_true]
  intro x _
  simp [AV.ids]
attribute [push_cast] all_mapKV mapOkKV length_mapKV
def fromRow (l : List Int) (n : Nat) : List Int := l ++ List.replicate n 0
theorem fromRow_set (l : List Int) (v : Int) (n : Nat) : (fromRow l (n + 1)).set l.length v = fromRow (l ++ [v]) n := by
  rw [fromRow, fromRow, List.set_append_right _ _ (by omega), Nat.sub_self, List.replicate_succ, List.set_cons_zero, List.append_assoc]; rfl
theorem fromRow_len (l : List Int) (n : Nat) : (fromRow l n).length = l.length + n := by simp [fromRow]
theorem parse31 (s0 : Bs) (hs : s0.length ≤ 1000000) : PC Tryd.prog G0 31 [.str s0] (.tup [.sl 1 (ints (parseC s0).1) (some (parseC s0).1.length), .int .i64 (parseC s0).2]) := by
  by_cases h1 : 65536 < s0.length
  · rw [parseC_long h1]
    have h1' : (65536 : Int) < s0.length := by omega
    refine pc_go 1 82 [.tmp 2, .tmp 3] Tryd.func31 rfl rfl rfl (by simp) ?_
    intro s ⟨a0, hz⟩
    clear hz
    repeat' (first | (first | (refine a0_ ?_; first | refine a1_ rfl rfl ?_ | refine a2_ rfl ?_ | refine a3_ rfl rfl ?_ | refine a4_ rfl ?_ | refine a5_ rfl rfl rfl ?_ | refine a6_ rfl rfl ?_ | refine a7_ rfl rfl ?_ | refine a8_ rfl rfl ?_ | refine a9_ rfl rfl rfl ?_) | (refine g0_ ?_; first | refine g1_ rfl ?_ | refine g2_ rfl rfl ?_ | refine go_draw (dr := allQ) rfl rfl mixed (by first | assumption | kernel_rfl) ?_ | refine g4_ rfl ?_ | refine g5_ rfl ?_ | refine g6_ rfl ?_ | refine g7_ rfl ?_ | refine g8_ rfl ?_ | refine ga_ rfl ?_ | refine gb_ rfl ?_) | (refine o0_ ?_; first | refine o1_ ?_ | refine o2_ ?_ | refine o3_ ?_ | refine o4_ ?_ | refine o5_ ?_ | refine o6_ rfl ?_ | refine o7_ rfl ?_ | refine o8_ ?_ | refine o9_ ?_ | refine oa_ ?_ | refine ob_ ?_ | refine oc_ ?_ | refine od_ ?_ | refine oe_ ?_ | refine of_ ?_ | refine og_ ?_ | refine oh_ ?_ | refine oi_ ?_ | refine oj_ ?_ | refine ok_ ?_)) | refine at_go ?_ | (with_reducible refine And.intro (at_go ?_) (at_go ?_)) | ((with_reducible refine And.intro (fun h => ?_) (fun h => ?_)) <;> try (exfalso; omega)) | (with_reducible refine And.intro (by first | omega | (simp only [maxLen]; omega)) ?_) | fail | simp (disch := first | omega | (simp only [length_ints, length_strs, length_mapKV, List.length_set, List.length_reverse, List.length_replicate, List.length_append, List.length_cons, List.length_nil, List.length_map]; omega)) only [push_cast, ↓reduceIte, reduceIte, reduceCtorEq, Nat.reduceAdd, Nat.reduceLT, Nat.reduceEqDiff, Nat.reduceLeDiff, Int.reduceAdd, Int.reduceLT, Int.reduceLE, Nat.reduceMul, a0, h1', ints_nil])
  · have h1' : ¬ (65536 : Int) < s0.length := by omega
    by_cases h2 : s0 = [45]
    · rw [parseC_dash h2]
      refine pc_go 1 82 [.tmp 2, .tmp 3] Tryd.func31 rfl rfl rfl (by simp) ?_
      intro s ⟨a0, hz⟩
      clear hz
      repeat' (first | (first | (refine a0_ ?_; first | refine a1_ rfl rfl ?_ | refine a2_ rfl ?_ | refine a3_ rfl rfl ?_ | refine a4_ rfl ?_ | refine a5_ rfl rfl rfl ?_ | refine a6_ rfl rfl ?_ | refine a7_ rfl rfl ?_ | refine a8_ rfl rfl ?_ | refine a9_ rfl rfl rfl ?_) | (refine g0_ ?_; first | refine g1_ rfl ?_ | refine g2_ rfl rfl ?_ | refine go_draw (dr := allQ) rfl rfl mixed (by first | assumption | kernel_rfl) ?_ | refine g4_ rfl ?_ | refine g5_ rfl ?_ | refine g6_ rfl ?_ | refine g7_ rfl ?_ | refine g8_ rfl ?_ | refine ga_ rfl ?_ | refine gb_ rfl ?_) | (refine o0_ ?_; first | refine o1_ ?_ | refine o2_ ?_ | refine o3_ ?_ | refine o4_ ?_ | refine o5_ ?_ | refine o6_ rfl ?_ | refine o7_ rfl ?_ | refine o8_ ?_ | refine o9_ ?_ | refine oa_ ?_ | refine ob_ ?_ | refine oc_ ?_ | refine od_ ?_ | refine oe_ ?_ | refine of_ ?_ | refine og_ ?_ | refine oh_ ?_ | refine oi_ ?_ | refine oj_ ?_ | refine ok_ ?_)) | refine at_go ?_ | (with_reducible refine And.intro (at_go ?_) (at_go ?_)) | ((with_reducible refine And.intro (fun h => ?_) (fun h => ?_)) <;> try (exfalso; omega)) | (with_reducible refine And.intro (by first | omega | (simp only [maxLen]; omega)) ?_) | fail | simp (disch := first | omega | (simp only [length_ints, length_strs, length_mapKV, List.length_set, List.length_reverse, List.length_replicate, List.length_append, List.length_cons, List.length_nil, List.length_map]; omega)) only [push_cast, ↓reduceIte, reduceIte, reduceCtorEq, Nat.reduceAdd, Nat.reduceLT, Nat.reduceEqDiff, Nat.reduceLeDiff, Int.reduceAdd, Int.reduceLT, Int.reduceLE, Nat.reduceMul, a0, h1', h2, ints_nil])
    · have hsp := fun H => split41 H s0 bar (by omega) (by decide)
      obtain ⟨hbd1, hbd2⟩ := split_bd s0 bar (by decide)
      have q1 := parseC_none h1 h2
      have q2 := fun m => parseC_many (m := m) h1 h2
      have q3 := fun m => parseC_gap (m := m) h1 h2
      have q4 := fun m p => parseC_end (m := m) (p := p) h1 h2
      generalize splitM s0 bar = L at *
      generalize parseC s0 = R at *
      refine pc_go 1 82 [.tmp 2, .tmp 3] Tryd.func31 rfl rfl rfl (by simp) ?_
      intro s ⟨a0, hz⟩
      clear hz
      repeat' (first | (first | (refine a0_ ?_; first | refine a1_ rfl rfl ?_ | refine a2_ rfl ?_ | refine a3_ rfl rfl ?_ | refine a4_ rfl ?_ | refine a5_ rfl rfl rfl ?_ | refine a6_ rfl rfl ?_ | refine a7_ rfl rfl ?_ | refine a8_ rfl rfl ?_ | refine a9_ rfl rfl rfl ?_) | (refine g0_ ?_; first | refine g1_ rfl ?_ | refine g2_ rfl rfl ?_ | refine go_draw (dr := allQ) rfl rfl mixed (by first | assumption | kernel_rfl) ?_ | refine g4_ rfl ?_ | refine g5_ rfl ?_ | refine g6_ rfl ?_ | refine g7_ rfl ?_ | refine g8_ rfl ?_ | refine ga_ rfl ?_ | refine gb_ rfl ?_) | (refine o0_ ?_; first | refine o1_ ?_ | refine o2_ ?_ | refine o3_ ?_ | refine o4_ ?_ | refine o5_ ?_ | refine o6_ rfl ?_ | refine o7_ rfl ?_ | refine o8_ ?_ | refine o9_ ?_ | refine oa_ ?_ | refine ob_ ?_ | refine oc_ ?_ | refine od_ ?_ | refine oe_ ?_ | refine of_ ?_ | refine og_ ?_ | refine oh_ ?_ | refine oi_ ?_ | refine oj_ ?_ | refine ok_ ?_)) | refine at_go ?_ | (with_reducible refine And.intro (at_go ?_) (at_go ?_)) | ((with_reducible refine And.intro (fun h => ?_) (fun h => ?_)) <;> try (exfalso; omega)) | (with_reducible refine And.intro (by first | omega | (simp only [maxLen]; omega)) ?_) | (first | (refine ⟨_, _, hsp _, ?_⟩) | (refine ⟨_, hsp _, ?_⟩) | (refine ⟨_, fun _ => hsp _, ?_⟩)) | simp (disch := first | omega | (simp only [length_ints, length_strs, length_mapKV, List.length_set, List.length_reverse, List.length_replicate, List.length_append, List.length_cons, List.length_nil, List.length_map]; omega)) only [push_cast, ↓reduceIte, reduceIte, reduceCtorEq, Nat.reduceAdd, Nat.reduceLT, Nat.reduceEqDiff, Nat.reduceLeDiff, Int.reduceAdd, Int.reduceLT, Int.reduceLE, Nat.reduceMul, a0, h1', h2])
      refine go_loop rfl (fun mz s' H' => ∃ (k : Nat) (m : KV), k ≤ L.length ∧ mz = L.length - k ∧ readP [] 0 (L.take k) = some m ∧ KN m ∧ H' = [.ob (.map 3 3 (mapKV m))] ∧ s' 0 = .str s0 ∧ s' 4 = .mp 0 ∧ s' 22 = .sl 1 (strs L) (some L.length) ∧ s' 23 = .int .i64 L.length ∧ s' 24 = .int .i64 k) (m := L.length) (by (first | trivial | ((repeat' apply And.intro) <;> first | trivial | assumption | omega | (simp only [maxLen]; omega) | (simp only [length_ints, length_strs, length_mapKV, List.length_replicate, List.length_append, List.length_cons, List.length_nil, List.length_map, List.length_take, List.length_drop, List.length_set, List.length_reverse, maxLen] <;> omega)))) (Weak.refl _ _) ⟨0, [], by omega, by omega, rfl, List.nodup_nil, rfl, ?_⟩ ?_
      · simp (disch := first | omega | (simp only [length_ints, length_strs, length_mapKV, List.length_set, List.length_reverse, List.length_replicate, List.length_append, List.length_cons, List.length_nil, List.length_map]; omega)) only [push_cast, ↓reduceIte, reduceIte, reduceCtorEq, Nat.reduceAdd, Nat.reduceLT, Nat.reduceEqDiff, Nat.reduceLeDiff, Int.reduceAdd, Int.reduceLT, Int.reduceLE, Nat.reduceMul, a0, h1', h2]
      · rintro mz s' H' ⟨k, m, hk, rfl, hm, hN, rfl, b0, b4, b22, b23, b24⟩
        rcases Nat.lt_or_ge k L.length with hlt | hge
        · have e1 := getD_strs L k hlt
          have hsn := readP_snoc (L.getD k []) (L.take k) [] 0 m hm
          rw [← take_snoc L [] k hlt] at hsn
          rw [List.length_take, Nat.min_eq_left (by omega), Int.zero_add] at hsn
          have hbad : readP [] 0 (L.take (k + 1)) = none → R = ([], 4) := fun w => q1 (by
            rw [← List.take_append_drop (k + 1) L]; exact readP_none _ _ _ _ w)
          have hxb := hbd1 _ (getD_mem [] hlt)
          have hsp2 := fun H => split41 H (L.getD k []) blank (by omega) (by decide)
          obtain ⟨hbd3, hbd4⟩ := split_bd (L.getD k []) blank (by decide)
          generalize L.getD k [] = x at *
          generalize splitM x blank = M at *
          repeat' (first | (first | (refine a0_ ?_; first | refine a1_ rfl rfl ?_ | refine a2_ rfl ?_ | refine a3_ rfl rfl ?_ | refine a4_ rfl ?_ | refine a5_ rfl rfl rfl ?_ | refine a6_ rfl rfl ?_ | refine a7_ rfl rfl ?_ | refine a8_ rfl rfl ?_ | refine a9_ rfl rfl rfl ?_) | (refine g0_ ?_; first | refine g1_ rfl ?_ | refine g2_ rfl rfl ?_ | refine go_draw (dr := allQ) rfl rfl mixed (by first | assumption | kernel_rfl) ?_ | refine g4_ rfl ?_ | refine g5_ rfl ?_ | refine g6_ rfl ?_ | refine g7_ rfl ?_ | refine g8_ rfl ?_ | refine ga_ rfl ?_ | refine gb_ rfl ?_) | (refine o0_ ?_; first | refine o1_ ?_ | refine o2_ ?_ | refine o3_ ?_ | refine o4_ ?_ | refine o5_ ?_ | refine o6_ rfl ?_ | refine o7_ rfl ?_ | refine o8_ ?_ | refine o9_ ?_ | refine oa_ ?_ | refine ob_ ?_ | refine oc_ ?_ | refine od_ ?_ | refine oe_ ?_ | refine of_ ?_ | refine og_ ?_ | refine oh_ ?_ | refine oi_ ?_ | refine oj_ ?_ | refine ok_ ?_)) | refine at_go ?_ | (with_reducible refine And.intro (at_go ?_) (at_go ?_)) | ((with_reducible refine And.intro (fun h => ?_) (fun h => ?_)) <;> try (exfalso; omega)) | (with_reducible refine And.intro (by first | omega | (simp only [maxLen]; omega)) ?_) | (first | (refine ⟨_, _, hsp2 _, ?_⟩) | (refine ⟨_, hsp2 _, ?_⟩) | (refine ⟨_, fun _ => hsp2 _, ?_⟩)) | simp (disch := first | omega | (simp only [length_ints, length_strs, length_mapKV, List.length_set, List.length_reverse, List.length_replicate, List.length_append, List.length_cons, List.length_nil, List.length_map]; omega)) only [push_cast, ↓reduceIte, reduceIte, reduceCtorEq, Nat.reduceAdd, Nat.reduceLT, Nat.reduceEqDiff, Nat.reduceLeDiff, Int.reduceAdd, Int.reduceLT, Int.reduceLE, Nat.reduceMul, b0, b4, b22, b23, b24, e1])
          refine go_loop rfl (fun mz s' H' => ∃ (i : Nat) (n : KV), i ≤ M.length ∧ mz = M.length - i ∧ readB m k (M.take i) = some n ∧ KN n ∧ H' = [.ob (.map 3 3 (mapKV n))] ∧ s' 0 = .str s0 ∧ s' 4 = .mp 0 ∧ s' 5 = .int .i64 k ∧ s' 22 = .sl 1 (strs L) (some L.length) ∧ s' 23 = .int .i64 L.length ∧ s' 24 = .int .i64 k ∧ s' 30 = .sl 1 (strs M) (some M.length) ∧ s' 31 = .int .i64 M.length ∧ s' 32 = .int .i64 i) (m := M.length) (by (first | trivial | ((repeat' apply And.intro) <;> first | trivial | assumption | omega | (simp only [maxLen]; omega) | (simp only [length_ints, length_strs, length_mapKV, List.length_replicate, List.length_append, List.length_cons, List.length_nil, List.length_map, List.length_take, List.length_drop, List.length_set, List.length_reverse, maxLen] <;> omega)))) (Weak.refl _ _) ⟨0, m, by omega, by omega, rfl, hN, rfl, ?_⟩ ?_
          · simp (disch := first | omega | (simp only [length_ints, length_strs, length_mapKV, List.length_set, List.length_reverse, List.length_replicate, List.length_append, List.length_cons, List.length_nil, List.length_map]; omega)) only [push_cast, ↓reduceIte, reduceIte, reduceCtorEq, Nat.reduceAdd, Nat.reduceLT, Nat.reduceEqDiff, Nat.reduceLeDiff, Int.reduceAdd, Int.reduceLT, Int.reduceLE, Nat.reduceMul, b0, b4, b22, b23, b24, e1]
          · rintro mz s' H' ⟨i, n, hi, rfl, hn, hNn, rfl, b0, b4, b5, b22, b23, b24, b30, b31, b32⟩
            rcases Nat.lt_or_ge i M.length with hlt2 | hge2
            · have e2 := getD_strs M i hlt2
              have hsn2 := readB_snoc (b := k) (M.getD i []) (M.take i) m n hn
              rw [← take_snoc M [] i hlt2] at hsn2
              have hbad2 : readB m k (M.take (i + 1)) = none → R = ([], 4) := fun w => hbad (by
                rw [hsn, ← List.take_append_drop (i + 1) M]; exact readB_none _ _ _ w)
              have hyb := hbd3 _ (getD_mem [] hlt2)
              have hat := fun H => atoi42 H (M.getD i []) (by omega)
              generalize M.getD i [] = y at *
              generalize atoiM y = at0 at *
              obtain ⟨v, ok⟩ := at0
              cases ok with
              | false =>
                have hR := hbad2 (by rw [hsn2]; simp)
                rw [hR]
                repeat' (first | (first | (refine a0_ ?_; first | refine a1_ rfl rfl ?_ | refine a2_ rfl ?_ | refine a3_ rfl rfl ?_ | refine a4_ rfl ?_ | refine a5_ rfl rfl rfl ?_ | refine a6_ rfl rfl ?_ | refine a7_ rfl rfl ?_ | refine a8_ rfl rfl ?_ | refine a9_ rfl rfl rfl ?_) | (refine g0_ ?_; first | refine g1_ rfl ?_ | refine g2_ rfl rfl ?_ | refine go_draw (dr := allQ) rfl rfl mixed (by first | assumption | kernel_rfl) ?_ | refine g4_ rfl ?_ | refine g5_ rfl ?_ | refine g6_ rfl ?_ | refine g7_ rfl ?_ | refine g8_ rfl ?_ | refine ga_ rfl ?_ | refine gb_ rfl ?_) | (refine o0_ ?_; first | refine o1_ ?_ | refine o2_ ?_ | refine o3_ ?_ | refine o4_ ?_ | refine o5_ ?_ | refine o6_ rfl ?_ | refine o7_ rfl ?_ | refine o8_ ?_ | refine o9_ ?_ | refine oa_ ?_ | refine ob_ ?_ | refine oc_ ?_ | refine od_ ?_ | refine oe_ ?_ | refine of_ ?_ | refine og_ ?_ | refine oh_ ?_ | refine oi_ ?_ | refine oj_ ?_ | refine ok_ ?_)) | refine at_go ?_ | (with_reducible refine And.intro (at_go ?_) (at_go ?_)) | ((with_reducible refine And.intro (fun h => ?_) (fun h => ?_)) <;> try (exfalso; omega)) | (with_reducible refine And.intro (by first | omega | (simp only [maxLen]; omega)) ?_) | (first | (refine ⟨_, _, hat _, ?_⟩) | (refine ⟨_, hat _, ?_⟩) | (refine ⟨_, fun _ => hat _, ?_⟩)) | simp (disch := first | omega | (simp only [length_ints, length_strs, length_mapKV, List.length_set, List.length_reverse, List.length_replicate, List.length_append, List.length_cons, List.length_nil, List.length_map]; omega)) only [push_cast, ↓reduceIte, reduceIte, reduceCtorEq, Nat.reduceAdd, Nat.reduceLT, Nat.reduceEqDiff, Nat.reduceLeDiff, Int.reduceAdd, Int.reduceLT, Int.reduceLE, Nat.reduceMul, b0, b4, b5, b22, b23, b24, b30, b31, b32, e2, errA, ints_nil])
              | true =>
                have hup := updA_mapKV v k n hNn
                have hNu := KN_upd hNn v k
                rw [if_pos rfl] at hsn2
                repeat' (first | (first | (refine a0_ ?_; first | refine a1_ rfl rfl ?_ | refine a2_ rfl ?_ | refine a3_ rfl rfl ?_ | refine a4_ rfl ?_ | refine a5_ rfl rfl rfl ?_ | refine a6_ rfl rfl ?_ | refine a7_ rfl rfl ?_ | refine a8_ rfl rfl ?_ | refine a9_ rfl rfl rfl ?_) | (refine g0_ ?_; first | refine g1_ rfl ?_ | refine g2_ rfl rfl ?_ | refine go_draw (dr := allQ) rfl rfl mixed (by first | assumption | kernel_rfl) ?_ | refine g4_ rfl ?_ | refine g5_ rfl ?_ | refine g6_ rfl ?_ | refine g7_ rfl ?_ | refine g8_ rfl ?_ | refine ga_ rfl ?_ | refine gb_ rfl ?_) | (refine o0_ ?_; first | refine o1_ ?_ | refine o2_ ?_ | refine o3_ ?_ | refine o4_ ?_ | refine o5_ ?_ | refine o6_ rfl ?_ | refine o7_ rfl ?_ | refine o8_ ?_ | refine o9_ ?_ | refine oa_ ?_ | refine ob_ ?_ | refine oc_ ?_ | refine od_ ?_ | refine oe_ ?_ | refine of_ ?_ | refine og_ ?_ | refine oh_ ?_ | refine oi_ ?_ | refine oj_ ?_ | refine ok_ ?_)) | refine at_go ?_ | (with_reducible refine And.intro (at_go ?_) (at_go ?_)) | ((with_reducible refine And.intro (fun h => ?_) (fun h => ?_)) <;> try (exfalso; omega)) | (with_reducible refine And.intro (by first | omega | (simp only [maxLen]; omega)) ?_) | (first | (refine ⟨_, _, hat _, ?_⟩) | (refine ⟨_, hat _, ?_⟩) | (refine ⟨_, fun _ => hat _, ?_⟩)) | simp (disch := first | omega | (simp only [length_ints, length_strs, length_mapKV, List.length_set, List.length_reverse, List.length_replicate, List.length_append, List.length_cons, List.length_nil, List.length_map]; omega)) only [push_cast, ↓reduceIte, reduceIte, reduceCtorEq, Nat.reduceAdd, Nat.reduceLT, Nat.reduceEqDiff, Nat.reduceLeDiff, Int.reduceAdd, Int.reduceLT, Int.reduceLE, Nat.reduceMul, b0, b4, b5, b22, b23, b24, b30, b31, b32, e2, errA, hup])
                refine out_round (M.length - (i + 1)) (by omega) (by (first | trivial | ((repeat' apply And.intro) <;> first | trivial | assumption | omega | (simp only [maxLen]; omega) | (simp only [length_ints, length_strs, length_mapKV, List.length_replicate, List.length_append, List.length_cons, List.length_nil, List.length_map, List.length_take, List.length_drop, List.length_set, List.length_reverse, maxLen] <;> omega)))) ⟨i + 1, updK n v k, by omega, rfl, hsn2, hNu, rfl, ?_⟩
                simp (disch := first | omega | (simp only [length_ints, length_strs, length_mapKV, List.length_set, List.length_reverse, List.length_replicate, List.length_append, List.length_cons, List.length_nil, List.length_map]; omega)) only [push_cast, ↓reduceIte, reduceIte, reduceCtorEq, Nat.reduceAdd, Nat.reduceLT, Nat.reduceEqDiff, Nat.reduceLeDiff, Int.reduceAdd, Int.reduceLT, Int.reduceLE, Nat.reduceMul, b0, b4, b5, b22, b23, b24, b30, b31, b32, e2, errA, hup]
            · obtain rfl : i = M.length := by omega
              rw [List.take_length] at hn
              rw [hn] at hsn
              repeat' (first | (first | (refine a0_ ?_; first | refine a1_ rfl rfl ?_ | refine a2_ rfl ?_ | refine a3_ rfl rfl ?_ | refine a4_ rfl ?_ | refine a5_ rfl rfl rfl ?_ | refine a6_ rfl rfl ?_ | refine a7_ rfl rfl ?_ | refine a8_ rfl rfl ?_ | refine a9_ rfl rfl rfl ?_) | (refine g0_ ?_; first | refine g1_ rfl ?_ | refine g2_ rfl rfl ?_ | refine go_draw (dr := allQ) rfl rfl mixed (by first | assumption | kernel_rfl) ?_ | refine g4_ rfl ?_ | refine g5_ rfl ?_ | refine g6_ rfl ?_ | refine g7_ rfl ?_ | refine g8_ rfl ?_ | refine ga_ rfl ?_ | refine gb_ rfl ?_) | (refine o0_ ?_; first | refine o1_ ?_ | refine o2_ ?_ | refine o3_ ?_ | refine o4_ ?_ | refine o5_ ?_ | refine o6_ rfl ?_ | refine o7_ rfl ?_ | refine o8_ ?_ | refine o9_ ?_ | refine oa_ ?_ | refine ob_ ?_ | refine oc_ ?_ | refine od_ ?_ | refine oe_ ?_ | refine of_ ?_ | refine og_ ?_ | refine oh_ ?_ | refine oi_ ?_ | refine oj_ ?_ | refine ok_ ?_)) | refine at_go ?_ | (with_reducible refine And.intro (at_go ?_) (at_go ?_)) | ((with_reducible refine And.intro (fun h => ?_) (fun h => ?_)) <;> try (exfalso; omega)) | (with_reducible refine And.intro (by first | omega | (simp only [maxLen]; omega)) ?_) | fail | simp (disch := first | omega | (simp only [length_ints, length_strs, length_mapKV, List.length_set, List.length_reverse, List.length_replicate, List.length_append, List.length_cons, List.length_nil, List.length_map]; omega)) only [push_cast, ↓reduceIte, reduceIte, reduceCtorEq, Nat.reduceAdd, Nat.reduceLT, Nat.reduceEqDiff, Nat.reduceLeDiff, Int.reduceAdd, Int.reduceLT, Int.reduceLE, Nat.reduceMul, b0, b4, b5, b22, b23, b24, b30, b31, b32])
              refine out_round (L.length - (k + 1)) (by omega) (by (first | trivial | ((repeat' apply And.intro) <;> first | trivial | assumption | omega | (simp only [maxLen]; omega) | (simp only [length_ints, length_strs, length_mapKV, List.length_replicate, List.length_append, List.length_cons, List.length_nil, List.length_map, List.length_take, List.length_drop, List.length_set, List.length_reverse, maxLen] <;> omega)))) ⟨k + 1, n, by omega, rfl, hsn, hNn, rfl, ?_⟩
              simp (disch := first | omega | (simp only [length_ints, length_strs, length_mapKV, List.length_set, List.length_reverse, List.length_replicate, List.length_append, List.length_cons, List.length_nil, List.length_map]; omega)) only [push_cast, ↓reduceIte, reduceIte, reduceCtorEq, Nat.reduceAdd, Nat.reduceLT, Nat.reduceEqDiff, Nat.reduceLeDiff, Int.reduceAdd, Int.reduceLT, Int.reduceLE, Nat.reduceMul, b0, b4, b5, b22, b23, b24, b30, b31, b32]
        · obtain rfl : k = L.length := by omega
          rw [List.take_length] at hm
          have q2 := q2 m hm
          have q3 := q3 m hm
          have q4 := fun p => q4 m p hm
          by_cases hbig : 256 < m.length
          · rw [q2 hbig]
            have hb' : (256 : Int) < m.length := by omega
            repeat' (first | (first | (refine a0_ ?_; first | refine a1_ rfl rfl ?_ | refine a2_ rfl ?_ | refine a3_ rfl rfl ?_ | refine a4_ rfl ?_ | refine a5_ rfl rfl rfl ?_ | refine a6_ rfl rfl ?_ | refine a7_ rfl rfl ?_ | refine a8_ rfl rfl ?_ | refine a9_ rfl rfl rfl ?_) | (refine g0_ ?_; first | refine g1_ rfl ?_ | refine g2_ rfl rfl ?_ | refine go_draw (dr := allQ) rfl rfl mixed (by first | assumption | kernel_rfl) ?_ | refine g4_ rfl ?_ | refine g5_ rfl ?_ | refine g6_ rfl ?_ | refine g7_ rfl ?_ | refine g8_ rfl ?_ | refine ga_ rfl ?_ | refine gb_ rfl ?_) | (refine o0_ ?_; first | refine o1_ ?_ | refine o2_ ?_ | refine o3_ ?_ | refine o4_ ?_ | refine o5_ ?_ | refine o6_ rfl ?_ | refine o7_ rfl ?_ | refine o8_ ?_ | refine o9_ ?_ | refine oa_ ?_ | refine ob_ ?_ | refine oc_ ?_ | refine od_ ?_ | refine oe_ ?_ | refine of_ ?_ | refine og_ ?_ | refine oh_ ?_ | refine oi_ ?_ | refine oj_ ?_ | refine ok_ ?_)) | refine at_go ?_ | (with_reducible refine And.intro (at_go ?_) (at_go ?_)) | ((with_reducible refine And.intro (fun h => ?_) (fun h => ?_)) <;> try (exfalso; omega)) | (with_reducible refine And.intro (by first | omega | (simp only [maxLen]; omega)) ?_) | fail | simp (disch := first | omega | (simp only [length_ints, length_strs, length_mapKV, List.length_set, List.length_reverse, List.length_replicate, List.length_append, List.length_cons, List.length_nil, List.length_map]; omega)) only [push_cast, ↓reduceIte, reduceIte, reduceCtorEq, Nat.reduceAdd, Nat.reduceLT, Nat.reduceEqDiff, Nat.reduceLeDiff, Int.reduceAdd, Int.reduceLT, Int.reduceLE, Nat.reduceMul, b0, b4, b22, b23, b24, hb', ints_nil])
          · have hb' : ¬ (256 : Int) < m.length := by omega
            have q3 := q3 hbig
            have q4 := fun p => q4 p hbig
            repeat' (first | (first | (refine a0_ ?_; first | refine a1_ rfl rfl ?_ | refine a2_ rfl ?_ | refine a3_ rfl rfl ?_ | refine a4_ rfl ?_ | refine a5_ rfl rfl rfl ?_ | refine a6_ rfl rfl ?_ | refine a7_ rfl rfl ?_ | refine a8_ rfl rfl ?_ | refine a9_ rfl rfl rfl ?_) | (refine g0_ ?_; first | refine g1_ rfl ?_ | refine g2_ rfl rfl ?_ | refine go_draw (dr := allQ) rfl rfl mixed (by first | assumption | kernel_rfl) ?_ | refine g4_ rfl ?_ | refine g5_ rfl ?_ | refine g6_ rfl ?_ | refine g7_ rfl ?_ | refine g8_ rfl ?_ | refine ga_ rfl ?_ | refine gb_ rfl ?_) | (refine o0_ ?_; first | refine o1_ ?_ | refine o2_ ?_ | refine o3_ ?_ | refine o4_ ?_ | refine o5_ ?_ | refine o6_ rfl ?_ | refine o7_ rfl ?_ | refine o8_ ?_ | refine o9_ ?_ | refine oa_ ?_ | refine ob_ ?_ | refine oc_ ?_ | refine od_ ?_ | refine oe_ ?_ | refine of_ ?_ | refine og_ ?_ | refine oh_ ?_ | refine oi_ ?_ | refine oj_ ?_ | refine ok_ ?_)) | refine at_go ?_ | (with_reducible refine And.intro (at_go ?_) (at_go ?_)) | ((with_reducible refine And.intro (fun h => ?_) (fun h => ?_)) <;> try (exfalso; omega)) | (with_reducible refine And.intro (by first | omega | (simp only [maxLen]; omega)) ?_) | fail | simp (disch := first | omega | (simp only [length_ints, length_strs, length_mapKV, List.length_set, List.length_reverse, List.length_replicate, List.length_append, List.length_cons, List.length_nil, List.length_map]; omega)) only [push_cast, ↓reduceIte, reduceIte, reduceCtorEq, Nat.reduceAdd, Nat.reduceLT, Nat.reduceEqDiff, Nat.reduceLeDiff, Int.reduceAdd, Int.reduceLT, Int.reduceLE, Nat.reduceMul, b0, b4, b22, b23, b24, hb', ints_rep])
            refine go_loop rfl (fun mz s' H' => ∃ (i : Nat) (l : List Int), i ≤ m.length ∧ mz = m.length - i ∧ fromK m i = some l ∧ H' = [.ob (.map 3 3 (mapKV m)), .row 1 3 (ints (fromRow l (m.length - i)))] ∧ s' 0 = .str s0 ∧ s' 4 = .mp 0 ∧ s' 11 = .own 1 m.length m.length (some m.length) ∧ s' 55 = .int .i64 m.length ∧ s' 56 = .int .i64 i) (m := m.length) (by (first | trivial | ((repeat' apply And.intro) <;> first | trivial | assumption | omega | (simp only [maxLen]; omega) | (simp only [length_ints, length_strs, length_mapKV, List.length_replicate, List.length_append, List.length_cons, List.length_nil, List.length_map, List.length_take, List.length_drop, List.length_set, List.length_reverse, maxLen] <;> omega)))) (Weak.refl _ _) ⟨0, [], by omega, by omega, rfl, by simp [fromRow], ?_⟩ ?_
            · simp (disch := first | omega | (simp only [length_ints, length_strs, length_mapKV, List.length_set, List.length_reverse, List.length_replicate, List.length_append, List.length_cons, List.length_nil, List.length_map]; omega)) only [push_cast, ↓reduceIte, reduceIte, reduceCtorEq, Nat.reduceAdd, Nat.reduceLT, Nat.reduceEqDiff, Nat.reduceLeDiff, Int.reduceAdd, Int.reduceLT, Int.reduceLE, Nat.reduceMul, b0, b4, b22, b23, b24, hb', ints_rep]
            · rintro mz s' H' ⟨i, l, hi, rfl, hl, rfl, b0, b4, b11, b55, b56⟩
              have hll := fromK_len i l hl
              rcases Nat.lt_or_ge i m.length with hlt | hge
              · obtain ⟨nz, hnz⟩ : ∃ nz, m.length - i = nz + 1 := ⟨m.length - i - 1, by omega⟩
                rw [hnz]
                have f1 := hasA_mapKV i m
                have f2 := lookA_mapKV (.int .i64 0) i m
                cases hlk : lookK m i with
                | none =>
                  rw [hlk] at f1 f2
                  rw [q3 (fromK_none (n := i + 1) (by rw [fromK, hl, hlk]) _ (by omega))]
                  simp only [Option.isSome_none] at f1
                  repeat' (first | (first | (refine a0_ ?_; first | refine a1_ rfl rfl ?_ | refine a2_ rfl ?_ | refine a3_ rfl rfl ?_ | refine a4_ rfl ?_ | refine a5_ rfl rfl rfl ?_ | refine a6_ rfl rfl ?_ | refine a7_ rfl rfl ?_ | refine a8_ rfl rfl ?_ | refine a9_ rfl rfl rfl ?_) | (refine g0_ ?_; first | refine g1_ rfl ?_ | refine g2_ rfl rfl ?_ | refine go_draw (dr := allQ) rfl rfl mixed (by first | assumption | kernel_rfl) ?_ | refine g4_ rfl ?_ | refine g5_ rfl ?_ | refine g6_ rfl ?_ | refine g7_ rfl ?_ | refine g8_ rfl ?_ | refine ga_ rfl ?_ | refine gb_ rfl ?_) | (refine o0_ ?_; first | refine o1_ ?_ | refine o2_ ?_ | refine o3_ ?_ | refine o4_ ?_ | refine o5_ ?_ | refine o6_ rfl ?_ | refine o7_ rfl ?_ | refine o8_ ?_ | refine o9_ ?_ | refine oa_ ?_ | refine ob_ ?_ | refine oc_ ?_ | refine od_ ?_ | refine oe_ ?_ | refine of_ ?_ | refine og_ ?_ | refine oh_ ?_ | refine oi_ ?_ | refine oj_ ?_ | refine ok_ ?_)) | refine at_go ?_ | (with_reducible refine And.intro (at_go ?_) (at_go ?_)) | ((with_reducible refine And.intro (fun h => ?_) (fun h => ?_)) <;> try (exfalso; omega)) | (with_reducible refine And.intro (by first | omega | (simp only [maxLen]; omega)) ?_) | fail | simp (disch := first | omega | (simp only [length_ints, length_strs, length_mapKV, List.length_set, List.length_reverse, List.length_replicate, List.length_append, List.length_cons, List.length_nil, List.length_map]; omega)) only [push_cast, ↓reduceIte, reduceIte, reduceCtorEq, Nat.reduceAdd, Nat.reduceLT, Nat.reduceEqDiff, Nat.reduceLeDiff, Int.reduceAdd, Int.reduceLT, Int.reduceLE, Nat.reduceMul, b0, b4, b11, b55, b56, zeroV3, f1, f2, ints_nil])
                | some v =>
                  rw [hlk] at f1 f2
                  simp only [Option.isSome_some] at f1
                  have g1 := fromRow_set l v nz
                  have g2 := fromRow_len l (nz + 1)
                  have g3 := ints_set (fromRow l (nz + 1)) i v
                  have g4 := getD_ints (fromRow l (nz + 1)) i (by omega)
                  rw [← hll] at g3
                  rw [g1, hll] at g3
                  have hlm : l.length + (nz + 1) = m.length := by omega
                  rw [hlm] at g2
                  generalize fromRow l (nz + 1) = W at *
                  repeat' (first | (first | (refine a0_ ?_; first | refine a1_ rfl rfl ?_ | refine a2_ rfl ?_ | refine a3_ rfl rfl ?_ | refine a4_ rfl ?_ | refine a5_ rfl rfl rfl ?_ | refine a6_ rfl rfl ?_ | refine a7_ rfl rfl ?_ | refine a8_ rfl rfl ?_ | refine a9_ rfl rfl rfl ?_) | (refine g0_ ?_; first | refine g1_ rfl ?_ | refine g2_ rfl rfl ?_ | refine go_draw (dr := allQ) rfl rfl mixed (by first | assumption | kernel_rfl) ?_ | refine g4_ rfl ?_ | refine g5_ rfl ?_ | refine g6_ rfl ?_ | refine g7_ rfl ?_ | refine g8_ rfl ?_ | refine ga_ rfl ?_ | refine gb_ rfl ?_) | (refine o0_ ?_; first | refine o1_ ?_ | refine o2_ ?_ | refine o3_ ?_ | refine o4_ ?_ | refine o5_ ?_ | refine o6_ rfl ?_ | refine o7_ rfl ?_ | refine o8_ ?_ | refine o9_ ?_ | refine oa_ ?_ | refine ob_ ?_ | refine oc_ ?_ | refine od_ ?_ | refine oe_ ?_ | refine of_ ?_ | refine og_ ?_ | refine oh_ ?_ | refine oi_ ?_ | refine oj_ ?_ | refine ok_ ?_)) | refine at_go ?_ | (with_reducible refine And.intro (at_go ?_) (at_go ?_)) | ((with_reducible refine And.intro (fun h => ?_) (fun h => ?_)) <;> try (exfalso; omega)) | (with_reducible refine And.intro (by first | omega | (simp only [maxLen]; omega)) ?_) | fail | simp (disch := first | omega | (simp only [length_ints, length_strs, length_mapKV, List.length_set, List.length_reverse, List.length_replicate, List.length_append, List.length_cons, List.length_nil, List.length_map]; omega)) only [push_cast, ↓reduceIte, reduceIte, reduceCtorEq, Nat.reduceAdd, Nat.reduceLT, Nat.reduceEqDiff, Nat.reduceLeDiff, Int.reduceAdd, Int.reduceLT, Int.reduceLE, Nat.reduceMul, b0, b4, b11, b55, b56, zeroV3, f1, f2, g2, g4])
                  refine out_round (m.length - (i + 1)) (by omega) (by (first | trivial | ((repeat' apply And.intro) <;> first | trivial | assumption | omega | (simp only [maxLen]; omega) | (simp only [length_ints, length_strs, length_mapKV, List.length_replicate, List.length_append, List.length_cons, List.length_nil, List.length_map, List.length_take, List.length_drop, List.length_set, List.length_reverse, maxLen] <;> omega)))) ⟨i + 1, l ++ [v], by omega, rfl, by rw [fromK, hl, hlk], by rw [g3, show m.length - (i + 1) = nz by omega], ?_⟩
                  simp (disch := first | omega | (simp only [length_ints, length_strs, length_mapKV, List.length_set, List.length_reverse, List.length_replicate, List.length_append, List.length_cons, List.length_nil, List.length_map]; omega)) only [push_cast, ↓reduceIte, reduceIte, reduceCtorEq, Nat.reduceAdd, Nat.reduceLT, Nat.reduceEqDiff, Nat.reduceLeDiff, Int.reduceAdd, Int.reduceLT, Int.reduceLE, Nat.reduceMul, b0, b4, b11, b55, b56, zeroV3, f1, f2, g2, g4]
              · obtain rfl : i = m.length := by omega
                have e0 : fromRow l (m.length - m.length) = l := by simp [fromRow]
                rw [e0]
                have hR := q4 l hl
                have hc0 := @check_zero l
                have hck := ac_lend1 (H := [.ob (.map 3 3 (mapKV m)), .row 1 3 (ints l)]) (b := 1) (n := m.length) (h := m.length) (c := some m.length) rfl (by rw [length_ints, hll]) (by rw [length_ints, hll]) (idsE_ints _ _) (check11 l (some m.length) (by omega)) rfl
                have htx := fun q => ac_lend1 (H := [.ob (.map 3 3 (mapKV m)), .row 1 3 (ints l)]) (b := 1) (n := m.length) (h := m.length) (c := some m.length) rfl (by rw [length_ints, hll]) (by rw [length_ints, hll]) (idsE_ints _ _) (text35 l (some m.length) (by omega) q) rfl
                have et : (ints l).take m.length = ints l := List.take_of_length_le (by rw [length_ints]; omega)
                generalize checkC l = e at *
                by_cases he : e = 0
                · have htx := htx (hc0 he).1
                  subst he
                  by_cases ht : textC l = s0
                  · rw [if_pos ⟨rfl, ht⟩] at hR
                    rw [hR]
                    rw [ht] at htx
                    repeat' (first | (first | (refine a0_ ?_; first | refine a1_ rfl rfl ?_ | refine a2_ rfl ?_ | refine a3_ rfl rfl ?_ | refine a4_ rfl ?_ | refine a5_ rfl rfl rfl ?_ | refine a6_ rfl rfl ?_ | refine a7_ rfl rfl ?_ | refine a8_ rfl rfl ?_ | refine a9_ rfl rfl rfl ?_) | (refine g0_ ?_; first | refine g1_ rfl ?_ | refine g2_ rfl rfl ?_ | refine go_draw (dr := allQ) rfl rfl mixed (by first | assumption | kernel_rfl) ?_ | refine g4_ rfl ?_ | refine g5_ rfl ?_ | refine g6_ rfl ?_ | refine g7_ rfl ?_ | refine g8_ rfl ?_ | refine ga_ rfl ?_ | refine gb_ rfl ?_) | (refine o0_ ?_; first | refine o1_ ?_ | refine o2_ ?_ | refine o3_ ?_ | refine o4_ ?_ | refine o5_ ?_ | refine o6_ rfl ?_ | refine o7_ rfl ?_ | refine o8_ ?_ | refine o9_ ?_ | refine oa_ ?_ | refine ob_ ?_ | refine oc_ ?_ | refine od_ ?_ | refine oe_ ?_ | refine of_ ?_ | refine og_ ?_ | refine oh_ ?_ | refine oi_ ?_ | refine oj_ ?_ | refine ok_ ?_)) | refine at_go ?_ | (with_reducible refine And.intro (at_go ?_) (at_go ?_)) | ((with_reducible refine And.intro (fun h => ?_) (fun h => ?_)) <;> try (exfalso; omega)) | (with_reducible refine And.intro (by first | omega | (simp only [maxLen]; omega)) ?_) | (first | (refine ⟨_, _, hck, ?_⟩) | (refine ⟨_, hck, ?_⟩) | (refine ⟨_, fun _ => hck, ?_⟩) | (refine ⟨_, _, htx, ?_⟩) | (refine ⟨_, htx, ?_⟩) | (refine ⟨_, fun _ => htx, ?_⟩)) | simp (disch := first | omega | (simp only [length_ints, length_strs, length_mapKV, List.length_set, List.length_reverse, List.length_replicate, List.length_append, List.length_cons, List.length_nil, List.length_map]; omega)) only [push_cast, ↓reduceIte, reduceIte, reduceCtorEq, Nat.reduceAdd, Nat.reduceLT, Nat.reduceEqDiff, Nat.reduceLeDiff, Int.reduceAdd, Int.reduceLT, Int.reduceLE, Nat.reduceMul, b0, b4, b11, b55, b56, et, all_ints, hll])
                  · rw [if_neg (fun w => ht w.2)] at hR
                    rw [hR]
                    repeat' (first | (first | (refine a0_ ?_; first | refine a1_ rfl rfl ?_ | refine a2_ rfl ?_ | refine a3_ rfl rfl ?_ | refine a4_ rfl ?_ | refine a5_ rfl rfl rfl ?_ | refine a6_ rfl rfl ?_ | refine a7_ rfl rfl ?_ | refine a8_ rfl rfl ?_ | refine a9_ rfl rfl rfl ?_) | (refine g0_ ?_; first | refine g1_ rfl ?_ | refine g2_ rfl rfl ?_ | refine go_draw (dr := allQ) rfl rfl mixed (by first | assumption | kernel_rfl) ?_ | refine g4_ rfl ?_ | refine g5_ rfl ?_ | refine g6_ rfl ?_ | refine g7_ rfl ?_ | refine g8_ rfl ?_ | refine ga_ rfl ?_ | refine gb_ rfl ?_) | (refine o0_ ?_; first | refine o1_ ?_ | refine o2_ ?_ | refine o3_ ?_ | refine o4_ ?_ | refine o5_ ?_ | refine o6_ rfl ?_ | refine o7_ rfl ?_ | refine o8_ ?_ | refine o9_ ?_ | refine oa_ ?_ | refine ob_ ?_ | refine oc_ ?_ | refine od_ ?_ | refine oe_ ?_ | refine of_ ?_ | refine og_ ?_ | refine oh_ ?_ | refine oi_ ?_ | refine oj_ ?_ | refine ok_ ?_)) | refine at_go ?_ | (with_reducible refine And.intro (at_go ?_) (at_go ?_)) | ((with_reducible refine And.intro (fun h => ?_) (fun h => ?_)) <;> try (exfalso; omega)) | (with_reducible refine And.intro (by first | omega | (simp only [maxLen]; omega)) ?_) | (first | (refine ⟨_, _, hck, ?_⟩) | (refine ⟨_, hck, ?_⟩) | (refine ⟨_, fun _ => hck, ?_⟩) | (refine ⟨_, _, htx, ?_⟩) | (refine ⟨_, htx, ?_⟩) | (refine ⟨_, fun _ => htx, ?_⟩)) | simp (disch := first | omega | (simp only [length_ints, length_strs, length_mapKV, List.length_set, List.length_reverse, List.length_replicate, List.length_append, List.length_cons, List.length_nil, List.length_map]; omega)) only [push_cast, ↓reduceIte, reduceIte, reduceCtorEq, Nat.reduceAdd, Nat.reduceLT, Nat.reduceEqDiff, Nat.reduceLeDiff, Int.reduceAdd, Int.reduceLT, Int.reduceLE, Nat.reduceMul, b0, b4, b11, b55, b56, et, all_ints, hll, ht, ints_nil])
                · rw [if_neg (fun w => he w.1)] at hR
                  rw [hR]
                  repeat' (first | (first | (refine a0_ ?_; first | refine a1_ rfl rfl ?_ | refine a2_ rfl ?_ | refine a3_ rfl rfl ?_ | refine a4_ rfl ?_ | refine a5_ rfl rfl rfl ?_ | refine a6_ rfl rfl ?_ | refine a7_ rfl rfl ?_ | refine a8_ rfl rfl ?_ | refine a9_ rfl rfl rfl ?_) | (refine g0_ ?_; first | refine g1_ rfl ?_ | refine g2_ rfl rfl ?_ | refine go_draw (dr := allQ) rfl rfl mixed (by first | assumption | kernel_rfl) ?_ | refine g4_ rfl ?_ | refine g5_ rfl ?_ | refine g6_ rfl ?_ | refine g7_ rfl ?_ | refine g8_ rfl ?_ | refine ga_ rfl ?_ | refine gb_ rfl ?_) | (refine o0_ ?_; first | refine o1_ ?_ | refine o2_ ?_ | refine o3_ ?_ | refine o4_ ?_ | refine o5_ ?_ | refine o6_ rfl ?_ | refine o7_ rfl ?_ | refine o8_ ?_ | refine o9_ ?_ | refine oa_ ?_ | refine ob_ ?_ | refine oc_ ?_ | refine od_ ?_ | refine oe_ ?_ | refine of_ ?_ | refine og_ ?_ | refine oh_ ?_ | refine oi_ ?_ | refine oj_ ?_ | refine ok_ ?_)) | refine at_go ?_ | (with_reducible refine And.intro (at_go ?_) (at_go ?_)) | ((with_reducible refine And.intro (fun h => ?_) (fun h => ?_)) <;> try (exfalso; omega)) | (with_reducible refine And.intro (by first | omega | (simp only [maxLen]; omega)) ?_) | (first | (refine ⟨_, _, hck, ?_⟩) | (refine ⟨_, hck, ?_⟩) | (refine ⟨_, fun _ => hck, ?_⟩) | (refine ⟨AV.str [], ?_⟩; refine acc_id ?_)) | simp (disch := first | omega | (simp only [length_ints, length_strs, length_mapKV, List.length_set, List.length_reverse, List.length_replicate, List.length_append, List.length_cons, List.length_nil, List.length_map]; omega)) only [push_cast, ↓reduceIte, reduceIte, reduceCtorEq, Nat.reduceAdd, Nat.reduceLT, Nat.reduceEqDiff, Nat.reduceLeDiff, Int.reduceAdd, Int.reduceLT, Int.reduceLE, Nat.reduceMul, b0, b4, b11, b55, b56, et, all_ints, hll, he, ints_nil])
end Go.Proofs
