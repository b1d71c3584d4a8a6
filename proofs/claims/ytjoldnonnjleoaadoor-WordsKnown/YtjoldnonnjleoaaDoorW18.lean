import Derived.Test.YtjoldnonnjleoaaDoorW17
import Derived.Test.YtjoldnonnjleoaaDoorV28
/- Words: words.Parse. -/
namespace Go.Proofs
open Go Go.V
set_option linter.unusedVariables false
set_option linter.unusedSimpArgs false
set_option maxHeartbeats 0
set_option maxRecDepth 100000
/-! ### Splitting at one byte -/
def split1 (c : UInt8) : List UInt8 → List (List UInt8)
  | [] => [[]]
  | x :: xs => if x = c then [] :: split1 c xs else
    match split1 c xs with
    | [] => [[x]]
    | p :: ps => (x :: p) :: ps
def splitK (sep : List UInt8) : Nat → List UInt8 → List (List UInt8)
  | 0, s => [s]
  | k + 1, s => if Lib.index s sep == -1 then [s] else s.take (Lib.index s sep).toNat :: splitK sep k (s.drop ((Lib.index s sep).toNat + sep.length))
theorem splitB_list (sep : List UInt8) : ∀ (k : Nat) (s : ByteArray), (Lib.splitB ⟨sep.toArray⟩ 0 k s).map (·.data.toList) = splitK sep k s.data.toList
  | 0, s => by simp [Lib.splitB, splitK]
  | k + 1, s => by
    have hi : Lib.indexB s ⟨sep.toArray⟩ = Lib.index s.data.toList sep := by simp [Lib.indexB]
    unfold Lib.splitB splitK
    rw [hi]
    split
    · simp
    · rw [List.map_cons, splitB_list sep k]
      have hsz : (ByteArray.mk sep.toArray).size = sep.length := rfl
      have h2 : s.size = s.data.toList.length := by simp
      rw [hsz]
      simp only [ByteArray.data_extract, Array.toList_extract, List.extract, Nat.add_zero, List.drop_zero, Nat.sub_zero, h2]
      rw [List.take_of_length_le (i := s.data.toList.length - _) (by simp)]
theorem index_one_cons (c x : UInt8) (xs : List UInt8) : Lib.index (x :: xs) [c] = if x = c then 0 else if Lib.index xs [c] = -1 then -1 else Lib.index xs [c] + 1 := by
  rw [Lib.index]
  have : ([c].isPrefixOf (x :: xs)) = decide (x = c) := by
    simp only [List.isPrefixOf, Bool.and_true]
    rw [Bool.eq_iff_iff, beq_iff_eq, decide_eq_true_eq]; exact ⟨fun q => q.symm, fun q => q.symm⟩
  rw [this]
  by_cases h : x = c
  · simp [h]
  · simp [h]
theorem split1_ne (c : UInt8) (s : List UInt8) : split1 c s ≠ [] := by
  cases s with
  | nil => simp [split1]
  | cons x xs =>
    unfold split1
    split
    · simp
    · split <;> simp
theorem splitK_one (c : UInt8) : ∀ (s : List UInt8), splitK [c] (s.count c) s = split1 c s
  | [] => by simp [splitK, split1]
  | x :: xs => by
    have ih := splitK_one c xs
    have hi := index_one_cons c x xs
    by_cases h : x = c
    · subst h
      rw [if_pos rfl] at hi
      rw [List.count_cons_self, splitK, hi]
      simp only [split1]
      simpa using ih
    · rw [if_neg h] at hi
      rw [List.count_cons_of_ne (fun q => h q), split1, if_neg h, ← ih]
      cases hc : xs.count c with
      | zero =>
        simp [splitK]
      | succ k =>
        have hne : Lib.index xs [c] ≠ -1 := fun q => by
          have := Lib.count_one c xs
          have h2 := Lib.count_miss (sub := [c]) q
          omega
        rw [if_neg hne] at hi
        have hge := Lib.index_ge xs [c]
        have hge2 : 0 ≤ Lib.index xs [c] := by omega
        obtain ⟨m, hm⟩ : ∃ m : Nat, Lib.index xs [c] = m := ⟨_, (Int.toNat_of_nonneg hge2).symm⟩
        rw [splitK, splitK, hi, hm]
        simp only [beq_iff_eq]
        rw [if_neg (by omega), if_neg (by omega)]
        simp only [List.length_singleton]
        rw [show ((m : Int) + 1).toNat = m + 1 by omega, show ((m : Int)).toNat = m by omega, List.take_succ_cons, show m + 1 + 1 = (m + 1) + 1 from rfl, List.drop_succ_cons]
theorem splitM_one (s : List UInt8) (c : UInt8) : splitM s [c] = split1 c s := by
  unfold splitM
  rw [splitB_list]
  show splitK [c] (Lib.count s [c]) s = _
  rw [Lib.count_one, splitK_one]
theorem split1_length (c : UInt8) : ∀ s : List UInt8, (split1 c s).length ≤ s.length + 1
  | [] => by simp [split1]
  | x :: xs => by
    have ih := split1_length c xs
    unfold split1
    split
    · simp; omega
    · split
      · simp
      · rename_i p ps hp; rw [hp] at ih; simp at ih ⊢; omega
theorem split1_part (c : UInt8) : ∀ (s p : List UInt8), p ∈ split1 c s → p.length ≤ s.length
  | [], p, h => by simp [split1] at h; subst h; simp
  | x :: xs, p, h => by
    have ih := split1_part c xs
    unfold split1 at h
    split at h
    · rcases List.mem_cons.1 h with q | q
      · subst q; simp
      · have := ih p q; simp; omega
    · split at h
      · simp at h; subst h; simp
      · rename_i q qs hq
        rcases List.mem_cons.1 h with e | e
        · subst e
          have := ih q (by rw [hq]; simp)
          simp; omega
        · have := ih p (by rw [hq]; simp [e]); simp; omega
theorem atoiM_range (s : List UInt8) : -9223372036854775808 ≤ (atoiM s).1 ∧ (atoiM s).1 ≤ 9223372036854775807 := by
  unfold atoiM
  split
  · rename_i v h; exact Lib.atoiAll_bounds h
  · simp
  · exact Lib.atoiSat_bounds s
/-- The number that a piece is, none if it is not one as it must be. -/
def pieceM (x : List UInt8) : Option Int :=
  if (atoiM x).2 = false ∨ (atoiM x).1 < 0 ∨ 9 < x.length ∨ Lib.itoa (atoiM x).1 ≠ x then none else some (atoiM x).1
def piecesM : List (List UInt8) → Option (List Int)
  | [] => some []
  | x :: xs => match pieceM x with | none => none | some v => (piecesM xs).map (v :: ·)
def parseW (s : List UInt8) : Option (List Int) := if s = [45] then some [] else piecesM (split1 32 s)
def parseM (s : List UInt8) (n : Int) : List Int × Int :=
  if 65536 < s.length then ([], 3) else match parseW s with
    | none => ([], 4)
    | some w => if checkM w n ≠ 0 then ([], checkM w n) else (w, 0)
theorem strs_getD (ps : List (List UInt8)) (k : Nat) (h : k < ps.length) : (strs ps).getD k [] = [.str (ps.getD k [])] := by simp [strs, h]
theorem length_strs (ps : List (List UInt8)) : (strs ps).length = ps.length := by simp [strs]
theorem idsE_strs (ps : List (List UInt8)) : idsE none_ (strs ps) = true := idsE_map _ _ fun x => by simp [idsL, AV.ids]
theorem drop_getDs (ps : List (List UInt8)) (k : Nat) (h : k < ps.length) : ps.drop k = ps.getD k [] :: ps.drop (k + 1) := by
  rw [List.drop_eq_getElem_cons h]; simp [h]
theorem closeInts (xs : List Int) : (ints xs).map (fun e => e.map (closeC [] 0)) = ints xs := by simp [ints, closeC]
theorem wCheck_own (xs : List Int) (n : Int) (t : TypeId) (hx : xs.length ≤ 1000000) : ACalls Tryd.prog G0 30 [.own 0 xs.length xs.length none, .int .i64 n] [.row 1 t (ints xs)] (.int .i64 (checkM xs n)) [.row 1 t (ints xs)] := by
  refine ac_lend 1 ?_ ?_ (wCheck xs none n hx) rfl
  · have e : (ints xs).take xs.length = ints xs := List.take_of_length_le (by simp [ints])
    simp [okA, okC, isLen, shOf, e, length_ints, AV.closed, AV.ids]
    simp [ints, AV.ids]
  · have e : (ints xs).take xs.length = ints xs := List.take_of_length_le (by simp [ints])
    simp [closeA, closeC, e, length_ints]
theorem wParse (s0 : List UInt8) (n : Int) (hs : s0.length ≤ 1000000) : PC Tryd.prog G0 28 [.str s0, .int .i64 n] (.tup [.sl 1 (ints (parseM s0 n).1) (some (parseM s0 n).1.length), .int .i64 (parseM s0 n).2]) := by
  have hsp := splitM_one s0 32
  have hsl := split1_length 32 s0
  have hpart := split1_part 32 s0
  obtain ⟨ps, hps⟩ : ∃ ps, ps = split1 32 s0 := ⟨_, rfl⟩
  rw [← hps] at hsp hsl hpart
  refine pc_go 1 59 [.tmp 4, .tmp 5] Tryd.func28 rfl rfl rfl (by simp) ?_
  intro s ⟨a0, a1, hz⟩
  simp only [Nat.zero_add, Nat.reduceAdd] at a1
  clear hz
  repeat' (first | (first | (refine acc_id ?_; first | refine acc_pure rfl rfl ?_ | refine acc_end rfl ?_ | refine acc_eff rfl rfl ?_ | refine acc_call rfl ?_ | refine acc_gp rfl rfl rfl ?_ | refine acc_gc rfl rfl ?_) | (refine go_id ?_; first | refine go_seq rfl ?_ | refine go_region rfl rfl ?_ | refine go_draw (dr := allQ) rfl rfl mixed (by kernel_rfl) ?_ | refine go_cond rfl ?_ | refine go_block rfl ?_ | refine go_skip rfl ?_ | refine go_ret rfl ?_ | refine go_exit rfl ?_) | (refine out_id ?_; first | refine out_then ?_ | refine out_then_ret ?_ | refine out_then_exit ?_ | refine out_block_ret ?_ | refine out_block ?_ | refine out_block_exit rfl ?_ | refine out_block_exit' rfl ?_ | refine out_thenS_ret ?_ | refine out_thenS_exit ?_ | refine out_ret ?_ | refine out_normal ?_ | refine out_retH ?_ | refine out_normalH ?_ | refine out_end ?_)) | refine at_go ?_ | (with_reducible refine And.intro (at_go ?_) (at_go ?_)) | ((with_reducible refine And.intro (fun h => ?_) (fun h => ?_)) <;> try (exfalso; omega)) | (with_reducible refine And.intro (by omega) ?_) | (first | (refine ⟨_, _, pc_lift (hsp ▸ libW.split _ s0 [32] (by omega) (by simp)) (by (simp [idsL, idsE, AV.ids, idsE_ints, idsE_strs])) _, ?_⟩) | (refine ⟨_, pc_lift (hsp ▸ libW.split _ s0 [32] (by omega) (by simp)) (by (simp [idsL, idsE, AV.ids, idsE_ints, idsE_strs])) _, ?_⟩) | (refine ⟨_, fun _ => pc_lift (hsp ▸ libW.split _ s0 [32] (by omega) (by simp)) (by (simp [idsL, idsE, AV.ids, idsE_ints, idsE_strs])) _, ?_⟩)) | simp (disch := first | omega | (simp only [length_ints, length_strs, List.length_set, List.length_reverse, List.length_replicate, List.length_append, List.length_cons, List.length_nil, List.length_map]; omega)) only [push_cast, ↓reduceIte, reduceIte, reduceCtorEq, Nat.reduceAdd, Nat.reduceLT, Nat.reduceEqDiff, Nat.reduceLeDiff, Int.reduceAdd, Int.reduceLT, Int.reduceLE, Nat.reduceMul, ti3, ti9, ti22, ti32, ti59, ti64, en30, en40, en41, en44, en45, a0, a1, length_ints, length_strs, wrap64])
  · have h' : 65536 < s0.length := by omega
    simp [parseM, h', ints]
  · rename_i hlen
    have hne := h
    have hp : parseM s0 n = match piecesM ps with | none => ([], 4) | some w => if checkM w n ≠ 0 then ([], checkM w n) else (w, 0) := by
      rw [parseM, if_neg (by omega), parseW, if_neg hne, hps]
    refine go_loop rfl (fun m s H' => ∃ k xs, k ≤ ps.length ∧ xs.length = k ∧ m = ps.length - k ∧ H' = [.row 1 3 (ints xs)] ∧ s 0 = .str s0 ∧ s 1 = .int .i64 n ∧ s 6 = .own 0 xs.length xs.length none ∧ s 18 = .sl 1 (strs ps) (some ps.length) ∧ s 19 = .int .i64 ps.length ∧ s 20 = .int .i64 (k : Int) ∧ piecesM ps = (piecesM (ps.drop k)).map (xs ++ ·)) trivial (weak_nil (t := 6) (sz := 1) (ty := 3) (z := 0) ?_) ⟨0, [], by omega, rfl, rfl, rfl, ?_⟩ ?_
    · (simp (disch := first | omega | (simp only [length_ints, length_strs, List.length_set, List.length_reverse, List.length_replicate, List.length_append, List.length_cons, List.length_nil, List.length_map]; omega)) only [push_cast, ↓reduceIte, reduceIte, reduceCtorEq, Nat.reduceAdd, Nat.reduceLT, Nat.reduceEqDiff, Nat.reduceLeDiff, Int.reduceAdd, Int.reduceLT, Int.reduceLE, Nat.reduceMul, ti3, ti9, ti22, ti32, ti59, ti64, en30, en40, en41, en44, en45, a0, a1, length_ints, length_strs, wrap64]) <;> (first | rfl | exact ⟨rfl, rfl⟩ | omega | (congr 1; omega) | (simp; done) | ((repeat' apply And.intro) <;> first | rfl | omega | (congr 1; omega)))
    · simp (disch := first | omega | (simp only [length_ints, length_strs, List.length_set, List.length_reverse, List.length_replicate, List.length_append, List.length_cons, List.length_nil, List.length_map]; omega)) only [push_cast, ↓reduceIte, reduceIte, reduceCtorEq, Nat.reduceAdd, Nat.reduceLT, Nat.reduceEqDiff, Nat.reduceLeDiff, Int.reduceAdd, Int.reduceLT, Int.reduceLE, Nat.reduceMul, ti3, ti9, ti22, ti32, ti59, ti64, en30, en40, en41, en44, en45, a0, a1, length_ints, length_strs, wrap64]
      cases piecesM ps <;> rfl
    · rintro m s H' ⟨k, xs, hk, hxk, rfl, rfl, a0, a1, a6, a18, a19, a20, hm⟩
      by_cases hlt : k < ps.length
      · have hd := drop_getDs ps k hlt
        have hx := hpart (ps.getD k []) (by rw [List.getD_eq_getElem?_getD, List.getElem?_eq_getElem hlt]; exact List.getElem_mem _)
        generalize hxe : ps.getD k [] = x at *
        have hr := atoiM_range x
        rcases hA : atoiM x with ⟨v, ok⟩
        rw [hA] at hr
        cases ok
        · repeat' (first | (first | (refine acc_id ?_; first | refine acc_pure rfl rfl ?_ | refine acc_end rfl ?_ | refine acc_eff rfl rfl ?_ | refine acc_call rfl ?_ | refine acc_gp rfl rfl rfl ?_ | refine acc_gc rfl rfl ?_) | (refine go_id ?_; first | refine go_seq rfl ?_ | refine go_region rfl rfl ?_ | refine go_draw (dr := allQ) rfl rfl mixed (by kernel_rfl) ?_ | refine go_cond rfl ?_ | refine go_block rfl ?_ | refine go_skip rfl ?_ | refine go_ret rfl ?_ | refine go_exit rfl ?_) | (refine out_id ?_; first | refine out_then ?_ | refine out_then_ret ?_ | refine out_then_exit ?_ | refine out_block_ret ?_ | refine out_block ?_ | refine out_block_exit rfl ?_ | refine out_block_exit' rfl ?_ | refine out_thenS_ret ?_ | refine out_thenS_exit ?_ | refine out_ret ?_ | refine out_normal ?_ | refine out_retH ?_ | refine out_normalH ?_ | refine out_end ?_)) | refine at_go ?_ | (with_reducible refine And.intro (at_go ?_) (at_go ?_)) | ((with_reducible refine And.intro (fun h => ?_) (fun h => ?_)) <;> try (exfalso; omega)) | (with_reducible refine And.intro (by omega) ?_) | (first | (refine ⟨_, _, libW.atoi _ x (by omega), ?_⟩) | (refine ⟨_, libW.atoi _ x (by omega), ?_⟩) | (refine ⟨_, fun _ => libW.atoi _ x (by omega), ?_⟩) | (refine ⟨_, _, libW.itoa _ v hr.1 hr.2, ?_⟩) | (refine ⟨_, libW.itoa _ v hr.1 hr.2, ?_⟩) | (refine ⟨_, fun _ => libW.itoa _ v hr.1 hr.2, ?_⟩) | (refine ⟨AV.str [], ?_⟩; refine acc_id ?_)) | simp (disch := first | omega | (simp only [length_ints, length_strs, List.length_set, List.length_reverse, List.length_replicate, List.length_append, List.length_cons, List.length_nil, List.length_map]; omega)) only [push_cast, ↓reduceIte, reduceIte, reduceCtorEq, Nat.reduceAdd, Nat.reduceLT, Nat.reduceEqDiff, Nat.reduceLeDiff, Int.reduceAdd, Int.reduceLT, Int.reduceLE, Nat.reduceMul, ti3, ti9, ti22, ti32, ti59, ti64, en30, en40, en41, en44, en45, a0, a1, a6, a18, a19, a20, hA, hxe, errA, strs_getD, length_ints, length_strs, wrap64, ints_snoc])
          have hn : piecesM ps = none := by
            rw [hm, hd, piecesM, pieceM, hA, if_pos (.inl rfl)]; rfl
          rw [hn] at hp; simp only at hp
          rw [hp]; simp [ints]
        · repeat' (first | (first | (refine acc_id ?_; first | refine acc_pure rfl rfl ?_ | refine acc_end rfl ?_ | refine acc_eff rfl rfl ?_ | refine acc_call rfl ?_ | refine acc_gp rfl rfl rfl ?_ | refine acc_gc rfl rfl ?_) | (refine go_id ?_; first | refine go_seq rfl ?_ | refine go_region rfl rfl ?_ | refine go_draw (dr := allQ) rfl rfl mixed (by kernel_rfl) ?_ | refine go_cond rfl ?_ | refine go_block rfl ?_ | refine go_skip rfl ?_ | refine go_ret rfl ?_ | refine go_exit rfl ?_) | (refine out_id ?_; first | refine out_then ?_ | refine out_then_ret ?_ | refine out_then_exit ?_ | refine out_block_ret ?_ | refine out_block ?_ | refine out_block_exit rfl ?_ | refine out_block_exit' rfl ?_ | refine out_thenS_ret ?_ | refine out_thenS_exit ?_ | refine out_ret ?_ | refine out_normal ?_ | refine out_retH ?_ | refine out_normalH ?_ | refine out_end ?_)) | refine at_go ?_ | (with_reducible refine And.intro (at_go ?_) (at_go ?_)) | ((with_reducible refine And.intro (fun h => ?_) (fun h => ?_)) <;> try (exfalso; omega)) | (with_reducible refine And.intro (by omega) ?_) | (first | (refine ⟨_, _, libW.atoi _ x (by omega), ?_⟩) | (refine ⟨_, libW.atoi _ x (by omega), ?_⟩) | (refine ⟨_, fun _ => libW.atoi _ x (by omega), ?_⟩) | (refine ⟨_, _, libW.itoa _ v hr.1 hr.2, ?_⟩) | (refine ⟨_, libW.itoa _ v hr.1 hr.2, ?_⟩) | (refine ⟨_, fun _ => libW.itoa _ v hr.1 hr.2, ?_⟩)) | simp (disch := first | omega | (simp only [length_ints, length_strs, List.length_set, List.length_reverse, List.length_replicate, List.length_append, List.length_cons, List.length_nil, List.length_map]; omega)) only [push_cast, ↓reduceIte, reduceIte, reduceCtorEq, Nat.reduceAdd, Nat.reduceLT, Nat.reduceEqDiff, Nat.reduceLeDiff, Int.reduceAdd, Int.reduceLT, Int.reduceLE, Nat.reduceMul, ti3, ti9, ti22, ti32, ti59, ti64, en30, en40, en41, en44, en45, a0, a1, a6, a18, a19, a20, hA, hxe, errA, strs_getD, length_ints, length_strs, wrap64, ints_snoc])
          · rename_i hcc
            have hn : piecesM ps = none := by
              rw [hm, hd, piecesM, pieceM, hA, if_pos (by rcases h with (h | h) | h; exact .inr (.inl h); exact .inr (.inr (.inl (by omega))); exact .inr (.inr (.inr h)))]; rfl
            rw [hn] at hp; simp only at hp
            rw [hp]; simp [ints]
          · have hn : pieceM x = some v := by
              rw [pieceM, hA, if_neg (by simp [h]; omega)]
            refine out_round (ps.length - (k + 1)) (by omega) ⟨by simp only [maxLen]; omega, by omega⟩ ⟨k + 1, xs ++ [v], by omega, by simp [hxk], rfl, rfl, ?_⟩
            have hm' : piecesM ps = Option.map (fun y => (xs ++ [v]) ++ y) (piecesM (ps.drop (k + 1))) := by
              rw [hm, hd, piecesM, hn]
              cases piecesM (ps.drop (k + 1)) <;> simp
            (simp (disch := first | omega | (simp only [length_ints, length_strs, List.length_set, List.length_reverse, List.length_replicate, List.length_append, List.length_cons, List.length_nil, List.length_map]; omega)) only [push_cast, ↓reduceIte, reduceIte, reduceCtorEq, Nat.reduceAdd, Nat.reduceLT, Nat.reduceEqDiff, Nat.reduceLeDiff, Int.reduceAdd, Int.reduceLT, Int.reduceLE, Nat.reduceMul, ti3, ti9, ti22, ti32, ti59, ti64, en30, en40, en41, en44, en45, a0, a1, a6, a18, a19, a20, hA, hxe, errA, strs_getD, length_ints, length_strs, wrap64, ints_snoc]) <;> (first | rfl | exact ⟨rfl, rfl⟩ | omega | (congr 1; omega) | (simp; done) | ((repeat' apply And.intro) <;> first | rfl | omega | (congr 1; omega)))
      · have hk' : k = ps.length := by omega
        subst hk'
        rw [List.drop_length, piecesM] at hm
        simp only [Option.map_some, List.append_nil] at hm
        rw [hm] at hp
        simp only at hp
        repeat' (first | (first | (refine acc_id ?_; first | refine acc_pure rfl rfl ?_ | refine acc_end rfl ?_ | refine acc_eff rfl rfl ?_ | refine acc_call rfl ?_ | refine acc_gp rfl rfl rfl ?_ | refine acc_gc rfl rfl ?_) | (refine go_id ?_; first | refine go_seq rfl ?_ | refine go_region rfl rfl ?_ | refine go_draw (dr := allQ) rfl rfl mixed (by kernel_rfl) ?_ | refine go_cond rfl ?_ | refine go_block rfl ?_ | refine go_skip rfl ?_ | refine go_ret rfl ?_ | refine go_exit rfl ?_) | (refine out_id ?_; first | refine out_then ?_ | refine out_then_ret ?_ | refine out_then_exit ?_ | refine out_block_ret ?_ | refine out_block ?_ | refine out_block_exit rfl ?_ | refine out_block_exit' rfl ?_ | refine out_thenS_ret ?_ | refine out_thenS_exit ?_ | refine out_ret ?_ | refine out_normal ?_ | refine out_retH ?_ | refine out_normalH ?_ | refine out_end ?_)) | refine at_go ?_ | (with_reducible refine And.intro (at_go ?_) (at_go ?_)) | ((with_reducible refine And.intro (fun h => ?_) (fun h => ?_)) <;> try (exfalso; omega)) | (with_reducible refine And.intro (by omega) ?_) | (first | (refine ⟨_, _, wCheck_own xs n 3 (by omega), ?_⟩) | (refine ⟨_, wCheck_own xs n 3 (by omega), ?_⟩) | (refine ⟨_, fun _ => wCheck_own xs n 3 (by omega), ?_⟩) | (refine ⟨_, _, clip40_own 0 _ _ 3 _ _ _ rfl (by (first | assumption | omega | (simp only [length_ints, length_strs, List.length_set, List.length_reverse, List.length_replicate, List.length_append, List.length_cons, List.length_nil, List.length_map, List.length_take, List.length_drop] <;> omega) | (simp; done) | (simp; omega))), ?_⟩) | (refine ⟨_, clip40_own 0 _ _ 3 _ _ _ rfl (by (first | assumption | omega | (simp only [length_ints, length_strs, List.length_set, List.length_reverse, List.length_replicate, List.length_append, List.length_cons, List.length_nil, List.length_map, List.length_take, List.length_drop] <;> omega) | (simp; done) | (simp; omega))), ?_⟩) | (refine ⟨_, fun _ => clip40_own 0 _ _ 3 _ _ _ rfl (by (first | assumption | omega | (simp only [length_ints, length_strs, List.length_set, List.length_reverse, List.length_replicate, List.length_append, List.length_cons, List.length_nil, List.length_map, List.length_take, List.length_drop] <;> omega) | (simp; done) | (simp; omega))), ?_⟩)) | simp (disch := first | omega | (simp only [length_ints, length_strs, List.length_set, List.length_reverse, List.length_replicate, List.length_append, List.length_cons, List.length_nil, List.length_map]; omega)) only [push_cast, ↓reduceIte, reduceIte, reduceCtorEq, Nat.reduceAdd, Nat.reduceLT, Nat.reduceEqDiff, Nat.reduceLeDiff, Int.reduceAdd, Int.reduceLT, Int.reduceLE, Nat.reduceMul, ti3, ti9, ti22, ti32, ti59, ti64, en30, en40, en41, en44, en45, a0, a1, a6, a18, a19, a20, length_ints, length_strs, wrap64])
        · rw [if_pos h] at hp; rw [hp]; simp [ints]
        · rw [if_neg (by simp [h])] at hp; rw [hp]; exact ⟨all_ints _, ⟨rfl, rfl⟩, rfl⟩
  · rename_i hlen
    have hp : parseM s0 n = if checkM [] n ≠ 0 then ([], checkM [] n) else ([], 0) := by
      rw [parseM, if_neg (by omega), parseW, if_pos h]
    repeat' (first | (first | (refine acc_id ?_; first | refine acc_pure rfl rfl ?_ | refine acc_end rfl ?_ | refine acc_eff rfl rfl ?_ | refine acc_call rfl ?_ | refine acc_gp rfl rfl rfl ?_ | refine acc_gc rfl rfl ?_) | (refine go_id ?_; first | refine go_seq rfl ?_ | refine go_region rfl rfl ?_ | refine go_draw (dr := allQ) rfl rfl mixed (by kernel_rfl) ?_ | refine go_cond rfl ?_ | refine go_block rfl ?_ | refine go_skip rfl ?_ | refine go_ret rfl ?_ | refine go_exit rfl ?_) | (refine out_id ?_; first | refine out_then ?_ | refine out_then_ret ?_ | refine out_then_exit ?_ | refine out_block_ret ?_ | refine out_block ?_ | refine out_block_exit rfl ?_ | refine out_block_exit' rfl ?_ | refine out_thenS_ret ?_ | refine out_thenS_exit ?_ | refine out_ret ?_ | refine out_normal ?_ | refine out_retH ?_ | refine out_normalH ?_ | refine out_end ?_)) | refine at_go ?_ | (with_reducible refine And.intro (at_go ?_) (at_go ?_)) | ((with_reducible refine And.intro (fun h => ?_) (fun h => ?_)) <;> try (exfalso; omega)) | (with_reducible refine And.intro (by omega) ?_) | (first | (refine ⟨_, _, pc_lift (ac_eqv (wCheck [] (some 0) n (by simp)) (by simp [eqvL, ints])) (by (simp [idsL, idsE, AV.ids, idsE_ints, idsE_strs])) _, ?_⟩) | (refine ⟨_, pc_lift (ac_eqv (wCheck [] (some 0) n (by simp)) (by simp [eqvL, ints])) (by (simp [idsL, idsE, AV.ids, idsE_ints, idsE_strs])) _, ?_⟩) | (refine ⟨_, fun _ => pc_lift (ac_eqv (wCheck [] (some 0) n (by simp)) (by simp [eqvL, ints])) (by (simp [idsL, idsE, AV.ids, idsE_ints, idsE_strs])) _, ?_⟩) | (refine ⟨_, _, clip40 0 [] (some 0) _ (.inl rfl), ?_⟩) | (refine ⟨_, clip40 0 [] (some 0) _ (.inl rfl), ?_⟩) | (refine ⟨_, fun _ => clip40 0 [] (some 0) _ (.inl rfl), ?_⟩)) | simp (disch := first | omega | (simp only [length_ints, length_strs, List.length_set, List.length_reverse, List.length_replicate, List.length_append, List.length_cons, List.length_nil, List.length_map]; omega)) only [push_cast, ↓reduceIte, reduceIte, reduceCtorEq, Nat.reduceAdd, Nat.reduceLT, Nat.reduceEqDiff, Nat.reduceLeDiff, Int.reduceAdd, Int.reduceLT, Int.reduceLE, Nat.reduceMul, ti3, ti9, ti22, ti32, ti59, ti64, en30, en40, en41, en44, en45, a0, a1, length_ints, wrap64])
    · rw [if_pos h] at hp; rw [hp]; simp [ints]
    · rw [if_neg (by simp [h])] at hp; rw [hp]; simp [ints]
end Go.Proofs
