import Derived.Test.YtjoldnonnjleoaaDoorW18
import Derived.Test.YtjoldnonnjleoaaDoorW19
import Derived.Test.YtjoldnonnjleoaaDoorV31
/- Words: the iterator of All. -/
namespace Go.Proofs
open Go Go.V
set_option linter.unusedVariables false
set_option linter.unusedSimpArgs false
set_option maxHeartbeats 0
theorem pc_of_ac {P : Program} {G : Glob} {f : FuncId} {args : List AV} {r r' : AV} {H' : List Blk} (d : Nat) (h : ACalls P G f args [] r H') (hk : okR H' d r = true) (he : closeR H' d r = r') : PC P G f args r' := fun S vals hok hG ha => by
  refine (h S vals hok hG ha).mono fun e w' ⟨v, S1, h1, h2, h3, h4, h5⟩ => ?_
  obtain ⟨S2, e1, e2, e3, e4⟩ := closes_all d hk S1 v h3 (Nat.zero_le _) h5
  rw [he] at e4
  exact ⟨v, S2, h1, e1.trans h2, e2, h4.trans e3, e4⟩
theorem ofVal_nilF : ofVal .nilFunc = .lit .nilFunc := rfl
attribute [local push_cast] ofVal_nilF
theorem weak_sl {n0 n t z z' : Nat} {s : Nat → AV} {H : List Blk} {c : Option Nat} (h : s t = .sl z [] c) : Weak n0 (Lst n s) H (Lst n (updS s t (.sl z' [] c))) H := fun S vs hok hn ha => by
  refine ⟨S, rfl, hok, Ext.refl _ _ _, RelL.mk (by rw [← ha.length]; simp [length_Lst]) fun i a v hi hv => ?_⟩
  have hil : i < n := by have := (List.getElem?_eq_some_iff.1 hi).1; simpa [length_Lst] using this
  simp only [Lst, List.getElem?_map, List.getElem?_range hil, Option.map_some, Option.some.injEq] at hi
  subst hi
  obtain ⟨v', hv', hr⟩ := ha.get (i := i) (a := s i) (by simp [Lst, List.getElem?_range hil])
  rw [hv] at hv'; injection hv' with hv'; subst hv'
  unfold updS
  split
  · rename_i e; subst e
    rw [h] at hr
    exact rel_sl_eqv ⟨.inl rfl, rfl, rfl⟩ hr
  · exact hr
/-- The words one after the other. -/
def seqA (n : Int) : Nat → List Int
  | 0 => []
  | i + 1 => afterM (seqA n i) n
theorem clone51_pc (xs : List Int) (k : Nat) (c : Option Nat) (hk : xs = [] ∨ k = 1) (hx : xs.length ≤ 1000000) : PC Tryd.prog G0 51 [.sl k (ints xs) c] (.sl 1 (ints xs) none) := by
  refine pc_of_ac 1 (clone51 xs k c [] hk hx) ?_ ?_
  · simp [okR, okA, okC, isLen, shOf, ints, AV.closed]
    intro x hx y hy
    obtain ⟨z, _, rfl⟩ := List.mem_map.1 (List.mem_of_mem_take hx)
    simp at hy; subst hy; rfl
  · simp [closeR, closeA, closeC, ints]
    rw [List.take_of_length_le (by simp)]
    exact List.map_congr_left fun x _ => rfl
set_option maxRecDepth 100000 in
theorem all49 (n m : Int) : PC Tryd.prog G0 49 [.int .i64 n, .int .i64 m] (.fn 61 [.iptr [.int .i64 n] 0, .iptr [.int .i64 m] 0]) := by
  refine pc_go 3 6 [.tmp 4] Tryd.func49 rfl rfl rfl (by simp) ?_
  intro s ⟨a0, a1, hz⟩
  simp only [Nat.zero_add, Nat.reduceAdd] at a1
  clear hz
  repeat' (first | (first | (refine acc_id ?_; first | refine acc_pure rfl rfl ?_ | refine acc_end rfl ?_ | refine acc_eff rfl rfl ?_ | refine acc_call rfl ?_ | refine acc_gp rfl rfl rfl ?_ | refine acc_gc rfl rfl ?_) | (refine go_id ?_; first | refine go_seq rfl ?_ | refine go_region rfl rfl ?_ | refine go_draw (dr := allQ) rfl rfl mixed (by kernel_rfl) ?_ | refine go_cond rfl ?_ | refine go_block rfl ?_ | refine go_skip rfl ?_ | refine go_ret rfl ?_ | refine go_exit rfl ?_) | (refine out_id ?_; first | refine out_then ?_ | refine out_then_ret ?_ | refine out_then_exit ?_ | refine out_block_ret ?_ | refine out_block ?_ | refine out_block_exit rfl ?_ | refine out_block_exit' rfl ?_ | refine out_thenS_ret ?_ | refine out_thenS_exit ?_ | refine out_ret ?_ | refine out_normal ?_ | refine out_retH ?_ | refine out_normalH ?_ | refine out_end ?_)) | refine at_go ?_ | (with_reducible refine And.intro (at_go ?_) (at_go ?_)) | ((with_reducible refine And.intro (fun h => ?_) (fun h => ?_)) <;> try (exfalso; omega)) | (with_reducible refine And.intro (by omega) ?_) | fail | simp (disch := first | omega | (simp only [length_ints, List.length_set, List.length_reverse, List.length_replicate, List.length_append, List.length_cons, List.length_nil, List.length_map]; omega)) only [push_cast, ↓reduceIte, reduceIte, reduceCtorEq, Nat.reduceAdd, Nat.reduceLT, Nat.reduceEqDiff, Nat.reduceLeDiff, Int.reduceAdd, Int.reduceLT, Int.reduceLE, Nat.reduceMul, ti3, en61, a0, a1])

set_option maxRecDepth 100000 in
theorem all61 (n m : Int) (N : Nat) (hn : 1 ≤ n ∧ n ≤ 16) (hm : 0 ≤ m ∧ m ≤ 256) (h1 : ∀ i, i < N → ((seqA n i).length : Int) ≤ m) (h2 : ¬ ((seqA n N).length : Int) ≤ m) (hb : ∀ i, ∀ x ∈ seqA n i, 0 ≤ x ∧ x < 1000000) :
    Iter Tryd.prog G0 61 [.iptr [.int .i64 n] 0, .iptr [.int .i64 m] 0] (fun i => [.sl 1 (ints (seqA n i)) (some (seqA n i).length)]) N := by
  intro K b q stop hs1 hs2 hy hz
  have hl : ∀ i, i < N → (seqA n i).length ≤ 256 := fun i hi => by have := h1 i hi; omega
  refine ac_go 33 [] Tryd.func61 rfl rfl rfl (by simp) ?_
  intro s ⟨a0, a1, a2, hz⟩
  simp only [Nat.zero_add, Nat.reduceAdd] at a1 a2
  clear hz
  repeat' (first | (first | (refine acc_id ?_; first | refine acc_pure rfl rfl ?_ | refine acc_end rfl ?_ | refine acc_eff rfl rfl ?_ | refine acc_call rfl ?_ | refine acc_gp rfl rfl rfl ?_ | refine acc_gc rfl rfl ?_) | (refine go_id ?_; first | refine go_seq rfl ?_ | refine go_region rfl rfl ?_ | refine go_draw (dr := allQ) rfl rfl mixed (by kernel_rfl) ?_ | refine go_cond rfl ?_ | refine go_block rfl ?_ | refine go_skip rfl ?_ | refine go_ret rfl ?_ | refine go_exit rfl ?_) | (refine out_id ?_; first | refine out_then ?_ | refine out_then_ret ?_ | refine out_then_exit ?_ | refine out_block_ret ?_ | refine out_block ?_ | refine out_block_exit rfl ?_ | refine out_block_exit' rfl ?_ | refine out_thenS_ret ?_ | refine out_thenS_exit ?_ | refine out_ret ?_ | refine out_normal ?_ | refine out_retH ?_ | refine out_normalH ?_ | refine out_end ?_)) | refine at_go ?_ | (with_reducible refine And.intro (at_go ?_) (at_go ?_)) | ((with_reducible refine And.intro (fun h => ?_) (fun h => ?_)) <;> try (exfalso; omega)) | (with_reducible refine And.intro (by omega) ?_) | fail | simp (disch := first | omega | (simp only [length_ints, List.length_set, List.length_reverse, List.length_replicate, List.length_append, List.length_cons, List.length_nil, List.length_map]; omega)) only [push_cast, ↓reduceIte, reduceIte, reduceCtorEq, Nat.reduceAdd, Nat.reduceLT, Nat.reduceEqDiff, Nat.reduceLeDiff, Int.reduceAdd, Int.reduceLT, Int.reduceLE, Nat.reduceMul, ti3, ti22, en37, en40, en51, a0, a1, a2])
  refine go_loop rfl (fun j s' H' => ∃ i, i ≤ q ∧ j = q - i ∧ H' = K i ∧ s' 0 = .yld b ∧ s' 1 = .iptr [.int .i64 n] 0 ∧ s' 2 = .iptr [.int .i64 m] 0 ∧ s' 4 = .sl 1 (ints (seqA n i)) (some (seqA n i).length)) (m := q) trivial (weak_sl (t := 4) (z := 0) (z' := 1) (c := some 0) ?_) ⟨0, by omega, by omega, rfl, ?_⟩ ?_
  · (simp (disch := first | omega | (simp only [length_ints, List.length_set, List.length_reverse, List.length_replicate, List.length_append, List.length_cons, List.length_nil, List.length_map]; omega)) only [push_cast, ↓reduceIte, reduceIte, reduceCtorEq, Nat.reduceAdd, Nat.reduceLT, Nat.reduceEqDiff, Nat.reduceLeDiff, Int.reduceAdd, Int.reduceLT, Int.reduceLE, Nat.reduceMul, ti3, ti22, en37, en40, en51, a0, a1, a2, seqA, ints_nil]) <;> (first | rfl | exact ⟨rfl, rfl⟩ | omega | (congr 1; omega) | (simp; done) | ((repeat' apply And.intro) <;> first | rfl | omega | (congr 1; omega)))
  · (simp (disch := first | omega | (simp only [length_ints, List.length_set, List.length_reverse, List.length_replicate, List.length_append, List.length_cons, List.length_nil, List.length_map]; omega)) only [push_cast, ↓reduceIte, reduceIte, reduceCtorEq, Nat.reduceAdd, Nat.reduceLT, Nat.reduceEqDiff, Nat.reduceLeDiff, Int.reduceAdd, Int.reduceLT, Int.reduceLE, Nat.reduceMul, ti3, ti22, en37, en40, en51, a0, a1, a2, seqA, ints_nil]) <;> (first | rfl | exact ⟨rfl, rfl⟩ | omega | (congr 1; omega) | (simp; done) | ((repeat' apply And.intro) <;> first | rfl | omega | (congr 1; omega)))
  · rintro j s' H' ⟨i, hi, rfl, rfl, a0, a1, a2, a4⟩
    have hb1 := hb i
    rcases Nat.lt_or_ge i q with hlt | hge
    · have hiN : i < N := by
        cases stop with
        | true => have := hs1 rfl; omega
        | false => have := hs2 rfl; omega
      have hl1 := hl i hiN
      have hl2 := h1 i hiN
      have hyi : AYield Tryd.prog G0 b [.sl 1 (ints (seqA n i)) (some (seqA n i).length)] (K i) (.bool true) (K (i + 1)) := hy i hlt
      repeat' (first | (first | (refine acc_id ?_; first | refine acc_pure rfl rfl ?_ | refine acc_end rfl ?_ | refine acc_eff rfl rfl ?_ | refine acc_call rfl ?_ | refine acc_gp rfl rfl rfl ?_ | refine acc_gc rfl rfl ?_) | (refine go_id ?_; first | refine go_seq rfl ?_ | refine go_region rfl rfl ?_ | refine go_draw (dr := allQ) rfl rfl mixed (by kernel_rfl) ?_ | refine go_cond rfl ?_ | refine go_block rfl ?_ | refine go_skip rfl ?_ | refine go_ret rfl ?_ | refine go_exit rfl ?_) | (refine out_id ?_; first | refine out_then ?_ | refine out_then_ret ?_ | refine out_then_exit ?_ | refine out_block_ret ?_ | refine out_block ?_ | refine out_block_exit rfl ?_ | refine out_block_exit' rfl ?_ | refine out_thenS_ret ?_ | refine out_thenS_exit ?_ | refine out_ret ?_ | refine out_normal ?_ | refine out_retH ?_ | refine out_normalH ?_ | refine out_end ?_)) | refine at_go ?_ | (with_reducible refine And.intro (at_go ?_) (at_go ?_)) | ((with_reducible refine And.intro (fun h => ?_) (fun h => ?_)) <;> try (exfalso; omega)) | (with_reducible refine And.intro (by omega) ?_) | (first | (refine ⟨_, _, pc_lift (clone51_pc (seqA n i) 1 _ (.inr rfl) (by omega)) (by (simp [idsL, idsE, AV.ids, idsE_ints])) _, ?_⟩) | (refine ⟨_, pc_lift (clone51_pc (seqA n i) 1 _ (.inr rfl) (by omega)) (by (simp [idsL, idsE, AV.ids, idsE_ints])) _, ?_⟩) | (refine ⟨_, fun _ => pc_lift (clone51_pc (seqA n i) 1 _ (.inr rfl) (by omega)) (by (simp [idsL, idsE, AV.ids, idsE_ints])) _, ?_⟩) | (refine ⟨_, _, clip40 1 (ints (seqA n i)) _ _ (.inr rfl), ?_⟩) | (refine ⟨_, clip40 1 (ints (seqA n i)) _ _ (.inr rfl), ?_⟩) | (refine ⟨_, fun _ => clip40 1 (ints (seqA n i)) _ _ (.inr rfl), ?_⟩) | (refine ⟨_, _, hyi, ?_⟩) | (refine ⟨_, hyi, ?_⟩) | (refine ⟨_, fun _ => hyi, ?_⟩) | (refine ⟨_, _, pc_lift (wAfter (seqA n i) _ n (by omega) hb1) (by (simp [idsL, idsE, AV.ids, idsE_ints])) _, ?_⟩) | (refine ⟨_, pc_lift (wAfter (seqA n i) _ n (by omega) hb1) (by (simp [idsL, idsE, AV.ids, idsE_ints])) _, ?_⟩) | (refine ⟨_, fun _ => pc_lift (wAfter (seqA n i) _ n (by omega) hb1) (by (simp [idsL, idsE, AV.ids, idsE_ints])) _, ?_⟩)) | simp (disch := first | omega | (simp only [length_ints, List.length_set, List.length_reverse, List.length_replicate, List.length_append, List.length_cons, List.length_nil, List.length_map]; omega)) only [push_cast, ↓reduceIte, reduceIte, reduceCtorEq, Nat.reduceAdd, Nat.reduceLT, Nat.reduceEqDiff, Nat.reduceLeDiff, Int.reduceAdd, Int.reduceLT, Int.reduceLE, Nat.reduceMul, ti3, ti22, en37, en40, en51, a0, a1, a2, a4, length_ints])
      refine out_round (q - (i + 1)) (by omega) (by (first | trivial | ((repeat' apply And.intro) <;> first | trivial | assumption | omega | (simp only [maxLen]; omega) | (simp only [length_ints, List.length_replicate, List.length_append, List.length_cons, List.length_nil, List.length_map, List.length_take, List.length_drop, List.length_set, List.length_reverse, maxLen] <;> omega)))) ⟨i + 1, hlt, rfl, rfl, ?_⟩
      simp (disch := first | omega | (simp only [length_ints, List.length_set, List.length_reverse, List.length_replicate, List.length_append, List.length_cons, List.length_nil, List.length_map]; omega)) only [push_cast, ↓reduceIte, reduceIte, reduceCtorEq, Nat.reduceAdd, Nat.reduceLT, Nat.reduceEqDiff, Nat.reduceLeDiff, Int.reduceAdd, Int.reduceLT, Int.reduceLE, Nat.reduceMul, ti3, ti22, en37, en40, en51, a0, a1, a2, a0, a1, a2, seqA]
    · obtain rfl : i = q := by omega
      cases stop with
      | true =>
        have hiN := hs1 rfl
        have hl1 := hl i hiN
        have hl2 := h1 i hiN
        have hzi : AYield Tryd.prog G0 b [.sl 1 (ints (seqA n i)) (some (seqA n i).length)] (K i) (.bool false) (K (i + 1)) := hz rfl
        repeat' (first | (first | (refine acc_id ?_; first | refine acc_pure rfl rfl ?_ | refine acc_end rfl ?_ | refine acc_eff rfl rfl ?_ | refine acc_call rfl ?_ | refine acc_gp rfl rfl rfl ?_ | refine acc_gc rfl rfl ?_) | (refine go_id ?_; first | refine go_seq rfl ?_ | refine go_region rfl rfl ?_ | refine go_draw (dr := allQ) rfl rfl mixed (by kernel_rfl) ?_ | refine go_cond rfl ?_ | refine go_block rfl ?_ | refine go_skip rfl ?_ | refine go_ret rfl ?_ | refine go_exit rfl ?_) | (refine out_id ?_; first | refine out_then ?_ | refine out_then_ret ?_ | refine out_then_exit ?_ | refine out_block_ret ?_ | refine out_block ?_ | refine out_block_exit rfl ?_ | refine out_block_exit' rfl ?_ | refine out_thenS_ret ?_ | refine out_thenS_exit ?_ | refine out_ret ?_ | refine out_normal ?_ | refine out_retH ?_ | refine out_normalH ?_ | refine out_end ?_)) | refine at_go ?_ | (with_reducible refine And.intro (at_go ?_) (at_go ?_)) | ((with_reducible refine And.intro (fun h => ?_) (fun h => ?_)) <;> try (exfalso; omega)) | (with_reducible refine And.intro (by omega) ?_) | (first | (refine ⟨_, _, pc_lift (clone51_pc (seqA n i) 1 _ (.inr rfl) (by omega)) (by (simp [idsL, idsE, AV.ids, idsE_ints])) _, ?_⟩) | (refine ⟨_, pc_lift (clone51_pc (seqA n i) 1 _ (.inr rfl) (by omega)) (by (simp [idsL, idsE, AV.ids, idsE_ints])) _, ?_⟩) | (refine ⟨_, fun _ => pc_lift (clone51_pc (seqA n i) 1 _ (.inr rfl) (by omega)) (by (simp [idsL, idsE, AV.ids, idsE_ints])) _, ?_⟩) | (refine ⟨_, _, clip40 1 (ints (seqA n i)) _ _ (.inr rfl), ?_⟩) | (refine ⟨_, clip40 1 (ints (seqA n i)) _ _ (.inr rfl), ?_⟩) | (refine ⟨_, fun _ => clip40 1 (ints (seqA n i)) _ _ (.inr rfl), ?_⟩) | (refine ⟨_, _, hzi, ?_⟩) | (refine ⟨_, hzi, ?_⟩) | (refine ⟨_, fun _ => hzi, ?_⟩)) | simp (disch := first | omega | (simp only [length_ints, List.length_set, List.length_reverse, List.length_replicate, List.length_append, List.length_cons, List.length_nil, List.length_map]; omega)) only [push_cast, ↓reduceIte, reduceIte, reduceCtorEq, Nat.reduceAdd, Nat.reduceLT, Nat.reduceEqDiff, Nat.reduceLeDiff, Int.reduceAdd, Int.reduceLT, Int.reduceLE, Nat.reduceMul, ti3, ti22, en37, en40, en51, a0, a1, a2, a4, length_ints])
      | false =>
        obtain rfl := hs2 rfl
        repeat' (first | (first | (refine acc_id ?_; first | refine acc_pure rfl rfl ?_ | refine acc_end rfl ?_ | refine acc_eff rfl rfl ?_ | refine acc_call rfl ?_ | refine acc_gp rfl rfl rfl ?_ | refine acc_gc rfl rfl ?_) | (refine go_id ?_; first | refine go_seq rfl ?_ | refine go_region rfl rfl ?_ | refine go_draw (dr := allQ) rfl rfl mixed (by kernel_rfl) ?_ | refine go_cond rfl ?_ | refine go_block rfl ?_ | refine go_skip rfl ?_ | refine go_ret rfl ?_ | refine go_exit rfl ?_) | (refine out_id ?_; first | refine out_then ?_ | refine out_then_ret ?_ | refine out_then_exit ?_ | refine out_block_ret ?_ | refine out_block ?_ | refine out_block_exit rfl ?_ | refine out_block_exit' rfl ?_ | refine out_thenS_ret ?_ | refine out_thenS_exit ?_ | refine out_ret ?_ | refine out_normal ?_ | refine out_retH ?_ | refine out_normalH ?_ | refine out_end ?_)) | refine at_go ?_ | (with_reducible refine And.intro (at_go ?_) (at_go ?_)) | ((with_reducible refine And.intro (fun h => ?_) (fun h => ?_)) <;> try (exfalso; omega)) | (with_reducible refine And.intro (by omega) ?_) | (first | (refine ⟨_, _, pc_lift (clone51_pc (seqA n i) 1 _ (.inr rfl) (by omega)) (by (simp [idsL, idsE, AV.ids, idsE_ints])) _, ?_⟩) | (refine ⟨_, pc_lift (clone51_pc (seqA n i) 1 _ (.inr rfl) (by omega)) (by (simp [idsL, idsE, AV.ids, idsE_ints])) _, ?_⟩) | (refine ⟨_, fun _ => pc_lift (clone51_pc (seqA n i) 1 _ (.inr rfl) (by omega)) (by (simp [idsL, idsE, AV.ids, idsE_ints])) _, ?_⟩) | (refine ⟨_, _, clip40 1 (ints (seqA n i)) _ _ (.inr rfl), ?_⟩) | (refine ⟨_, clip40 1 (ints (seqA n i)) _ _ (.inr rfl), ?_⟩) | (refine ⟨_, fun _ => clip40 1 (ints (seqA n i)) _ _ (.inr rfl), ?_⟩) | (refine ⟨_, _, hzi, ?_⟩) | (refine ⟨_, hzi, ?_⟩) | (refine ⟨_, fun _ => hzi, ?_⟩)) | simp (disch := first | omega | (simp only [length_ints, List.length_set, List.length_reverse, List.length_replicate, List.length_append, List.length_cons, List.length_nil, List.length_map]; omega)) only [push_cast, ↓reduceIte, reduceIte, reduceCtorEq, Nat.reduceAdd, Nat.reduceLT, Nat.reduceEqDiff, Nat.reduceLeDiff, Int.reduceAdd, Int.reduceLT, Int.reduceLE, Nat.reduceMul, ti3, ti22, en37, en40, en51, a0, a1, a2, a4, length_ints])
end Go.Proofs

