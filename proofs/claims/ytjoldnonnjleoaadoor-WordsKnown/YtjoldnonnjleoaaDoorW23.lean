import Derived.Test.YtjoldnonnjleoaaDoorV28
import Derived.Test.YtjoldnonnjleoaaDoorWL
import Derived.WalkKit
import Derived.Lib.Walk
import Derived.Lib.SliceRun
import Derived.Lib.AppendZerosOnto
namespace Go.Proofs
open Go Go.V
set_option linter.unusedVariables false
set_option linter.unusedSimpArgs false
set_option maxHeartbeats 0
set_option maxRecDepth 100000
/-- A function that returns an empty slice with room: the caller has a new own row. -/
theorem acalls_new {P : Program} {G : Glob} {f : FuncId} {args : List AV} {H : List Blk} {s : Nat} {t : TypeId} (h : ∀ (S : St) (vals : List Value), S.Ok H → Globs G S.M → RelL (S.env H) args vals →
    Calls P f vals.toArray S.w fun e w' => ∃ cap n cs, e = .returned (.slice (some ⟨S.w.heap.size, 0, none⟩) 0 cap) ∧ w' = (S.w.drewN n).alloc (.cells cs t) ∧ cap ≤ maxLen ∧ cs.size = cap * s) :
    ACalls P G f args H (.own H.length 0 0 none) (H ++ [.row s t []]) := fun S vals hok hG ha => by
  refine (h S vals hok hG ha).mono fun e w' ⟨cap, n, cs, he, hw, h1, h2⟩ => ?_
  have hrow : RowIn (S.env H) s [] cs := by intro i e hi; simp at hi
  refine ⟨_, S.fresh H.length cap t cs n, he, hw.symm, new_ok hok n (Nat.zero_le _) h1 h2 hrow, new_ext hok cap cs n, ?_⟩
  exact rel_own_mk (s := s) (by rw [shOf_push_new]; rfl) (Nat.le_refl _) (.inr ⟨S.w.heap.size, cap, cap, by simp [St.fresh, upd_same], rfl, Nat.zero_le _, Nat.le_refl _, fun _ => rfl, fun j hj => by cases hj⟩)
theorem grow_nil_run (base : Option Addr) (n : Nat) (w : World) (h0 : 0 < n) (hn : n ≤ 1000000000) : Calls Tryd.prog 60 #[.slice base 0 0, .int .i64 n] w fun e w' => ∃ cap k cs, e = .returned (.slice (some ⟨w.heap.size, 0, none⟩) 0 cap) ∧ w' = (w.drewN k).alloc (.cells cs 3) ∧ cap ≤ maxLen ∧ cs.size = cap * 1 := by
  have hinf : ((Tryd.prog.info? 3).map fun i => (i.size, i.bytes, i.zero)) = some (1, 8, some (.int .i64 0)) := by kernel_rfl
  obtain ⟨i0, hi0, he⟩ := Option.map_eq_some_iff.1 hinf
  simp only [Prod.mk.injEq] at he
  obtain ⟨hs1, hb8, hz0⟩ := he
  have hrz : ∀ b ty, (Builtin.append_ #[22, 3] ty #[.slice b 0 0, .int .i64 (n : Int)]).run Tryd.prog w =
      .ok (.slice (some ⟨w.heap.size, 0, none⟩) (0 + n) (grownCap w (0 + n) 0 3)) (w.drew.alloc (.cells (#[] ++ Builtin.zeroCells (Value.int .i64 0).cells n ++ Builtin.zeroCells (Value.int .i64 0).cells (grownCap w (0 + n) 0 3 - (0 + n))) 3)) := fun b ty => by
    have hold : (Builtin.firstCells i0.size 0 (.slice b 0 0)).run Tryd.prog w.drew = .ok ([] : List Value).toArray w.drew := by
      cases b with
      | none => exact run_firstCells_none w.drew i0.size 0 0 0
      | some a => exact run_firstCells_some w.drew i0.size 0 a 0 0 [] (by simp) (fun j v hj => by simp at hj)
    exact Lib.run_append_grow_zeros w 22 3 ty 3 i0 (.int .i64 0) .i64 .i64 Tryd.underlying22 Tryd.underlying3 hi0 hz0 b 0 0 [] hold n h0 (by omega) (by omega) (by omega) (by rw [hb8]; omega) (growslice_fits (by omega) (by rw [hb8]; omega))
  have hGn := grownCap_ge w (0 + n) 0 3
  have hGm := grownCap_le_maxLen w (0 + n) 0 3 (by unfold maxLen; omega)
  obtain ⟨G, hG⟩ : ∃ G, G = grownCap w (0 + n) 0 3 := ⟨_, rfl⟩
  rw [← hG] at hrz hGn hGm
  have hG63 : G ≤ 9223372036854775807 := by unfold maxLen at hGm; omega
  have hsz : (#[] ++ Builtin.zeroCells (Value.int .i64 0).cells n ++ Builtin.zeroCells (Value.int .i64 0).cells (G - (0 + n))).size = G * 1 := by
    simp [Builtin.zeroCells, Value.cells]; omega
  have h1 : ¬ ((n : Int) < 0) := by omega
  have h2 : RowKit.wrap64 ((0 : Int) - (0 : Int)) = 0 := by unfold RowKit.wrap64; omega
  have h4 : (n : Int) > 0 := by omega
  clear hG hi0
  go_enter Tryd.func60, Tryd.ntmps60
  go_wp2_with (at_builtin; refine Lib.wpList_append_run _ rfl _ _ _ _ rfl _ _ rfl rfl _ _ (hrz _ _) ?_)
  have hsz' : (Builtin.zeroCells #[Value.int IntKind.i64 0] n ++ Builtin.zeroCells #[Value.int IntKind.i64 0] (G - n)).size = G := by
    simpa [Value.cells] using hsz
  all_goals (go_ret; exact ⟨G, rfl, 1, _, rfl, hGm, hsz'⟩)
theorem grow_zero : PC Tryd.prog G0 60 [.sl 0 [] (some 0), .int .i64 0] (.sl 0 [] (some 0)) := by
  refine pc_go 0 27 [.tmp 4] Tryd.func60 rfl rfl rfl (by simp) ?_
  intro s ⟨a0, a1, hz⟩
  simp only [Nat.zero_add, Nat.reduceAdd] at a1
  clear hz
  repeat' (first | (first | (refine acc_id ?_; first | refine acc_pure rfl rfl ?_ | refine acc_end rfl ?_ | refine acc_eff rfl rfl ?_ | refine acc_call rfl ?_ | refine acc_gp rfl rfl rfl ?_ | refine acc_gc rfl rfl ?_) | (refine go_id ?_; first | refine go_seq rfl ?_ | refine go_region rfl rfl ?_ | refine go_draw (dr := allQ) rfl rfl mixed (by kernel_rfl) ?_ | refine go_cond rfl ?_ | refine go_block rfl ?_ | refine go_skip rfl ?_ | refine go_ret rfl ?_ | refine go_exit rfl ?_) | (refine out_id ?_; first | refine out_then ?_ | refine out_then_ret ?_ | refine out_then_exit ?_ | refine out_block_ret ?_ | refine out_block ?_ | refine out_block_exit rfl ?_ | refine out_block_exit' rfl ?_ | refine out_thenS_ret ?_ | refine out_thenS_exit ?_ | refine out_ret ?_ | refine out_normal ?_ | refine out_retH ?_ | refine out_normalH ?_ | refine out_end ?_)) | refine at_go ?_ | (with_reducible refine And.intro (at_go ?_) (at_go ?_)) | ((with_reducible refine And.intro (fun h => ?_) (fun h => ?_)) <;> try (exfalso; omega)) | (with_reducible refine And.intro (by omega) ?_) | fail | simp (disch := first | omega | (simp only [List.length_nil, List.length_set, List.length_reverse, List.length_replicate, List.length_append, List.length_cons, List.length_nil, List.length_map]; omega)) only [push_cast, ↓reduceIte, reduceIte, reduceCtorEq, Nat.reduceAdd, Nat.reduceLT, Nat.reduceEqDiff, Nat.reduceLeDiff, Int.reduceAdd, Int.reduceLT, Int.reduceLE, Nat.reduceMul, ti3, ti9, ti22, a0, a1, wrap64, Int.sub_zero])
theorem grow60 (H : List Blk) (k : Nat) (n : Int) (h0 : 0 ≤ n) (hn : n ≤ 1000000000) : ACalls Tryd.prog G0 60 [.sl k [] (some 0), .int .i64 n] H (.own H.length 0 0 none) (H ++ [.row 1 3 []]) := by
  by_cases hz : n = 0
  · subst hz
    exact acalls_nil_own (k := 0) (ac_eqv (pc_lift grow_zero (by simp [idsL, AV.ids, idsE]) H) (by simp [eqvL])) 1 3
  · refine acalls_new fun S vals hok hG ha => ?_
    simp only [RelL, Rel] at ha
    obtain ⟨v0, _, rfl, ⟨a, cap, rfl, _, _, hc, _⟩, v1, _, rfl, rfl, rfl⟩ := ha
    have := hc 0 rfl
    subst this
    obtain ⟨m, rfl⟩ : ∃ m : Nat, n = m := ⟨n.toNat, by omega⟩
    refine (grow_nil_run a m S.w (by omega) (by omega)).mono fun e w' ⟨cap, k, cs, h1, h2, h3, h4⟩ => ⟨cap, k, cs, h1, h2, h3, h4⟩
end Go.Proofs
