import Derived.Test.YtjoldnonnjleoaaDoorWB
/- Words: slices.Clone of an empty slice; the library's functions inside of the evaluator. -/
namespace Go.Proofs
open Go Go.V
set_option linter.unusedVariables false
set_option linter.unusedSimpArgs false
set_option maxHeartbeats 0
set_option maxRecDepth 100000 in
theorem clone51_nil (k : Nat) (c : Option Nat) : PC Tryd.prog G0 51 [.sl k [] c] (.sl 0 [] (some 0)) := by
  refine pc_go 1 8 [.tmp 2] Tryd.func51 rfl rfl rfl (by simp) ?_
  intro s ⟨a0, hz⟩
  clear hz
  repeat' (first | (first | (refine acc_id ?_; first | refine acc_pure rfl rfl ?_ | refine acc_end rfl ?_ | refine acc_eff rfl rfl ?_ | refine acc_call rfl ?_ | refine acc_gp rfl rfl rfl ?_ | refine acc_gc rfl rfl ?_) | (refine go_id ?_; first | refine go_seq rfl ?_ | refine go_region rfl rfl ?_ | refine go_draw (dr := allQ) rfl rfl mixed (by kernel_rfl) ?_ | refine go_cond rfl ?_ | refine go_block rfl ?_ | refine go_skip rfl ?_ | refine go_ret rfl ?_ | refine go_exit rfl ?_) | (refine out_id ?_; first | refine out_then ?_ | refine out_then_ret ?_ | refine out_then_exit ?_ | refine out_block_ret ?_ | refine out_block ?_ | refine out_block_exit rfl ?_ | refine out_block_exit' rfl ?_ | refine out_thenS_ret ?_ | refine out_thenS_exit ?_ | refine out_ret ?_ | refine out_normal ?_ | refine out_retH ?_ | refine out_normalH ?_ | refine out_end ?_)) | refine at_go ?_ | (with_reducible refine And.intro (at_go ?_) (at_go ?_)) | ((with_reducible refine And.intro (fun h => ?_) (fun h => ?_)) <;> try (exfalso; omega)) | (with_reducible refine And.intro (by omega) ?_) | fail | simp (disch := first | omega | (simp only [length_ints, List.length_set, List.length_reverse, List.length_replicate, List.length_append, List.length_cons, List.length_nil, List.length_map]; omega)) only [push_cast, ↓reduceIte, reduceIte, reduceCtorEq, Nat.reduceAdd, Nat.reduceLT, Nat.reduceEqDiff, Nat.reduceLeDiff, Int.reduceAdd, Int.reduceLT, Int.reduceLE, Nat.reduceMul, ti3, ti4, ti22, a0])
theorem libW : LibOk Tryd.prog G0 LW where
  itoa H n h0 h1 := itoa_ac (g := 2) (by kernel_rfl) rfl (fun n h0 h1 w ht => Tryd.strconv_Itoa n h0 h1 w ht) n h0 h1
  atoi H s hl := atoi_ac (gs := 0) (gr := 1) rfl rfl (fun s hm v h w => Tryd.strconv_Atoi_ok s hm v h w) (fun s hl h ev w h1 h2 => Tryd.strconv_Atoi_syntax s hl h ev w h1 h2) (fun s hl h ev w h1 h2 => Tryd.strconv_Atoi_range s hl h ev w h1 h2) s hl
  split H s sep hs h1 := split_ac (gm := 3) rfl (fun s sep m w hs hm h1 => Tryd.strings_Split s sep m w hs hm h1) s sep hs h1
  join H x xs sep hx h1 h2 := join_ac hx (fun a c sep w => Tryd.strings_Join_none a c sep w) (fun bk o c xs sep w h1 h2 h3 h4 h5 => Tryd.strings_Join bk o c xs sep w h1 h2 h3 h4 h5) sep h1 h2
  clone f hf H k c := by
    simp only [LW, List.mem_cons, List.not_mem_nil, or_false] at hf
    subst hf
    exact pc_lift (clone51_nil k c) (by simp [idsL, idsE, AV.ids]) H
end Go.Proofs
