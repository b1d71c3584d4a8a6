import Derived.Test.YtjoldnonnjleoaaDoorWB
/- Words: slices.Clone of an empty slice; the library's functions inside of the evaluator. -/
namespace Go.Proofs
open Go Go.V
set_option linter.unusedVariables false
set_option linter.unusedSimpArgs false
set_option maxHeartbeats 0
set_option maxRecDepth 100000 in
theorem clone51_nil (k : Nat) (c : Option Nat) : PC Tryd.prog G0 51 [.sl k [] c] (.sl 0 [] (some 0)) := by
  refine pc_go 1 8 [.tmp 2] Tryd.func51 rfl rfl rfl (by simp) ?_
  intro s ⟨a0, hz⟩
  clear hz
  repeat' (first | (first | (refine acc_id ?_; first | refine acc_pure rfl rfl ?_ | refine acc_end rfl ?_ | refine acc_eff rfl rfl ?_ | refine acc_call rfl ?_ | refine acc_gp rfl rfl rfl ?_ | refine acc_gc rfl rfl ?_) | (refine go_id ?_; first | refine go_seq rfl ?_ | refine go_region rfl rfl ?_ | refine go_draw rfl rfl mixed (by kernel_rfl) ?_ | refine go_cond rfl ?_ | refine go_block rfl ?_ | refine go_skip rfl ?_ | refine go_ret rfl ?_ | refine go_exit rfl ?_) | (refine out_id ?_; first | refine out_then ?_ | refine out_then_ret ?_ | refine out_then_exit ?_ | refine out_block_ret ?_ | refine out_block ?_ | refine out_block_exit rfl ?_ | refine out_block_exit' rfl ?_ | refine out_thenS_ret ?_ | refine out_thenS_exit ?_ | refine out_ret ?_ | refine out_normal ?_)) | refine at_go ?_ | refine ⟨at_go ?_, at_go ?_⟩ | refine ⟨fun h => ?_, fun h => ?_⟩ | refine ⟨by omega, ?_⟩ | fail | simp (disch := first | omega | (simp only [length_ints, List.length_replicate, List.length_append, List.length_cons, List.length_nil, List.length_map]; omega)) only [callK, gcallK, isEff, pstep, estep, condS, optK, put_some, put_none, updS_same, updS_eq, evS_tmp, evS_const, evS_func, rdS_eq, resS, resS1, strip_int, strip_bool, strip_str, strip_agg, strip_tup, strip_sl, strip_own, strip_ptr, strip_iptr, strip_fn, strip_mp, strip_opt, strip_lit, strip_top, strip_anyb, strip_err, strip_anyi, ok_anyb, ok_err, ok_anyi, ok_int, ok_bool, ok_str, ok_agg, ok_tup, ok_sl, ok_own, ok_ptr, ok_iptr, ok_fn, ok_mp, ok_opt, ok_lit, ok_top, ofVal_int, ofVal_bool, ofVal_str, ofVal_nil, ite_bool, nilTest, pNil, gOf_bool, gOf_opt, gOf_undef, gBool, shp, pLoad, fieldOf, pFieldAddr, pField, pIndexAddr, pIndex, pInt, pStr, pBin, pUn, pConvert, pLen, pCap, pMinMax, pSlice, isLow, isHigh, cut, fitsAt, isLen, shOf, eqA, eqPair, eAlloc, eBox, eStore, eMake, eAppend, srcElems, isSrc, AV.cells?, AV.live, pBuild, pBuildSlice, fillA, structPlaces, chunks, bad, bad3, okR, okA, okC, closeR, closeA, closeC, AV.closed, AV.ids, idsL, idsE, Option.map_some, Option.getD_some, Option.bind_some, Option.map_none, Option.getD_none, Option.all_some, Option.all_none, Option.isSome_some, Option.isSome_none, Bool.and_eq_true, Bool.true_and, Bool.and_true, Bool.false_and, Bool.and_false, Bool.or_eq_true, Bool.true_or, Bool.or_true, Bool.false_or, Bool.or_false, Bool.not_true, Bool.not_false, Bool.not_eq_true', decide_eq_true_eq, decide_eq_false_iff_not, true_and, and_true, false_and, and_false, forall_const, ↓reduceIte, reduceIte, Bool.false_eq_true, Bool.true_eq_false, reduceCtorEq, if_true, if_false, beq_self_eq_true, beq_iff_eq, List.length_cons, List.length_nil, List.getElem?_cons_zero, List.getElem?_cons_succ, List.getElem?_nil, List.map_cons, List.map_nil, List.all_cons, List.all_nil, List.toList_toArray, List.nil_append, List.cons_append, List.foldr_cons, List.foldr_nil, Nat.reduceAdd, Nat.reduceLT, Nat.reduceEqDiff, not_true_eq_false, not_false_eq_true, implies_true, true_implies, false_implies, ne_eq, Nat.zero_add, Nat.add_zero, Nat.zero_mul, cond_true, cond_false, Nat.le_refl, Nat.reduceLeDiff, List.getD_cons_zero, List.getD_cons_succ, List.getD_nil, List.drop_zero, List.drop_succ_cons, List.take_succ_cons, List.take_zero, Int.toNat_natCast, Int.natCast_nonneg, and_self, Int.reduceAdd, Int.reduceLT, Int.reduceLE, Int.toNat_zero, Int.toNat_one, Int.ofNat_lt, Int.ofNat_le, List.replicate_succ, List.replicate_zero, List.flatten_cons, List.flatten_nil, List.append_nil, List.length_append, decide_true, decide_false, Nat.reduceMul, List.isEmpty_cons, List.isEmpty_nil, List.set_cons_zero, List.set_cons_succ, true_or, or_true, List.take_of_length_le, List.drop_eq_nil_of_le, List.length_replicate, List.length_map, bne_iff_ne, Nat.one_ne_zero, Int.natCast_inj, Int.natCast_add, Int.cast_ofNat_Int, List.length_take_of_le, Bool.not_eq_false', Bool.cond_true_left, Bool.cond_false_right, Bool.cond_true_right, Bool.cond_false_left, beq_false, beq_true, Bool.or_eq_false_iff, imp_self, List.map_id', List.map_id_fun', id_eq, ti3, ti4, ti22, a0])
theorem libW : LibOk Tryd.prog G0 LW where
  itoa H n h0 h1 := itoa_ac (g := 2) (by kernel_rfl) rfl (fun n h0 h1 w ht => Tryd.strconv_Itoa n h0 h1 w ht) n h0 h1
  atoi H s hl := atoi_ac (gs := 0) (gr := 1) rfl rfl (fun s hm v h w => Tryd.strconv_Atoi_ok s hm v h w) (fun s hl h ev w h1 h2 => Tryd.strconv_Atoi_syntax s hl h ev w h1 h2) (fun s hl h ev w h1 h2 => Tryd.strconv_Atoi_range s hl h ev w h1 h2) s hl
  split H s sep hs h1 := split_ac (gm := 3) rfl (fun s sep m w hs hm h1 => Tryd.strings_Split s sep m w hs hm h1) s sep hs h1
  join H x xs sep hx h1 h2 := join_ac hx (fun a c sep w => Tryd.strings_Join_none a c sep w) (fun bk o c xs sep w h1 h2 h3 h4 h5 => Tryd.strings_Join bk o c xs sep w h1 h2 h3 h4 h5) sep h1 h2
  clone f hf H k c := by
    simp only [LW, List.mem_cons, List.not_mem_nil, or_false] at hf
    subst hf
    exact pc_lift (clone51_nil k c) (by simp [idsL, idsE, AV.ids]) H
def isTrue (r : Option (AV × List Blk)) : Bool := match r with | some (.bool true, _) => true | _ => false
theorem ac_of_isTrue {P : Program} {G : Glob} {f : FuncId} {args : List AV} {H : List Blk} {prim : XCall} {L n : Nat} (hmix : P.follows .mixedOrders = true) (hprim : ∀ f args H r H', prim f args H = some (r, H') → ACalls P G f args H r H')
    (h : isTrue (xcall P G prim L n f args H) = true) : ∃ H', ACalls P G f args H (.bool true) H' := by
  unfold isTrue at h
  split at h
  · rename_i H' hx
    exact ⟨H', xcall_ok hmix hprim n f args H _ _ hx⟩
  · cases h
end Go.Proofs
