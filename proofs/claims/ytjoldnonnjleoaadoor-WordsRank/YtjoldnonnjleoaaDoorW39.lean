/- The statement WordsRankCardSaid: WordsRank answers true for every two W and every uint8. Conditions: those of the given row alone (the listed package-level variables start as the program's text lays them). -/
import Derived.Test.YtjoldnonnjleoaaDoorW31
import Derived.Test.YtjoldnonnjleoaaDoorW29
/- Words: an argument W. -/
namespace Go.Proofs.YtjoldnonnjleoaaDoor
open Go Go.V Go.ChangeShapes Go.WideShapes Go.ChangeAt Go.RowKit
set_option linter.unusedVariables false
set_option maxRecDepth 100000
theorem arg_aggr {P : Program} {H : Type} {enc : TypeId × Value → H} {w : World} {base : Nat} {t : TypeId} {v : Value} {d : DataW H} {ps : List MemPlace} {α : Type} {fs : Array Field} (V : View P t α) (hu : P.underlying t = some (.struct fs)) (hw : Value.okWide P w .any base t v) (h : DataW.Trod enc P w 0 (fun _ => true) true t v d ps) : ∃ y, V.ok y ∧ Rel (EnvW w) (.agg (V.to y)) v := by
  unfold Value.okWide at hw
  rw [hu] at hw
  obtain ⟨cs, rfl, _⟩ := hw
  obtain ⟨fuel, h⟩ := h
  obtain ⟨y, q1, q2, q3⟩ := V.get h
  refine ⟨y, q1, ?_⟩
  simp only [Rel]
  exact ⟨cs.toList, by simp, q2, q3⟩
noncomputable def vU8s : View Tryd.prog 28 (List Int × Nat) := View.slice 1 Tryd.underlying28 (by kernel_rfl) (by decide) (View.int .u8 Tryd.underlying5)
noncomputable def vW : View Tryd.prog 30 ((List Int × Nat) × Unit) := View.struct 1 Tryd.underlying30 (by kernel_rfl) (FView.cons 1 rfl (by kernel_rfl) vU8s (FView.nil (Nat.le_refl 1)))
theorem arg_W {H : Type} {enc : TypeId × Value → H} {W : World} {base : Nat} {v : Value} {d : DataW H} {ps : List MemPlace} (hw : Value.okWide Tryd.prog W .any base 30 v) (h : DataW.Trod enc Tryd.prog W 0 (fun _ => true) true 30 v d ps) :
    ∃ (xs : List Int) (c : Nat), (∀ x ∈ xs, 0 ≤ x ∧ x < 256) ∧ xs.length ≤ c ∧ c ≤ maxLen ∧ Rel (EnvW W) (.agg [.sl 1 (u8s xs) (some c)]) v := by
  obtain ⟨y, q1, q4⟩ := arg_aggr vW Tryd.underlying30 hw h
  obtain ⟨⟨xs, c⟩, u⟩ := y
  obtain ⟨⟨p1, p2, p3⟩, _⟩ := q1
  refine ⟨xs, c, fun x hx => ?_, p2, p3, q4⟩
  have := p1 x hx
  have e1 : IntKind.u8.min = 0 := rfl
  have e2 : IntKind.u8.max = 255 := rfl
  have q : (Lit.int .u8 x).wf = true := this
  simp [Lit.wf, e1, e2] at q
  exact ⟨by omega, by omega⟩
end Go.Proofs.YtjoldnonnjleoaaDoor
namespace Go.Proofs.YtjoldnonnjleoaaDoor.wordsRank
open Go Go.V Go.ChangeShapes Go.WideShapes Go.ChangeAt Go.RowKit
set_option linter.unusedVariables false
set_option maxRecDepth 100000
theorem contract (H : Type) (enc : TypeId × Value → H) (W : World) (base : Nat) (args : Array Value) (ds gs : List (DataW H)) (before : List MemPlace)
    (hval : ∀ (j : Nat) t v, Tryd.f5.params[j]? = some t → args[j]? = some v → Value.okWide Tryd.prog W .any base t v)
    (hW : DataW.Whole enc Tryd.prog Tryd.f5.params.toList Rows.wordsRankSpec.vars false W args.toList ds gs before) (hL : laidMetH Tryd.prog Rows.wordsRankRow.laid W) (hS : W.ShapedOpen Tryd.prog) :
    Calls Tryd.prog 5 args W fun e W' => ∃ v, e = .returned v ∧ Rows.wordsRankSpec.post enc Tryd.prog Tryd.f5 false true false false W args v W' := by
  have hW' := hW
  obtain ⟨p, q, hA0, hV, rfl, hfz, hnd⟩ := hW
  have hA : DataW.TrodAll enc Tryd.prog W 0 (fun _ => true) true Tryd.f5.params.toList args.toList ds p := hA0
  rw [Tryd.params5] at hA hval
  obtain ⟨rfl, rfl⟩ := trodVars_none hV
  obtain ⟨v0, vs0, d0, ds0, p0, q0, hargs, rfl, rfl, h0, r0⟩ := trodAll_cons hA
  obtain ⟨v1, vs1, d1, ds1, p1, q1, rfl, rfl, rfl, h1, r1⟩ := trodAll_cons r0
  obtain ⟨v2, vs2, d2, ds2, p2, q2, rfl, rfl, rfl, h2, r2⟩ := trodAll_cons r1
  obtain ⟨rfl, rfl, rfl⟩ := trodAll_nil r2
  obtain rfl : args = #[v0, v1, v2] := by cases args; simp_all
  obtain ⟨x0, c0, b0, l0, m0, e0⟩ := arg_W (hval 0 30 v0 rfl rfl) h0
  obtain ⟨x1, c1, b1, l1, m1, e1⟩ := arg_W (hval 1 30 v1 rfl rfl) h1
  obtain ⟨x2, b2, e2⟩ := arg_u8 (hval 2 5 v2 rfl rfl) h2
  refine (pc_below (rank_law x0 x1 (some c0) (some c1) x2 _ (by omega) (by omega) b0 b1 b2 rfl) (globs_of hL hS) (vals := [v0, v1, v2]) ⟨_, _, rfl, e0, _, _, rfl, e1, _, _, rfl, e2, rfl⟩).mono fun e W' ⟨he, hb⟩ => ?_
  exact ⟨_, he, law_end rfl rfl rfl rfl rfl (by kernel_rfl) hW' hb⟩
theorem reads (os : Os) {H : Type} (enc : TypeId × Value → H) : ∃ places, DataW.whole enc Tryd.prog ((laidWorld os).forCall (fun _ _ => 0) ⟨#[], #[.agg #[.slice none 0 0], .agg #[.slice none 0 0], .int .u8 0], []⟩).memory Tryd.f5.params.toList Rows.wordsRankSpec.vars false (#[.agg #[.slice none 0 0], .agg #[.slice none 0 0], .int .u8 0] : Array Value).toList 8 = some ([.agg [.nil], .agg [.nil], .lit (.int .u8 0)], [], places) :=
  ⟨[], by kernel_rfl⟩
theorem lifted (os : Os) (started : os.Started) (H : Type) (enc : TypeId × Value → H) (F : Stop.Interp) :
    ReturnsInHanded {} Tryd.checked os 5 .any ((OpenSpec.ofChange Rows.wordsRankSpec).preRow enc Tryd.prog Tryd.f5 Rows.wordsRankRow.domain false Rows.wordsRankRow.laid) (((OpenSpec.ofChange Rows.wordsRankSpec).at F).post enc Tryd.prog Tryd.f5 false true false false) := by
  obtain ⟨places, hx⟩ := reads os enc
  refine returnsInHanded_of_row (C := Tryd.checked) (s := OpenSpec.ofChange Rows.wordsRankSpec) own started (by kernel_rfl) Tryd.func5
    (witness_row_atRef (enc := enc) (C := Tryd.checked) false (laidWorld os) #[.agg #[.slice none 0 0], .agg #[.slice none 0 0], .int .u8 0] rfl (by kernel_rfl) (by kernel_rfl) (by kernel_rfl)
      (OpenSpec.preRow_of_cond 8 hx (by kernel_rfl) (fun k hk => by cases hk) (by kernel_rfl) (laid_met os _))) ?_
  intro W base args ds gs before hval hW _ _ _ hL hS _
  exact contract H enc W base args ds gs before hval hW hL hS
theorem said : Rows.WordsRankSaid :=
  OpenClaim.holds_of_cond 5 Tryd.f5 rfl rfl rfl rfl rfl rfl rfl ⟨rfl, rfl, rfl, rfl, rfl⟩ rfl rfl rfl rfl rfl (by kernel_rfl) Tryd.func5 (by kernel_rfl)
    (of_decide_eq_true (by kernel_rfl)) (by unfold Func.isWrapper; first | (rw [if_pos (by decide +kernel)]; kernel_rfl) | (rw [if_neg (by decide +kernel)]; exact ⟨rfl, rfl⟩))
    (fun os started H enc _ F => by rw [OpenClaim.pre_eq_preRow]; exact lifted os started H enc F)
theorem plain (f : FuncId) (fn : Func) (hf : Tryd.pinned.checked.prog.funcNamed "gauntlet/gauntletlaw01.WordsRank" = some f) (hfn : Tryd.pinned.checked.prog.funcs[f]? = some fn) :
    true = Tryd.pinned.checked.prog.looks [] ∧ ∀ (j : Nat) t, fn.params[j]? = some t → Tryd.pinned.checked.prog.wantsStandIn t = false := by
  obtain rfl : f = 5 := Option.some.inj ((show Tryd.prog.funcNamed "gauntlet/gauntletlaw01.WordsRank" = some 5 by kernel_rfl).symm.trans hf) |>.symm
  obtain rfl : fn = Tryd.f5 := (Option.some.inj (Tryd.func5.symm.trans hfn)).symm
  refine ⟨by kernel_rfl, fun j t ht => ?_⟩
  rw [Tryd.params5] at ht
  have hm := Array.mem_of_getElem? ht
  have hc : t = 30 ∨ t = 5 := by simp at hm; first | omega | (rcases hm with h | h | h <;> simp [h])
  rcases hc with rfl | rfl
  · exact (show Tryd.prog.wantsStandIn 30 = false by kernel_rfl)
  · exact (show Tryd.prog.wantsStandIn 5 = false by kernel_rfl)
theorem card : Rows.WordsRankCardSaid :=
  Claim7.holds_tied_plain_at .later [] _ _ _ _ said (fun _ h => by cases h) (by kernel_rfl) (fun _ h => by cases h) wordsRank_row_tie rfl ⟨rfl, rfl⟩ (by kernel_rfl) rfl plain (by kernel_rfl)
end Go.Proofs.YtjoldnonnjleoaaDoor.wordsRank
namespace Go.Proofs.YtjoldnonnjleoaaDoor
theorem wordsRank_card : Rows.WordsRankCardSaid := wordsRank.card
end Go.Proofs.YtjoldnonnjleoaaDoor
