/- The statement SpecsOrderCardSaid: for any specification of N, any order of its edges and any of the gaps between them, the text with the edges in that order tells the same specification, and an edge told twice is refused where it begins; the law answers true and leaves its arguments as they were. Conditions: those of the given row alone (the listed package-level variables start as the program's text lays them). -/
import Derived.Test.YtlpjemobbjijdaaGreatDoorS32
import Derived.Test.YtlpjemobbjijdaaGreatDoorS40
import Derived.Test.YtlpjemobbjijdaaGreatDoorS55
namespace Go.Proofs.YtlpjemobbjijdaaGreatDoor.specsOrder
open Go Go.V Go.ChangeShapes Go.WideShapes Go.ChangeAt Go.RowKit
set_option linter.unusedVariables false
set_option maxRecDepth 100000
theorem qcJ9 (H : Type) (enc : TypeId × Value → H) (W : World) (base : Nat) (args : Array Value) (ds gs : List (DataW H)) (before : List MemPlace)
  (hval : ∀ (j : Nat) t v, Tryz.f6.params[j]? = some t → args[j]? = some v → Value.okWide Tryz.prog W .any base t v)
  (hW : DataW.Whole enc Tryz.prog Tryz.f6.params.toList Rows.specsOrderSpec.vars false W args.toList ds gs before) (hL : laidMetH Tryz.prog Rows.specsOrderRow.laid W) (hS : W.ShapedOpen Tryz.prog) :
  Calls Tryz.prog 6 args W fun e W' => ∃ v, e = .returned v ∧ Rows.specsOrderSpec.post enc Tryz.prog Tryz.f6 false true false false W args v W' := by
 have hW' := hW
 obtain ⟨p, q, hA0, hV, rfl, hfz, hnd⟩ := hW
 have hA : DataW.TrodAll enc Tryz.prog W 0 (fun _ => true) true Tryz.f6.params.toList args.toList ds p := hA0
 rw [Tryz.params6] at hA hval
 obtain ⟨rfl, rfl⟩ := trodVars_none hV
 obtain ⟨v0, vs0, d0, ds0, p0, q0, hargs, rfl, rfl, h0, r0⟩ := trodAll_cons hA
 obtain ⟨v1, vs1, d1, ds1, p1, q1, rfl, rfl, rfl, h1, r1⟩ := trodAll_cons r0
 obtain ⟨v2, vs2, d2, ds2, p2, q2, rfl, rfl, rfl, h2, r2⟩ := trodAll_cons r1
 obtain ⟨rfl, rfl, rfl⟩ := trodAll_nil r2
 obtain rfl : args = #[v0, v1, v2] := by cases args; simp_all
 obtain ⟨x0, c0, b0, e0⟩ := wem9 (hval 0 46 v0 rfl rfl) h0
 obtain ⟨x1, c1, b1, l1, e1⟩ := vdh9 (hval 1 55 v1 rfl rfl) h1
 obtain ⟨x2, b2, e2⟩ := xdx9 (hval 2 5 v2 rfl rfl) h2
 refine (vcs9 (law6 x0 1 (some c0) x1 1 (some c1) x2 b0.1 b0.2 (.inr rfl) b1 l1 (.inr rfl) b2) (qcG9 hL hS) (vals := [v0, v1, v2]) ⟨_, _, rfl, e0, _, _, rfl, e1, _, _, rfl, e2, rfl⟩).mono fun e W' ⟨he, hb⟩ => ?_
 exact ⟨_, he, xdh9 rfl rfl rfl rfl rfl (by kernel_rfl) hW' hb⟩
theorem reads (os : Os) {H : Type} (enc : TypeId × Value → H) : ∃ places, DataW.whole enc Tryz.prog ((vau9 os).forCall (fun _ _ => 0) ⟨#[], #[.agg #[.int .u8 0, .int .u8 0, .int .u8 0, .bool false, .slice none 0 0, .int .u8 0], .slice none 0 0, .int .u8 0], []⟩).memory Tryz.f6.params.toList Rows.specsOrderSpec.vars false (#[.agg #[.int .u8 0, .int .u8 0, .int .u8 0, .bool false, .slice none 0 0, .int .u8 0], .slice none 0 0, .int .u8 0] : Array Value).toList 8 = some ([.agg [.agg [.lit (.int .u8 0), .lit (.int .u8 0), .lit (.int .u8 0), .lit (.bool false), .nil], .lit (.int .u8 0)], .nil, .lit (.int .u8 0)], [], places) :=
 ⟨[], by kernel_rfl⟩
theorem wdy9 (os : Os) (started : os.Started) (H : Type) (enc : TypeId × Value → H) (F : Stop.Interp) :
  ReturnsInHanded {} Tryz.checked os 6 .any ((OpenSpec.ofChange Rows.specsOrderSpec).preRow enc Tryz.prog Tryz.f6 Rows.specsOrderRow.domain false Rows.specsOrderRow.laid) (((OpenSpec.ofChange Rows.specsOrderSpec).at F).post enc Tryz.prog Tryz.f6 false true false false) := by
 obtain ⟨places, hx⟩ := reads os enc
 refine returnsInHanded_of_row (C := Tryz.checked) (s := OpenSpec.ofChange Rows.specsOrderSpec) own started (by kernel_rfl) Tryz.func6
  (witness_row_atRef (enc := enc) (C := Tryz.checked) false (vau9 os) #[.agg #[.int .u8 0, .int .u8 0, .int .u8 0, .bool false, .slice none 0 0, .int .u8 0], .slice none 0 0, .int .u8 0] rfl (by kernel_rfl) (by kernel_rfl) (by kernel_rfl)
   (OpenSpec.preRow_of_cond 8 hx (by kernel_rfl) (fun k hk => by cases hk) (by kernel_rfl) (zcG9 os _))) ?_
 intro W base args ds gs before hval hW _ _ _ hL hS _
 exact qcJ9 H enc W base args ds gs before hval hW hL hS
theorem said : Rows.SpecsOrderSaid :=
 OpenClaim.holds_of_cond 6 Tryz.f6 rfl rfl rfl rfl rfl rfl rfl ⟨rfl, rfl, rfl, rfl, rfl⟩ rfl rfl rfl rfl rfl (by kernel_rfl) Tryz.func6 (by kernel_rfl)
  (of_decide_eq_true (by kernel_rfl)) (by unfold Func.isWrapper; first|(rw [if_pos (by decide +kernel)]; kernel_rfl)|(rw [if_neg (by decide +kernel)]; exact ⟨rfl, rfl⟩))
  (fun os started H enc _ F => by rw [OpenClaim.pre_eq_preRow]; exact wdy9 os started H enc F)
theorem plain (f : FuncId) (fn : Func) (hf : Tryz.pinned.checked.prog.funcNamed "gauntlet/gauntletlaw05.SpecsOrder" = some f) (hfn : Tryz.pinned.checked.prog.funcs[f]? = some fn) :
  true = Tryz.pinned.checked.prog.looks [] ∧ ∀ (j : Nat) t, fn.params[j]? = some t → Tryz.pinned.checked.prog.wantsStandIn t = false := by
 obtain rfl : f = 6 := Option.some.inj ((show Tryz.prog.funcNamed "gauntlet/gauntletlaw05.SpecsOrder" = some 6 by kernel_rfl).symm.trans hf) |>.symm
 obtain rfl : fn = Tryz.f6 := (Option.some.inj (Tryz.func6.symm.trans hfn)).symm
 refine ⟨by kernel_rfl, fun j t ht => ?_⟩
 rw [Tryz.params6] at ht
 have hm := Array.mem_of_getElem? ht
 have hc : t = 46 ∨ t = 55 ∨ t = 5 := by simp at hm; first|omega|(rcases hm with h|h|h <;> simp [h])
 rcases hc with rfl|rfl|rfl
 ·exact (show Tryz.prog.wantsStandIn 46 = false by kernel_rfl)
 ·exact (show Tryz.prog.wantsStandIn 55 = false by kernel_rfl)
 ·exact (show Tryz.prog.wantsStandIn 5 = false by kernel_rfl)
theorem card : Rows.SpecsOrderCardSaid :=
 Claim7.holds_tied_plain_at .later [] _ _ _ _ said (fun _ h => by cases h) (by kernel_rfl) (fun _ h => by cases h) specsOrder_row_tie rfl ⟨rfl, rfl⟩ (by kernel_rfl) rfl plain (by kernel_rfl)
end Go.Proofs.YtlpjemobbjijdaaGreatDoor.specsOrder
namespace Go.Proofs.YtlpjemobbjijdaaGreatDoor
theorem specsOrder_card : Rows.SpecsOrderCardSaid := specsOrder.card
end Go.Proofs.YtlpjemobbjijdaaGreatDoor
