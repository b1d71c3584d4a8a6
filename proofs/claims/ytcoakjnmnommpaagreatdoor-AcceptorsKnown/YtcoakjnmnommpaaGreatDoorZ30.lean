/- The statement AcceptorsKnownCardSaid: the law without arguments answers true: the example with 256 sets and the one with 512, the ring of 256 states and its half, automata without states, what is not valid, and the chapter's examples. Conditions: those of the given row alone (the listed package-level variables start as the program's text lays them). -/
import Derived.Test.YtcoakjnmnommpaaGreatDoorZ20
import Derived.Test.YtcoakjnmnommpaaGreatDoorZ29
namespace Go.Proofs.YtcoakjnmnommpaaGreatDoor.acceptorsKnown
open Go Go.V Go.ChangeShapes Go.WideShapes Go.ChangeAt Go.RowKit
set_option linter.unusedVariables false
set_option maxRecDepth 100000
theorem qdy9 (H : Type) (enc : TypeId × Value → H) (W : World) (base : Nat) (args : Array Value) (ds gs : List (DataW H)) (before : List MemPlace)
  (hval : ∀ (j : Nat) t v, Tryz.f5.params[j]? = some t → args[j]? = some v → Value.okWide Tryz.prog W .any base t v)
  (hW : DataW.Whole enc Tryz.prog Tryz.f5.params.toList Rows.acceptorsKnownSpec.vars false W args.toList ds gs before) (hL : laidMetH Tryz.prog Rows.acceptorsKnownRow.laid W) (hS : W.ShapedOpen Tryz.prog) :
  Calls Tryz.prog 5 args W fun e W' => ∃ v, e = .returned v ∧ Rows.acceptorsKnownSpec.post enc Tryz.prog Tryz.f5 false true false false W args v W' := by
 have hW' := hW;obtain ⟨p, q, hA0, hV, rfl, hfz, hnd⟩ := hW;have hA : DataW.TrodAll enc Tryz.prog W 0 (fun _ => true) true Tryz.f5.params.toList args.toList ds p := hA0;rw [Tryz.params5] at hA hval;obtain ⟨rfl, rfl⟩ := trodVars_none hV;obtain ⟨hargs, rfl, rfl⟩ := trodAll_nil hA;obtain rfl : args = #[] := by cases args; simp_all
 refine (xdg9 (qeE9) (vdn9 hL hS) (vals := []) rfl).mono fun e W' ⟨he, hb⟩ => ?_;exact ⟨_, he, qdR9 rfl rfl rfl rfl rfl (by kernel_rfl) hW' hb⟩
theorem reads (os : Os) {H : Type} (enc : TypeId × Value → H) : ∃ places, DataW.whole enc Tryz.prog ((xaM9 os).forCall (fun _ _ => 0) ⟨#[], #[], []⟩).memory Tryz.f5.params.toList Rows.acceptorsKnownSpec.vars false (#[] : Array Value).toList 8 = some ([], [], places) :=
 ⟨[], by kernel_rfl⟩
theorem weq9 (os : Os) (started : os.Started) (H : Type) (enc : TypeId × Value → H) (F : Stop.Interp) :
  ReturnsInHanded {} Tryz.checked os 5 .any ((OpenSpec.ofChange Rows.acceptorsKnownSpec).preRow enc Tryz.prog Tryz.f5 Rows.acceptorsKnownRow.domain false Rows.acceptorsKnownRow.laid) (((OpenSpec.ofChange Rows.acceptorsKnownSpec).at F).post enc Tryz.prog Tryz.f5 false true false false) := by
 obtain ⟨places, hx⟩ := reads os enc;refine returnsInHanded_of_row (C := Tryz.checked) (s := OpenSpec.ofChange Rows.acceptorsKnownSpec) own started (by kernel_rfl) Tryz.func5
  (witness_row_atRef (enc := enc) (C := Tryz.checked) false (xaM9 os) #[] rfl (by kernel_rfl) (by kernel_rfl) (by kernel_rfl)
   (OpenSpec.preRow_of_cond 8 hx (by kernel_rfl) (fun k hk => by cases hk) (by kernel_rfl) (kdn9 os _))) ?_
 intro W base args ds gs before hval hW _ _ _ hL hS _;exact qdy9 H enc W base args ds gs before hval hW hL hS
theorem said : Rows.AcceptorsKnownSaid :=
 OpenClaim.holds_of_cond 5 Tryz.f5 rfl rfl rfl rfl rfl rfl rfl ⟨rfl, rfl, rfl, rfl, rfl⟩ rfl rfl rfl rfl rfl (by kernel_rfl) Tryz.func5 (by kernel_rfl)
  (of_decide_eq_true (by kernel_rfl)) (by unfold Func.isWrapper; first|(rw [if_pos (by decide +kernel)]; kernel_rfl)|(rw [if_neg (by decide +kernel)]; exact ⟨rfl, rfl⟩))
  (fun os started H enc _ F => by rw [OpenClaim.pre_eq_preRow]; exact weq9 os started H enc F)
theorem plain (f : FuncId) (fn : Func) (hf : Tryz.pinned.checked.prog.funcNamed "gauntlet/gauntletlaw23.AcceptorsKnown" = some f) (hfn : Tryz.pinned.checked.prog.funcs[f]? = some fn) :
  true = Tryz.pinned.checked.prog.looks [] ∧ ∀ (j : Nat) t, fn.params[j]? = some t → Tryz.pinned.checked.prog.wantsStandIn t = false := by
 obtain rfl : f = 5 := Option.some.inj ((show Tryz.prog.funcNamed "gauntlet/gauntletlaw23.AcceptorsKnown" = some 5 by kernel_rfl).symm.trans hf) |>.symm;obtain rfl : fn = Tryz.f5 := (Option.some.inj (Tryz.func5.symm.trans hfn)).symm;refine ⟨by kernel_rfl, fun j t ht => ?_⟩;rw [Tryz.params5] at ht;simp at ht
theorem card : Rows.AcceptorsKnownCardSaid :=
 Claim7.holds_tied_plain_at .later [] _ _ _ _ said (fun _ h => by cases h) (by kernel_rfl) (fun _ h => by cases h) acceptorsKnown_row_tie rfl ⟨rfl, rfl⟩ (by kernel_rfl) rfl plain (by kernel_rfl)
end Go.Proofs.YtcoakjnmnommpaaGreatDoor.acceptorsKnown
namespace Go.Proofs.YtcoakjnmnommpaaGreatDoor
theorem acceptorsKnown_card : Rows.AcceptorsKnownCardSaid := acceptorsKnown.card
end Go.Proofs.YtcoakjnmnommpaaGreatDoor
