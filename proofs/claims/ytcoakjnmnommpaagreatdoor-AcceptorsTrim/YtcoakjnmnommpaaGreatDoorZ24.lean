/- The statement AcceptorsTrimCardSaid: for any automaton as plain data and any word, the law of the reversed and the trimmed automaton answers true and leaves its arguments as they were. Conditions: those of the given row alone (the listed package-level variables start as the program's text lays them). -/
import Derived.Test.YtcoakjnmnommpaaGreatDoorZ20
import Derived.Test.YtcoakjnmnommpaaGreatDoorZ23
namespace Go.Proofs.YtcoakjnmnommpaaGreatDoor.acceptorsTrim
open Go Go.V Go.ChangeShapes Go.WideShapes Go.ChangeAt Go.RowKit
set_option linter.unusedVariables false
set_option maxRecDepth 100000
theorem wdf9 (H : Type) (enc : TypeId × Value → H) (W : World) (base : Nat) (args : Array Value) (ds gs : List (DataW H)) (before : List MemPlace)
  (hval : ∀ (j : Nat) t v, Tryz.f3.params[j]? = some t → args[j]? = some v → Value.okWide Tryz.prog W .any base t v)
  (hW : DataW.Whole enc Tryz.prog Tryz.f3.params.toList Rows.acceptorsTrimSpec.vars false W args.toList ds gs before) (hL : laidMetH Tryz.prog Rows.acceptorsTrimRow.laid W) (hS : W.ShapedOpen Tryz.prog) :
  Calls Tryz.prog 3 args W fun e W' => ∃ v, e = .returned v ∧ Rows.acceptorsTrimSpec.post enc Tryz.prog Tryz.f3 false true false false W args v W' := by
 have hW' := hW
 obtain ⟨p, q, hA0, hV, rfl, hfz, hnd⟩ := hW
 have hA : DataW.TrodAll enc Tryz.prog W 0 (fun _ => true) true Tryz.f3.params.toList args.toList ds p := hA0
 rw [Tryz.params3] at hA hval
 obtain ⟨rfl, rfl⟩ := trodVars_none hV
 obtain ⟨v0, vs0, d0, ds0, p0, q0, hargs, rfl, rfl, h0, r0⟩ := trodAll_cons hA
 obtain ⟨v1, vs1, d1, ds1, p1, q1, rfl, rfl, rfl, h1, r1⟩ := trodAll_cons r0
 obtain ⟨rfl, rfl, rfl⟩ := trodAll_nil r1
 obtain rfl : args = #[v0, v1] := by cases args; simp_all
 obtain ⟨x0, c0, b0, e0⟩ := zef9 (hval 0 24 v0 rfl rfl) h0
 obtain ⟨x1, c1, b1, l1, e1⟩ := kdy9 (hval 1 25 v1 rfl rfl) h1
 refine (xcQ9 (law3 x0 (some c0) b0 x1 (some c1) b1 l1) (zcX9 hL hS) (vals := [v0, v1]) ⟨_, _, rfl, e0, _, _, rfl, e1, rfl⟩).mono fun e W' ⟨he, hb⟩ => ?_
 exact ⟨_, he, vdy9 rfl rfl rfl rfl rfl (by kernel_rfl) hW' hb⟩
theorem reads (os : Os) {H : Type} (enc : TypeId × Value → H) : ∃ places, DataW.whole enc Tryz.prog ((kaD9 os).forCall (fun _ _ => 0) ⟨#[], #[.agg #[.int .u8 0, .int .u8 0, .slice none 0 0, .int .u8 0, .int .u8 0], .slice none 0 0], []⟩).memory Tryz.f3.params.toList Rows.acceptorsTrimSpec.vars false (#[.agg #[.int .u8 0, .int .u8 0, .slice none 0 0, .int .u8 0, .int .u8 0], .slice none 0 0] : Array Value).toList 8 = some ([.agg [.lit (.int .u8 0), .lit (.int .u8 0), .nil, .lit (.int .u8 0), .lit (.int .u8 0)], .nil], [], places) :=
 ⟨[], by kernel_rfl⟩
theorem vdT9 (os : Os) (started : os.Started) (H : Type) (enc : TypeId × Value → H) (F : Stop.Interp) :
  ReturnsInHanded {} Tryz.checked os 3 .any ((OpenSpec.ofChange Rows.acceptorsTrimSpec).preRow enc Tryz.prog Tryz.f3 Rows.acceptorsTrimRow.domain false Rows.acceptorsTrimRow.laid) (((OpenSpec.ofChange Rows.acceptorsTrimSpec).at F).post enc Tryz.prog Tryz.f3 false true false false) := by
 obtain ⟨places, hx⟩ := reads os enc
 refine returnsInHanded_of_row (C := Tryz.checked) (s := OpenSpec.ofChange Rows.acceptorsTrimSpec) own started (by kernel_rfl) Tryz.func3
  (witness_row_atRef (enc := enc) (C := Tryz.checked) false (kaD9 os) #[.agg #[.int .u8 0, .int .u8 0, .slice none 0 0, .int .u8 0, .int .u8 0], .slice none 0 0] rfl (by kernel_rfl) (by kernel_rfl) (by kernel_rfl)
   (OpenSpec.preRow_of_cond 8 hx (by kernel_rfl) (fun k hk => by cases hk) (by kernel_rfl) (xcX9 os _))) ?_
 intro W base args ds gs before hval hW _ _ _ hL hS _
 exact wdf9 H enc W base args ds gs before hval hW hL hS
theorem said : Rows.AcceptorsTrimSaid :=
 OpenClaim.holds_of_cond 3 Tryz.f3 rfl rfl rfl rfl rfl rfl rfl ⟨rfl, rfl, rfl, rfl, rfl⟩ rfl rfl rfl rfl rfl (by kernel_rfl) Tryz.func3 (by kernel_rfl)
  (of_decide_eq_true (by kernel_rfl)) (by unfold Func.isWrapper; first|(rw [if_pos (by decide +kernel)]; kernel_rfl)|(rw [if_neg (by decide +kernel)]; exact ⟨rfl, rfl⟩))
  (fun os started H enc _ F => by rw [OpenClaim.pre_eq_preRow]; exact vdT9 os started H enc F)
theorem plain (f : FuncId) (fn : Func) (hf : Tryz.pinned.checked.prog.funcNamed "gauntlet/gauntletlaw23.AcceptorsTrim" = some f) (hfn : Tryz.pinned.checked.prog.funcs[f]? = some fn) :
  true = Tryz.pinned.checked.prog.looks [] ∧ ∀ (j : Nat) t, fn.params[j]? = some t → Tryz.pinned.checked.prog.wantsStandIn t = false := by
 obtain rfl : f = 3 := Option.some.inj ((show Tryz.prog.funcNamed "gauntlet/gauntletlaw23.AcceptorsTrim" = some 3 by kernel_rfl).symm.trans hf) |>.symm
 obtain rfl : fn = Tryz.f3 := (Option.some.inj (Tryz.func3.symm.trans hfn)).symm
 refine ⟨by kernel_rfl, fun j t ht => ?_⟩
 rw [Tryz.params3] at ht
 have hm := Array.mem_of_getElem? ht
 have hc : t = 24 ∨ t = 25 := by simp at hm; first|omega|(rcases hm with h|h|h <;> simp [h])
 rcases hc with rfl|rfl
 ·exact (show Tryz.prog.wantsStandIn 24 = false by kernel_rfl)
 ·exact (show Tryz.prog.wantsStandIn 25 = false by kernel_rfl)
theorem card : Rows.AcceptorsTrimCardSaid :=
 Claim7.holds_tied_plain_at .later [] _ _ _ _ said (fun _ h => by cases h) (by kernel_rfl) (fun _ h => by cases h) acceptorsTrim_row_tie rfl ⟨rfl, rfl⟩ (by kernel_rfl) rfl plain (by kernel_rfl)
end Go.Proofs.YtcoakjnmnommpaaGreatDoor.acceptorsTrim
namespace Go.Proofs.YtcoakjnmnommpaaGreatDoor
theorem acceptorsTrim_card : Rows.AcceptorsTrimCardSaid := acceptorsTrim.card
end Go.Proofs.YtcoakjnmnommpaaGreatDoor
