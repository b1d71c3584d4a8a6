/- The statement DiffsAlignCardSaid: for every input, the law of the aligned machine (that it is the one of the definition, is told apart by no word, and that a machine with other numbers is aligned to itself) answers true and leaves its arguments as they were. Conditions: those of the given row alone (the listed package-level variables start as the program's text lays them). -/
import Derived.Test.YtbgdagokjfmcbaaDoorE19
namespace Go.Proofs.YtbgdagokjfmcbaaDoor.diffsAlign
open Go Go.V Go.ChangeShapes Go.WideShapes Go.ChangeAt Go.RowKit
set_option linter.unusedVariables false
set_option maxRecDepth 100000
theorem xcK9 (H : Type) (enc : TypeId × Value → H) (W : World) (base : Nat) (args : Array Value) (ds gs : List (DataW H)) (before : List MemPlace)
  (hval : ∀ (j : Nat) t v, Tryd.f5.params[j]? = some t → args[j]? = some v → Value.okWide Tryd.prog W .any base t v)
  (hW : DataW.Whole enc Tryd.prog Tryd.f5.params.toList Rows.diffsAlignSpec.vars false W args.toList ds gs before) (hL : laidMetH Tryd.prog Rows.diffsAlignRow.laid W) (hS : W.ShapedOpen Tryd.prog) :
  Calls Tryd.prog 5 args W fun e W' => ∃ v, e = .returned v ∧ Rows.diffsAlignSpec.post enc Tryd.prog Tryd.f5 false true false false W args v W' := by
 have hW' := hW;obtain ⟨p, q, hA0, hV, rfl, hfz, hnd⟩ := hW;have hA : DataW.TrodAll enc Tryd.prog W 0 (fun _ => true) true Tryd.f5.params.toList args.toList ds p := hA0;rw [Tryd.params5] at hA hval;obtain ⟨rfl, rfl⟩ := trodVars_none hV;obtain ⟨v0, vs0, d0, ds0, p0, q0, hargs, rfl, rfl, h0, r0⟩ := trodAll_cons hA;obtain ⟨v1, vs1, d1, ds1, p1, q1, rfl, rfl, rfl, h1, r1⟩ := trodAll_cons r0;obtain ⟨v2, vs2, d2, ds2, p2, q2, rfl, rfl, rfl, h2, r2⟩ := trodAll_cons r1;obtain ⟨rfl, rfl, rfl⟩ := trodAll_nil r2;obtain rfl : args = #[v0, v1, v2] := by cases args; simp_all
 obtain ⟨x0, c0, L0, k0, p0, q0, b0, m0, e0⟩ := vdE9 (hval 0 27 v0 rfl rfl) h0;obtain ⟨x1, c1, b1, e1⟩ := wdE9 (hval 1 24 v1 rfl rfl) h1;obtain ⟨bs2, n2, b2, e2⟩ := vdF9 (hval 2 49 v2 rfl rfl) h2;refine (xcv9 (law5 x0 1 (some c0) L0 4 (some k0) p0 q0 x1 1 (some c1) bs2 1 (some n2) b0 (.inr rfl) m0 (.inr rfl) b1 (.inr rfl) (.inr rfl) b2) (qcF9 hL hS) (vals := [v0, v1, v2]) ⟨_, _, rfl, e0, _, _, rfl, e1, _, _, rfl, e2, rfl⟩).mono fun e W' ⟨he, hb⟩ => ?_;exact ⟨_, he, kdd9 rfl rfl rfl rfl rfl (by kernel_rfl) hW' hb⟩
theorem reads (os : Os) {H : Type} (enc : TypeId × Value → H) : ∃ places, DataW.whole enc Tryd.prog ((kaw9 os).forCall (fun _ _ => 0) ⟨#[], #[.agg #[.int .u8 0, .int .u8 0, .int .u8 0, .bool false, .slice none 0 0, .slice none 0 0, .bool false, .bool false], .agg #[.int .u8 0, .int .u8 0, .int .u8 0, .bool false, .slice none 0 0], .slice none 0 0], []⟩).memory Tryd.f5.params.toList Rows.diffsAlignSpec.vars false (#[.agg #[.int .u8 0, .int .u8 0, .int .u8 0, .bool false, .slice none 0 0, .slice none 0 0, .bool false, .bool false], .agg #[.int .u8 0, .int .u8 0, .int .u8 0, .bool false, .slice none 0 0], .slice none 0 0] : Array Value).toList 8 = some ([.agg [.agg [.lit (.int .u8 0), .lit (.int .u8 0), .lit (.int .u8 0), .lit (.bool false), .nil], .nil, .lit (.bool false), .lit (.bool false)], .agg [.lit (.int .u8 0), .lit (.int .u8 0), .lit (.int .u8 0), .lit (.bool false), .nil], .nil], [], places) :=
 ⟨[], by kernel_rfl⟩
theorem qdv9 (os : Os) (started : os.Started) (H : Type) (enc : TypeId × Value → H) (F : Stop.Interp) :
  ReturnsInHanded {} Tryd.checked os 5 .any ((OpenSpec.ofChange Rows.diffsAlignSpec).preRow enc Tryd.prog Tryd.f5 Rows.diffsAlignRow.domain false Rows.diffsAlignRow.laid) (((OpenSpec.ofChange Rows.diffsAlignSpec).at F).post enc Tryd.prog Tryd.f5 false true false false) := by
 obtain ⟨places, hx⟩ := reads os enc;refine returnsInHanded_of_row (C := Tryd.checked) (s := OpenSpec.ofChange Rows.diffsAlignSpec) own started (by kernel_rfl) Tryd.func5
  (witness_row_atRef (enc := enc) (C := Tryd.checked) false (kaw9 os) #[.agg #[.int .u8 0, .int .u8 0, .int .u8 0, .bool false, .slice none 0 0, .slice none 0 0, .bool false, .bool false], .agg #[.int .u8 0, .int .u8 0, .int .u8 0, .bool false, .slice none 0 0], .slice none 0 0] rfl (by kernel_rfl) (by kernel_rfl) (by kernel_rfl)
   (OpenSpec.preRow_of_cond 8 hx (by kernel_rfl) (fun k hk => by cases hk) (by kernel_rfl) (zcF9 os _))) ?_
 intro W base args ds gs before hval hW _ _ _ hL hS _;exact xcK9 H enc W base args ds gs before hval hW hL hS
theorem said : Rows.DiffsAlignSaid :=
 OpenClaim.holds_of_cond 5 Tryd.f5 rfl rfl rfl rfl rfl rfl rfl ⟨rfl, rfl, rfl, rfl, rfl⟩ rfl rfl rfl rfl rfl (by kernel_rfl) Tryd.func5 (by kernel_rfl)
  (of_decide_eq_true (by kernel_rfl)) (by unfold Func.isWrapper; first|(rw [if_pos (by decide +kernel)]; kernel_rfl)|(rw [if_neg (by decide +kernel)]; exact ⟨rfl, rfl⟩))
  (fun os started H enc _ F => by rw [OpenClaim.pre_eq_preRow]; exact qdv9 os started H enc F)
theorem plain (f : FuncId) (fn : Func) (hf : Tryd.pinned.checked.prog.funcNamed "gauntlet/gauntletlaw42.DiffsAlign" = some f) (hfn : Tryd.pinned.checked.prog.funcs[f]? = some fn) :
  false = Tryd.pinned.checked.prog.looks [] ∧ ∀ (j : Nat) t, fn.params[j]? = some t → Tryd.pinned.checked.prog.wantsStandIn t = false := by
 obtain rfl : f = 5 := Option.some.inj ((show Tryd.prog.funcNamed "gauntlet/gauntletlaw42.DiffsAlign" = some 5 by kernel_rfl).symm.trans hf) |>.symm;obtain rfl : fn = Tryd.f5 := (Option.some.inj (Tryd.func5.symm.trans hfn)).symm;refine ⟨by kernel_rfl, fun j t ht => ?_⟩;rw [Tryd.params5] at ht;have hm := Array.mem_of_getElem? ht;have hc : t = 27 ∨ t = 24 ∨ t = 49 := by simp at hm; first|omega|(rcases hm with h|h|h <;> simp [h])
 rcases hc with rfl|rfl|rfl
 ·exact (show Tryd.prog.wantsStandIn 27 = false by kernel_rfl)
 ·exact (show Tryd.prog.wantsStandIn 24 = false by kernel_rfl)
 ·exact (show Tryd.prog.wantsStandIn 49 = false by kernel_rfl)
theorem card : Rows.DiffsAlignCardSaid :=
 Claim7.holds_tied_plain_at .later [] _ _ _ _ said (fun _ h => by cases h) (by kernel_rfl) (fun _ h => by cases h) diffsAlign_row_tie rfl ⟨rfl, rfl⟩ (by kernel_rfl) rfl plain (by kernel_rfl)
end Go.Proofs.YtbgdagokjfmcbaaDoor.diffsAlign
namespace Go.Proofs.YtbgdagokjfmcbaaDoor
theorem diffsAlign_card : Rows.DiffsAlignCardSaid := diffsAlign.card
end Go.Proofs.YtbgdagokjfmcbaaDoor
