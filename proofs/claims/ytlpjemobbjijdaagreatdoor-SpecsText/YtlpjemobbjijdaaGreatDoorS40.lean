import Derived.Test.YtlpjemobbjijdaaGreatDoorS32
import Derived.Test.YtlpjemobbjijdaaGreatDoorS36
namespace Go.Proofs.YtlpjemobbjijdaaGreatDoor
open Go Go.V Go.ChangeShapes Go.WideShapes Go.ChangeAt Go.RowKit
set_option linter.unusedVariables false
set_option maxRecDepth 100000
noncomputable def wee9 : View Tryz.prog 42 (List Int × Nat) := View.slice 1 Tryz.underlying42 (by kernel_rfl) (by decide) (View.int .u16 Tryz.underlying71)
noncomputable def vM : View Tryz.prog 44 (Int × Int × Int × Bool × (List Int × Nat) × Unit) := View.struct 5 Tryz.underlying44 (by kernel_rfl)
 (FView.cons 1 rfl (by kernel_rfl) (View.int .u8 Tryz.underlying5) (FView.cons 1 rfl (by kernel_rfl) (View.int .u8 Tryz.underlying5) (FView.cons 1 rfl (by kernel_rfl) (View.int .u8 Tryz.underlying5) (FView.cons 1 rfl (by kernel_rfl) (View.bool Tryz.underlying4) (FView.cons 1 rfl (by kernel_rfl) wee9 (FView.nil (Nat.le_refl 5)))))))
noncomputable def vN : View Tryz.prog 46 ((Int × Int × Int × Bool × (List Int × Nat) × Unit) × Int × Unit) := View.struct 6 Tryz.underlying46 (by kernel_rfl)
 (FView.cons 5 rfl (by kernel_rfl) vM (FView.cons 1 rfl (by kernel_rfl) (View.int .u8 Tryz.underlying5) (FView.nil (Nat.le_refl 6))))
theorem wdp9 {H : Type} {enc : TypeId × Value → H} {W : World} {base : Nat} {v : Value} {d : DataW H} {ps : List MemPlace} (hw : Value.okWide Tryz.prog W .any base 46 v) (h : DataW.Trod enc Tryz.prog W 0 (fun _ => true) true 46 v d ps) :
  ∃ (x : ND) (c : Nat), (x.m.Ok ∧ x.nm < 256) ∧ Rel (EnvW W) (.agg (ndC x 1 (some c))) v := by
 obtain ⟨y, q1, q4⟩ := wcA9 vN Tryz.underlying46 hw h
 obtain ⟨⟨a, b, c, p, ⟨l, n⟩, _⟩, nm, _⟩ := y
 obtain ⟨⟨h1, h2, h3, _, ⟨h4, _, _⟩, _⟩, h5, _⟩ := q1
 obtain ⟨a', rfl, ha⟩ := vcA9 h1
 obtain ⟨b', rfl, hb⟩ := vcA9 h2
 obtain ⟨c', rfl, hc⟩ := vcA9 h3
 obtain ⟨n', rfl, hn⟩ := vcA9 h5
 obtain ⟨r, rfl, hr⟩ := vce9 (fun n (hn : (Lit.int .u16 n).wf = true) => zdp9 hn) l h4
 refine ⟨⟨⟨a', b', c', p, r⟩, n'⟩, n, ⟨⟨ha, hb, hc, hr⟩, hn⟩, ?_⟩
 have e : ([AV.int .u8 (a' : Int)] ++ ([AV.int .u8 (b' : Int)] ++ ([AV.int .u8 (c' : Int)] ++ ([AV.bool p] ++ ([AV.sl 1 ((r.map fun (n : Nat) => (n : Int)).map fun n => [AV.int .u16 n]) (some n)] ++ []))))) ++ ([AV.int .u8 (n' : Int)] ++ []) = ndC ⟨⟨a', b', c', p, r⟩, n'⟩ 1 (some n) := by
  simp [ndC, mdC, u16s, Function.comp_def]
 exact e ▸ q4
noncomputable def vU8s : View Tryz.prog 55 (List Int × Nat) := View.slice 1 Tryz.underlying55 (by kernel_rfl) (by decide) (View.int .u8 Tryz.underlying5)
noncomputable def vW : View Tryz.prog 59 ((List Int × Nat) × Unit) := View.struct 1 Tryz.underlying59 (by kernel_rfl) (FView.cons 1 rfl (by kernel_rfl) vU8s (FView.nil (Nat.le_refl 1)))
noncomputable def vU8 : View Tryz.prog 5 Int := View.int .u8 Tryz.underlying5
end Go.Proofs.YtlpjemobbjijdaaGreatDoor
