import Derived.Test.YtlpjemobbjijdaaGreatDoorS32
import Derived.Test.YtlpjemobbjijdaaGreatDoorS36
namespace Go.Proofs.YtlpjemobbjijdaaGreatDoor
open Go Go.V Go.ChangeShapes Go.WideShapes Go.ChangeAt Go.RowKit
set_option linter.unusedVariables false
set_option maxRecDepth 100000
noncomputable def xem9 : View Tryz.prog 42 (List Int × Nat) := View.slice 1 Tryz.underlying42 (by kernel_rfl) (by decide) (View.int .u16 Tryz.underlying71)
noncomputable def vM : View Tryz.prog 44 (Int × Int × Int × Bool × (List Int × Nat) × Unit) := View.struct 5 Tryz.underlying44 (by kernel_rfl)
 (FView.cons 1 rfl (by kernel_rfl) (View.int .u8 Tryz.underlying5) (FView.cons 1 rfl (by kernel_rfl) (View.int .u8 Tryz.underlying5) (FView.cons 1 rfl (by kernel_rfl) (View.int .u8 Tryz.underlying5) (FView.cons 1 rfl (by kernel_rfl) (View.bool Tryz.underlying4) (FView.cons 1 rfl (by kernel_rfl) xem9 (FView.nil (Nat.le_refl 5)))))))
noncomputable def vN : View Tryz.prog 46 ((Int × Int × Int × Bool × (List Int × Nat) × Unit) × Int × Unit) := View.struct 6 Tryz.underlying46 (by kernel_rfl)
 (FView.cons 5 rfl (by kernel_rfl) vM (FView.cons 1 rfl (by kernel_rfl) (View.int .u8 Tryz.underlying5) (FView.nil (Nat.le_refl 6))))
theorem wem9 {H : Type} {enc : TypeId × Value → H} {W : World} {base : Nat} {v : Value} {d : DataW H} {ps : List MemPlace} (hw : Value.okWide Tryz.prog W .any base 46 v) (h : DataW.Trod enc Tryz.prog W 0 (fun _ => true) true 46 v d ps) :
  ∃ (x : ND) (c : Nat), (x.m.Ok ∧ x.nm < 256) ∧ Rel (EnvW W) (.agg (ndC x 1 (some c))) v := by
 obtain ⟨y, q1, q4⟩ := xcG9 vN Tryz.underlying46 hw h
 obtain ⟨⟨a, b, c, p, ⟨l, n⟩, _⟩, nm, _⟩ := y
 obtain ⟨⟨h1, h2, h3, _, ⟨h4, _, _⟩, _⟩, h5, _⟩ := q1
 obtain ⟨a', rfl, ha⟩ := wbK9 h1
 obtain ⟨b', rfl, hb⟩ := wbK9 h2
 obtain ⟨c', rfl, hc⟩ := wbK9 h3
 obtain ⟨n', rfl, hn⟩ := wbK9 h5
 obtain ⟨r, rfl, hr⟩ := kbn9 (fun n (hn : (Lit.int .u16 n).wf = true) => qdx9 hn) l h4
 refine ⟨⟨⟨a', b', c', p, r⟩, n'⟩, n, ⟨⟨ha, hb, hc, hr⟩, hn⟩, ?_⟩
 have e : ([AV.int .u8 (a' : Int)] ++ ([AV.int .u8 (b' : Int)] ++ ([AV.int .u8 (c' : Int)] ++ ([AV.bool p] ++ ([AV.sl 1 ((r.map fun (n : Nat) => (n : Int)).map fun n => [AV.int .u16 n]) (some n)] ++ []))))) ++ ([AV.int .u8 (n' : Int)] ++ []) = ndC ⟨⟨a', b', c', p, r⟩, n'⟩ 1 (some n) := by
  simp [ndC, mdC, u16s, Function.comp_def]
 exact e ▸ q4
noncomputable def vU8s : View Tryz.prog 55 (List Int × Nat) := View.slice 1 Tryz.underlying55 (by kernel_rfl) (by decide) (View.int .u8 Tryz.underlying5)
noncomputable def vW : View Tryz.prog 59 ((List Int × Nat) × Unit) := View.struct 1 Tryz.underlying59 (by kernel_rfl) (FView.cons 1 rfl (by kernel_rfl) vU8s (FView.nil (Nat.le_refl 1)))
noncomputable def vU8 : View Tryz.prog 5 Int := View.int .u8 Tryz.underlying5
theorem xdx9 {H : Type} {enc : TypeId × Value → H} {W : World} {base : Nat} {v : Value} {d : DataW H} {ps : List MemPlace} (hw : Value.okWide Tryz.prog W .any base 5 v) (h : DataW.Trod enc Tryz.prog W 0 (fun _ => true) true 5 v d ps) :
  ∃ n : Nat, n < 256 ∧ Rel (EnvW W) (.int .u8 (n : Int)) v := by
 obtain ⟨y, q1, q4⟩ := wbU9 (a := fun y : Int => .int .u8 y) vU8 (fun _ => rfl) (wcj9 Tryz.underlying5 hw) h
 obtain ⟨m, rfl, hm⟩ := wbK9 q1
 exact ⟨m, hm, q4⟩
theorem vdh9 {H : Type} {enc : TypeId × Value → H} {W : World} {base : Nat} {v : Value} {d : DataW H} {ps : List MemPlace} (hw : Value.okWide Tryz.prog W .any base 55 v) (h : DataW.Trod enc Tryz.prog W 0 (fun _ => true) true 55 v d ps) :
  ∃ (w : List Nat) (c : Nat), (∀ y ∈ w, y < 256) ∧ w.length ≤ 9223372036854775807 ∧ Rel (EnvW W) (.sl 1 (u8s w) (some c)) v := by
 obtain ⟨⟨l, n⟩, q1, q4⟩ := wbU9 (a := fun y : List Int × Nat => .sl 1 (y.1.map fun z => [.int .u8 z]) (some y.2)) vU8s (fun _ => rfl) (qbo9 Tryz.underlying55 hw) h
 obtain ⟨h1, h2, h3⟩ := q1
 obtain ⟨r, rfl, hr⟩ := kbn9 (fun n (hn : (Lit.int .u8 n).wf = true) => wbK9 hn) l h1
 have h2 : (r.map (fun (n : Nat) => (n : Int))).length ≤ n := h2
 have h3 : n ≤ maxLen := h3
 rw [List.length_map] at h2
 have hmx : maxLen = 9223372036854775807 := rfl
 refine ⟨r, n, hr, by omega, ?_⟩
 have e : u8s r = (r.map fun (n : Nat) => (n : Int)).map fun z => [.int .u8 z] := by simp [u8s, Function.comp_def]
 exact e ▸ q4
end Go.Proofs.YtlpjemobbjijdaaGreatDoor
