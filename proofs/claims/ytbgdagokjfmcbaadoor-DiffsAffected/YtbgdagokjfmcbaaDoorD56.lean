import Derived.Test.YtbgdagokjfmcbaaDoorD55
import Derived.Test.YtbgdagokjfmcbaaDoorD31
namespace Go.Proofs.YtbgdagokjfmcbaaDoor
open Go Go.V Go.ChangeShapes Go.WideShapes Go.ChangeAt Go.RowKit
set_option linter.unusedVariables false
set_option maxRecDepth 100000
theorem one_ofSlice {W : World} {base : Nat} {t e : TypeId} {v : Value} (hu : Tryd.prog.underlying t = some (.slice e)) (hw : Value.okWide Tryd.prog W .any base t v) : v.cells = #[v] := by
 unfold Value.okWide Cell.okWide at hw
 rw [hu] at hw
 simp only at hw
 unfold Cell.ok at hw
 rw [hu] at hw
 cases v <;> first | rfl | (simp at hw)
noncomputable def vU8s : View Tryd.prog 49 (List Int × Nat) := View.slice 1 Tryd.underlying49 (by kernel_rfl) (by decide) (View.int .u8 Tryd.underlying5)
noncomputable def vBs : View Tryd.prog 62 (List (List Int × Nat) × Nat) := View.slice 1 Tryd.underlying62 (by kernel_rfl) (by decide) vU8s
theorem bys_of : ∀ (l : List (List Int × Nat)), (∀ y ∈ l, vU8s.ok y) → ∃ ws : List (List Nat × Nat), (∀ w ∈ ws, ∀ x ∈ w.1, x < 256) ∧ l.map vU8s.to = byA 1 ws
 | [], _ => ⟨[], fun _ h => (by cases h), rfl⟩
 | (a, n) :: l, h => by
  obtain ⟨ws, h1, h2⟩ := bys_of l fun y hy => h y (List.mem_cons_of_mem _ hy)
  obtain ⟨k1, _, _⟩ := h _ (List.mem_cons_self ..)
  obtain ⟨r, rfl, hr⟩ := nats_of (fun n (hn : (Lit.int .u8 n).wf = true) => wf_u8 hn) a k1
  refine ⟨(r, n) :: ws, fun w hw => ?_, ?_⟩
  ·rcases List.mem_cons.1 hw with rfl | q
   ·exact hr
   ·exact h1 w q
  ·rw [List.map_cons, h2]
   show [AV.sl 1 ((r.map fun (n : Nat) => (n : Int)).map fun n => [AV.int .u8 n]) (some n)] :: byA 1 ws = _
   simp [byA, u8n, Function.comp_def]
theorem arg_B {H : Type} {enc : TypeId × Value → H} {W : World} {base : Nat} {v : Value} {d : DataW H} {ps : List MemPlace} (hw : Value.okWide Tryd.prog W .any base 62 v) (h : DataW.Trod enc Tryd.prog W 0 (fun _ => true) true 62 v d ps) :
  ∃ (ws : List (List Nat × Nat)) (c : Nat), (∀ w ∈ ws, ∀ x ∈ w.1, x < 256) ∧ Rel (EnvW W) (.sl 1 (byA 1 ws) (some c)) v := by
 obtain ⟨y, ⟨q1, q2, q3⟩, q4⟩ := arg_one (a := fun y : List (List Int × Nat) × Nat => .sl 1 (y.1.map vU8s.to) (some y.2)) vBs (fun _ => rfl) (one_ofSlice Tryd.underlying62 hw) h
 obtain ⟨ws, h1, h2⟩ := bys_of y.1 q1
 exact ⟨ws, y.2, h1, h2 ▸ q4⟩
end Go.Proofs.YtbgdagokjfmcbaaDoor
