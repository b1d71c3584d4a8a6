import Derived.Test.YtjoldnonnjleoaaDoorW30
namespace Go.Proofs.YtjoldnonnjleoaaDoor
open Go Go.V Go.ChangeShapes Go.WideShapes Go.ChangeAt Go.RowKit
set_option linter.unusedVariables false
set_option maxRecDepth 100000

/-- The end of each law: true came back, nothing that was there has changed. -/
theorem law_end {H : Type} {enc : TypeId × Value → H} {f : Func} {s : ChangeSpec} {W W' : World} {args : Array Value} {ds : List (DataW H)} {before : List MemPlace} (hv : s.vars = []) (hr : f.resultTypes = #[4])
    (hres : (s.fn H (ds ++ [])).results = [.lit (.bool true)]) (hargs : (s.fn H (ds ++ [])).args = ds) (hvs : (s.fn H (ds ++ [])).vars = [])
    (hp : (f.params.toList.all fun t => Tryd.prog.readableRec t && decide (t < Tryd.prog.types.size)) = true)
    (hW : DataW.Whole enc Tryd.prog f.params.toList s.vars false W args.toList ds [] before) (hb : Below W.heap.size W W') :
    s.post enc Tryd.prog f false true false false W args (.bool true) W' := by
  have hW' := hW
  have hlt : ∀ p ∈ before, p.block < W.heap.size := fun p hp => hW.lt p hp
  obtain ⟨p, q, hA, hV, rfl, hz, hn⟩ := hW
  rw [hv] at hV
  obtain ⟨_, rfl⟩ := trodVars_none hV
  rw [List.append_nil] at *
  have hA' : ∀ sp : Nat → Bool, (∀ x ∈ p, sp x.block = true) → DataW.TrodAll enc Tryd.prog W' 0 sp true f.params.toList args.toList ds p := fun sp hs => trodAll_stays laidOut hb hp hA hlt hs
  have hR : ∀ (b : Nat) (sp : Nat → Bool) (hd : Bool), DataW.TrodAll enc Tryd.prog W' b sp hd f.resultTypes.toList ((Value.bool true).resultList f.resultTypes.size) [.lit (.bool true)] [] := fun b sp hd => by
    rw [hr]; exact trodAll_mk1 (shut_bool Tryd.underlying4 true)
  have hold : ∀ x ∈ p, (fun b => decide (b < W.heap.size)) x.block = true := fun x hx => by simpa using hlt x hx
  refine ⟨ds, [], p, [], p, [], hW', by rw [List.append_nil, hres]; exact hR _ _ _, by rw [List.append_nil, hargs]; exact hA' _ hold, by rw [List.append_nil, hvs, hv]; exact rfl, World.keptBut_mono (fun x hx => ⟨hx, .inr (.inl hx)⟩) (hb.frame (· ∈ p)), fun h => by cases h⟩
/-- What a value is that is no aggregate, by its type. -/
theorem one_ofSlice {P : Program} {W : World} {base : Nat} {t e : TypeId} {v : Value} (hu : P.underlying t = some (.slice e)) (hw : Value.okWide P W .any base t v) : v.cells = #[v] := by
  unfold Value.okWide Cell.okWide at hw
  rw [hu] at hw
  simp only at hw
  unfold Cell.ok at hw
  rw [hu] at hw
  cases v <;> first | rfl | (simp at hw)
theorem one_ofInt {P : Program} {W : World} {base : Nat} {t : TypeId} {k : IntKind} {v : Value} (hu : P.underlying t = some (.int k)) (hw : Value.okWide P W .any base t v) : v.cells = #[v] := by
  unfold Value.okWide Cell.okWide at hw
  rw [hu] at hw
  simp only at hw
  unfold Cell.ok at hw
  rw [hu] at hw
  cases v <;> first | rfl | (simp at hw)
theorem one_ofStr {P : Program} {W : World} {base : Nat} {t : TypeId} {v : Value} (hu : P.underlying t = some .string) (hw : Value.okWide P W .any base t v) : v.cells = #[v] := by
  unfold Value.okWide Cell.okWide at hw
  rw [hu] at hw
  simp only at hw
  unfold Cell.ok at hw
  rw [hu] at hw
  cases v <;> first | rfl | (simp at hw)
/-- An argument []int. -/
noncomputable def vInts : View Tryd.prog 22 (List Int × Nat) := View.slice 1 Tryd.underlying22 (by kernel_rfl) (by decide) (View.int .i64 Tryd.underlying3)
theorem arg_ints {H : Type} {enc : TypeId × Value → H} {W : World} {base : Nat} {v : Value} {d : DataW H} {ps : List MemPlace} (hw : Value.okWide Tryd.prog W .any base 22 v) (h : DataW.Trod enc Tryd.prog W 0 (fun _ => true) true 22 v d ps) :
    ∃ (xs : List Int) (c : Nat), (∀ x ∈ xs, inI x) ∧ xs.length ≤ c ∧ c ≤ maxLen ∧ Rel (EnvW W) (.sl 1 (ints xs) (some c)) v := by
  obtain ⟨y, ⟨q1, q2, q3⟩, q4⟩ := arg_one (a := fun y : List Int × Nat => .sl 1 (ints y.1) (some y.2)) vInts (fun _ => rfl) (one_ofSlice Tryd.underlying22 hw) h
  refine ⟨y.1, y.2, fun x hx => ?_, q2, q3, q4⟩
  have := q1 x hx
  have e1 : IntKind.i64.min = -9223372036854775808 := rfl
  have e2 : IntKind.i64.max = 9223372036854775807 := rfl
  have q : (Lit.int .i64 x).wf = true := this
  simp [Lit.wf, e1, e2] at q
  exact ⟨by omega, by omega⟩
theorem arg_i64 {H : Type} {enc : TypeId × Value → H} {W : World} {base : Nat} {v : Value} {d : DataW H} {ps : List MemPlace} (hw : Value.okWide Tryd.prog W .any base 3 v) (h : DataW.Trod enc Tryd.prog W 0 (fun _ => true) true 3 v d ps) :
    ∃ n : Int, inI n ∧ Rel (EnvW W) (.int .i64 n) v := by
  obtain ⟨y, q1, q4⟩ := arg_one (a := fun y : Int => .int .i64 y) (View.int .i64 Tryd.underlying3) (fun _ => rfl) (one_ofInt Tryd.underlying3 hw) h
  have e1 : IntKind.i64.min = -9223372036854775808 := rfl
  have e2 : IntKind.i64.max = 9223372036854775807 := rfl
  have q : (Lit.int .i64 y).wf = true := q1
  simp [Lit.wf, e1, e2] at q
  exact ⟨y, ⟨by omega, by omega⟩, q4⟩
theorem arg_u8 {H : Type} {enc : TypeId × Value → H} {W : World} {base : Nat} {v : Value} {d : DataW H} {ps : List MemPlace} (hw : Value.okWide Tryd.prog W .any base 5 v) (h : DataW.Trod enc Tryd.prog W 0 (fun _ => true) true 5 v d ps) :
    ∃ n : Int, (0 ≤ n ∧ n ≤ 255) ∧ Rel (EnvW W) (.int .u8 n) v := by
  obtain ⟨y, q1, q4⟩ := arg_one (a := fun y : Int => .int .u8 y) (View.int .u8 Tryd.underlying5) (fun _ => rfl) (one_ofInt Tryd.underlying5 hw) h
  have e1 : IntKind.u8.min = 0 := rfl
  have e2 : IntKind.u8.max = 255 := rfl
  have q : (Lit.int .u8 y).wf = true := q1
  simp [Lit.wf, e1, e2] at q
  exact ⟨y, ⟨by omega, by omega⟩, q4⟩
theorem arg_str {H : Type} {enc : TypeId × Value → H} {W : World} {base : Nat} {v : Value} {d : DataW H} {ps : List MemPlace} (hw : Value.okWide Tryd.prog W .any base 9 v) (h : DataW.Trod enc Tryd.prog W 0 (fun _ => true) true 9 v d ps) :
    ∃ s : List UInt8, s.length ≤ maxLen ∧ Rel (EnvW W) (.str s) v := by
  obtain ⟨y, q1, q4⟩ := arg_one (a := fun y : List UInt8 => .str y) (View.str Tryd.underlying9) (fun _ => rfl) (one_ofStr Tryd.underlying9 hw) h
  exact ⟨y, q1, q4⟩
end Go.Proofs.YtjoldnonnjleoaaDoor
