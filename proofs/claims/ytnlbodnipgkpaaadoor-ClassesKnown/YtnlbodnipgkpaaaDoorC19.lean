import Derived.Test.YtnlbodnipgkpaaaDoorC12
import Derived.Test.YtnlbodnipgkpaaaDoorCards
import Derived.Test.YtnlbodnipgkpaaaDoorTie
import Derived.ProofKit
import Derived.OpenShut
import Derived.Below
import Derived.ChangeSame
import Derived.Deep.DeepHandedRow
import Derived.Deep.DeepWitnessRowRef
import Derived.Lib.LaidIn
import Derived.Lib.LaidTab
import Derived.Stop.LaidErr
import Derived.Shelf.Vars
import Derived.LaidLaws
/- What the laws' statements share: the variables, the witness's world, the end, the arguments. -/
namespace Go.Proofs.YtnlbodnipgkpaaaDoor
open Go Go.V Go.ChangeShapes Go.WideShapes Go.ChangeAt Go.RowKit
set_option linter.unusedVariables false
set_option maxRecDepth 100000
theorem own : ownKnob Tryd.prog.godebug = none := by kernel_rfl
theorem laidOut : laidOutB Tryd.prog = true := by kernel_rfl
theorem star : "*" ++ "errors.errorString" = "*errors.errorString" := by decide
theorem rowErr (u : TypeId) (h : Tryd.prog.typeName? 3 u = some "*errors.errorString") : u = 117 :=
  typeName_ptr_named (nm := "errors.errorString") (by rw [star]; kernel_rfl) (by kernel_rfl) (by decide) u (by rw [star]; exact h)
abbrev laid0 : List (String × DataW Unit) := Rows.classesCheckRow.laid
theorem cells_of_var {W : World} {n : String} {g : Nat} {cs : Array Value} (hn : Tryd.prog.globalNamed n = some g) (h : W.var? Tryd.prog n = some cs) : ∃ t fr, W.heap[g]? = some (.cells cs t fr) := by
  unfold World.var? at h
  rw [hn, Option.bind_some] at h
  split at h
  · rename_i c t fr e
    injection h with h; subst h
    exact ⟨t, fr, e⟩
  · cases h
theorem relL_ints (E : Env) (k : IntKind) : ∀ zs : List Int, RelL E (zs.map fun z => AV.int k z) (zs.map fun z => Value.int k z)
  | [] => rfl
  | z :: zs => ⟨_, _, rfl, rfl, relL_ints E k zs⟩
/-- What a world that fits holds in the package-level variables. -/
theorem globs_of {W : World} (hL : laidMet Tryd.prog laid0 W) (hS : W.ShapedOpen Tryd.prog) : Globs G0 (fun k => W.heap[k]?) := by
  obtain ⟨a0, s0, hv0, _⟩ := laid_sentinel (g := 0) (hL.tail.tail.tail.tail.tail) (by kernel_rfl) (by kernel_rfl) Tryd.underlying68 rowErr Tryd.underlying117 Tryd.underlying119 rfl rfl Tryd.underlying9 (by kernel_rfl) (by kernel_rfl)
  obtain ⟨t0, f0, e0⟩ := cells_of_var (g := 0) (by kernel_rfl) hv0
  obtain ⟨a1, s1, hv1, _⟩ := laid_sentinel (g := 1) (hL.tail.tail.tail.tail) (by kernel_rfl) (by kernel_rfl) Tryd.underlying68 rowErr Tryd.underlying117 Tryd.underlying119 rfl rfl Tryd.underlying9 (by kernel_rfl) (by kernel_rfl)
  obtain ⟨t1, f1, e1⟩ := cells_of_var (g := 1) (by kernel_rfl) hv1
  have ht : Lib.TabIs Tryd.prog W "internal/strconv.uint64pow10" .u64 Lib.pow10Tab :=
    Lib.tabIs_of_head (g := 3) (by kernel_rfl) (by kernel_rfl) Tryd.underlying121 Tryd.underlying99 (by kernel_rfl) (by kernel_rfl) (hL.tail.tail)
  obtain ⟨t3, f3, e3⟩ := cells_of_var (g := 3) (by kernel_rfl) ht
  obtain ⟨zero, t, h0, hz, hb, hc, hu⟩ : ∃ zero t, ((begin Tryd.prog (fun _ _ => 0) default).world.heap[2]?).bind Obj.row? = some (zero, t) ∧ zero.size = 1 ∧ Tryd.prog.buildable t = true ∧ Tryd.prog.cellTypes Tryd.prog.depth t = some [t] ∧ Tryd.prog.underlying t = some (.int .i64) :=
    ⟨#[.int .i64 0], 3, by kernel_rfl, rfl, by kernel_rfl, by kernel_rfl, Tryd.underlying3⟩
  obtain ⟨cs, hh, hs, hr⟩ := hS.1 2 zero t (of_decide_eq_true (by kernel_rfl)) h0
  obtain ⟨m, hm⟩ := cell_of_shapedOpen_int hS (of_decide_eq_true (by kernel_rfl)) h0 hz hb hc hu
  obtain ⟨u, rfl⟩ : ∃ u, cs = #[u] := by
    obtain ⟨l⟩ := cs
    rw [hz] at hs
    match l, hs with
    | [u], _ => exact ⟨u, rfl⟩
  have hu3 : u = .int .i64 m := by
    simp [World.cell?, hh] at hm
    exact hm
  subst hu3
  intro g cs hg
  match g, hg with
  | 0, hg =>
    injection hg with hg; subst hg
    exact ⟨[.iface 117 (.pointer (some a0))], t0, f0, e0, ⟨_, _, rfl, ⟨_, _, rfl⟩, rfl⟩, by simp [Value.oneCell']⟩
  | 1, hg =>
    injection hg with hg; subst hg
    exact ⟨[.iface 117 (.pointer (some a1))], t1, f1, e1, ⟨_, _, rfl, ⟨_, _, rfl⟩, rfl⟩, by simp [Value.oneCell']⟩
  | 2, hg =>
    injection hg with hg; subst hg
    exact ⟨[.int .i64 m], _, _, hh, ⟨_, _, rfl, ⟨m, rfl⟩, rfl⟩, by simp [Value.oneCell']⟩
  | 3, hg =>
    injection hg with hg; subst hg
    exact ⟨Lib.pow10Tab.map fun z => Value.int .u64 z, t3, f3, e3, relL_ints _ _ _, fun u hu => by
      obtain ⟨z, _, rfl⟩ := List.mem_map.1 hu; rfl⟩
/-- The witness's world: the settled one with blocks more (the errors' structs), the variables holding what the text lays. -/
noncomputable def laidWorld (os : Os) : World :=
  let N := (World.settled Tryd.prog os).heap.size
  let w0 := World.holding Tryd.prog os ⟨#[.cells #[.string ⟨#[105, 110, 118, 97, 108, 105, 100, 32, 115, 121, 110, 116, 97, 120]⟩] 119, .cells #[.string ⟨#[118, 97, 108, 117, 101, 32, 111, 117, 116, 32, 111, 102, 32, 114, 97, 110, 103, 101]⟩] 119], #[], []⟩
  let put (h : Array Obj) (g : Nat) (cs : Array Value) : Array Obj := h.modify g fun
    | .cells _ t frozen => .cells cs t frozen
    | o => o
  let u8 (l : List Int) : Array Value := (l.map fun z => Value.int .u8 z).toArray
  let h0 := put w0.heap 6 (u8 [0, 1, 28, 2, 29, 14, 24, 3, 30, 22, 20, 15, 25, 17, 4, 8, 31, 27, 13, 23, 21, 19, 16, 7, 26, 12, 18, 6, 11, 5, 10, 9])
  let h1 := put h0 7 (u8 [0, 1, 56, 2, 57, 49, 28, 3, 61, 58, 42, 50, 38, 29, 17, 4, 62, 47, 59, 36, 45, 43, 51, 22, 53, 39, 33, 30, 24, 18, 12, 5, 63, 55, 48, 27, 60, 41, 37, 16, 46, 35, 44, 21, 52, 32, 23, 11, 54, 26, 40, 15, 34, 20, 31, 10, 25, 14, 19, 9, 13, 8, 7, 6])
  let h2 := put h1 3 ((Lib.pow10Tab.map fun z => Value.int .u64 z).toArray)
  let h3 := put h2 5 (u8 [128, 191, 160, 191, 128, 159, 144, 191, 128, 143, 0, 0, 0, 0, 0, 0, 0, 0, 0, 0, 0, 0, 0, 0, 0, 0, 0, 0, 0, 0, 0, 0])
  let h4 := put h3 1 #[.iface 117 (.pointer (some ⟨N + 1, 0, none⟩))]
  let h5 := put h4 0 #[.iface 117 (.pointer (some ⟨N + 0, 0, none⟩))]
  let h6 := put h5 4 (u8 (Go.Pinned.utf8FirstZ.map Int.ofNat))
  { w0 with heap := h6 }
noncomputable abbrev N0 : Nat := (World.settled Tryd.prog default).heap.size
theorem laid_met (os : Os) (args : Array Value) : laidMet Tryd.prog laid0 ((laidWorld os).forCall (fun _ _ => 0) ⟨#[], args, []⟩).memory :=
  (LaidIn.of_run [6, 7, 3, 5, 1, 0, 4, N0 + 0, N0 + 1] 8 (by kernel_rfl) (by kernel_rfl) (by kernel_rfl) (by kernel_rfl)).met
/-- The end of each law: true came back, nothing that was there has changed. -/
theorem law_end {H : Type} {enc : TypeId × Value → H} {f : Func} {s : ChangeSpec} {W W' : World} {args : Array Value} {ds : List (DataW H)} {before : List MemPlace} (hv : s.vars = []) (hr : f.resultTypes = #[4])
    (hres : (s.fn H (ds ++ [])).results = [.lit (.bool true)]) (hargs : (s.fn H (ds ++ [])).args = ds) (hvs : (s.fn H (ds ++ [])).vars = [])
    (hp : (f.params.toList.all fun t => Tryd.prog.readableRec t && decide (t < Tryd.prog.types.size)) = true)
    (hW : DataW.Whole enc Tryd.prog f.params.toList s.vars false W args.toList ds [] before) (hb : Go.RowKit.Below W.heap.size W W') :
    s.post enc Tryd.prog f false true false false W args (.bool true) W' := by
  have hW' := hW
  have hlt : ∀ p ∈ before, p.block < W.heap.size := fun p hp => hW.lt p hp
  obtain ⟨p, q, hA, hV, rfl, hz, hn⟩ := hW
  rw [hv] at hV
  obtain ⟨_, rfl⟩ := trodVars_none hV
  rw [List.append_nil] at *
  have hA' : ∀ sp : Nat → Bool, (∀ x ∈ p, sp x.block = true) → DataW.TrodAll enc Tryd.prog W' 0 sp true f.params.toList args.toList ds p := fun sp hs => trodAll_stays laidOut hb hp hA hlt hs
  have hR : ∀ (b : Nat) (sp : Nat → Bool) (hd : Bool), DataW.TrodAll enc Tryd.prog W' b sp hd f.resultTypes.toList ((Value.bool true).resultList f.resultTypes.size) [.lit (.bool true)] [] := fun b sp hd => by
    rw [hr]; exact trodAll_mk1 (shut_bool Tryd.underlying4 true)
  have hold : ∀ x ∈ p, (fun b => decide (b < W.heap.size)) x.block = true := fun x hx => by simpa using hlt x hx
  refine ⟨ds, [], p, [], p, [], hW', by rw [List.append_nil, hres]; exact hR _ _ _, by rw [List.append_nil, hargs]; exact hA' _ hold, by rw [List.append_nil, hvs, hv]; exact rfl, World.keptBut_mono (fun x hx => ⟨hx, .inr (.inl hx)⟩) (hb.frame (· ∈ p)), fun h => by cases h⟩
/-- An argument []int. -/
noncomputable def vInts : View Tryd.prog 22 (List Int × Nat) := View.slice 1 Tryd.underlying22 (by kernel_rfl) (by decide) (View.int .i64 Tryd.underlying3)
noncomputable def vPr : View Tryd.prog 45 (Int × Int) := View.array2 1 Tryd.underlying45 (by kernel_rfl) (by kernel_rfl) (View.int .i64 Tryd.underlying3)
noncomputable def vPrs : View Tryd.prog 43 (List (Int × Int) × Nat) := View.slice 2 Tryd.underlying43 (by kernel_rfl) (by decide) vPr
noncomputable def vU8s : View Tryd.prog 48 (List Int × Nat) := View.slice 1 Tryd.underlying48 (by kernel_rfl) (by decide) (View.int .u8 Tryd.underlying5)
noncomputable def vP : View Tryd.prog 50 ((List Int × Nat) × Unit) := View.struct 1 Tryd.underlying50 (by kernel_rfl) (FView.cons 1 rfl (by kernel_rfl) vU8s (FView.nil (Nat.le_refl 1)))
end Go.Proofs.YtnlbodnipgkpaaaDoor
