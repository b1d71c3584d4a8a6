import Derived.Test.YtjoldnonnjleoaaDoorW21
import Derived.Test.YtjoldnonnjleoaaDoorCards
import Derived.Test.YtjoldnonnjleoaaDoorTie
import Derived.ProofKit
import Derived.OpenShut
import Derived.Below
import Derived.ChangeSame
import Derived.Deep.DeepHandedRow
import Derived.Deep.DeepWitnessRowRef
import Derived.Lib.LaidIn
import Derived.Lib.LaidTab
import Derived.Stop.LaidErr
import Derived.Shelf.Vars
import Derived.LaidLaws
/- Words: what the laws' statements share: the variables, the witness's world, the end. -/
namespace Go.Proofs.YtjoldnonnjleoaaDoor
open Go Go.V Go.ChangeShapes Go.WideShapes Go.ChangeAt Go.RowKit
set_option linter.unusedVariables false

theorem own : ownKnob Tryd.prog.godebug = none := by kernel_rfl
theorem laidOut : laidOutB Tryd.prog = true := by kernel_rfl
theorem star : "*" ++ "errors.errorString" = "*errors.errorString" := by decide
theorem row121 (u : TypeId) (h : Tryd.prog.typeName? 3 u = some "*errors.errorString") : u = 121 :=
  typeName_ptr_named (nm := "errors.errorString") (by rw [star]; kernel_rfl) (by kernel_rfl) (by decide) u (by rw [star]; exact h)
abbrev laid0 : List (String × DataW Unit) := Rows.wordsCompareRow.laid

theorem cells_of_var {W : World} {n : String} {g : Nat} {cs : Array Value} (hn : Tryd.prog.globalNamed n = some g) (h : W.var? Tryd.prog n = some cs) : ∃ t fr, W.heap[g]? = some (.cells cs t fr) := by
  unfold World.var? at h
  rw [hn, Option.bind_some] at h
  split at h
  · rename_i c t fr e
    injection h with h; subst h
    exact ⟨t, fr, e⟩
  · cases h
theorem relL_ints (E : Env) (k : IntKind) : ∀ zs : List Int, RelL E (zs.map fun z => AV.int k z) (zs.map fun z => Value.int k z)
  | [] => rfl
  | z :: zs => ⟨_, _, rfl, rfl, relL_ints E k zs⟩
/-- What a world that fits holds in the package-level variables. -/
theorem globs_of {W : World} (hL : laidMet Tryd.prog laid0 W) (hS : W.ShapedOpen Tryd.prog) : Globs G0 (fun k => W.heap[k]?) := by
  have h4 := hL.tail.tail.tail.tail
  obtain ⟨a1, s1, hv1, _⟩ := laid_sentinel (g := 1) h4 (by kernel_rfl) (by kernel_rfl) Tryd.underlying64 row121 Tryd.underlying121 Tryd.underlying123 rfl rfl Tryd.underlying9 (by kernel_rfl) (by kernel_rfl)
  obtain ⟨a0, s0, hv0, _⟩ := laid_sentinel (g := 0) h4.tail (by kernel_rfl) (by kernel_rfl) Tryd.underlying64 row121 Tryd.underlying121 Tryd.underlying123 rfl rfl Tryd.underlying9 (by kernel_rfl) (by kernel_rfl)
  have ht : Lib.TabIs Tryd.prog W "internal/strconv.uint64pow10" .u64 Lib.pow10Tab :=
    Lib.tabIs_of_head (g := 2) (by kernel_rfl) (by kernel_rfl) Tryd.underlying115 Tryd.underlying94 (by kernel_rfl) (by kernel_rfl) hL.tail.tail
  obtain ⟨zero, t, h0, hz, hb, hc, hu⟩ : ∃ zero t, ((begin Tryd.prog (fun _ _ => 0) default).world.heap[3]?).bind Obj.row? = some (zero, t) ∧ zero.size = 1 ∧ Tryd.prog.buildable t = true ∧ Tryd.prog.cellTypes Tryd.prog.depth t = some [t] ∧ Tryd.prog.underlying t = some (.int .i64) :=
    ⟨#[.int .i64 0], 3, by kernel_rfl, rfl, by kernel_rfl, by kernel_rfl, Tryd.underlying3⟩
  obtain ⟨cs, hh, hs, hr⟩ := hS.1 3 zero t (of_decide_eq_true (by kernel_rfl)) h0
  obtain ⟨m, hm⟩ := cell_of_shapedOpen_int hS (of_decide_eq_true (by kernel_rfl)) h0 hz hb hc hu
  obtain ⟨u, rfl⟩ : ∃ u, cs = #[u] := by
    obtain ⟨l⟩ := cs
    rw [hz] at hs
    match l, hs with
    | [u], _ => exact ⟨u, rfl⟩
  have hu3 : u = .int .i64 m := by
    simp [World.cell?, hh] at hm
    exact hm
  subst hu3
  obtain ⟨t0, f0, e0⟩ := cells_of_var (g := 0) (by kernel_rfl) hv0
  obtain ⟨t1, f1, e1⟩ := cells_of_var (g := 1) (by kernel_rfl) hv1
  obtain ⟨t2, f2, e2⟩ := cells_of_var (g := 2) (by kernel_rfl) ht
  intro g cs hg
  match g, hg with
  | 0, hg =>
    injection hg with hg; subst hg
    exact ⟨[.iface 121 (.pointer (some a0))], t0, f0, e0, ⟨_, _, rfl, ⟨_, _, rfl⟩, rfl⟩, by simp [Value.oneCell']⟩
  | 1, hg =>
    injection hg with hg; subst hg
    exact ⟨[.iface 121 (.pointer (some a1))], t1, f1, e1, ⟨_, _, rfl, ⟨_, _, rfl⟩, rfl⟩, by simp [Value.oneCell']⟩
  | 2, hg =>
    injection hg with hg; subst hg
    exact ⟨Lib.pow10Tab.map fun z => Value.int .u64 z, t2, f2, e2, relL_ints _ _ _, fun u hu => by
      obtain ⟨z, _, rfl⟩ := List.mem_map.1 hu; rfl⟩
  | 3, hg =>
    injection hg with hg; subst hg
    exact ⟨[.int .i64 m], _, _, hh, ⟨_, _, rfl, ⟨m, rfl⟩, rfl⟩, by simp [Value.oneCell']⟩

/-- The witness's world: the settled one with two blocks more (the errors' structs), the variables holding what the text lays. -/
noncomputable def laidWorld (os : Os) : World :=
  let N := (World.settled Tryd.prog os).heap.size
  let w0 := World.holding Tryd.prog os ⟨#[.cells #[.string ⟨#[105, 110, 118, 97, 108, 105, 100, 32, 115, 121, 110, 116, 97, 120]⟩] 123, .cells #[.string ⟨#[118, 97, 108, 117, 101, 32, 111, 117, 116, 32, 111, 102, 32, 114, 97, 110, 103, 101]⟩] 123], #[], []⟩
  let put (h : Array Obj) (g : Nat) (cs : Array Value) : Array Obj := h.modify g fun
    | .cells _ t frozen => .cells cs t frozen
    | o => o
  let u8 (l : List Int) : Array Value := (l.map fun z => Value.int .u8 z).toArray
  let h0 := put (put w0.heap 0 #[.iface 121 (.pointer (some ⟨N, 0, none⟩))]) 1 #[.iface 121 (.pointer (some ⟨N + 1, 0, none⟩))]
  let h1 := put h0 2 (Lib.pow10Tab.map fun z => Value.int .u64 z).toArray
  let h2 := put h1 4 (u8 (Go.Pinned.utf8FirstZ.map Int.ofNat))
  let h3 := put h2 5 (u8 [128, 191, 160, 191, 128, 159, 144, 191, 128, 143, 0, 0, 0, 0, 0, 0, 0, 0, 0, 0, 0, 0, 0, 0, 0, 0, 0, 0, 0, 0, 0, 0])
  let h4 := put h3 6 (u8 [0, 1, 28, 2, 29, 14, 24, 3, 30, 22, 20, 15, 25, 17, 4, 8, 31, 27, 13, 23, 21, 19, 16, 7, 26, 12, 18, 6, 11, 5, 10, 9])
  let h5 := put h4 7 (u8 [0, 1, 56, 2, 57, 49, 28, 3, 61, 58, 42, 50, 38, 29, 17, 4, 62, 47, 59, 36, 45, 43, 51, 22, 53, 39, 33, 30, 24, 18, 12, 5, 63, 55, 48, 27, 60, 41, 37, 16, 46, 35, 44, 21, 52, 32, 23, 11, 54, 26, 40, 15, 34, 20, 31, 10, 25, 14, 19, 9, 13, 8, 7, 6])
  { w0 with heap := h5 }
noncomputable abbrev N0 : Nat := (World.settled Tryd.prog default).heap.size
theorem laid_met (os : Os) (args : Array Value) : laidMet Tryd.prog laid0 ((laidWorld os).forCall (fun _ _ => 0) ⟨#[], args, []⟩).memory :=
  (LaidIn.of_run [0, 1, 2, 4, 5, 6, 7, N0, N0 + 1] 8 (by kernel_rfl) (by kernel_rfl) (by kernel_rfl) (by kernel_rfl)).met

end Go.Proofs.YtjoldnonnjleoaaDoor
