import Derived.Test.YtbgdagokjfmcbaaGreatDoorD30
import Derived.Test.YtbgdagokjfmcbaaGreatDoorCards
import Derived.Test.YtbgdagokjfmcbaaGreatDoorTie
import Derived.ProofKit
import Derived.OpenShut
import Derived.Below
import Derived.ChangeSame
import Derived.Deep.DeepHandedRow
import Derived.Deep.DeepWitnessRowRef
import Derived.Lib.LaidIn
import Derived.Lib.LaidTab
import Derived.Stop.LaidErr
import Derived.Shelf.Vars
import Derived.LaidLaws
import Derived.Test.YtbgdagokjfmcbaaGreatDoorV28
namespace Go.Proofs.YtbgdagokjfmcbaaGreatDoor
open Go Go.V Go.ChangeShapes Go.WideShapes Go.ChangeAt Go.RowKit
set_option linter.unusedVariables false
set_option maxRecDepth 100000
theorem own : ownKnob Tryz.prog.godebug = none := by kernel_rfl
theorem laidOut : laidOutB Tryz.prog = true := by kernel_rfl
abbrev laid0 : List (String × DataW Unit) := Rows.diffsTextRow.laid
theorem cells_of_var {W : World} {n : String} {g : Nat} {cs : Array Value} (hn : Tryz.prog.globalNamed n = some g) (h : W.var? Tryz.prog n = some cs) : ∃ t fr, W.heap[g]? = some (.cells cs t fr) := by
 unfold World.var? at h
 rw [hn, Option.bind_some] at h
 split at h
 ·rename_i c t fr e
  injection h with h; subst h
  exact ⟨t, fr, e⟩
 ·cases h
theorem relL_ints (E : Env) (k : IntKind) : ∀ zs : List Int, RelL E (zs.map fun z => AV.int k z) (zs.map fun z => Value.int k z)
 | [] => rfl
 | z :: zs => ⟨_, _, rfl, rfl, relL_ints E k zs⟩
theorem none_of {W : World} {rest : List (String × DataW Unit)} (h : laidMet Tryz.prog (("gauntlet/diffs.none", Rows.laid_gauntlet_diffs_none) :: rest) W) : W.var? Tryz.prog "gauntlet/diffs.none" = some #[.int .i64 (-1), .int .i64 (-1)] := by
 obtain ⟨ps, ⟨g', t', cs, fuel, p, q, hg', ht', hvar, hd, _, _⟩, _⟩ := h
 obtain rfl := Option.some.inj ((show Tryz.prog.globalNamed "gauntlet/diffs.none" = some 0 by kernel_rfl).symm.trans hg')
 obtain rfl := Option.some.inj ((show (Tryz.prog.globals[0]?).map (·.type) = some 58 by kernel_rfl).symm.trans ht')
 cases fuel with
 | zero => simp [DataW.trod] at hd
 | succ fuel =>
  obtain ⟨y0, y1, n, e0, hl, h0, h1⟩ := trod_struct2 Tryz.underlying58 hd
  obtain ⟨z0, hc0, rfl, _⟩ := DataW.trod_int Tryz.underlying3 h0
  obtain ⟨z1, hc1, rfl, _⟩ := DataW.trod_int Tryz.underlying3 h1
  simp only [Rows.laid_gauntlet_diffs_none, Prod.mk.injEq, DataW.agg.injEq, List.cons.injEq, DataW.lit.injEq, Lit.int.injEq, true_and, and_true] at e0
  obtain ⟨⟨rfl, rfl⟩, _⟩ := e0
  have hs : (Tryz.prog.cellsOf 58 = 2) := by kernel_rfl
  have hs3 : (Tryz.prog.cellsOf 3 = 1) := by kernel_rfl
  rw [hs] at hl
  simp only [hs3] at hc0 hc1
  obtain ⟨cl⟩ := cs
  match cl, hl with
  | [a, b], _ =>
   simp at hc0 hc1
   subst hc0; subst hc1
   exact hvar
theorem globs_of {W : World} (hL : laidMet Tryz.prog laid0 W) (hS : W.ShapedOpen Tryz.prog) : Globs G0 (fun k => W.heap[k]?) := by
 have ht : Lib.TabIs Tryz.prog W "internal/strconv.uint64pow10" .u64 Lib.pow10Tab :=
  Lib.tabIs_of_head (g := 1) (by kernel_rfl) (by kernel_rfl) Tryz.underlying149 Tryz.underlying136 (by kernel_rfl) (by kernel_rfl) hL.tail.tail
 have hn := none_of hL.tail.tail.tail.tail
 obtain ⟨zero, t, h0, hz, hb, hc, hu⟩ : ∃ zero t, ((begin Tryz.prog (fun _ _ => 0) default).world.heap[2]?).bind Obj.row? = some (zero, t) ∧ zero.size = 1 ∧ Tryz.prog.buildable t = true ∧ Tryz.prog.cellTypes Tryz.prog.depth t = some [t] ∧ Tryz.prog.underlying t = some (.int .i64) :=
  ⟨#[.int .i64 0], 3, by kernel_rfl, rfl, by kernel_rfl, by kernel_rfl, Tryz.underlying3⟩
 obtain ⟨cs, hh, hs, hr⟩ := hS.1 2 zero t (of_decide_eq_true (by kernel_rfl)) h0
 obtain ⟨m, hm⟩ := cell_of_shapedOpen_int hS (of_decide_eq_true (by kernel_rfl)) h0 hz hb hc hu
 obtain ⟨u, rfl⟩ : ∃ u, cs = #[u] := by
  obtain ⟨l⟩ := cs
  rw [hz] at hs
  match l, hs with
  | [u], _ => exact ⟨u, rfl⟩
 have hu3 : u = .int .i64 m := by
  simp [World.cell?, hh] at hm
  exact hm
 subst hu3
 obtain ⟨t0, f0, e0⟩ := cells_of_var (g := 0) (by kernel_rfl) hn
 obtain ⟨t1, f1, e1⟩ := cells_of_var (g := 1) (by kernel_rfl) ht
 intro g cs hg
 match g, hg with
 | 0, hg =>
  injection hg with hg; subst hg
  exact ⟨[.int .i64 (-1), .int .i64 (-1)], t0, f0, e0, ⟨_, _, rfl, rfl, _, _, rfl, rfl, rfl⟩, by simp [Value.oneCell']⟩
 | 1, hg =>
  injection hg with hg; subst hg
  exact ⟨Lib.pow10Tab.map fun z => Value.int .u64 z, t1, f1, e1, relL_ints _ _ _, fun u hu => by
   obtain ⟨z, _, rfl⟩ := List.mem_map.1 hu; rfl⟩
 | 2, hg =>
  injection hg with hg; subst hg
  exact ⟨[.int .i64 m], _, _, hh, ⟨_, _, rfl, ⟨m, rfl⟩, rfl⟩, by simp [Value.oneCell']⟩
noncomputable def laidWorld (os : Os) : World :=
 let w0 := World.holding Tryz.prog os ⟨#[], #[], []⟩
 let put (h : Array Obj) (g : Nat) (cs : Array Value) : Array Obj := h.modify g fun
  | .cells _ t frozen => .cells cs t frozen
  | o => o
 let u8 (l : List Int) : Array Value := (l.map fun z => Value.int .u8 z).toArray
 let h0 := put w0.heap 0 #[.int .i64 (-1), .int .i64 (-1)]
 let h1 := put h0 1 (Lib.pow10Tab.map fun z => Value.int .u64 z).toArray
 let h2 := put h1 3 (u8 (Go.Pinned.utf8FirstZ.map Int.ofNat))
 let h3 := put h2 4 (u8 [128, 191, 160, 191, 128, 159, 144, 191, 128, 143, 0, 0, 0, 0, 0, 0, 0, 0, 0, 0, 0, 0, 0, 0, 0, 0, 0, 0, 0, 0, 0, 0])
 let h4 := put h3 5 (u8 [0, 1, 28, 2, 29, 14, 24, 3, 30, 22, 20, 15, 25, 17, 4, 8, 31, 27, 13, 23, 21, 19, 16, 7, 26, 12, 18, 6, 11, 5, 10, 9])
 let h5 := put h4 6 (u8 [0, 1, 56, 2, 57, 49, 28, 3, 61, 58, 42, 50, 38, 29, 17, 4, 62, 47, 59, 36, 45, 43, 51, 22, 53, 39, 33, 30, 24, 18, 12, 5, 63, 55, 48, 27, 60, 41, 37, 16, 46, 35, 44, 21, 52, 32, 23, 11, 54, 26, 40, 15, 34, 20, 31, 10, 25, 14, 19, 9, 13, 8, 7, 6])
 { w0 with heap := h5 }
theorem laid_met (os : Os) (args : Array Value) : laidMet Tryz.prog laid0 ((laidWorld os).forCall (fun _ _ => 0) ⟨#[], args, []⟩).memory :=
 (LaidIn.of_run [0, 1, 3, 4, 5, 6] 8 (by kernel_rfl) (by kernel_rfl) (by kernel_rfl) (by kernel_rfl)).met
theorem law_end {H : Type} {enc : TypeId × Value → H} {f : Func} {s : ChangeSpec} {W W' : World} {args : Array Value} {ds : List (DataW H)} {before : List MemPlace} (hv : s.vars = []) (hr : f.resultTypes = #[4])
  (hres : (s.fn H (ds ++ [])).results = [.lit (.bool true)]) (hargs : (s.fn H (ds ++ [])).args = ds) (hvs : (s.fn H (ds ++ [])).vars = [])
  (hp : (f.params.toList.all fun t => Tryz.prog.readableRec t && decide (t < Tryz.prog.types.size)) = true)
  (hW : DataW.Whole enc Tryz.prog f.params.toList s.vars false W args.toList ds [] before) (hb : Below W.heap.size W W') :
  s.post enc Tryz.prog f false true false false W args (.bool true) W' := by
 have hW' := hW
 have hlt : ∀ p ∈ before, p.block < W.heap.size := fun p hp => hW.lt p hp
 obtain ⟨p, q, hA, hV, rfl, hz, hn⟩ := hW
 rw [hv] at hV
 obtain ⟨_, rfl⟩ := trodVars_none hV
 rw [List.append_nil] at *
 have hA' : ∀ sp : Nat → Bool, (∀ x ∈ p, sp x.block = true) → DataW.TrodAll enc Tryz.prog W' 0 sp true f.params.toList args.toList ds p := fun sp hs => trodAll_stays laidOut hb hp hA hlt hs
 have hR : ∀ (b : Nat) (sp : Nat → Bool) (hd : Bool), DataW.TrodAll enc Tryz.prog W' b sp hd f.resultTypes.toList ((Value.bool true).resultList f.resultTypes.size) [.lit (.bool true)] [] := fun b sp hd => by
  rw [hr]; exact trodAll_mk1 (shut_bool Tryz.underlying4 true)
 have hold : ∀ x ∈ p, (fun b => decide (b < W.heap.size)) x.block = true := fun x hx => by simpa using hlt x hx
 refine ⟨ds, [], p, [], p, [], hW', by rw [List.append_nil, hres]; exact hR _ _ _, by rw [List.append_nil, hargs]; exact hA' _ hold, by rw [List.append_nil, hvs, hv]; exact rfl, World.keptBut_mono (fun x hx => ⟨hx, .inr (.inl hx)⟩) (hb.frame (· ∈ p)), fun h => by cases h⟩
noncomputable def vU16s : View Tryz.prog 22 (List Int × Nat) := View.slice 1 Tryz.underlying22 (by kernel_rfl) (by decide) (View.int .u16 Tryz.underlying103)
noncomputable def vM : View Tryz.prog 24 (Int × Int × Int × Bool × (List Int × Nat) × Unit) := View.struct 5 Tryz.underlying24 (by kernel_rfl)
 (FView.cons 1 rfl (by kernel_rfl) (View.int .u8 Tryz.underlying5) (FView.cons 1 rfl (by kernel_rfl) (View.int .u8 Tryz.underlying5) (FView.cons 1 rfl (by kernel_rfl) (View.int .u8 Tryz.underlying5) (FView.cons 1 rfl (by kernel_rfl) (View.bool Tryz.underlying4) (FView.cons 1 rfl (by kernel_rfl) vU16s (FView.nil (Nat.le_refl 5)))))))
noncomputable def vCh : View Tryz.prog 105 (Int × Int × Int × Int × Unit) := View.struct 4 Tryz.underlying105 (by kernel_rfl)
 (FView.cons 1 rfl (by kernel_rfl) (View.int .u8 Tryz.underlying5) (FView.cons 1 rfl (by kernel_rfl) (View.int .u8 Tryz.underlying5) (FView.cons 1 rfl (by kernel_rfl) (View.int .u8 Tryz.underlying5) (FView.cons 1 rfl (by kernel_rfl) (View.int .u8 Tryz.underlying5) (FView.nil (Nat.le_refl 4))))))
noncomputable def vChs : View Tryz.prog 25 (List (Int × Int × Int × Int × Unit) × Nat) := View.slice 4 Tryz.underlying25 (by kernel_rfl) (by decide) vCh
noncomputable def vV : View Tryz.prog 27 ((Int × Int × Int × Bool × (List Int × Nat) × Unit) × (List (Int × Int × Int × Int × Unit) × Nat) × Bool × Bool × Unit) := View.struct 8 Tryz.underlying27 (by kernel_rfl)
 (FView.cons 5 rfl (by kernel_rfl) vM (FView.cons 1 rfl (by kernel_rfl) vChs (FView.cons 1 rfl (by kernel_rfl) (View.bool Tryz.underlying4) (FView.cons 1 rfl (by kernel_rfl) (View.bool Tryz.underlying4) (FView.nil (Nat.le_refl 8))))))
end Go.Proofs.YtbgdagokjfmcbaaGreatDoor
