import Derived.Test.YtlpjemobbjijdaaGreatDoorS28
import Derived.Test.YtlpjemobbjijdaaGreatDoorV51
import Derived.Test.YtlpjemobbjijdaaGreatDoorCards
import Derived.Test.YtlpjemobbjijdaaGreatDoorTie
import Derived.ProofKit
import Derived.OpenShut
import Derived.Below
import Derived.ChangeSame
import Derived.Deep.DeepHandedRow
import Derived.Deep.DeepWitnessRowRef
import Derived.Lib.LaidIn
import Derived.Lib.LaidTab
import Derived.Stop.LaidErr
import Derived.Shelf.Vars
import Derived.LaidLaws
namespace Go.Proofs.YtlpjemobbjijdaaGreatDoor
open Go Go.V Go.ChangeShapes Go.WideShapes Go.ChangeAt Go.RowKit
set_option linter.unusedVariables false
set_option maxRecDepth 100000
theorem own : ownKnob Tryz.prog.godebug = none := by kernel_rfl
theorem zdy9 : laidOutB Tryz.prog = true := by kernel_rfl
abbrev qdO9 : List (String × DataW Unit) := Rows.specsCheckRow.laid
theorem xbk9 {W : World} {n : String} {g : Nat} {cs : Array Value} (hn : Tryz.prog.globalNamed n = some g) (h : W.var? Tryz.prog n = some cs) : ∃ t fr, W.heap[g]? = some (.cells cs t fr) := by
 unfold World.var? at h;rw [hn, Option.bind_some] at h;split at h
 ·rename_i c t fr e;injection h with h; subst h
  exact ⟨t, fr, e⟩
 ·cases h
theorem zcV9 {W : World} (hL : laidMet Tryz.prog qdO9 W) (hS : W.ShapedOpen Tryz.prog) : Globs G0 (fun k => W.heap[k]?) := by
 obtain ⟨zero, t, h0, hz, hb, hc, hu⟩ : ∃ zero t, ((begin Tryz.prog (fun _ _ => 0) default).world.heap[0]?).bind Obj.row? = some (zero, t) ∧ zero.size = 1 ∧ Tryz.prog.buildable t = true ∧ Tryz.prog.cellTypes Tryz.prog.depth t = some [t] ∧ Tryz.prog.underlying t = some (.int .i64) :=
  ⟨#[.int .i64 0], 3, by kernel_rfl, rfl, by kernel_rfl, by kernel_rfl, Tryz.underlying3⟩
 obtain ⟨cs, hh, hs, hr⟩ := hS.1 0 zero t (of_decide_eq_true (by kernel_rfl)) h0;obtain ⟨m, hm⟩ := cell_of_shapedOpen_int hS (of_decide_eq_true (by kernel_rfl)) h0 hz hb hc hu;obtain ⟨u, rfl⟩ : ∃ u, cs = #[u] := by
  obtain ⟨l⟩ := cs;rw [hz] at hs;match l, hs with
  | [u], _ => exact ⟨u, rfl⟩
 have hu3 : u = .int .i64 m := by
  simp [World.cell?, hh] at hm;exact hm
 subst hu3;have hz1 : W.var? Tryz.prog "gauntlet/lexemes.pairs" = some (([[45, 62], [60, 61], [62, 61], [33, 61], [58, 61]] : List (List UInt8)).map fun z => Value.string ⟨z.toArray⟩).toArray :=
  qbh9 (g := 1) (by kernel_rfl) (by kernel_rfl) Tryz.underlying194 Tryz.underlying9 (by kernel_rfl) (by kernel_rfl) (hL.tail)
 obtain ⟨t1, f1, e1⟩ := xbk9 (g := 1) (by kernel_rfl) hz1;intro g cs hg;match g, hg with
 | 0, hg =>
  injection hg with hg; subst hg
  exact ⟨[.int .i64 m], _, _, hh, ⟨_, _, rfl, ⟨m, rfl⟩, rfl⟩, by simp [Value.oneCell']⟩
 | 1, hg =>
  injection hg with hg; subst hg
  exact ⟨([[45, 62], [60, 61], [62, 61], [33, 61], [58, 61]] : List (List UInt8)).map fun z => Value.string ⟨z.toArray⟩, t1, f1, e1, zbh9 _ [[45, 62], [60, 61], [62, 61], [33, 61], [58, 61]], fun u hu => by
   obtain ⟨z, _, rfl⟩ := l'Z.1 hu; rfl⟩
noncomputable def kaC9 (os : Os) : World :=
 let N := (World.settled Tryz.prog os).heap.size
 let w0 := World.holding Tryz.prog os ⟨#[], #[], []⟩
 let put (h : Array Obj) (g : Nat) (cs : Array Value) : Array Obj := h.modify g fun
  | .cells _ t frozen => .cells cs t frozen
  | o => o
 let u8 (l : List Int) : Array Value := (l.map fun z => Value.int .u8 z).toArray
 let h0 := put w0.heap 3 (u8 [128, 191, 160, 191, 128, 159, 144, 191, 128, 143, 0, 0, 0, 0, 0, 0, 0, 0, 0, 0, 0, 0, 0, 0, 0, 0, 0, 0, 0, 0, 0, 0])
 let h1 := put h0 1 #[.string ⟨#[45, 62]⟩, .string ⟨#[60, 61]⟩, .string ⟨#[62, 61]⟩, .string ⟨#[33, 61]⟩, .string ⟨#[58, 61]⟩]
 let h2 := put h1 2 (u8 (Go.Pinned.utf8FirstZ.map Int.ofNat))
 { w0 with heap := h2 }
noncomputable abbrev N0 : Nat := (World.settled Tryz.prog default).heap.size
theorem xcV9 (os : Os) (args : Array Value) : laidMet Tryz.prog qdO9 ((kaC9 os).forCall (fun _ _ => 0) ⟨#[], args, []⟩).memory :=
 (LaidIn.of_run [3, 1, 2] 8 (by kernel_rfl) (by kernel_rfl) (by kernel_rfl) (by kernel_rfl)).met
theorem xdy9 {H : Type} {enc : TypeId × Value → H} {f : Func} {s : ChangeSpec} {W W' : World} {args : Array Value} {ds : List (DataW H)} {before : List MemPlace} (hv : s.vars = []) (hr : f.resultTypes = #[4])
  (hres : (s.fn H (ds ++ [])).results = [.lit (.bool true)]) (hargs : (s.fn H (ds ++ [])).args = ds) (hvs : (s.fn H (ds ++ [])).vars = [])
  (hp : (f.params.toList.all fun t => Tryz.prog.readableRec t && decide (t < Tryz.prog.types.size)) = true)
  (hW : DataW.Whole enc Tryz.prog f.params.toList s.vars false W args.toList ds [] before) (hb : Go.RowKit.Below W.heap.size W W') :
  s.post enc Tryz.prog f false true false false W args (.bool true) W' := by
 have hW' := hW;have hlt : ∀ p ∈ before, p.block < W.heap.size := fun p hp => hW.lt p hp;obtain ⟨p, q, hA, hV, rfl, hz, hn⟩ := hW;rw [hv] at hV;obtain ⟨_, rfl⟩ := trodVars_none hV;rw [l'F] at *;have hA' : ∀ sp : Nat → Bool, (∀ x ∈ p, sp x.block = true) → DataW.TrodAll enc Tryz.prog W' 0 sp true f.params.toList args.toList ds p := fun sp hs => qZ0 zdy9 hb hp hA hlt hs;have hR : ∀ (b : Nat) (sp : Nat → Bool) (hd : Bool), DataW.TrodAll enc Tryz.prog W' b sp hd f.resultTypes.toList ((Value.bool true).resultList f.resultTypes.size) [.lit (.bool true)] [] := fun b sp hd => by
  rw [hr]; exact trodAll_mk1 (shut_bool Tryz.underlying4 true)
 have hold : ∀ x ∈ p, (fun b => decide (b < W.heap.size)) x.block = true := fun x hx => by simpa using hlt x hx
 refine ⟨ds, [], p, [], p, [], hW', by rw [l'F, hres]; exact hR _ _ _, by rw [l'F, hargs]; exact hA' _ hold, by rw [l'F, hvs, hv]; exact rfl, World.keptBut_mono (fun x hx => ⟨hx, .inr (.inl hx)⟩) (hb.frame (· ∈ p)), fun h => by cases h⟩
noncomputable def zeq9 : View Tryz.prog 36 (List Int × Nat) := View.slice 1 Tryz.underlying36 (by kernel_rfl) (by decide) (View.int .i64 Tryz.underlying3)
noncomputable def vBs : View Tryz.prog 9 (List UInt8) := View.str Tryz.underlying9
noncomputable def wdy9 : View Tryz.prog 25 (List (List UInt8) × Nat) := View.slice 1 Tryz.underlying25 (by kernel_rfl) (by decide) vBs
noncomputable def vEd : View Tryz.prog 70 (Int × Int × Unit) := View.struct 2 Tryz.underlying70 (by kernel_rfl) (FView.cons 1 rfl (by kernel_rfl) (View.int .i64 Tryz.underlying3) (FView.cons 1 rfl (by kernel_rfl) (View.int .i64 Tryz.underlying3) (FView.nil (l'd 2))))
noncomputable def vRow : View Tryz.prog 50 (List (Int × Int × Unit) × Nat) := View.slice 2 Tryz.underlying50 (by kernel_rfl) (by decide) vEd
noncomputable def xen9 : View Tryz.prog 22 (List (List (Int × Int × Unit) × Nat) × Nat) := View.slice 1 Tryz.underlying22 (by kernel_rfl) (by decide) vRow
noncomputable def wen9 : View Tryz.prog 24 (Int × Int × (List (List (Int × Int × Unit) × Nat) × Nat) × Unit) := View.struct 3 Tryz.underlying24 (by kernel_rfl)
 (FView.cons 1 rfl (by kernel_rfl) (View.int .i64 Tryz.underlying3) (FView.cons 1 rfl (by kernel_rfl) (View.int .i64 Tryz.underlying3) (FView.cons 1 rfl (by kernel_rfl) xen9 (FView.nil (l'd 3)))))
noncomputable def xeq9 : View Tryz.prog 27 (List UInt8 × (Int × Int × (List (List (Int × Int × Unit) × Nat) × Nat) × Unit) × (List (List UInt8) × Nat) × (List (List UInt8) × Nat) × (List (List UInt8) × Nat) × Unit) := View.struct 7 Tryz.underlying27 (by kernel_rfl)
 (FView.cons 1 rfl (by kernel_rfl) vBs (FView.cons 3 rfl (by kernel_rfl) wen9 (FView.cons 1 rfl (by kernel_rfl) wdy9 (FView.cons 1 rfl (by kernel_rfl) wdy9 (FView.cons 1 rfl (by kernel_rfl) wdy9 (FView.nil (l'd 7)))))))
def weq9 (p : List (Int × Int × Unit) × Nat) : Row := (p.1.map fun e => (e.1, e.2.1), some p.2)
end Go.Proofs.YtlpjemobbjijdaaGreatDoor
