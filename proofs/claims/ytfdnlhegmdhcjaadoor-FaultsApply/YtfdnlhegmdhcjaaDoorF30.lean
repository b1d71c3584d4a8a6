import Derived.Test.YtfdnlhegmdhcjaaDoorFB
import Derived.Test.YtfdnlhegmdhcjaaDoorF2
import Derived.Test.YtfdnlhegmdhcjaaDoorV54
import Derived.Test.YtfdnlhegmdhcjaaDoorCards
import Derived.Test.YtfdnlhegmdhcjaaDoorTie
import Derived.ProofKit
import Derived.OpenShut
import Derived.Below
import Derived.ChangeSame
import Derived.Deep.DeepHandedRow
import Derived.Deep.DeepWitnessRowRef
import Derived.Lib.LaidIn
import Derived.Lib.LaidTab
import Derived.Stop.LaidErr
import Derived.Shelf.Vars
import Derived.LaidLaws
namespace Go.Proofs.YtfdnlhegmdhcjaaDoor
open Go Go.V Go.ChangeShapes Go.WideShapes Go.ChangeAt Go.RowKit
set_option linter.unusedVariables false
set_option maxRecDepth 100000
theorem own : ownKnob Tryd.prog.godebug = none := by kernel_rfl
theorem laidOut : laidOutB Tryd.prog = true := by kernel_rfl
theorem star : "*" ++ "errors.errorString" = "*errors.errorString" := by decide
theorem rowErr (u : TypeId) (h : Tryd.prog.typeName? 3 u = some "*errors.errorString") : u = 173 :=
 typeName_ptr_named (nm := "errors.errorString") (by rw [star]; kernel_rfl) (by kernel_rfl) (by decide) u (by rw [star]; exact h)
abbrev laid0 : List (String × DataW Unit) := Rows.faultsAllRow.laid
theorem cells_of_var {W : World} {n : String} {g : Nat} {cs : Array Value} (hn : Tryd.prog.globalNamed n = some g) (h : W.var? Tryd.prog n = some cs) : ∃ t fr, W.heap[g]? = some (.cells cs t fr) := by
 unfold World.var? at h
 rw [hn, Option.bind_some] at h
 split at h
 ·rename_i c t fr e
  injection h with h; subst h
  exact ⟨t, fr, e⟩
 ·cases h
theorem relL_ints (E : Env) (k : IntKind) : ∀ zs : List Int, RelL E (zs.map fun z => AV.int k z) (zs.map fun z => Value.int k z)
 | [] => rfl
 | z :: zs => ⟨_, _, rfl, rfl, relL_ints E k zs⟩
theorem globs_of {W : World} (hL : laidMet Tryd.prog laid0 W) (hS : W.ShapedOpen Tryd.prog) : Globs G0 (fun k => W.heap[k]?) := by
 obtain ⟨a1, s1, hv1, _⟩ := laid_sentinel (g := 1) (hL.tail.tail.tail.tail.tail) (by kernel_rfl) (by kernel_rfl) Tryd.underlying108 rowErr Tryd.underlying173 Tryd.underlying175 rfl rfl Tryd.underlying9 (by kernel_rfl) (by kernel_rfl)
 obtain ⟨t1, f1, e1⟩ := cells_of_var (g := 1) (by kernel_rfl) hv1
 obtain ⟨a2, s2, hv2, _⟩ := laid_sentinel (g := 2) (hL.tail.tail.tail.tail) (by kernel_rfl) (by kernel_rfl) Tryd.underlying108 rowErr Tryd.underlying173 Tryd.underlying175 rfl rfl Tryd.underlying9 (by kernel_rfl) (by kernel_rfl)
 obtain ⟨t2, f2, e2⟩ := cells_of_var (g := 2) (by kernel_rfl) hv2
 have ht : Lib.TabIs Tryd.prog W "internal/strconv.uint64pow10" .u64 Lib.pow10Tab :=
  Lib.tabIs_of_head (g := 3) (by kernel_rfl) (by kernel_rfl) Tryd.underlying167 Tryd.underlying146 (by kernel_rfl) (by kernel_rfl) (hL.tail.tail)
 obtain ⟨t3, f3, e3⟩ := cells_of_var (g := 3) (by kernel_rfl) ht
 obtain ⟨zero, t, h0, hz, hb, hc, hu⟩ : ∃ zero t, ((begin Tryd.prog (fun _ _ => 0) default).world.heap[4]?).bind Obj.row? = some (zero, t) ∧ zero.size = 1 ∧ Tryd.prog.buildable t = true ∧ Tryd.prog.cellTypes Tryd.prog.depth t = some [t] ∧ Tryd.prog.underlying t = some (.int .i64) :=
  ⟨#[.int .i64 0], 3, by kernel_rfl, rfl, by kernel_rfl, by kernel_rfl, Tryd.underlying3⟩
 obtain ⟨cs, hh, hs, hr⟩ := hS.1 4 zero t (of_decide_eq_true (by kernel_rfl)) h0
 obtain ⟨m, hm⟩ := cell_of_shapedOpen_int hS (of_decide_eq_true (by kernel_rfl)) h0 hz hb hc hu
 obtain ⟨u, rfl⟩ : ∃ u, cs = #[u] := by
  obtain ⟨l⟩ := cs
  rw [hz] at hs
  match l, hs with
  | [u], _ => exact ⟨u, rfl⟩
 have hu3 : u = .int .i64 m := by
  simp [World.cell?, hh] at hm
  exact hm
 subst hu3
 have hz0 : W.var? Tryd.prog "gauntlet/faults.table" = some (([([111, 117, 116, 112, 117, 116], false, false, true), ([116, 114, 97, 110, 115, 102, 101, 114], true, false, false), ([109, 105, 115, 115, 105, 110, 103], false, false, false), ([101, 120, 116, 114, 97], true, false, false), ([100, 101, 101, 112], false, true, true)] : List Kd).flatMap kdCells).toArray :=
  kds_of_head (g := 0) (by kernel_rfl) (by kernel_rfl) Tryd.underlying82 Tryd.underlying81 ⟨rfl, rfl⟩ ⟨rfl, rfl⟩ ⟨rfl, rfl⟩ ⟨rfl, rfl⟩ Tryd.underlying9 Tryd.underlying4 (by kernel_rfl) (by kernel_rfl) (by kernel_rfl) (by kernel_rfl) (hL.tail.tail.tail.tail.tail.tail)
 obtain ⟨t0, f0, e0⟩ := cells_of_var (g := 0) (by kernel_rfl) hz0
 intro g cs hg
 match g, hg with
 | 0, hg =>
  injection hg with hg; subst hg
  exact ⟨([([111, 117, 116, 112, 117, 116], false, false, true), ([116, 114, 97, 110, 115, 102, 101, 114], true, false, false), ([109, 105, 115, 115, 105, 110, 103], false, false, false), ([101, 120, 116, 114, 97], true, false, false), ([100, 101, 101, 112], false, true, true)] : List Kd).flatMap kdCells, t0, f0, e0, relL_kds _ [([111, 117, 116, 112, 117, 116], false, false, true), ([116, 114, 97, 110, 115, 102, 101, 114], true, false, false), ([109, 105, 115, 115, 105, 110, 103], false, false, false), ([101, 120, 116, 114, 97], true, false, false), ([100, 101, 101, 112], false, true, true)], oneCell_kds _⟩
 | 1, hg =>
  injection hg with hg; subst hg
  exact ⟨[.iface 173 (.pointer (some a1))], t1, f1, e1, ⟨_, _, rfl, ⟨_, _, rfl⟩, rfl⟩, by simp [Value.oneCell']⟩
 | 2, hg =>
  injection hg with hg; subst hg
  exact ⟨[.iface 173 (.pointer (some a2))], t2, f2, e2, ⟨_, _, rfl, ⟨_, _, rfl⟩, rfl⟩, by simp [Value.oneCell']⟩
 | 3, hg =>
  injection hg with hg; subst hg
  exact ⟨Lib.pow10Tab.map fun z => Value.int .u64 z, t3, f3, e3, relL_ints _ _ _, fun u hu => by
   obtain ⟨z, _, rfl⟩ := List.mem_map.1 hu; rfl⟩
 | 4, hg =>
  injection hg with hg; subst hg
  exact ⟨[.int .i64 m], _, _, hh, ⟨_, _, rfl, ⟨m, rfl⟩, rfl⟩, by simp [Value.oneCell']⟩
noncomputable def laidWorld (os : Os) : World :=
 let N := (World.settled Tryd.prog os).heap.size
 let w0 := World.holding Tryd.prog os ⟨#[.cells #[.string ⟨#[105, 110, 118, 97, 108, 105, 100, 32, 115, 121, 110, 116, 97, 120]⟩] 175, .cells #[.string ⟨#[118, 97, 108, 117, 101, 32, 111, 117, 116, 32, 111, 102, 32, 114, 97, 110, 103, 101]⟩] 175], #[], []⟩
 let put (h : Array Obj) (g : Nat) (cs : Array Value) : Array Obj := h.modify g fun
  | .cells _ t frozen => .cells cs t frozen
  | o => o
 let u8 (l : List Int) : Array Value := (l.map fun z => Value.int .u8 z).toArray
 let h0 := put w0.heap 7 (u8 [0, 1, 28, 2, 29, 14, 24, 3, 30, 22, 20, 15, 25, 17, 4, 8, 31, 27, 13, 23, 21, 19, 16, 7, 26, 12, 18, 6, 11, 5, 10, 9])
 let h1 := put h0 8 (u8 [0, 1, 56, 2, 57, 49, 28, 3, 61, 58, 42, 50, 38, 29, 17, 4, 62, 47, 59, 36, 45, 43, 51, 22, 53, 39, 33, 30, 24, 18, 12, 5, 63, 55, 48, 27, 60, 41, 37, 16, 46, 35, 44, 21, 52, 32, 23, 11, 54, 26, 40, 15, 34, 20, 31, 10, 25, 14, 19, 9, 13, 8, 7, 6])
 let h2 := put h1 3 ((Lib.pow10Tab.map fun z => Value.int .u64 z).toArray)
 let h3 := put h2 6 (u8 [128, 191, 160, 191, 128, 159, 144, 191, 128, 143, 0, 0, 0, 0, 0, 0, 0, 0, 0, 0, 0, 0, 0, 0, 0, 0, 0, 0, 0, 0, 0, 0])
 let h4 := put h3 2 #[.iface 173 (.pointer (some ⟨N + 1, 0, none⟩))]
 let h5 := put h4 1 #[.iface 173 (.pointer (some ⟨N + 0, 0, none⟩))]
 let h6 := put h5 0 #[.string ⟨#[111, 117, 116, 112, 117, 116]⟩, .bool false, .bool false, .bool true, .string ⟨#[116, 114, 97, 110, 115, 102, 101, 114]⟩, .bool true, .bool false, .bool false, .string ⟨#[109, 105, 115, 115, 105, 110, 103]⟩, .bool false, .bool false, .bool false, .string ⟨#[101, 120, 116, 114, 97]⟩, .bool true, .bool false, .bool false, .string ⟨#[100, 101, 101, 112]⟩, .bool false, .bool true, .bool true]
 let h7 := put h6 5 (u8 (Go.Pinned.utf8FirstZ.map Int.ofNat))
 { w0 with heap := h7 }
noncomputable abbrev N0 : Nat := (World.settled Tryd.prog default).heap.size
theorem laid_met (os : Os) (args : Array Value) : laidMet Tryd.prog laid0 ((laidWorld os).forCall (fun _ _ => 0) ⟨#[], args, []⟩).memory :=
 (LaidIn.of_run [7, 8, 3, 6, 2, 1, 0, 5, N0 + 0, N0 + 1] 8 (by kernel_rfl) (by kernel_rfl) (by kernel_rfl) (by kernel_rfl)).met
theorem law_end {H : Type} {enc : TypeId × Value → H} {f : Func} {s : ChangeSpec} {W W' : World} {args : Array Value} {ds : List (DataW H)} {before : List MemPlace} (hv : s.vars = []) (hr : f.resultTypes = #[4])
  (hres : (s.fn H (ds ++ [])).results = [.lit (.bool true)]) (hargs : (s.fn H (ds ++ [])).args = ds) (hvs : (s.fn H (ds ++ [])).vars = [])
  (hp : (f.params.toList.all fun t => Tryd.prog.readableRec t && decide (t < Tryd.prog.types.size)) = true)
  (hW : DataW.Whole enc Tryd.prog f.params.toList s.vars false W args.toList ds [] before) (hb : Go.RowKit.Below W.heap.size W W') :
  s.post enc Tryd.prog f false true false false W args (.bool true) W' := by
 have hW' := hW
 have hlt : ∀ p ∈ before, p.block < W.heap.size := fun p hp => hW.lt p hp
 obtain ⟨p, q, hA, hV, rfl, hz, hn⟩ := hW
 rw [hv] at hV
 obtain ⟨_, rfl⟩ := trodVars_none hV
 rw [List.append_nil] at *
 have hA' : ∀ sp : Nat → Bool, (∀ x ∈ p, sp x.block = true) → DataW.TrodAll enc Tryd.prog W' 0 sp true f.params.toList args.toList ds p := fun sp hs => trodAll_stays laidOut hb hp hA hlt hs
 have hR : ∀ (b : Nat) (sp : Nat → Bool) (hd : Bool), DataW.TrodAll enc Tryd.prog W' b sp hd f.resultTypes.toList ((Value.bool true).resultList f.resultTypes.size) [.lit (.bool true)] [] := fun b sp hd => by
  rw [hr]; exact trodAll_mk1 (shut_bool Tryd.underlying4 true)
 have hold : ∀ x ∈ p, (fun b => decide (b < W.heap.size)) x.block = true := fun x hx => by simpa using hlt x hx
 refine ⟨ds, [], p, [], p, [], hW', by rw [List.append_nil, hres]; exact hR _ _ _, by rw [List.append_nil, hargs]; exact hA' _ hold, by rw [List.append_nil, hvs, hv]; exact rfl, World.keptBut_mono (fun x hx => ⟨hx, .inr (.inl hx)⟩) (hb.frame (· ∈ p)), fun h => by cases h⟩
theorem arg_aggr {P : Program} {H : Type} {enc : TypeId × Value → H} {w : World} {base : Nat} {t : TypeId} {v : Value} {d : DataW H} {ps : List MemPlace} {α : Type} {fs : Array Field} (V : View P t α) (hu : P.underlying t = some (.struct fs)) (hw : Value.okWide P w .any base t v) (h : DataW.Trod enc P w 0 (fun _ => true) true t v d ps) : ∃ y, V.ok y ∧ Rel (EnvW w) (.agg (V.to y)) v := by
 unfold Value.okWide at hw
 rw [hu] at hw
 obtain ⟨cs, rfl, _⟩ := hw
 obtain ⟨fuel, h⟩ := h
 obtain ⟨y, q1, q2, q3⟩ := V.get h
 refine ⟨y, q1, ?_⟩
 simp only [Rel]
 exact ⟨cs.toList, by simp, q2, q3⟩
theorem nats_of {p : Int → Prop} {b : Nat} (hp : ∀ n, p n → ∃ m : Nat, n = m ∧ m < b) : ∀ (l : List Int), (∀ n ∈ l, p n) → ∃ r : List Nat, l = r.map (fun (n : Nat) => (n : Int)) ∧ ∀ n ∈ r, n < b
 | [], _ => ⟨[], rfl, fun _ h => by cases h⟩
 | x :: l, h => by
  obtain ⟨m, hm, hb⟩ := hp x (h x (List.mem_cons_self ..))
  obtain ⟨r, hr, hrb⟩ := nats_of hp l fun n hn => h n (List.mem_cons_of_mem _ hn)
  refine ⟨m :: r, by rw [hm, hr]; rfl, fun n hn => ?_⟩
  rcases List.mem_cons.1 hn with rfl|q
  ·exact hb
  ·exact hrb n q
theorem wf_u8 {n : Int} (h : (Lit.int .u8 n).wf = true) : ∃ m : Nat, n = m ∧ m < 256 := by
 have e1 : IntKind.u8.min = 0 := rfl
 have e2 : IntKind.u8.max = 255 := rfl
 simp [Lit.wf, e1, e2] at h
 exact ⟨n.toNat, by omega, by omega⟩
theorem wf_u16 {n : Int} (h : (Lit.int .u16 n).wf = true) : ∃ m : Nat, n = m ∧ m < 65536 := by
 have e1 : IntKind.u16.min = 0 := rfl
 have e2 : IntKind.u16.max = 65535 := rfl
 simp [Lit.wf, e1, e2] at h
 exact ⟨n.toNat, by omega, by omega⟩
noncomputable def vInts : View Tryd.prog 50 (List Int × Nat) := View.slice 1 Tryd.underlying50 (by kernel_rfl) (by decide) (View.int .i64 Tryd.underlying3)
noncomputable def vU16s : View Tryd.prog 22 (List Int × Nat) := View.slice 1 Tryd.underlying22 (by kernel_rfl) (by decide) (View.int .u16 Tryd.underlying25)
noncomputable def vM : View Tryd.prog 24 (Int × Int × Int × Bool × (List Int × Nat) × Unit) := View.struct 5 Tryd.underlying24 (by kernel_rfl)
 (FView.cons 1 rfl (by kernel_rfl) (View.int .u8 Tryd.underlying5) (FView.cons 1 rfl (by kernel_rfl) (View.int .u8 Tryd.underlying5) (FView.cons 1 rfl (by kernel_rfl) (View.int .u8 Tryd.underlying5) (FView.cons 1 rfl (by kernel_rfl) (View.bool Tryd.underlying4) (FView.cons 1 rfl (by kernel_rfl) vU16s (FView.nil (Nat.le_refl 5)))))))
theorem md_of {y : Int × Int × Int × Bool × (List Int × Nat) × Unit} (h : vM.ok y) : ∃ (x : MD) (c : Nat), x.Ok ∧ vM.to y = mdC x 1 (some c) := by
 obtain ⟨a, b, c, p, ⟨l, n⟩, _⟩ := y
 obtain ⟨h1, h2, h3, _, ⟨h4, _, _⟩, _⟩ := h
 obtain ⟨a', rfl, ha⟩ := wf_u8 h1
 obtain ⟨b', rfl, hb⟩ := wf_u8 h2
 obtain ⟨c', rfl, hc⟩ := wf_u8 h3
 obtain ⟨r, rfl, hr⟩ := nats_of (fun n (hn : (Lit.int .u16 n).wf = true) => wf_u16 hn) l h4
 refine ⟨⟨a', b', c', p, r⟩, n, ⟨ha, hb, hc, hr⟩, ?_⟩
 show [AV.int .u8 (a' : Int)] ++ ([AV.int .u8 (b' : Int)] ++ ([AV.int .u8 (c' : Int)] ++ ([AV.bool p] ++ ([AV.sl 1 ((r.map fun (n : Nat) => (n : Int)).map fun n => [AV.int .u16 n]) (some n)] ++ [])))) = _
 simp [mdC, u16s, Function.comp_def]
theorem arg_M {H : Type} {enc : TypeId × Value → H} {W : World} {base : Nat} {v : Value} {d : DataW H} {ps : List MemPlace} (hw : Value.okWide Tryd.prog W .any base 24 v) (h : DataW.Trod enc Tryd.prog W 0 (fun _ => true) true 24 v d ps) :
  ∃ (x : MD) (c : Nat), x.Ok ∧ Rel (EnvW W) (.agg (mdC x 1 (some c))) v := by
 obtain ⟨y, q1, q4⟩ := arg_aggr vM Tryd.underlying24 hw h
 obtain ⟨x, c, hx, he⟩ := md_of q1
 exact ⟨x, c, hx, he ▸ q4⟩
noncomputable def vU8 : View Tryd.prog 5 Int := View.int .u8 Tryd.underlying5
noncomputable def vF : View Tryd.prog 27 (Int × Unit) := View.struct 1 Tryd.underlying27 (by kernel_rfl) (FView.cons 1 rfl (by kernel_rfl) (View.int .u16 Tryd.underlying25) (FView.nil (Nat.le_refl 1)))
theorem arg_F {H : Type} {enc : TypeId × Value → H} {W : World} {base : Nat} {v : Value} {d : DataW H} {ps : List MemPlace} (hw : Value.okWide Tryd.prog W .any base 27 v) (h : DataW.Trod enc Tryd.prog W 0 (fun _ => true) true 27 v d ps) :
  ∃ n : Nat, n < 65536 ∧ Rel (EnvW W) (.agg [.int .u16 (n : Int)]) v := by
 obtain ⟨y, q1, q4⟩ := arg_aggr vF Tryd.underlying27 hw h
 obtain ⟨y, _⟩ := y
 obtain ⟨m, rfl, hm⟩ := wf_u16 q1.1
 exact ⟨m, hm, q4⟩
noncomputable def vFlt : View Tryd.prog 33 (Int × Int × Int × Int × Int × Int × Unit) := View.struct 6 Tryd.underlying33 (by kernel_rfl)
 (FView.cons 1 rfl (by kernel_rfl) (View.int .i64 Tryd.underlying3) (FView.cons 1 rfl (by kernel_rfl) (View.int .i64 Tryd.underlying3) (FView.cons 1 rfl (by kernel_rfl) (View.int .i64 Tryd.underlying3) (FView.cons 1 rfl (by kernel_rfl) (View.int .i64 Tryd.underlying3) (FView.cons 1 rfl (by kernel_rfl) (View.int .i64 Tryd.underlying3) (FView.cons 1 rfl (by kernel_rfl) (View.int .i64 Tryd.underlying3) (FView.nil (Nat.le_refl 6))))))))
noncomputable def vEd : View Tryd.prog 46 (Int × Int × Unit) := View.struct 2 Tryd.underlying46 (by kernel_rfl) (FView.cons 1 rfl (by kernel_rfl) (View.int .i64 Tryd.underlying3) (FView.cons 1 rfl (by kernel_rfl) (View.int .i64 Tryd.underlying3) (FView.nil (Nat.le_refl 2))))
noncomputable def vRow : View Tryd.prog 44 (List (Int × Int × Unit) × Nat) := View.slice 2 Tryd.underlying44 (by kernel_rfl) (by decide) vEd
noncomputable def vRows : View Tryd.prog 28 (List (List (Int × Int × Unit) × Nat) × Nat) := View.slice 1 Tryd.underlying28 (by kernel_rfl) (by decide) vRow
noncomputable def vMach : View Tryd.prog 30 (Int × Int × (List (List (Int × Int × Unit) × Nat) × Nat) × Unit) := View.struct 3 Tryd.underlying30 (by kernel_rfl)
 (FView.cons 1 rfl (by kernel_rfl) (View.int .i64 Tryd.underlying3) (FView.cons 1 rfl (by kernel_rfl) (View.int .i64 Tryd.underlying3) (FView.cons 1 rfl (by kernel_rfl) vRows (FView.nil (Nat.le_refl 3)))))
def rowOf (p : List (Int × Int × Unit) × Nat) : Row := (p.1.map fun e => (e.1, e.2.1), some p.2)
end Go.Proofs.YtfdnlhegmdhcjaaDoor
