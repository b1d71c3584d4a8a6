import Derived.Test.YtcoakjnmnommpaaDoorA15
import Derived.Lib.TrailingZeros
import Derived.Test.YtcoakjnmnommpaaDoorCards
import Derived.Test.YtcoakjnmnommpaaDoorTie
import Derived.ProofKit
import Derived.OpenShut
import Derived.Below
import Derived.ChangeSame
import Derived.Deep.DeepHandedRow
import Derived.Deep.DeepWitnessRowRef
import Derived.Lib.LaidIn
import Derived.Lib.LaidTab
import Derived.Stop.LaidErr
import Derived.Shelf.Vars
import Derived.LaidLaws
namespace Go.Proofs.YtcoakjnmnommpaaDoor
open Go Go.V Go.ChangeShapes Go.WideShapes Go.ChangeAt Go.RowKit
set_option linter.unusedVariables false
set_option maxRecDepth 100000
theorem own : ownKnob Tryd.prog.godebug = none := by kernel_rfl
theorem vdu9 : laidOutB Tryd.prog = true := by kernel_rfl
theorem star : "*" ++ "errors.errorString" = "*errors.errorString" := by decide
theorem xdb9 (u : TypeId) (h : Tryd.prog.typeName? 3 u = some "*errors.errorString") : u = 164 :=
 typeName_ptr_named (nm := "errors.errorString") (by rw [star]; kernel_rfl) (by kernel_rfl) (by decide) u (by rw [star]; exact h)
abbrev qdI9 : List (String × DataW Unit) := Rows.acceptorsNamesRow.laid
theorem xB0 {W : World} {n : String} {g : Nat} {cs : Array Value} (hn : Tryd.prog.globalNamed n = some g) (h : W.var? Tryd.prog n = some cs) : ∃ t fr, W.heap[g]? = some (.cells cs t fr) := by
 unfold World.var? at h
 rw [hn, Option.bind_some] at h
 split at h
 ·rename_i c t fr e
  injection h with h; subst h
  exact ⟨t, fr, e⟩
 ·cases h
theorem qaC9 (E : Env) (k : IntKind) : ∀ zs : List Int, RelL E (zs.map fun z => AV.int k z) (zs.map fun z => Value.int k z)
 | [] => rfl
 | z :: zs => ⟨_, _, rfl, rfl, qaC9 E k zs⟩
theorem kcW9 {W : World} (hL : laidMet Tryd.prog qdI9 W) (hS : W.ShapedOpen Tryd.prog) : Globs G0 (fun k => W.heap[k]?) := by
 obtain ⟨a3, s3, hv3, _⟩ := laid_sentinel (g := 3) (hL.tail.tail.tail.tail.tail) (by kernel_rfl) (by kernel_rfl) Tryd.underlying85 xdb9 Tryd.underlying164 Tryd.underlying166 rfl rfl Tryd.underlying9 (by kernel_rfl) (by kernel_rfl)
 obtain ⟨t3, f3, e3⟩ := xB0 (g := 3) (by kernel_rfl) hv3
 obtain ⟨a4, s4, hv4, _⟩ := laid_sentinel (g := 4) (hL.tail.tail.tail.tail) (by kernel_rfl) (by kernel_rfl) Tryd.underlying85 xdb9 Tryd.underlying164 Tryd.underlying166 rfl rfl Tryd.underlying9 (by kernel_rfl) (by kernel_rfl)
 obtain ⟨t4, f4, e4⟩ := xB0 (g := 4) (by kernel_rfl) hv4
 have ht : Lib.TabIs Tryd.prog W "internal/strconv.uint64pow10" .u64 Lib.pow10Tab :=
  Lib.tabIs_of_head (g := 1) (by kernel_rfl) (by kernel_rfl) Tryd.underlying146 Tryd.underlying66 (by kernel_rfl) (by kernel_rfl) (hL.tail.tail)
 obtain ⟨t1, f1, e1⟩ := xB0 (g := 1) (by kernel_rfl) ht
 have hz : Lib.TabIs Tryd.prog W "math/bits.deBruijn64tab" .u8 (Lib.deBruijn64tab.map Int.ofNat) :=
  Lib.tabIs_of_head (g := 0) (by kernel_rfl) (by kernel_rfl) Tryd.underlying130 Tryd.underlying5 (by kernel_rfl) (by kernel_rfl) (hL.tail)
 obtain ⟨t0, f0, e0⟩ := xB0 (g := 0) (by kernel_rfl) hz
 obtain ⟨zero, t, h0, hz, hb, hc, hu⟩ : ∃ zero t, ((begin Tryd.prog (fun _ _ => 0) default).world.heap[2]?).bind Obj.row? = some (zero, t) ∧ zero.size = 1 ∧ Tryd.prog.buildable t = true ∧ Tryd.prog.cellTypes Tryd.prog.depth t = some [t] ∧ Tryd.prog.underlying t = some (.int .i64) :=
  ⟨#[.int .i64 0], 3, by kernel_rfl, rfl, by kernel_rfl, by kernel_rfl, Tryd.underlying3⟩
 obtain ⟨cs, hh, hs, hr⟩ := hS.1 2 zero t (of_decide_eq_true (by kernel_rfl)) h0
 obtain ⟨m, hm⟩ := cell_of_shapedOpen_int hS (of_decide_eq_true (by kernel_rfl)) h0 hz hb hc hu
 obtain ⟨u, rfl⟩ : ∃ u, cs = #[u] := by
  obtain ⟨l⟩ := cs
  rw [hz] at hs
  match l, hs with
  | [u], _ => exact ⟨u, rfl⟩
 have hu3 : u = .int .i64 m := by
  simp [World.cell?, hh] at hm
  exact hm
 subst hu3
 intro g cs hg
 match g, hg with
 | 0, hg =>
  injection hg with hg; subst hg
  exact ⟨(Lib.deBruijn64tab.map Int.ofNat).map fun z => Value.int .u8 z, t0, f0, e0, qaC9 _ _ (Lib.deBruijn64tab.map Int.ofNat), fun u hu => by
   obtain ⟨z, _, rfl⟩ := List.mem_map.1 hu; rfl⟩
 | 1, hg =>
  injection hg with hg; subst hg
  exact ⟨Lib.pow10Tab.map fun z => Value.int .u64 z, t1, f1, e1, qaC9 _ _ _, fun u hu => by
   obtain ⟨z, _, rfl⟩ := List.mem_map.1 hu; rfl⟩
 | 2, hg =>
  injection hg with hg; subst hg
  exact ⟨[.int .i64 m], _, _, hh, ⟨_, _, rfl, ⟨m, rfl⟩, rfl⟩, by simp [Value.oneCell']⟩
 | 3, hg =>
  injection hg with hg; subst hg
  exact ⟨[.iface 164 (.pointer (some a3))], t3, f3, e3, ⟨_, _, rfl, ⟨_, _, rfl⟩, rfl⟩, by simp [Value.oneCell']⟩
 | 4, hg =>
  injection hg with hg; subst hg
  exact ⟨[.iface 164 (.pointer (some a4))], t4, f4, e4, ⟨_, _, rfl, ⟨_, _, rfl⟩, rfl⟩, by simp [Value.oneCell']⟩
noncomputable def zaC9 (os : Os) : World :=
 let N := (World.settled Tryd.prog os).heap.size
 let w0 := World.holding Tryd.prog os ⟨#[.cells #[.string ⟨#[105, 110, 118, 97, 108, 105, 100, 32, 115, 121, 110, 116, 97, 120]⟩] 166, .cells #[.string ⟨#[118, 97, 108, 117, 101, 32, 111, 117, 116, 32, 111, 102, 32, 114, 97, 110, 103, 101]⟩] 166], #[], []⟩
 let put (h : Array Obj) (g : Nat) (cs : Array Value) : Array Obj := h.modify g fun
  | .cells _ t frozen => .cells cs t frozen
  | o => o
 let u8 (l : List Int) : Array Value := (l.map fun z => Value.int .u8 z).toArray
 let h0 := put w0.heap 7 (u8 [0, 1, 28, 2, 29, 14, 24, 3, 30, 22, 20, 15, 25, 17, 4, 8, 31, 27, 13, 23, 21, 19, 16, 7, 26, 12, 18, 6, 11, 5, 10, 9])
 let h1 := put h0 0 (u8 [0, 1, 56, 2, 57, 49, 28, 3, 61, 58, 42, 50, 38, 29, 17, 4, 62, 47, 59, 36, 45, 43, 51, 22, 53, 39, 33, 30, 24, 18, 12, 5, 63, 55, 48, 27, 60, 41, 37, 16, 46, 35, 44, 21, 52, 32, 23, 11, 54, 26, 40, 15, 34, 20, 31, 10, 25, 14, 19, 9, 13, 8, 7, 6])
 let h2 := put h1 1 ((Lib.pow10Tab.map fun z => Value.int .u64 z).toArray)
 let h3 := put h2 6 (u8 [128, 191, 160, 191, 128, 159, 144, 191, 128, 143, 0, 0, 0, 0, 0, 0, 0, 0, 0, 0, 0, 0, 0, 0, 0, 0, 0, 0, 0, 0, 0, 0])
 let h4 := put h3 4 #[.iface 164 (.pointer (some ⟨N + 1, 0, none⟩))]
 let h5 := put h4 3 #[.iface 164 (.pointer (some ⟨N + 0, 0, none⟩))]
 let h6 := put h5 5 (u8 (Go.Pinned.utf8FirstZ.map Int.ofNat))
 { w0 with heap := h6 }
noncomputable abbrev N0 : Nat := (World.settled Tryd.prog default).heap.size
theorem qcX9 (os : Os) (args : Array Value) : laidMet Tryd.prog qdI9 ((zaC9 os).forCall (fun _ _ => 0) ⟨#[], args, []⟩).memory :=
 (LaidIn.of_run [7, 0, 1, 6, 4, 3, 5, N0 + 0, N0 + 1] 8 (by kernel_rfl) (by kernel_rfl) (by kernel_rfl) (by kernel_rfl)).met
theorem kdu9 {H : Type} {enc : TypeId × Value → H} {f : Func} {s : ChangeSpec} {W W' : World} {args : Array Value} {ds : List (DataW H)} {before : List MemPlace} (hv : s.vars = []) (hr : f.resultTypes = #[4])
  (hres : (s.fn H (ds ++ [])).results = [.lit (.bool true)]) (hargs : (s.fn H (ds ++ [])).args = ds) (hvs : (s.fn H (ds ++ [])).vars = [])
  (hp : (f.params.toList.all fun t => Tryd.prog.readableRec t && decide (t < Tryd.prog.types.size)) = true)
  (hW : DataW.Whole enc Tryd.prog f.params.toList s.vars false W args.toList ds [] before) (hb : Go.RowKit.Below W.heap.size W W') :
  s.post enc Tryd.prog f false true false false W args (.bool true) W' := by
 have hW' := hW
 have hlt : ∀ p ∈ before, p.block < W.heap.size := fun p hp => hW.lt p hp
 obtain ⟨p, q, hA, hV, rfl, hz, hn⟩ := hW
 rw [hv] at hV
 obtain ⟨_, rfl⟩ := trodVars_none hV
 rw [List.append_nil] at *
 have hA' : ∀ sp : Nat → Bool, (∀ x ∈ p, sp x.block = true) → DataW.TrodAll enc Tryd.prog W' 0 sp true f.params.toList args.toList ds p := fun sp hs => zY0 vdu9 hb hp hA hlt hs
 have hR : ∀ (b : Nat) (sp : Nat → Bool) (hd : Bool), DataW.TrodAll enc Tryd.prog W' b sp hd f.resultTypes.toList ((Value.bool true).resultList f.resultTypes.size) [.lit (.bool true)] [] := fun b sp hd => by
  rw [hr]; exact trodAll_mk1 (shut_bool Tryd.underlying4 true)
 have hold : ∀ x ∈ p, (fun b => decide (b < W.heap.size)) x.block = true := fun x hx => by simpa using hlt x hx
 refine ⟨ds, [], p, [], p, [], hW', by rw [List.append_nil, hres]; exact hR _ _ _, by rw [List.append_nil, hargs]; exact hA' _ hold, by rw [List.append_nil, hvs, hv]; exact rfl, World.keptBut_mono (fun x hx => ⟨hx, .inr (.inl hx)⟩) (hb.frame (· ∈ p)), fun h => by cases h⟩
theorem zcX9 {P : Program} {H : Type} {enc : TypeId × Value → H} {w : World} {base : Nat} {t : TypeId} {v : Value} {d : DataW H} {ps : List MemPlace} {α : Type} {fs : Array Field} (V : View P t α) (hu : P.underlying t = some (.struct fs)) (hw : Value.okWide P w .any base t v) (h : DataW.Trod enc P w 0 (fun _ => true) true t v d ps) : ∃ y, V.ok y ∧ Rel (EnvW w) (.agg (V.to y)) v := by
 unfold Value.okWide at hw
 rw [hu] at hw
 obtain ⟨cs, rfl, _⟩ := hw
 obtain ⟨fuel, h⟩ := h
 obtain ⟨y, q1, q2, q3⟩ := V.get h
 refine ⟨y, q1, ?_⟩
 simp only [Rel]
 exact ⟨cs.toList, by simp, q2, q3⟩
theorem xby9 {n : Int} (h : (Lit.int .u8 n).wf = true) : ∃ m : Nat, n = m ∧ m < 256 := by
 have e1 : IntKind.u8.min = 0 := rfl
 have e2 : IntKind.u8.max = 255 := rfl
 simp [Lit.wf, e1, e2] at h
 exact ⟨n.toNat, by omega, by omega⟩
def zdT9 {P : Program} {t e : TypeId} {α : Type} (c : Nat) (hu : P.underlying t = some (.array 3 e)) (hc : P.cellsOf e = c) (ht : P.cellsOf t = c + c + c) (v : View P e α) : View P t (α × α × α) where
 to y := v.to y.1 ++ (v.to y.2.1 ++ v.to y.2.2)
 ok y := v.ok y.1 ∧ v.ok y.2.1 ∧ v.ok y.2.2
 get {H enc w fuel cs x} h := by
  obtain ⟨xs, m, rfl, _, h1, h2, h3⟩ := DataW.trod_array hu h
  have a0 := h3 0 (by omega)
  have a1 := h3 1 (by omega)
  have a2 := h3 2 (by omega)
  rw [hc, List.getElem?_eq_getElem (by omega)] at a0 a1 a2
  rw [Nat.zero_mul, List.drop_zero] at a0
  rw [Nat.one_mul] at a1
  rw [List.take_of_length_le (by rw [List.length_drop]; omega)] at a2
  obtain ⟨y1, q1, q2, q3⟩ := v.get a0
  obtain ⟨y2, p1, p2, p3⟩ := v.get a1
  obtain ⟨y3, r1, r2, r3⟩ := v.get a2
  have e : cs = cs.take c ++ ((cs.drop c).take c ++ cs.drop (2 * c)) := by
   rw [show 2 * c = c + c by omega, ← List.drop_drop, List.take_append_drop, List.take_append_drop]
  refine ⟨(y1, y2, y3), ⟨q1, p1, r1⟩, ?_, ?_⟩
  ·rw [e]; exact q2.append (p2.append r2)
  ·rw [e]; intro u hu
   rcases List.mem_append.1 hu with q|q
   ·exact q3 u q
   ·rcases List.mem_append.1 q with q|q
    ·exact p3 u q
    ·exact r3 u q
noncomputable def vArc : View Tryd.prog 33 (Int × Int × Int) := zdT9 1 Tryd.underlying33 (by kernel_rfl) (by kernel_rfl) (View.int .u8 Tryd.underlying5)
noncomputable def xdT9 : View Tryd.prog 22 (List (Int × Int × Int) × Nat) := View.slice 3 Tryd.underlying22 (by kernel_rfl) (by decide) vArc
noncomputable def vN : View Tryd.prog 24 (Int × Int × (List (Int × Int × Int) × Nat) × Int × Int × Unit) := View.struct 5 Tryd.underlying24 (by kernel_rfl)
 (FView.cons 1 rfl (by kernel_rfl) (View.int .u8 Tryd.underlying5) (FView.cons 1 rfl (by kernel_rfl) (View.int .u8 Tryd.underlying5) (FView.cons 1 rfl (by kernel_rfl) xdT9 (FView.cons 1 rfl (by kernel_rfl) (View.int .u8 Tryd.underlying5) (FView.cons 1 rfl (by kernel_rfl) (View.int .u8 Tryd.underlying5) (FView.nil (Nat.le_refl 5)))))))
theorem zcB9 : ∀ (l : List (Int × Int × Int)), (∀ e ∈ l, vArc.ok e) → ∃ r : List (Nat × Nat × Nat), l = r.map (fun e => ((e.1 : Int), (e.2.1 : Int), (e.2.2 : Int))) ∧ ∀ e ∈ r, e.1 < 256 ∧ e.2.1 < 256 ∧ e.2.2 < 256
 | [], _ => ⟨[], rfl, fun _ h => by cases h⟩
 | x :: l, h => by
  obtain ⟨h1, h2, h3⟩ := h x (List.mem_cons_self ..)
  obtain ⟨a, ha, hab⟩ := xby9 h1
  obtain ⟨b, hb, hbb⟩ := xby9 h2
  obtain ⟨c, hc, hcb⟩ := xby9 h3
  obtain ⟨r, hr, hrb⟩ := zcB9 l fun n hn => h n (List.mem_cons_of_mem _ hn)
  refine ⟨(a, b, c) :: r, ?_, fun n hn => ?_⟩
  ·rw [hr, List.map_cons, ← ha, ← hb, ← hc]
  ·rcases List.mem_cons.1 hn with rfl|q
   ·exact ⟨hab, hbb, hcb⟩
   ·exact hrb n q
theorem wdT9 {y : Int × Int × (List (Int × Int × Int) × Nat) × Int × Int × Unit} (h : vN.ok y) : ∃ (x : ND) (c : Nat), x.Ok ∧ vN.to y = ndC x 3 (some c) := by
 obtain ⟨a, b, ⟨l, n⟩, p, q, _⟩ := y
 obtain ⟨h1, h2, ⟨h4, h5, h6⟩, h7, h8, _⟩ := h
 obtain ⟨a', rfl, ha⟩ := xby9 h1
 obtain ⟨b', rfl, hb⟩ := xby9 h2
 obtain ⟨p', rfl, hp⟩ := xby9 h7
 obtain ⟨q', rfl, hq⟩ := xby9 h8
 obtain ⟨r, rfl, hr⟩ := zcB9 l h4
 have h5 : (r.map (fun (e : Nat × Nat × Nat) => ((e.1 : Int), (e.2.1 : Int), (e.2.2 : Int)))).length ≤ n := h5
 have h6 : n ≤ maxLen := h6
 rw [List.length_map] at h5
 have hmx : maxLen = 9223372036854775807 := rfl
 have hgoal : r.length ≤ 9223372036854775807 := by omega
 refine ⟨⟨a', b', r, p', q'⟩, n, ⟨ha, hb, hp, hq, hr, hgoal⟩, ?_⟩
 show [AV.int .u8 (a' : Int)] ++ ([AV.int .u8 (b' : Int)] ++ ([AV.sl 3 ((r.map fun (e : Nat × Nat × Nat) => ((e.1 : Int), (e.2.1 : Int), (e.2.2 : Int))).map fun e => [AV.int .u8 e.1] ++ ([AV.int .u8 e.2.1] ++ [AV.int .u8 e.2.2])) (some n)] ++ ([AV.int .u8 (p' : Int)] ++ ([AV.int .u8 (q' : Int)] ++ [])))) = _
 simp [ndC, qad9, Function.comp_def]
theorem vdT9 {H : Type} {enc : TypeId × Value → H} {W : World} {base : Nat} {v : Value} {d : DataW H} {ps : List MemPlace} (hw : Value.okWide Tryd.prog W .any base 24 v) (h : DataW.Trod enc Tryd.prog W 0 (fun _ => true) true 24 v d ps) :
  ∃ (x : ND) (c : Nat), x.Ok ∧ Rel (EnvW W) (.agg (ndC x 3 (some c))) v := by
 obtain ⟨y, q1, q4⟩ := zcX9 vN Tryd.underlying24 hw h
 obtain ⟨x, c, hx, he⟩ := wdT9 q1
 exact ⟨x, c, hx, he ▸ q4⟩
noncomputable def vU8 : View Tryd.prog 5 Int := View.int .u8 Tryd.underlying5
noncomputable def vU8s : View Tryd.prog 56 (List Int × Nat) := View.slice 1 Tryd.underlying56 (by kernel_rfl) (by decide) (View.int .u8 Tryd.underlying5)
end Go.Proofs.YtcoakjnmnommpaaDoor
