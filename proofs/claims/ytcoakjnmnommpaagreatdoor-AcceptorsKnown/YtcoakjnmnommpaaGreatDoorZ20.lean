import Derived.Test.YtcoakjnmnommpaaGreatDoorA16
import Derived.Test.YtcoakjnmnommpaaGreatDoorA12
import Derived.Lib.TrailingZeros
import Derived.Test.YtcoakjnmnommpaaGreatDoorCards
import Derived.Test.YtcoakjnmnommpaaGreatDoorTie
import Derived.ProofKit
import Derived.OpenShut
import Derived.Below
import Derived.ChangeSame
import Derived.Deep.DeepHandedRow
import Derived.Deep.DeepWitnessRowRef
import Derived.Lib.LaidIn
import Derived.Lib.LaidTab
import Derived.Stop.LaidErr
import Derived.Shelf.Vars
import Derived.LaidLaws
namespace Go.Proofs.YtcoakjnmnommpaaGreatDoor
open Go Go.V Go.ChangeShapes Go.WideShapes Go.ChangeAt Go.RowKit
set_option linter.unusedVariables false
set_option maxRecDepth 100000
theorem own : ownKnob Tryz.prog.godebug = none := by kernel_rfl
theorem kdQ9 : laidOutB Tryz.prog = true := by kernel_rfl
theorem star : "*" ++ "errors.errorString" = "*errors.errorString" := by decide
theorem qdB9 (u : TypeId) (h : Tryz.prog.typeName? 3 u = some "*errors.errorString") : u = 163 :=
 typeName_ptr_named (nm := "errors.errorString") (by rw [star]; kernel_rfl) (by kernel_rfl) (by decide) u (by rw [star]; exact h)
abbrev qel9 : List (String × DataW Unit) := Rows.acceptorsErrorsRow.laid
theorem zH0 {W : World} {n : String} {g : Nat} {cs : Array Value} (hn : Tryz.prog.globalNamed n = some g) (h : W.var? Tryz.prog n = some cs) : ∃ t fr, W.heap[g]? = some (.cells cs t fr) := by
 unfold World.var? at h;rw [hn, Option.bind_some] at h;split at h
 ·rename_i c t fr e;injection h with h; subst h
  exact ⟨t, fr, e⟩
 ·cases h
theorem zaM9 (E : Env) (k : IntKind) : ∀ zs : List Int, RelL E (zs.map fun z => AV.int k z) (zs.map fun z => Value.int k z)
 | [] => rfl
 | z :: zs => ⟨_, _, rfl, rfl, zaM9 E k zs⟩
theorem vdn9 {W : World} (hL : laidMet Tryz.prog qel9 W) (hS : W.ShapedOpen Tryz.prog) : Globs G0 (fun k => W.heap[k]?) := by
 obtain ⟨a3, s3, hv3, _⟩ := laid_sentinel (g := 3) (hL.tail.tail.tail.tail.tail) (by kernel_rfl) (by kernel_rfl) Tryz.underlying97 qdB9 Tryz.underlying163 Tryz.underlying165 rfl rfl Tryz.underlying9 (by kernel_rfl) (by kernel_rfl);obtain ⟨t3, f3, e3⟩ := zH0 (g := 3) (by kernel_rfl) hv3;obtain ⟨a4, s4, hv4, _⟩ := laid_sentinel (g := 4) (hL.tail.tail.tail.tail) (by kernel_rfl) (by kernel_rfl) Tryz.underlying97 qdB9 Tryz.underlying163 Tryz.underlying165 rfl rfl Tryz.underlying9 (by kernel_rfl) (by kernel_rfl);obtain ⟨t4, f4, e4⟩ := zH0 (g := 4) (by kernel_rfl) hv4;have ht : Lib.TabIs Tryz.prog W "internal/strconv.uint64pow10" .u64 Lib.pow10Tab :=
  Lib.tabIs_of_head (g := 1) (by kernel_rfl) (by kernel_rfl) Tryz.underlying145 Tryz.underlying66 (by kernel_rfl) (by kernel_rfl) (hL.tail.tail)
 obtain ⟨t1, f1, e1⟩ := zH0 (g := 1) (by kernel_rfl) ht;have hz : Lib.TabIs Tryz.prog W "math/bits.deBruijn64tab" .u8 (Lib.deBruijn64tab.map Int.ofNat) :=
  Lib.tabIs_of_head (g := 0) (by kernel_rfl) (by kernel_rfl) Tryz.underlying119 Tryz.underlying5 (by kernel_rfl) (by kernel_rfl) (hL.tail)
 obtain ⟨t0, f0, e0⟩ := zH0 (g := 0) (by kernel_rfl) hz;obtain ⟨zero, t, h0, hz, hb, hc, hu⟩ : ∃ zero t, ((begin Tryz.prog (fun _ _ => 0) default).world.heap[2]?).bind Obj.row? = some (zero, t) ∧ zero.size = 1 ∧ Tryz.prog.buildable t = true ∧ Tryz.prog.cellTypes Tryz.prog.depth t = some [t] ∧ Tryz.prog.underlying t = some (.int .i64) :=
  ⟨#[.int .i64 0], 3, by kernel_rfl, rfl, by kernel_rfl, by kernel_rfl, Tryz.underlying3⟩
 obtain ⟨cs, hh, hs, hr⟩ := hS.1 2 zero t (of_decide_eq_true (by kernel_rfl)) h0;obtain ⟨m, hm⟩ := cell_of_shapedOpen_int hS (of_decide_eq_true (by kernel_rfl)) h0 hz hb hc hu;obtain ⟨u, rfl⟩ : ∃ u, cs = #[u] := by
  obtain ⟨l⟩ := cs;rw [hz] at hs;match l, hs with
  | [u], _ => exact ⟨u, rfl⟩
 have hu3 : u = .int .i64 m := by
  simp [World.cell?, hh] at hm;exact hm
 subst hu3;intro g cs hg;match g, hg with
 | 0, hg =>
  injection hg with hg; subst hg
  exact ⟨(Lib.deBruijn64tab.map Int.ofNat).map fun z => Value.int .u8 z, t0, f0, e0, zaM9 _ _ (Lib.deBruijn64tab.map Int.ofNat), fun u hu => by
   obtain ⟨z, _, rfl⟩ := l'B.1 hu; rfl⟩
 | 1, hg =>
  injection hg with hg; subst hg
  exact ⟨Lib.pow10Tab.map fun z => Value.int .u64 z, t1, f1, e1, zaM9 _ _ _, fun u hu => by
   obtain ⟨z, _, rfl⟩ := l'B.1 hu; rfl⟩
 | 2, hg =>
  injection hg with hg; subst hg
  exact ⟨[.int .i64 m], _, _, hh, ⟨_, _, rfl, ⟨m, rfl⟩, rfl⟩, by simp [Value.oneCell']⟩
 | 3, hg =>
  injection hg with hg; subst hg
  exact ⟨[.iface 163 (.pointer (some a3))], t3, f3, e3, ⟨_, _, rfl, ⟨_, _, rfl⟩, rfl⟩, by simp [Value.oneCell']⟩
 | 4, hg =>
  injection hg with hg; subst hg
  exact ⟨[.iface 163 (.pointer (some a4))], t4, f4, e4, ⟨_, _, rfl, ⟨_, _, rfl⟩, rfl⟩, by simp [Value.oneCell']⟩
noncomputable def xaM9 (os : Os) : World :=
 let N := (World.settled Tryz.prog os).heap.size
 let w0 := World.holding Tryz.prog os ⟨#[.cells #[.string ⟨#[105, 110, 118, 97, 108, 105, 100, 32, 115, 121, 110, 116, 97, 120]⟩] 165, .cells #[.string ⟨#[118, 97, 108, 117, 101, 32, 111, 117, 116, 32, 111, 102, 32, 114, 97, 110, 103, 101]⟩] 165], #[], []⟩
 let put (h : Array Obj) (g : Nat) (cs : Array Value) : Array Obj := h.modify g fun
  | .cells _ t frozen => .cells cs t frozen
  | o => o
 let u8 (l : List Int) : Array Value := (l.map fun z => Value.int .u8 z).toArray
 let h0 := put w0.heap 7 (u8 [0, 1, 28, 2, 29, 14, 24, 3, 30, 22, 20, 15, 25, 17, 4, 8, 31, 27, 13, 23, 21, 19, 16, 7, 26, 12, 18, 6, 11, 5, 10, 9])
 let h1 := put h0 0 (u8 [0, 1, 56, 2, 57, 49, 28, 3, 61, 58, 42, 50, 38, 29, 17, 4, 62, 47, 59, 36, 45, 43, 51, 22, 53, 39, 33, 30, 24, 18, 12, 5, 63, 55, 48, 27, 60, 41, 37, 16, 46, 35, 44, 21, 52, 32, 23, 11, 54, 26, 40, 15, 34, 20, 31, 10, 25, 14, 19, 9, 13, 8, 7, 6])
 let h2 := put h1 1 ((Lib.pow10Tab.map fun z => Value.int .u64 z).toArray)
 let h3 := put h2 6 (u8 [128, 191, 160, 191, 128, 159, 144, 191, 128, 143, 0, 0, 0, 0, 0, 0, 0, 0, 0, 0, 0, 0, 0, 0, 0, 0, 0, 0, 0, 0, 0, 0])
 let h4 := put h3 4 #[.iface 163 (.pointer (some ⟨N + 1, 0, none⟩))]
 let h5 := put h4 3 #[.iface 163 (.pointer (some ⟨N + 0, 0, none⟩))]
 let h6 := put h5 5 (u8 (Go.Pinned.utf8FirstZ.map Int.ofNat))
 { w0 with heap := h6 }
noncomputable abbrev N0 : Nat := (World.settled Tryz.prog default).heap.size
theorem kdn9 (os : Os) (args : Array Value) : laidMet Tryz.prog qel9 ((xaM9 os).forCall (fun _ _ => 0) ⟨#[], args, []⟩).memory :=
 (LaidIn.of_run [7, 0, 1, 6, 4, 3, 5, N0 + 0, N0 + 1] 8 (by kernel_rfl) (by kernel_rfl) (by kernel_rfl) (by kernel_rfl)).met
theorem qdR9 {H : Type} {enc : TypeId × Value → H} {f : Func} {s : ChangeSpec} {W W' : World} {args : Array Value} {ds : List (DataW H)} {before : List MemPlace} (hv : s.vars = []) (hr : f.resultTypes = #[4])
  (hres : (s.fn H (ds ++ [])).results = [.lit (.bool true)]) (hargs : (s.fn H (ds ++ [])).args = ds) (hvs : (s.fn H (ds ++ [])).vars = [])
  (hp : (f.params.toList.all fun t => Tryz.prog.readableRec t && decide (t < Tryz.prog.types.size)) = true)
  (hW : DataW.Whole enc Tryz.prog f.params.toList s.vars false W args.toList ds [] before) (hb : Go.RowKit.Below W.heap.size W W') :
  s.post enc Tryz.prog f false true false false W args (.bool true) W' := by
 have hW' := hW;have hlt : ∀ p ∈ before, p.block < W.heap.size := fun p hp => hW.lt p hp;obtain ⟨p, q, hA, hV, rfl, hz, hn⟩ := hW;rw [hv] at hV;obtain ⟨_, rfl⟩ := trodVars_none hV;rw [l'R] at *;have hA' : ∀ sp : Nat → Bool, (∀ x ∈ p, sp x.block = true) → DataW.TrodAll enc Tryz.prog W' 0 sp true f.params.toList args.toList ds p := fun sp hs => qaj9 kdQ9 hb hp hA hlt hs;have hR : ∀ (b : Nat) (sp : Nat → Bool) (hd : Bool), DataW.TrodAll enc Tryz.prog W' b sp hd f.resultTypes.toList ((Value.bool true).resultList f.resultTypes.size) [.lit (.bool true)] [] := fun b sp hd => by
  rw [hr]; exact trodAll_mk1 (shut_bool Tryz.underlying4 true)
 have hold : ∀ x ∈ p, (fun b => decide (b < W.heap.size)) x.block = true := fun x hx => by simpa using hlt x hx
 refine ⟨ds, [], p, [], p, [], hW', by rw [l'R, hres]; exact hR _ _ _, by rw [l'R, hargs]; exact hA' _ hold, by rw [l'R, hvs, hv]; exact rfl, World.keptBut_mono (fun x hx => ⟨hx, .inr (.inl hx)⟩) (hb.frame (· ∈ p)), fun h => by cases h⟩
def veB9 {P : Program} {t e : TypeId} {α : Type} (c : Nat) (hu : P.underlying t = some (.array 3 e)) (hc : P.cellsOf e = c) (ht : P.cellsOf t = c + c + c) (v : View P e α) : View P t (α × α × α) where
 tq y := v.tq y.1 ++ (v.tq y.2.1 ++ v.tq y.2.2)
 ok y := v.ok y.1 ∧ v.ok y.2.1 ∧ v.ok y.2.2
 get {H enc w fuel cs x} h := by
  obtain ⟨xs, m, rfl, _, h1, h2, h3⟩ := DataW.trod_array hu h;have a0 := h3 0 (by omega);have a1 := h3 1 (by omega);have a2 := h3 2 (by omega);rw [hc, l'e (by omega)] at a0 a1 a2;rw [Nat.zero_mul, List.drop_zero] at a0;rw [Nat.one_mul] at a1;rw [l'k (by rw [z'H]; omega)] at a2;obtain ⟨y1, q1, q2, q3⟩ := v.get a0;obtain ⟨y2, p1, p2, p3⟩ := v.get a1;obtain ⟨y3, r1, r2, r3⟩ := v.get a2;have e : cs = cs.take c ++ ((cs.drop c).take c ++ cs.drop (2 * c)) := by
   rw [show 2 * c = c + c by omega, ← z'D, l'Q, l'Q]
  refine ⟨(y1, y2, y3), ⟨q1, p1, r1⟩, ?_, ?_⟩
  ·rw [e]; exact q2.append (p2.append r2)
  ·rw [e]; intro u hu;rcases l'D.1 hu with q|q
   ·exact q3 u q
   ·rcases l'D.1 q with q|q
    ·exact p3 u q
    ·exact r3 u q
noncomputable def vArc : View Tryz.prog 64 (Int × Int × Int) := veB9 1 Tryz.underlying64 (by kernel_rfl) (by kernel_rfl) (View.int .u8 Tryz.underlying5)
noncomputable def keB9 : View Tryz.prog 22 (List (Int × Int × Int) × Nat) := View.slice 3 Tryz.underlying22 (by kernel_rfl) (by decide) vArc
noncomputable def vN : View Tryz.prog 24 (Int × Int × (List (Int × Int × Int) × Nat) × Int × Int × Unit) := View.struct 5 Tryz.underlying24 (by kernel_rfl)
 (FView.cons 1 rfl (by kernel_rfl) (View.int .u8 Tryz.underlying5) (FView.cons 1 rfl (by kernel_rfl) (View.int .u8 Tryz.underlying5) (FView.cons 1 rfl (by kernel_rfl) keB9 (FView.cons 1 rfl (by kernel_rfl) (View.int .u8 Tryz.underlying5) (FView.cons 1 rfl (by kernel_rfl) (View.int .u8 Tryz.underlying5) (FView.nil (l'f 5)))))))
noncomputable def vU8 : View Tryz.prog 5 Int := View.int .u8 Tryz.underlying5
noncomputable def vU8s : View Tryz.prog 25 (List Int × Nat) := View.slice 1 Tryz.underlying25 (by kernel_rfl) (by decide) (View.int .u8 Tryz.underlying5)
noncomputable def zdR9 : View Tryz.prog 27 (List Int × Nat) := View.slice 1 Tryz.underlying27 (by kernel_rfl) (by decide) (View.int .i64 Tryz.underlying3)
noncomputable def zdB9 : View Tryz.prog 44 (List (List Int × Nat) × Nat) := View.slice 1 Tryz.underlying44 (by kernel_rfl) (by decide) zdR9
noncomputable def qeC9 : View Tryz.prog 26 (List (List (List Int × Nat) × Nat) × Nat) := View.slice 1 Tryz.underlying26 (by kernel_rfl) (by decide) zdB9
noncomputable def zel9 : View Tryz.prog 45 (List Bool × Nat) := View.slice 1 Tryz.underlying45 (by kernel_rfl) (by decide) (View.bool Tryz.underlying4)
noncomputable def vNfa : View Tryz.prog 29 (Int × (List (List (List Int × Nat) × Nat) × Nat) × (List Int × Nat) × (List Int × Nat) × Unit) := View.struct 4 Tryz.underlying29 (by kernel_rfl)
 (FView.cons 1 rfl (by kernel_rfl) (View.int .i64 Tryz.underlying3) (FView.cons 1 rfl (by kernel_rfl) qeC9 (FView.cons 1 rfl (by kernel_rfl) zdR9 (FView.cons 1 rfl (by kernel_rfl) zdR9 (FView.nil (l'f 4))))))
noncomputable def vDfa : View Tryz.prog 47 (Int × (List (List Int × Nat) × Nat) × (List Bool × Nat) × Unit) := View.struct 3 Tryz.underlying47 (by kernel_rfl)
 (FView.cons 1 rfl (by kernel_rfl) (View.int .i64 Tryz.underlying3) (FView.cons 1 rfl (by kernel_rfl) zdB9 (FView.cons 1 rfl (by kernel_rfl) zel9 (FView.nil (l'f 3)))))
def lcOf (p : List Int × Nat) : LC := (p.1, some p.2)
def rcOf (p : List (List Int × Nat) × Nat) : RC := (p.1.map lcOf, some p.2)
end Go.Proofs.YtcoakjnmnommpaaGreatDoor
