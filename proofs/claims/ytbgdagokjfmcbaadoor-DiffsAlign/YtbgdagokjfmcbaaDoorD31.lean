import Derived.Test.YtbgdagokjfmcbaaDoorD30
import Derived.Test.YtbgdagokjfmcbaaDoorV29
import Derived.Test.YtbgdagokjfmcbaaDoorCards
import Derived.Test.YtbgdagokjfmcbaaDoorTie
import Derived.ProofKit
import Derived.OpenShut
import Derived.Below
import Derived.ChangeSame
import Derived.Deep.DeepHandedRow
import Derived.Deep.DeepWitnessRowRef
import Derived.Lib.LaidIn
import Derived.Lib.LaidTab
import Derived.Stop.LaidErr
import Derived.Shelf.Vars
import Derived.LaidLaws
namespace Go.Proofs.YtbgdagokjfmcbaaDoor
open Go Go.V Go.ChangeShapes Go.WideShapes Go.ChangeAt Go.RowKit
set_option linter.unusedVariables false
set_option maxRecDepth 100000
theorem own : ownKnob Tryd.prog.godebug = none := by kernel_rfl
theorem wdd9 : laidOutB Tryd.prog = true := by kernel_rfl
abbrev wds9 : List (String × DataW Unit) := Rows.diffsDiffRow.laid
theorem vak9 {W : World} {n : String} {g : Nat} {cs : Array Value} (hn : Tryd.prog.globalNamed n = some g) (h : W.var? Tryd.prog n = some cs) : ∃ t fr, W.heap[g]? = some (.cells cs t fr) := by
 unfold World.var? at h;rw [hn, Option.bind_some] at h;split at h
 ·rename_i c t fr e;injection h with h; subst h
  exact ⟨t, fr, e⟩
 ·cases h
theorem xbe9 (E : Env) (k : IntKind) : ∀ zs : List Int, RelL E (zs.map fun z => AV.int k z) (zs.map fun z => Value.int k z)
 | [] => rfl
 | z :: zs => ⟨_, _, rfl, rfl, xbe9 E k zs⟩
theorem vdd9 {W : World} {rest : List (String × DataW Unit)} (h : laidMet Tryd.prog (("gauntlet/diffs.none", Rows.laid_gauntlet_diffs_none) :: rest) W) : W.var? Tryd.prog "gauntlet/diffs.none" = some #[.int .i64 (-1), .int .i64 (-1)] := by
 obtain ⟨ps, ⟨g', t', cs, fuel, p, q, hg', ht', hvar, hd, _, _⟩, _⟩ := h;obtain rfl := Option.some.inj ((show Tryd.prog.globalNamed "gauntlet/diffs.none" = some 0 by kernel_rfl).symm.trans hg');obtain rfl := Option.some.inj ((show (Tryd.prog.globals[0]?).map (·.type) = some 91 by kernel_rfl).symm.trans ht');cases fuel with
 | zero => simp [DataW.trod] at hd
 | succ fuel =>
  obtain ⟨y0, y1, n, e0, hl, h0, h1⟩ := trod_struct2 Tryd.underlying91 hd;obtain ⟨z0, hc0, rfl, _⟩ := DataW.trod_int Tryd.underlying3 h0;obtain ⟨z1, hc1, rfl, _⟩ := DataW.trod_int Tryd.underlying3 h1;simp only [Rows.laid_gauntlet_diffs_none, Prod.mk.injEq, DataW.agg.injEq, List.cons.injEq, DataW.lit.injEq, Lit.int.injEq, true_and, and_true] at e0;obtain ⟨⟨rfl, rfl⟩, _⟩ := e0;have hs : (Tryd.prog.cellsOf 91 = 2) := by kernel_rfl
  have hs3 : (Tryd.prog.cellsOf 3 = 1) := by kernel_rfl
  rw [hs] at hl;simp only [hs3] at hc0 hc1;obtain ⟨cl⟩ := cs;match cl, hl with
  | [a, b], _ =>
   simp at hc0 hc1;subst hc0; subst hc1;exact hvar
theorem qcF9 {W : World} (hL : laidMet Tryd.prog wds9 W) (hS : W.ShapedOpen Tryd.prog) : Globs G0 (fun k => W.heap[k]?) := by
 have ht : Lib.TabIs Tryd.prog W "internal/strconv.uint64pow10" .u64 Lib.pow10Tab :=
  Lib.tabIs_of_head (g := 1) (by kernel_rfl) (by kernel_rfl) Tryd.underlying167 Tryd.underlying159 (by kernel_rfl) (by kernel_rfl) hL.tail.tail
 have hn := vdd9 hL.tail.tail.tail;obtain ⟨t0, f0, e0⟩ := vak9 (g := 0) (by kernel_rfl) hn;obtain ⟨t1, f1, e1⟩ := vak9 (g := 1) (by kernel_rfl) ht;intro g cs hg;match g, hg with
 | 0, hg =>
  injection hg with hg; subst hg
  exact ⟨[.int .i64 (-1), .int .i64 (-1)], t0, f0, e0, ⟨_, _, rfl, rfl, _, _, rfl, rfl, rfl⟩, by simp [Value.oneCell']⟩
 | 1, hg =>
  injection hg with hg; subst hg
  exact ⟨Lib.pow10Tab.map fun z => Value.int .u64 z, t1, f1, e1, xbe9 _ _ _, fun u hu => by
   obtain ⟨z, _, rfl⟩ := List.mem_map.1 hu; rfl⟩
noncomputable def kaw9 (os : Os) : World :=
 let w0 := World.holding Tryd.prog os ⟨#[], #[], []⟩
 let put (h : Array Obj) (g : Nat) (cs : Array Value) : Array Obj := h.modify g fun
  | .cells _ t frozen => .cells cs t frozen
  | o => o
 let u8 (l : List Int) : Array Value := (l.map fun z => Value.int .u8 z).toArray
 let h0 := put w0.heap 0 #[.int .i64 (-1), .int .i64 (-1)]
 let h1 := put h0 1 (Lib.pow10Tab.map fun z => Value.int .u64 z).toArray
 let h4 := put h1 2 (u8 [0, 1, 28, 2, 29, 14, 24, 3, 30, 22, 20, 15, 25, 17, 4, 8, 31, 27, 13, 23, 21, 19, 16, 7, 26, 12, 18, 6, 11, 5, 10, 9])
 let h5 := put h4 3 (u8 [0, 1, 56, 2, 57, 49, 28, 3, 61, 58, 42, 50, 38, 29, 17, 4, 62, 47, 59, 36, 45, 43, 51, 22, 53, 39, 33, 30, 24, 18, 12, 5, 63, 55, 48, 27, 60, 41, 37, 16, 46, 35, 44, 21, 52, 32, 23, 11, 54, 26, 40, 15, 34, 20, 31, 10, 25, 14, 19, 9, 13, 8, 7, 6])
 { w0 with heap := h5 }
theorem zcF9 (os : Os) (args : Array Value) : laidMet Tryd.prog wds9 ((kaw9 os).forCall (fun _ _ => 0) ⟨#[], args, []⟩).memory :=
 (LaidIn.of_run [0, 1, 2, 3] 8 (by kernel_rfl) (by kernel_rfl) (by kernel_rfl) (by kernel_rfl)).met
theorem kdd9 {H : Type} {enc : TypeId × Value → H} {f : Func} {s : ChangeSpec} {W W' : World} {args : Array Value} {ds : List (DataW H)} {before : List MemPlace} (hv : s.vars = []) (hr : f.resultTypes = #[4])
  (hres : (s.fn H (ds ++ [])).results = [.lit (.bool true)]) (hargs : (s.fn H (ds ++ [])).args = ds) (hvs : (s.fn H (ds ++ [])).vars = [])
  (hp : (f.params.toList.all fun t => Tryd.prog.readableRec t && decide (t < Tryd.prog.types.size)) = true)
  (hW : DataW.Whole enc Tryd.prog f.params.toList s.vars false W args.toList ds [] before) (hb : Below W.heap.size W W') :
  s.post enc Tryd.prog f false true false false W args (.bool true) W' := by
 have hW' := hW;have hlt : ∀ p ∈ before, p.block < W.heap.size := fun p hp => hW.lt p hp;obtain ⟨p, q, hA, hV, rfl, hz, hn⟩ := hW;rw [hv] at hV;obtain ⟨_, rfl⟩ := trodVars_none hV;rw [List.append_nil] at *;have hA' : ∀ sp : Nat → Bool, (∀ x ∈ p, sp x.block = true) → DataW.TrodAll enc Tryd.prog W' 0 sp true f.params.toList args.toList ds p := fun sp hs => zZ0 wdd9 hb hp hA hlt hs;have hR : ∀ (b : Nat) (sp : Nat → Bool) (hd : Bool), DataW.TrodAll enc Tryd.prog W' b sp hd f.resultTypes.toList ((Value.bool true).resultList f.resultTypes.size) [.lit (.bool true)] [] := fun b sp hd => by
  rw [hr]; exact trodAll_mk1 (shut_bool Tryd.underlying4 true)
 have hold : ∀ x ∈ p, (fun b => decide (b < W.heap.size)) x.block = true := fun x hx => by simpa using hlt x hx
 refine ⟨ds, [], p, [], p, [], hW', by rw [List.append_nil, hres]; exact hR _ _ _, by rw [List.append_nil, hargs]; exact hA' _ hold, by rw [List.append_nil, hvs, hv]; exact rfl, World.keptBut_mono (fun x hx => ⟨hx, .inr (.inl hx)⟩) (hb.frame (· ∈ p)), fun h => by cases h⟩
theorem zby9 {P : Program} {H : Type} {enc : TypeId × Value → H} {w : World} {base : Nat} {t : TypeId} {v : Value} {d : DataW H} {ps : List MemPlace} {α : Type} {fs : Array Field} (V : View P t α) (hu : P.underlying t = some (.struct fs)) (hw : Value.okWide P w .any base t v) (h : DataW.Trod enc P w 0 (fun _ => true) true t v d ps) : ∃ y, V.ok y ∧ Rel (EnvW w) (.agg (V.tq y)) v := by
 unfold Value.okWide at hw;rw [hu] at hw;obtain ⟨cs, rfl, _⟩ := hw;obtain ⟨fuel, h⟩ := h;obtain ⟨y, q1, q2, q3⟩ := V.get h;refine ⟨y, q1, ?_⟩;simp only [Rel];exact ⟨cs.toList, by simp, q2, q3⟩
theorem wbe9 {n : Int} (h : (Lit.int .u8 n).wf = true) : ∃ m : Nat, n = m ∧ m < 256 := by
 have e1 : IntKind.u8.min = 0 := rfl;have e2 : IntKind.u8.max = 255 := rfl;simp [Lit.wf, e1, e2] at h;exact ⟨n.toNat, by omega, by omega⟩
theorem vds9 {n : Int} (h : (Lit.int .u16 n).wf = true) : ∃ m : Nat, n = m ∧ m < 65536 := by
 have e1 : IntKind.u16.min = 0 := rfl;have e2 : IntKind.u16.max = 65535 := rfl;simp [Lit.wf, e1, e2] at h;exact ⟨n.toNat, by omega, by omega⟩
theorem zbq9 {p : Int → Prop} {b : Nat} (hp : ∀ n, p n → ∃ m : Nat, n = m ∧ m < b) : ∀ (l : List Int), (∀ n ∈ l, p n) → ∃ r : List Nat, l = r.map (fun (n : Nat) => (n : Int)) ∧ ∀ n ∈ r, n < b
 | [], _ => ⟨[], rfl, fun _ h => by cases h⟩
 | x :: l, h => by
  obtain ⟨m, hm, hb⟩ := hp x (h x (List.mem_cons_self ..));obtain ⟨r, hr, hrb⟩ := zbq9 hp l fun n hn => h n (List.mem_cons_of_mem _ hn);refine ⟨m :: r, by rw [hm, hr]; rfl, fun n hn => ?_⟩;rcases List.mem_cons.1 hn with rfl|q
  ·exact hb
  ·exact hrb n q
noncomputable def xdE9 : View Tryd.prog 22 (List Int × Nat) := View.slice 1 Tryd.underlying22 (by kernel_rfl) (by decide) (View.int .u16 Tryd.underlying98)
noncomputable def vM : View Tryd.prog 24 (Int × Int × Int × Bool × (List Int × Nat) × Unit) := View.struct 5 Tryd.underlying24 (by kernel_rfl)
 (FView.cons 1 rfl (by kernel_rfl) (View.int .u8 Tryd.underlying5) (FView.cons 1 rfl (by kernel_rfl) (View.int .u8 Tryd.underlying5) (FView.cons 1 rfl (by kernel_rfl) (View.int .u8 Tryd.underlying5) (FView.cons 1 rfl (by kernel_rfl) (View.bool Tryd.underlying4) (FView.cons 1 rfl (by kernel_rfl) xdE9 (FView.nil (Nat.le_refl 5)))))))
theorem kds9 {y : Int × Int × Int × Bool × (List Int × Nat) × Unit} (h : vM.ok y) : ∃ (x : MD) (c : Nat), x.Ok ∧ vM.tq y = mdC x 1 (some c) := by
 obtain ⟨a, b, c, p, ⟨l, n⟩, _⟩ := y;obtain ⟨h1, h2, h3, _, ⟨h4, _, _⟩, _⟩ := h;obtain ⟨a', rfl, ha⟩ := wbe9 h1;obtain ⟨b', rfl, hb⟩ := wbe9 h2;obtain ⟨c', rfl, hc⟩ := wbe9 h3;obtain ⟨r, rfl, hr⟩ := zbq9 (fun n (hn : (Lit.int .u16 n).wf = true) => vds9 hn) l h4;refine ⟨⟨a', b', c', p, r⟩, n, ⟨ha, hb, hc, hr⟩, ?_⟩;show [AV.int .u8 (a' : Int)] ++ ([AV.int .u8 (b' : Int)] ++ ([AV.int .u8 (c' : Int)] ++ ([AV.bool p] ++ ([AV.sl 1 ((r.map fun (n : Nat) => (n : Int)).map fun n => [AV.int .u16 n]) (some n)] ++ [])))) = _;simp [mdC, u16s, Function.comp_def]
theorem wdE9 {H : Type} {enc : TypeId × Value → H} {W : World} {base : Nat} {v : Value} {d : DataW H} {ps : List MemPlace} (hw : Value.okWide Tryd.prog W .any base 24 v) (h : DataW.Trod enc Tryd.prog W 0 (fun _ => true) true 24 v d ps) :
  ∃ (x : MD) (c : Nat), x.Ok ∧ Rel (EnvW W) (.agg (mdC x 1 (some c))) v := by
 obtain ⟨y, q1, q4⟩ := zby9 vM Tryd.underlying24 hw h;obtain ⟨x, c, hx, he⟩ := kds9 q1;exact ⟨x, c, hx, he ▸ q4⟩
noncomputable def vCh : View Tryd.prog 103 (Int × Int × Int × Int × Unit) := View.struct 4 Tryd.underlying103 (by kernel_rfl)
 (FView.cons 1 rfl (by kernel_rfl) (View.int .u8 Tryd.underlying5) (FView.cons 1 rfl (by kernel_rfl) (View.int .u8 Tryd.underlying5) (FView.cons 1 rfl (by kernel_rfl) (View.int .u8 Tryd.underlying5) (FView.cons 1 rfl (by kernel_rfl) (View.int .u8 Tryd.underlying5) (FView.nil (Nat.le_refl 4))))))
noncomputable def vChs : View Tryd.prog 25 (List (Int × Int × Int × Int × Unit) × Nat) := View.slice 4 Tryd.underlying25 (by kernel_rfl) (by decide) vCh
theorem qcN9 : ∀ (l : List (Int × Int × Int × Int × Unit)), (∀ y ∈ l, vCh.ok y) → ∃ L : List Ch, (∀ e ∈ L, e.Ok) ∧ l.map vCh.tq = chA L
 | [], _ => ⟨[], fun _ h => (by cases h), rfl⟩
 | (a, b, c, e, u) :: l, h => by
  obtain ⟨L, h1, h2⟩ := qcN9 l fun y hy => h y (List.mem_cons_of_mem _ hy);obtain ⟨k1, k2, k3, k4, _⟩ := h _ (List.mem_cons_self ..);obtain ⟨a', rfl, ha⟩ := wbe9 k1;obtain ⟨b', rfl, hb⟩ := wbe9 k2;obtain ⟨c', rfl, hc⟩ := wbe9 k3;obtain ⟨e', rfl, he⟩ := wbe9 k4;refine ⟨⟨a', b', c', e'⟩ :: L, fun x hx => ?_, ?_⟩
  ·rcases List.mem_cons.1 hx with rfl|q
   ·exact ⟨ha, hb, hc, he⟩
   ·exact h1 x q
  ·rw [List.map_cons, h2]; rfl
noncomputable def vV : View Tryd.prog 27 ((Int × Int × Int × Bool × (List Int × Nat) × Unit) × (List (Int × Int × Int × Int × Unit) × Nat) × Bool × Bool × Unit) := View.struct 8 Tryd.underlying27 (by kernel_rfl)
 (FView.cons 5 rfl (by kernel_rfl) vM (FView.cons 1 rfl (by kernel_rfl) vChs (FView.cons 1 rfl (by kernel_rfl) (View.bool Tryd.underlying4) (FView.cons 1 rfl (by kernel_rfl) (View.bool Tryd.underlying4) (FView.nil (Nat.le_refl 8))))))
theorem vdE9 {H : Type} {enc : TypeId × Value → H} {W : World} {base : Nat} {v : Value} {d : DataW H} {ps : List MemPlace} (hw : Value.okWide Tryd.prog W .any base 27 v) (h : DataW.Trod enc Tryd.prog W 0 (fun _ => true) true 27 v d ps) :
  ∃ (x : MD) (c : Nat) (L : List Ch) (e : Nat) (more less : Bool), x.Ok ∧ (∀ y ∈ L, y.Ok) ∧ Rel (EnvW W) (.agg (vC x 1 (some c) L 4 (some e) more less)) v := by
 obtain ⟨y, q1, q4⟩ := zby9 vV Tryd.underlying27 hw h;obtain ⟨m, ⟨l, n⟩, b1, b2, _⟩ := y;obtain ⟨k1, ⟨k2, _, _⟩, _⟩ := q1;obtain ⟨x, c, hx, he⟩ := kds9 k1;obtain ⟨L, hL, hl⟩ := qcN9 l k2;refine ⟨x, c, L, n, b1, b2, hx, hL, ?_⟩;have e : vV.tq (m, (l, n), b1, b2, ()) = vC x 1 (some c) L 4 (some n) b1 b2 := by
  show vM.tq m ++ ([AV.sl 4 (l.map vCh.tq) (some n)] ++ ([AV.bool b1] ++ ([AV.bool b2] ++ []))) = _;rw [he, hl]; rfl
 rw [← e]; exact q4
end Go.Proofs.YtbgdagokjfmcbaaDoor
