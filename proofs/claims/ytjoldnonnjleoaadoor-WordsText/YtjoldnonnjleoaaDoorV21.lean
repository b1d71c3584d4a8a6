/- The library V, part 21: a law's own call: arguments as data, read off the row. -/
import Derived.Test.YtjoldnonnjleoaaDoorV20
import Derived.ProofKit
set_option linter.unusedVariables false
set_option linter.unusedSimpArgs false
namespace Go.V
open Go Go.RowKit

/-- The state of a call that owns nothing: the whole memory is fixed. -/
def St0 (w : World) : St := ⟨fun k => w.heap[k]?, fun _ => none, fun _ => none, w⟩
def EnvW (w : World) : Env := (St0 w).env []
theorem st0_ok (w : World) : (St0 w).Ok [] :=
  ⟨fun k o h => h, fun b s t es hb => by simp at hb, fun b kt vt es hb => by simp at hb, fun b b' g hb => by simp [St.at] at hb⟩

theorem pc_below {P : Program} {G : Glob} {f : FuncId} {args : List AV} {vals : List Value} {b : Bool} {w : World} (h : PC P G f args (.bool b)) (hG : Globs G (fun k => w.heap[k]?)) (ha : RelL (EnvW w) args vals) :
    Calls P f vals.toArray w fun e w' => e = .returned (.bool b) ∧ Below w.heap.size w w' := by
  refine (h (St0 w) vals (st0_ok w) hG ha).mono fun e w' hh => ?_
  obtain ⟨v, S', rfl, rfl, hok, hext, hrel⟩ := hh
  have hn : ∀ k, ¬ (St0 w).Owns [] k := fun k ⟨b, hb⟩ => by simp [St.at] at hb
  have hv : v = .bool b := by simpa [Rel] using hrel
  exact ⟨by rw [hv], ⟨hext.os, hext.tape, hext.output, hext.size, fun k hlt => hext.keep k hlt (hn k)⟩⟩

/-! ### What is read stays as it is read -/
theorem grown_heap {w w' : World} (hg : Below w.heap.size w w') {i : Nat} (hi : i < w.heap.size) : w'.heap[i]? = w.heap[i]? := hg.block i hi
theorem grown_same {w w' : World} (hg : Below w.heap.size w w') {p : MemPlace} (hp : p.block < w.heap.size) : w.sameAt w' p := by
  cases p with
  | cell b off =>
    have hb : w'.heap[b]? = w.heap[b]? := grown_heap hg hp
    simp only [World.sameAt, World.cell?]
    rw [hb]
  | map b => exact grown_heap hg hp
theorem trodAll_stays {H : Type} {enc : TypeId × Value → H} {P : Program} (hl : laidOutB P = true) {w w' : World} (hg : Below w.heap.size w w') {sp : Nat → Bool} : ∀ {ts : List TypeId} {vs : List Value} {ds : List (DataW H)} {ps : List MemPlace},
    (ts.all fun t => P.readableRec t && decide (t < P.types.size)) = true → DataW.TrodAll enc P w 0 (fun _ => true) true ts vs ds ps → (∀ p ∈ ps, p.block < w.heap.size) → (∀ p ∈ ps, sp p.block = true) → DataW.TrodAll enc P w' 0 sp true ts vs ds ps
  | [], [], [], ps, _, h, _, _ => h
  | t :: ts, v :: vs, d :: ds, ps, ht, ⟨p, q, h1, h2, e⟩, hlt, hs => by
    subst e
    simp only [List.all_cons, Bool.and_eq_true, decide_eq_true_eq] at ht
    refine ⟨p, q, Go.WideElems.Trod_stays hl ht.1.1 ht.1.2 h1 (fun x hx => grown_same hg (hlt x (List.mem_append_left _ hx))) (fun x hx => hs x (List.mem_append_left _ hx)), ?_, rfl⟩
    exact trodAll_stays hl hg (by simpa using ht.2) h2 (fun x hx => hlt x (List.mem_append_right _ hx)) (fun x hx => hs x (List.mem_append_right _ hx))
  | [], v :: vs, ds, ps, _, h, _, _ => h.elim
  | [], [], d :: ds, ps, _, h, _, _ => h.elim
  | t :: ts, [], ds, ps, _, h, _, _ => h.elim
  | t :: ts, v :: vs, [], ps, _, h, _, _ => h.elim

/-! ### Views: what an argument of a type is, as Lean data -/
theorem mcell_cell {w : World} {g off : Nat} {v : Value} (h : w.cell? ⟨g, off, none⟩ = some v) : mcell (EnvW w).M g off = some v := by
  unfold World.cell? at h
  simp only [mcell, EnvW, St.env, St0]
  split at h
  · rename_i c t fr hx
    rw [hx]
    simpa using h
  · cases h
theorem cell_spot {w : World} {a : Addr} {v : Value} (h : w.cell? a = some v) : a.spot = none := by
  unfold World.cell? at h
  split at h
  · split at h
    · cases h
    · rename_i q; simpa using q
  · cases h
theorem add_eq {a : Addr} (h : a.spot = none) (n : Nat) : a.add n = ⟨a.block, a.off + n, none⟩ := by
  unfold Addr.add
  split
  · rename_i q; subst q
    cases a; simp at h; subst h; rfl
  · rfl
theorem mapM_some {α β : Type} {f : α → Option β} : ∀ {l : List α} {r : List β}, l.mapM f = some r → r.length = l.length ∧ ∀ (i : Nat) (x : α) (y : β), l[i]? = some x → r[i]? = some y → f x = some y
  | [], r, h => by
    simp at h; subst h; simp
  | a :: l, r, h => by
    rw [List.mapM_cons] at h
    cases ha : f a with
    | none => rw [ha] at h; cases h
    | some b =>
      rw [ha] at h
      cases hl : l.mapM f with
      | none => rw [hl] at h; cases h
      | some bs =>
        rw [hl] at h
        injection h with h; subst h
        obtain ⟨h1, h2⟩ := mapM_some hl
        refine ⟨by simp [h1], fun i x y hx hy => ?_⟩
        cases i with
        | zero =>
          simp at hx hy
          subst hx; subst hy; exact ha
        | succ i => exact h2 i x y (by simpa using hx) (by simpa using hy)
theorem exists_list {α : Type} {Pr : Nat → α → Prop} : ∀ (n : Nat), (∀ i, i < n → ∃ y, Pr i y) → ∃ ys : List α, ys.length = n ∧ ∀ (i : Nat) (y : α), ys[i]? = some y → Pr i y
  | 0, _ => ⟨[], rfl, fun i y h => by simp at h⟩
  | n + 1, h => by
    obtain ⟨ys, h1, h2⟩ := exists_list n fun i hi => h i (by omega)
    obtain ⟨y, hy⟩ := h n (by omega)
    refine ⟨ys ++ [y], by simp [h1], fun i z hz => ?_⟩
    rcases Nat.lt_or_ge i n with q | q
    · rw [List.getElem?_append_left (by omega)] at hz; exact h2 i z hz
    · rw [List.getElem?_append_right (by omega)] at hz
      have : i - ys.length = 0 := by
        have := (List.getElem?_eq_some_iff.1 hz).1
        simp at this; omega
      rw [this] at hz
      simp at hz; subst hz
      have : i = n := by omega
      subst this; exact hy
structure View (P : Program) (t : TypeId) (α : Type) where
  to : α → List AV
  ok : α → Prop
  get : ∀ {H : Type} {enc : TypeId × Value → H} {w : World} {fuel : Nat} {cs : List Value} {x : DataW H × List MemPlace}, DataW.trod enc P w 0 (fun _ => true) true fuel t cs = some x → ∃ y, ok y ∧ RelL (EnvW w) (to y) cs ∧ ∀ u ∈ cs, u.oneCell' = true
def View.int {P : Program} {t : TypeId} (k : IntKind) (hu : P.underlying t = some (.int k)) : View P t Int where
  to n := [.int k n]
  ok n := (Lit.int k n).wf = true
  get h := by
    obtain ⟨n, rfl, _, hw⟩ := DataW.trod_int hu h
    exact ⟨n, hw, by simp [RelL, Rel], by simp [Value.oneCell']⟩
def View.bool {P : Program} {t : TypeId} (hu : P.underlying t = some .bool) : View P t Bool where
  to n := [.bool n]
  ok n := True
  get h := by
    obtain ⟨n, rfl, _⟩ := DataW.trod_bool hu h
    exact ⟨n, trivial, by simp [RelL, Rel], by simp [Value.oneCell']⟩
def View.str {P : Program} {t : TypeId} (hu : P.underlying t = some .string) : View P t (List UInt8) where
  to n := [.str n]
  ok n := n.length ≤ maxLen
  get h := by
    obtain ⟨s, rfl, _, hw⟩ := DataW.trod_string hu h
    exact ⟨s.data.toList, by simpa using hw, by simp [RelL, Rel], by simp [Value.oneCell']⟩
def View.slice {P : Program} {t e : TypeId} {α : Type} (s : Nat) (hu : P.underlying t = some (.slice e)) (hs : P.cellsOf e = s) (hpos : 0 < s) (v : View P e α) : View P t (List α × Nat) where
  to y := [.sl s (y.1.map v.to) (some y.2)]
  ok y := (∀ x ∈ y.1, v.ok x) ∧ y.1.length ≤ y.2 ∧ y.2 ≤ maxLen
  get {H enc w fuel cs x} h := by
    rcases DataW.trod_slice hu h with ⟨rfl, _⟩ | ⟨a, len, cap, elems, rest, n, rfl, rfl, hx, _, h1, h2, h3, h4, _⟩
    · exact ⟨([], 0), ⟨by simp, by simp, by simp⟩, by simp [RelL, Rel], by simp [Value.oneCell']⟩
    · have hcell : ∀ i, i < len → ∃ ci y, w.cells? 0 (a.add (i * s)) s = some ci ∧ v.ok y ∧ RelL (EnvW w) (v.to y) ci ∧ ∀ u ∈ ci, u.oneCell' = true := fun i hi => by
        have q := h4 i hi
        have hlt : i < elems.length := by omega
        rw [List.getElem?_eq_getElem hlt, hs] at q
        cases hc : w.cells? 0 (a.add (i * s)) s with
        | none => rw [hc] at q; cases q
        | some ci =>
          rw [hc] at q
          obtain ⟨y, q1, q2, q3⟩ := v.get (H := H) q
          exact ⟨ci, y, rfl, q1, q2, q3⟩
      have hparts : ∀ i ci, w.cells? 0 (a.add (i * s)) s = some ci → ci.length = s ∧ ∀ j u, ci[j]? = some u → w.cell? ((a.add (i * s)).add j) = some u := fun i ci hc => by
        unfold World.cells? at hc
        rw [if_pos (Nat.zero_le _)] at hc
        obtain ⟨q1, q2⟩ := mapM_some hc
        refine ⟨by simpa using q1, fun j u hj => ?_⟩
        have hjs : j < s := by have := (List.getElem?_eq_some_iff.1 hj).1; simp at q1; omega
        exact q2 j j u (by simp [hjs]) hj
      have hspot : 0 < len → a.spot = none := fun hl => by
        obtain ⟨ci, y, hc, _⟩ := hcell 0 hl
        obtain ⟨q1, q2⟩ := hparts 0 ci hc
        have h0 : 0 < ci.length := by omega
        have := q2 0 ci[0] (by simp [h0])
        rw [Nat.zero_mul] at this
        have e : (a.add 0).add 0 = a := rfl
        rw [e] at this
        exact cell_spot this
      obtain ⟨ys, g1, g2⟩ := exists_list (Pr := fun i y => v.ok y ∧ (v.to y).length = s ∧ RelC (EnvW w) (v.to y) a.block (a.off + i * s)) len fun i hi => by
        obtain ⟨ci, y, hc, q1, q2, q3⟩ := hcell i hi
        obtain ⟨p1, p2⟩ := hparts i ci hc
        refine ⟨y, q1, by have := q2.length; omega, RelC.mk fun j b hj => ?_⟩
        obtain ⟨u, hu', hr⟩ := q2.get hj
        refine ⟨u, ?_, q3 u (List.mem_of_getElem? hu'), hr⟩
        have := p2 j u hu'
        rw [add_eq (hspot (by omega)), add_eq rfl] at this
        exact mcell_cell this
      refine ⟨(ys, cap), ⟨fun x hx => ?_, by simp [g1, h1], h2⟩, ?_, by simp [Value.oneCell']⟩
      · obtain ⟨i, hi⟩ := List.mem_iff_getElem?.1 hx
        exact (g2 i x hi).1
      · refine ⟨_, [], rfl, ?_, rfl⟩
        simp only [Rel]
        refine ⟨some a, cap, by simp [g1], by simp [g1, h1], h2, fun k hk => by injection hk, ?_⟩
        rcases Nat.eq_zero_or_pos len with q | q
        · left
          have : ys = [] := List.eq_nil_of_length_eq_zero (by omega)
          rw [this]; rfl
        · right
          have hs' := hspot q
          refine ⟨a.block, a.off, by cases a; simp at hs'; subst hs'; rfl, RelE.mk fun i e he => ?_⟩
          rw [List.getElem?_map] at he
          cases hy : ys[i]? with
          | none => rw [hy] at he; cases he
          | some y =>
            rw [hy] at he
            simp only [Option.map_some, Option.some.injEq] at he
            subst he
            exact (g2 i y hy).2

/-- The fields of a struct from a place on. -/
structure FView (P : Program) (fs : List Field) (off tot : Nat) (β : Type) where
  to : β → List AV
  ok : β → Prop
  get : ∀ {H : Type} {enc : TypeId × Value → H} {w : World} {n : Nat} {cs : List Value}, cs.length = tot →
    (∀ (i : Nat) (f : Field), fs[i]? = some f → ∃ x : DataW H × List MemPlace, DataW.trod enc P w 0 (fun _ => true) true n f.type (List.take (P.cellsOf f.type) (List.drop f.offset cs)) = some x) → ∃ y, ok y ∧ RelL (EnvW w) (to y) (cs.drop off) ∧ ∀ u ∈ cs.drop off, u.oneCell' = true
def FView.nil {P : Program} {off tot : Nat} (h : tot ≤ off) : FView P [] off tot Unit where
  to _ := []
  ok _ := True
  get hc _ := by
    refine ⟨(), trivial, ?_⟩
    rw [List.drop_eq_nil_of_le (by omega)]
    simp [RelL]
def FView.cons {P : Program} {f : Field} {fs : List Field} {off tot : Nat} {α β : Type} (c : Nat) (hf : f.offset = off) (hc : P.cellsOf f.type = c) (v : View P f.type α) (r : FView P fs (off + c) tot β) : FView P (f :: fs) off tot (α × β) where
  to y := v.to y.1 ++ r.to y.2
  ok y := v.ok y.1 ∧ r.ok y.2
  get {H enc w n cs} hl h := by
    obtain ⟨x, hx⟩ := h 0 f rfl
    rw [hf, hc] at hx
    obtain ⟨y1, q1, q2, q3⟩ := v.get hx
    obtain ⟨y2, p1, p2, p3⟩ := r.get hl fun i f' hi => h (i + 1) f' hi
    have e : cs.drop off = (cs.drop off).take c ++ cs.drop (off + c) := by
      rw [← List.drop_drop, List.take_append_drop]
    refine ⟨(y1, y2), ⟨q1, p1⟩, ?_, ?_⟩
    · rw [e]; exact q2.append p2
    · rw [e]; intro u hu
      rcases List.mem_append.1 hu with q | q
      · exact q3 u q
      · exact p3 u q
def View.struct {P : Program} {t : TypeId} {fs : Array Field} {β : Type} (tot : Nat) (hu : P.underlying t = some (.struct fs)) (ht : P.cellsOf t = tot) (r : FView P fs.toList 0 tot β) : View P t β where
  to := r.to
  ok := r.ok
  get {H enc w fuel cs x} h := by
    obtain ⟨xs, n, rfl, _, h1, h2, h3⟩ := DataW.trod_struct hu h
    obtain ⟨y, q1, q2, q3⟩ := r.get (H := H) (h1.trans ht) fun i f hi => by
      have hi' : fs[i]? = some f := by simpa using hi
      have hlt : i < xs.length := by rw [h2]; exact (Array.getElem?_eq_some_iff.1 hi').1
      exact ⟨xs[i], by rw [h3 i f hi', List.getElem?_eq_getElem hlt]⟩
    exact ⟨y, q1, by simpa using q2, by simpa using q3⟩

/-! ### Arguments -/
section
variable {P : Program} {H : Type} {enc : TypeId × Value → H} {w : World} {t : TypeId} {v : Value} {d : DataW H} {ps : List MemPlace} {α : Type}
theorem arg_struct {fs : Array Field} (V : View P t α) (hu : P.underlying t = some (.struct fs)) (hw : Value.okWide P w .any 0 t v) (h : DataW.Trod enc P w 0 (fun _ => true) true t v d ps) : ∃ y, V.ok y ∧ Rel (EnvW w) (.agg (V.to y)) v := by
  unfold Value.okWide at hw
  rw [hu] at hw
  obtain ⟨cs, rfl, _⟩ := hw
  obtain ⟨fuel, h⟩ := h
  obtain ⟨y, q1, q2, q3⟩ := V.get h
  refine ⟨y, q1, ?_⟩
  simp only [Rel]
  exact ⟨cs.toList, by simp, q2, q3⟩
theorem arg_one {a : α → AV} (V : View P t α) (hV : ∀ y, V.to y = [a y]) (hc : v.cells = #[v]) (h : DataW.Trod enc P w 0 (fun _ => true) true t v d ps) : ∃ y, V.ok y ∧ Rel (EnvW w) (a y) v := by
  obtain ⟨fuel, h⟩ := h
  obtain ⟨y, q1, q2, q3⟩ := V.get h
  refine ⟨y, q1, ?_⟩
  rw [hV, hc] at q2
  simp only [RelL] at q2
  obtain ⟨u, us, e, hr, _⟩ := q2
  simp at e
  rw [e.1]; exact hr
theorem one_int {k : IntKind} (hu : P.underlying t = some (.int k)) (hw : Value.okWide P w .any 0 t v) : v.cells = #[v] := by
  unfold Value.okWide Cell.okWide at hw
  rw [hu] at hw
  simp only at hw
  unfold Cell.ok at hw
  rw [hu] at hw
  cases v <;> first | rfl | (simp at hw)
theorem one_bool (hu : P.underlying t = some .bool) (hw : Value.okWide P w .any 0 t v) : v.cells = #[v] := by
  unfold Value.okWide Cell.okWide at hw
  rw [hu] at hw
  simp only at hw
  unfold Cell.ok at hw
  rw [hu] at hw
  cases v <;> first | rfl | (simp at hw)
theorem one_str (hu : P.underlying t = some .string) (hw : Value.okWide P w .any 0 t v) : v.cells = #[v] := by
  unfold Value.okWide Cell.okWide at hw
  rw [hu] at hw
  simp only at hw
  unfold Cell.ok at hw
  rw [hu] at hw
  cases v <;> first | rfl | (simp at hw)
theorem one_slice {e : TypeId} (hu : P.underlying t = some (.slice e)) (hw : Value.okWide P w .any 0 t v) : v.cells = #[v] := by
  unfold Value.okWide Cell.okWide at hw
  rw [hu] at hw
  simp only at hw
  unfold Cell.ok at hw
  rw [hu] at hw
  cases v <;> first | rfl | (simp at hw)
end
end Go.V
