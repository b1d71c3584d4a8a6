/- The library V, part 31: an empty slice in a cell is looked at as an own row; the lemmas of a walk as one set. -/
import Derived.Test.YtcoakjnmnommpaaGreatDoorV20
import Derived.ProofKit
set_option linter.unusedVariables false
set_option linter.unusedSimpArgs false
namespace Go.V
open Go Go.RowKit
def St0 (w : World) : St := ⟨fun k => w.heap[k]?, fun _ => none, fun _ => none, w⟩
def EnvW (w : World) : Env := (St0 w).env []
theorem kdK9 (w : World) : (St0 w).Ok [] :=
 ⟨fun k o h => h, fun b s t es hb => by simp at hb, fun b ob0 hb => by simp at hb, fun b b' g hb => by simp [St.at] at hb⟩
theorem xcQ9 {P : Program} {G : Glob} {f : FuncId} {args : List AV} {vals : List Value} {b : Bool} {w : World} (h : PC P G f args (.bool b)) (hG : Globs G (fun k => w.heap[k]?)) (ha : RelL (EnvW w) args vals) :
  Calls P f vals.toArray w fun e w' => e = .returned (.bool b) ∧ Below w.heap.size w w' := by
 refine (h (St0 w) vals (kdK9 w) hG ha).mono fun e w' hh => ?_
 obtain ⟨v, S', rfl, rfl, hok, hext, hrel⟩ := hh
 have hn : ∀ k, ¬ (St0 w).Owns [] k := fun k ⟨b, hb⟩ => by simp [St.at] at hb
 have hv : v = .bool b := by simpa [Rel] using hrel
 exact ⟨by rw [hv], ⟨hext.os, hext.tape, hext.output, hext.size, fun k hlt => hext.keep k hlt (hn k)⟩⟩
theorem vaK9 {w w' : World} (hg : Below w.heap.size w w') {i : Nat} (hi : i < w.heap.size) : w'.heap[i]? = w.heap[i]? := hg.block i hi
theorem kbU9 {w w' : World} (hg : Below w.heap.size w w') {p : MemPlace} (hp : p.block < w.heap.size) : w.sameAt w' p := by
 cases p with
 | cell b off =>
  have hb : w'.heap[b]? = w.heap[b]? := vaK9 hg hp
  simp only [World.sameAt, World.cell?]
  rw [hb]
 | map b => exact vaK9 hg hp
theorem vY0 {H : Type} {enc : TypeId × Value → H} {P : Program} (hl : laidOutB P = true) {w w' : World} (hg : Below w.heap.size w w') {sp : Nat → Bool} : ∀ {ts : List TypeId} {vs : List Value} {ds : List (DataW H)} {ps : List MemPlace},
  (ts.all fun t => P.readableRec t && decide (t < P.types.size)) = true → DataW.TrodAll enc P w 0 (fun _ => true) true ts vs ds ps → (∀ p ∈ ps, p.block < w.heap.size) → (∀ p ∈ ps, sp p.block = true) → DataW.TrodAll enc P w' 0 sp true ts vs ds ps
 | [], [], [], ps, _, h, _, _ => h
 | t :: ts, v :: vs, d :: ds, ps, ht, ⟨p, q, h1, h2, e⟩, hlt, hs => by
  subst e
  simp only [List.all_cons, Bool.and_eq_true, decide_eq_true_eq] at ht
  refine ⟨p, q, Go.WideElems.Trod_stays hl ht.1.1 ht.1.2 h1 (fun x hx => kbU9 hg (hlt x (List.mem_append_left _ hx))) (fun x hx => hs x (List.mem_append_left _ hx)), ?_, rfl⟩
  exact vY0 hl hg (by simpa using ht.2) h2 (fun x hx => hlt x (List.mem_append_right _ hx)) (fun x hx => hs x (List.mem_append_right _ hx))
 | [], v :: vs, ds, ps, _, h, _, _ => h.elim
 | [], [], d :: ds, ps, _, h, _, _ => h.elim
 | t :: ts, [], ds, ps, _, h, _, _ => h.elim
 | t :: ts, v :: vs, [], ps, _, h, _, _ => h.elim
theorem qbV9 {w : World} {g off : Nat} {v : Value} (h : w.cell? ⟨g, off, none⟩ = some v) : zv0 (EnvW w).M g off = some v := by
 unfold World.cell? at h
 simp only [zv0, EnvW, St.env, St0]
 split at h
 ·rename_i c t fr hx
  rw [hx]
  simpa using h
 ·cases h
theorem kcm9 {w : World} {a : Addr} {v : Value} (h : w.cell? a = some v) : a.spot = none := by
 unfold World.cell? at h
 split at h
 ·split at h
  ·cases h
  ·rename_i q; simpa using q
 ·cases h
theorem qdg9 {a : Addr} (h : a.spot = none) (n : Nat) : a.add n = ⟨a.block, a.off + n, none⟩ := by
 unfold Addr.add
 split
 ·rename_i q; subst q
  cases a; simp at h; subst h; rfl
 ·rfl
theorem vbf9 {α β : Type} {f : α → Option β} : ∀ {l : List α} {r : List β}, l.mapM f = some r → r.length = l.length ∧ ∀ (i : Nat) (x : α) (y : β), l[i]? = some x → r[i]? = some y → f x = some y
 | [], r, h => by
  simp at h; subst h; simp
 | a :: l, r, h => by
  rw [List.mapM_cons] at h
  cases ha : f a with
  | none => rw [ha] at h; cases h
  | some b =>
   rw [ha] at h
   cases hl : l.mapM f with
   | none => rw [hl] at h; cases h
   | some bs =>
    rw [hl] at h
    injection h with h; subst h
    obtain ⟨h1, h2⟩ := vbf9 hl
    refine ⟨by simp [h1], fun i x y hx hy => ?_⟩
    cases i with
    | zero =>
     simp at hx hy
     subst hx; subst hy; exact ha
    | succ i => exact h2 i x y (by simpa using hx) (by simpa using hy)
theorem qax9 {α : Type} {Pr : Nat → α → Prop} : ∀ (n : Nat), (∀ i, i < n → ∃ y, Pr i y) → ∃ ys : List α, ys.length = n ∧ ∀ (i : Nat) (y : α), ys[i]? = some y → Pr i y
 | 0, _ => ⟨[], rfl, fun i y h => by simp at h⟩
 | n + 1, h => by
  obtain ⟨ys, h1, h2⟩ := qax9 n fun i hi => h i (by omega)
  obtain ⟨y, hy⟩ := h n (by omega)
  refine ⟨ys ++ [y], by simp [h1], fun i z hz => ?_⟩
  rcases Nat.lt_or_ge i n with q|q
  ·rw [List.getElem?_append_left (by omega)] at hz; exact h2 i z hz
  ·rw [List.getElem?_append_right (by omega)] at hz
   have : i - ys.length = 0 := by
    have := (List.getElem?_eq_some_iff.1 hz).1
    simp at this; omega
   rw [this] at hz
   simp at hz; subst hz
   have : i = n := by omega
   subst this; exact hy
structure View (P : Program) (t : TypeId) (α : Type) where
 to : α → List AV
 ok : α → Prop
 get : ∀ {H : Type} {enc : TypeId × Value → H} {w : World} {fuel : Nat} {cs : List Value} {x : DataW H × List MemPlace}, DataW.trod enc P w 0 (fun _ => true) true fuel t cs = some x → ∃ y, ok y ∧ RelL (EnvW w) (to y) cs ∧ ∀ u ∈ cs, u.oneCell' = true
def View.int {P : Program} {t : TypeId} (k : IntKind) (hu : P.underlying t = some (.int k)) : View P t Int where
 to n := [.int k n]
 ok n := (Lit.int k n).wf = true
 get h := by
  obtain ⟨n, rfl, _, hw⟩ := DataW.trod_int hu h
  exact ⟨n, hw, by simp [RelL, Rel], by simp [Value.oneCell']⟩
def View.bool {P : Program} {t : TypeId} (hu : P.underlying t = some .bool) : View P t Bool where
 to n := [.bool n]
 ok n := True
 get h := by
  obtain ⟨n, rfl, _⟩ := DataW.trod_bool hu h
  exact ⟨n, trivial, by simp [RelL, Rel], by simp [Value.oneCell']⟩
def View.str {P : Program} {t : TypeId} (hu : P.underlying t = some .string) : View P t (List UInt8) where
 to n := [.str n]
 ok n := n.length ≤ maxLen
 get h := by
  obtain ⟨s, rfl, _, hw⟩ := DataW.trod_string hu h
  exact ⟨s.data.toList, by simpa using hw, by simp [RelL, Rel], by simp [Value.oneCell']⟩
def View.slice {P : Program} {t e : TypeId} {α : Type} (s : Nat) (hu : P.underlying t = some (.slice e)) (hs : P.cellsOf e = s) (hpos : 0 < s) (v : View P e α) : View P t (List α × Nat) where
 to y := [.sl s (y.1.map v.to) (some y.2)]
 ok y := (∀ x ∈ y.1, v.ok x) ∧ y.1.length ≤ y.2 ∧ y.2 ≤ maxLen
 get {H enc w fuel cs x} h := by
  rcases DataW.trod_slice hu h with ⟨rfl, _⟩|⟨a, len, cap, elems, rest, n, rfl, rfl, hx, _, h1, h2, h3, h4, _⟩
  ·exact ⟨([], 0), ⟨by simp, by simp, by simp⟩, by simp [RelL, Rel], by simp [Value.oneCell']⟩
  ·have hcell : ∀ i, i < len → ∃ ci y, w.cells? 0 (a.add (i * s)) s = some ci ∧ v.ok y ∧ RelL (EnvW w) (v.to y) ci ∧ ∀ u ∈ ci, u.oneCell' = true := fun i hi => by
    have q := h4 i hi
    have hlt : i < elems.length := by omega
    rw [List.getElem?_eq_getElem hlt, hs] at q
    cases hc : w.cells? 0 (a.add (i * s)) s with
    | none => rw [hc] at q; cases q
    | some ci =>
     rw [hc] at q
     obtain ⟨y, q1, q2, q3⟩ := v.get (H := H) q
     exact ⟨ci, y, rfl, q1, q2, q3⟩
   have hparts : ∀ i ci, w.cells? 0 (a.add (i * s)) s = some ci → ci.length = s ∧ ∀ j u, ci[j]? = some u → w.cell? ((a.add (i * s)).add j) = some u := fun i ci hc => by
    unfold World.cells? at hc
    rw [if_pos (Nat.zero_le _)] at hc
    obtain ⟨q1, q2⟩ := vbf9 hc
    refine ⟨by simpa using q1, fun j u hj => ?_⟩
    have hjs : j < s := by have := (List.getElem?_eq_some_iff.1 hj).1; simp at q1; omega
    exact q2 j j u (by simp [hjs]) hj
   have hspot : 0 < len → a.spot = none := fun hl => by
    obtain ⟨ci, y, hc, _⟩ := hcell 0 hl
    obtain ⟨q1, q2⟩ := hparts 0 ci hc
    have h0 : 0 < ci.length := by omega
    have := q2 0 ci[0] (by simp [h0])
    rw [Nat.zero_mul] at this
    have e : (a.add 0).add 0 = a := rfl
    rw [e] at this
    exact kcm9 this
   obtain ⟨ys, g1, g2⟩ := qax9 (Pr := fun i y => v.ok y ∧ (v.to y).length = s ∧ RelC (EnvW w) (v.to y) a.block (a.off + i * s)) len fun i hi => by
    obtain ⟨ci, y, hc, q1, q2, q3⟩ := hcell i hi
    obtain ⟨p1, p2⟩ := hparts i ci hc
    refine ⟨y, q1, by have := q2.length; omega, RelC.mk fun j b hj => ?_⟩
    obtain ⟨u, hu', hr⟩ := q2.get hj
    refine ⟨u, ?_, q3 u (List.mem_of_getElem? hu'), hr⟩
    have := p2 j u hu'
    rw [qdg9 (hspot (by omega)), qdg9 rfl] at this
    exact qbV9 this
   refine ⟨(ys, cap), ⟨fun x hx => ?_, by simp [g1, h1], h2⟩, ?_, by simp [Value.oneCell']⟩
   ·obtain ⟨i, hi⟩ := List.mem_iff_getElem?.1 hx
    exact (g2 i x hi).1
   ·refine ⟨_, [], rfl, ?_, rfl⟩
    simp only [Rel]
    refine ⟨some a, cap, by simp [g1], by simp [g1, h1], h2, fun k hk => by injection hk, ?_⟩
    rcases Nat.eq_zero_or_pos len with q|q
    ·left
     have : ys = [] := List.eq_nil_of_length_eq_zero (by omega)
     rw [this]; rfl
    ·right
     have hs' := hspot q
     refine ⟨a.block, a.off, by cases a; simp at hs'; subst hs'; rfl, RelE.mk fun i e he => ?_⟩
     rw [List.getElem?_map] at he
     cases hy : ys[i]? with
     | none => rw [hy] at he; cases he
     | some y =>
      rw [hy] at he
      simp only [Option.map_some, Option.some.injEq] at he
      subst he
      exact (g2 i y hy).2
structure FView (P : Program) (fs : List Field) (off tot : Nat) (β : Type) where
 to : β → List AV
 ok : β → Prop
 get : ∀ {H : Type} {enc : TypeId × Value → H} {w : World} {n : Nat} {cs : List Value}, cs.length = tot →
  (∀ (i : Nat) (f : Field), fs[i]? = some f → ∃ x : DataW H × List MemPlace, DataW.trod enc P w 0 (fun _ => true) true n f.type (List.take (P.cellsOf f.type) (List.drop f.offset cs)) = some x) → ∃ y, ok y ∧ RelL (EnvW w) (to y) (cs.drop off) ∧ ∀ u ∈ cs.drop off, u.oneCell' = true
def FView.nil {P : Program} {off tot : Nat} (h : tot ≤ off) : FView P [] off tot Unit where
 to _ := []
 ok _ := True
 get hc _ := by
  refine ⟨(), trivial, ?_⟩
  rw [List.drop_eq_nil_of_le (by omega)]
  simp [RelL]
def FView.cons {P : Program} {f : Field} {fs : List Field} {off tot : Nat} {α β : Type} (c : Nat) (hf : f.offset = off) (hc : P.cellsOf f.type = c) (v : View P f.type α) (r : FView P fs (off + c) tot β) : FView P (f :: fs) off tot (α × β) where
 to y := v.to y.1 ++ r.to y.2
 ok y := v.ok y.1 ∧ r.ok y.2
 get {H enc w n cs} hl h := by
  obtain ⟨x, hx⟩ := h 0 f rfl
  rw [hf, hc] at hx
  obtain ⟨y1, q1, q2, q3⟩ := v.get hx
  obtain ⟨y2, p1, p2, p3⟩ := r.get hl fun i f' hi => h (i + 1) f' hi
  have e : cs.drop off = (cs.drop off).take c ++ cs.drop (off + c) := by
   rw [← List.drop_drop, List.take_append_drop]
  refine ⟨(y1, y2), ⟨q1, p1⟩, ?_, ?_⟩
  ·rw [e]; exact q2.append p2
  ·rw [e]; intro u hu
   rcases List.mem_append.1 hu with q|q
   ·exact q3 u q
   ·exact p3 u q
def View.struct {P : Program} {t : TypeId} {fs : Array Field} {β : Type} (tot : Nat) (hu : P.underlying t = some (.struct fs)) (ht : P.cellsOf t = tot) (r : FView P fs.toList 0 tot β) : View P t β where
 to := r.to
 ok := r.ok
 get {H enc w fuel cs x} h := by
  obtain ⟨xs, n, rfl, _, h1, h2, h3⟩ := DataW.trod_struct hu h
  obtain ⟨y, q1, q2, q3⟩ := r.get (H := H) (h1.trans ht) fun i f hi => by
   have hi' : fs[i]? = some f := by simpa using hi
   have hlt : i < xs.length := by rw [h2]; exact (Array.getElem?_eq_some_iff.1 hi').1
   exact ⟨xs[i], by rw [h3 i f hi', List.getElem?_eq_getElem hlt]⟩
  exact ⟨y, q1, by simpa using q2, by simpa using q3⟩
section
variable {P : Program} {H : Type} {enc : TypeId × Value → H} {w : World} {t : TypeId} {v : Value} {d : DataW H} {ps : List MemPlace} {α : Type}
theorem zdt9 {a : α → AV} (V : View P t α) (hV : ∀ y, V.to y = [a y]) (hc : v.cells = #[v]) (h : DataW.Trod enc P w 0 (fun _ => true) true t v d ps) : ∃ y, V.ok y ∧ Rel (EnvW w) (a y) v := by
 obtain ⟨fuel, h⟩ := h
 obtain ⟨y, q1, q2, q3⟩ := V.get h
 refine ⟨y, q1, ?_⟩
 rw [hV, hc] at q2
 simp only [RelL] at q2
 obtain ⟨u, us, e, hr, _⟩ := q2
 simp at e
 rw [e.1]; exact hr
end
end Go.V
set_option linter.unusedVariables false
set_option linter.unusedSimpArgs false
namespace Go.V
open Go Go.RowKit
section
variable {S : St} {H : List Blk}
def St.nil (S : St) (b : Nat) : St := { S with μ := upd S.μ b none }
theorem qaW9 (hok : S.Ok H) (s : Nat) (t : TypeId) : Ext H.length S H (S.nil H.length) (H ++ [.row s t []]) where
 os := rfl
 tape := rfl
 output := rfl
 size := Nat.le_refl _
 keep i hi hno := rfl
 M i o h := h
 dom i h := .inl h
 own i h := by
  obtain ⟨x, hx⟩ := h
  by_cases e : x < H.length
  ·left
   refine ⟨x, ?_⟩
   simpa only [St.at, St.nil, List.getElem?_append_left e, qh0 _ _ (show x ≠ H.length by omega)] using hx
  ·by_cases e2 : x = H.length
   ·subst e2
    simp [St.at, St.nil, ve0] at hx
   ·have : (H ++ [Blk.row s t []])[x]? = none := List.getElem?_eq_none (by simp; omega)
    simp [St.at, this] at hx
 sh x s' cur hx hs := ⟨cur, Nat.le_refl _, by rw [qC0 hx]; exact hs, fun _ => qh0 _ _ (show x ≠ H.length by omega)⟩
 ν x g' hx hs := by rw [zC0 hx]; exact hs
 len h := by simp
theorem qcn9 (hok : S.Ok H) (s : Nat) (t : TypeId) : (S.nil H.length).Ok (H ++ [.row s t []]) := by
 have hle := (qaW9 hok s t).le (Nat.le_refl _)
 have hat : ∀ x, x < H.length → (S.nil H.length).at (H ++ [.row s t []]) x = S.at H x := fun x e => by
  simp only [St.at, St.nil, List.getElem?_append_left e, qh0 _ _ (show x ≠ H.length by omega)]
 have hlt : ∀ x g, (S.nil H.length).at (H ++ [.row s t []]) x = some g → x < H.length := fun x g hx => by
  by_cases e : x < H.length
  ·exact e
  ·by_cases e2 : x = H.length
   ·subst e2; simp [St.at, St.nil, ve0] at hx
   ·have : (H ++ [Blk.row s t []])[x]? = none := List.getElem?_eq_none (by simp; omega)
    simp [St.at, this] at hx
 refine ⟨hok.imm, fun x s' t' es hx => ?_, fun x ob0 hx => ?_, fun x y g hx hy => ?_⟩
 ·by_cases e : x < H.length
  ·rw [List.getElem?_append_left e] at hx
   rcases hok.row x s' t' es hx with q|⟨g, k, cs, h1, h2, h3, h4, h5, h6, h7⟩
   ·exact .inl ⟨(qh0 _ _ (by omega)).trans q.1, q.2⟩
   ·exact .inr ⟨g, k, cs, (qh0 _ _ (by omega)).trans h1, h2, h3, h4, h5, h6, h7.mono hle⟩
  ·have e2 : x = H.length := by
    have := (List.getElem?_eq_some_iff.1 hx).1
    simp at this; omega
   subst e2
   simp at hx
   exact .inl ⟨ve0 _ _ _, .inl hx.2.2⟩
 ·by_cases e : x < H.length
  ·rw [List.getElem?_append_left e] at hx
   obtain ⟨g, ob1, h1, h2, h3, h4⟩ := hok.ob x ob0 hx
   exact ⟨g, ob1, h1, h2, h3, h4.mono hle⟩
  ·have e2 : x = H.length := by
    have := (List.getElem?_eq_some_iff.1 hx).1
    simp at this; omega
   subst e2
   simp at hx
 ·have q1 := hlt x g hx
  have q2 := hlt y g hy
  rw [hat x q1] at hx; rw [hat y q2] at hy
  exact hok.inj x y g hx hy
end
theorem zp0 {n0 n t z sz : Nat} {ty : TypeId} {s : Nat → AV} {H : List Blk} (h : s t = .sl z [] (some 0)) :
  Weak n0 (Lst n s) H (Lst n (updS s t (.own H.length 0 0 none))) (H ++ [.row sz ty []]) := fun S vs hok hn ha => by
 have hext := qaW9 hok sz ty
 refine ⟨S.nil H.length, rfl, qcn9 hok sz ty, hext.less hn (Nat.le_refl _), ?_⟩
 have hle := hext.le (Nat.le_refl _)
 refine RelL.mk (by rw [← ha.length]; simp [zO0]) fun i a v hi hv => ?_
 have hil : i < n := by have := (List.getElem?_eq_some_iff.1 hi).1; simpa [zO0] using this
 simp only [Lst, List.getElem?_map, List.getElem?_range hil, Option.map_some, Option.some.injEq] at hi
 subst hi
 obtain ⟨v', hv', hr⟩ := ha.get (i := i) (a := s i) (by simp [Lst, List.getElem?_range hil])
 rw [hv] at hv'; injection hv' with hv'; subst hv'
 unfold updS
 split
 ·rename_i e; subst e
  rw [h] at hr
  simp only [Rel] at hr
  obtain ⟨a, cap, rfl, h1, h2, h3, h4⟩ := hr
  have : cap = 0 := h3 0 rfl
  subst this
  simp only [Rel]
  refine ⟨sz, 0, by simp [St.env, shOf], Nat.le_refl _, fun _ => ⟨Nat.le_refl _, .inl ⟨ve0 _ _ _, ⟨a, rfl⟩, by simp⟩⟩⟩
 ·exact Rel.mono hle _ _ hr
end Go.V
set_option linter.unusedVariables false
set_option linter.unusedSimpArgs false
namespace Go.V
open Go Go.RowKit
section
variable {P : Program} {G : Glob}
end
end Go.V
set_option linter.unusedVariables false
set_option linter.unusedSimpArgs false
namespace Go.V
open Go Go.RowKit
mutual
def AV.flat : AV → Bool
 | .int _ _|.bool _|.str _|.anyb|.anyi _|.err|.lit _|.sl _ [] _ => true
 | .agg cs => zcn9 cs
 | .tup cs => zcn9 cs
 | _ => false
def zcn9 : List AV → Bool
 | [] => true
 | a :: as => a.flat && zcn9 as
end
mutual
theorem vbE9 {E E' : Env} : ∀ (a : AV) (v : Value), a.flat = true → Rel E a v → Rel E' a v
 | .int k n, v, _, hr => by simpa [Rel] using hr
 | .bool b, v, _, hr => by simpa [Rel] using hr
 | .str s, v, _, hr => by simpa [Rel] using hr
 | .anyb, v, _, hr => by simpa [Rel] using hr
 | .anyi k, v, _, hr => by simpa [Rel] using hr
 | .err, v, _, hr => by simpa [Rel] using hr
 | .lit u, v, _, hr => by simpa [Rel] using hr
 | .sl s [] c, v, _, hr => by simpa [Rel] using hr
 | .sl s (_ :: _) c, v, h, hr => by simp [AV.flat] at h
 | .agg cs, v, h, hr => by
  simp only [Rel, AV.flat] at hr h ⊢
  obtain ⟨vs, hv, hl, h1⟩ := hr
  exact ⟨vs, hv, zax9 cs vs h hl, h1⟩
 | .tup cs, v, h, hr => by
  simp only [Rel, AV.flat] at hr h ⊢
  obtain ⟨vs, hv, hl⟩ := hr
  exact ⟨vs, hv, zax9 cs vs h hl⟩
 | .own .., v, h, hr => by simp [AV.flat] at h
 | .ptr .., v, h, hr => by simp [AV.flat] at h
 | .iptr .., v, h, hr => by simp [AV.flat] at h
 | .fn .., v, h, hr => by simp [AV.flat] at h
 | .mp .., v, h, hr => by simp [AV.flat] at h
 | .yld .., v, h, hr => by simp [AV.flat] at h
 | .opt .., v, h, hr => by simp [AV.flat] at h
 | .top, v, h, hr => by simp [AV.flat] at h
theorem zax9 {E E' : Env} : ∀ (as : List AV) (vs : List Value), zcn9 as = true → RelL E as vs → RelL E' as vs
 | [], vs, _, hr => by simpa [RelL] using hr
 | a :: as, vs, h, hr => by
  simp only [RelL, zcn9, Bool.and_eq_true] at hr h ⊢
  obtain ⟨u, us, hv, h1, h2⟩ := hr
  exact ⟨u, us, hv, vbE9 a u h.1 h1, zax9 as us h.2 h2⟩
end
section
variable {P : Program} {G : Glob}
theorem xcn9 {S : St} {H : List Blk} (hok : S.Ok H) {k : Nat} (h : S.Owns H k) : S.M k = none := by
 obtain ⟨b, hb⟩ := h
 unfold St.at at hb
 split at hb
 ·rename_i s t es hbb
  rcases hok.row b s t es hbb with ⟨q, _⟩|⟨g, k', cs, h1, h2, _⟩
  ·rw [q] at hb; cases hb
  ·rw [h1] at hb; injection hb with hb; rw [← hb]; exact h2
 ·rename_i ob0 hbb
  obtain ⟨g, ob1, h1, h2, _⟩ := hok.ob b ob0 hbb
  rw [h1] at hb; injection hb with hb; rw [← hb]; exact h2
 ·cases hb
open Classical in
theorem wcn9 {f : FuncId} {args args' : List AV} {r : AV} {H : List Blk} (d : Nat) (hk : args.all (okA H d) = true) (he : args.map (wv0 H d) = args') (h : PC P G f args' r) (hr : r.flat = true) : qe0 P G f args H r H := fun S vals hok hG ha => by
 subst he
 have hok0 := qbe9 hok
 have hM0 : ∀ k o, S.M k = some o → (S.freeze H).M k = some o := fun k o hk => zaq9 hok hk
 have ha0 : RelL ((S.freeze H).env []) (args.map (wv0 H d)) vals := zaw9 hok _ _ (xaw9 hok d) hk ha
 refine (h (S.freeze H) vals hok0 (hG.mono hM0) ha0).mono fun e w' ⟨v, S1, he, hw, hok1, hext, hrel⟩ => ?_
 have hno : ∀ (T : St) k, ¬ T.Owns [] k := fun T k ⟨b, hb⟩ => by simp [St.at] at hb
 let S' : St := ⟨fun k => if S.Owns H k then none else S1.M k, S.μ, S.ν, S1.w⟩
 have hM' : ∀ k, ¬ S.Owns H k → S'.M k = S1.M k := fun k hk => if_neg hk
 have hMo : ∀ k, S.Owns H k → S'.M k = none := fun k hk => if_pos hk
 have hM : ∀ k o, S.M k = some o → S'.M k = some o := fun k o hk => by
  have hn : ¬ S.Owns H k := fun q => by rw [xcn9 hok q] at hk; cases hk
  rw [hM' k hn]; exact hext.M k o (hM0 k o hk)
 have hsame : ∀ g o, S.Owns H g → S.w.heap[g]? = some o → S1.w.heap[g]? = some o := fun g o hg ho => by
  refine hok1.imm g o (hext.M g o ?_)
  rw [xag9 hg]; exact ho
 have hle : (S.env H).le (S'.env H) := ⟨hM, fun b s cur hs => ⟨cur, Nat.le_refl _, hs, fun _ => rfl⟩, fun b g hs => hs⟩
 refine ⟨v, S', he, hw, ⟨fun k o hk => ?_, fun b s t es hbb => ?_, fun b ob0 hbb => ?_, hok.inj⟩, ⟨hext.os, hext.tape, hext.output, hext.size, fun k hk hn => hext.keep k hk (hno _ _), hM, fun k hk => ?_, fun k hk => .inl hk, fun b s cur _ hs => ⟨cur, Nat.le_refl _, hs, fun _ => rfl⟩, fun b g _ hs => hs, id⟩, vbE9 r v hr hrel⟩
 ·by_cases q : S.Owns H k
  ·rw [hMo k q] at hk; cases hk
  ·rw [hM' k q] at hk; exact hok1.imm k o hk
 ·rcases hok.row b s t es hbb with q|⟨g, k, cs, h1, h2, h3, h4, h5, h6, h7⟩
  ·exact .inl q
  ·have hg : S.Owns H g := ⟨b, by simp [St.at, hbb, h1]⟩
   exact .inr ⟨g, k, cs, h1, hMo g hg, hsame g _ hg h3, h4, h5, h6, h7.mono hle⟩
 ·obtain ⟨g, ob1, h1, h2, h3, h4⟩ := hok.ob b ob0 hbb
  have hg : S.Owns H g := ⟨b, by simp [St.at, hbb, h1]⟩
  exact ⟨g, ob1, h1, hMo g hg, hsame g _ hg h3, h4.mono hle⟩
 ·by_cases q : S.Owns H k
  ·exact absurd (hMo k q) hk
  ·rw [hM' k q] at hk
   rcases hext.dom k hk with q1|q1|q1
   ·left
    intro h0
    apply q1
    simp only [St.freeze]; rw [if_neg q]; exact h0
   ·exact absurd q1 (hno _ _)
   ·exact .inr (.inr q1)
end
end Go.V
set_option linter.unusedVariables false
set_option linter.unusedSimpArgs false
namespace Go.V
open Go Go.RowKit
inductive Halt (p : Prop) : Prop where
 | mk (h : p)
 | mk' (h : p)
def zdg9 (H : List Blk) (d : Nat) (a : AV) : AV := if okA H d a = true then wv0 H d a else .top
section
variable {ρ : Bool} {P : Program} {G : Glob} {n0 n : Nat} {p : List Nat} {Q : Exit → (Nat → AV) → List Blk → Prop} {B : Prop} {s : Nat → AV} {H : List Blk}
theorem xax9 {body : Code} (h : Halt (V.Go ρ P G n0 n body p Q B s H)) : V.Go ρ P G n0 n body p Q B s H := by cases h <;> assumption
end
end Go.V
set_option linter.unusedVariables false
set_option linter.unusedSimpArgs false
namespace Go.V
open Go Go.RowKit
def vg0 : Exit → Option Code
 | .ret => some .ret
 | .exit id => some (.exit id)
 | .goto t => some (.goto t)
 | _ => none
def kY0 : Exit → Bool
 | .panic _ => false
 | .outgrown => false
 | _ => true
def setA : List Tmp → List AV → List AV → List AV
 | p :: ps, x :: xs, a => setA ps xs (a.set p x)
 | _, _, a => a
def wr0 (fn : FuncId) (ts : Array Value) (ps : Array Tmp) (assign body : Code) (D : Nat) (st : LoopState) (pe : Option Code) : Obj := .loop { state := st, pending := pe, fn := fn, tmps := ts, params := ps, assign := assign, body := body, defers := D }
section
variable {P : Program} {G : Glob}
theorem kbf9 {E : Env} : ∀ (ps : List Tmp) (xs : List AV) (a : List AV) (ts : Array Value) (vs : List Value), RelL E a ts.toList → RelL E xs vs → RelL E (setA ps xs a) ((ps.zip vs).foldl (fun t (p : Tmp × Value) => t.setIfInBounds p.1 p.2) ts).toList
 | [], xs, a, ts, vs, ha, hx => by simpa [setA] using ha
 | p :: ps, [], a, ts, vs, ha, hx => by
  simp only [RelL] at hx; subst hx
  simpa [setA] using ha
 | p :: ps, x :: xs, a, ts, vs, ha, hx => by
  simp only [RelL] at hx
  obtain ⟨u, us, rfl, h1, h2⟩ := hx
  simp only [setA, List.zip_cons_cons, List.foldl_cons]
  refine kbf9 ps xs _ _ us ?_ h2
  simpa using ha.set p h1
def St.add (S : St) (k L : Nat) (w : World) : St := { S with ν := upd S.ν k (some L), w := w }
theorem qbg9 {S : St} {H : List Blk} {L : Nat} {w : World} {x : OB} {b : Nat} (hb : b < H.length) : (S.add H.length L w).at (H ++ [.ob x]) b = S.at H b := by
 simp only [St.at, St.add, List.getElem?_append_left hb, qh0 _ _ (show b ≠ H.length by omega)]
theorem xO0 {S : St} {H : List Blk} {L : Nat} {w : World} {x : OB} : (S.add H.length L w).at (H ++ [.ob x]) H.length = some L := by
 simp [St.at, St.add, ve0]
theorem xM0 {S : St} {H : List Blk} {x : OB} {b g : Nat} (h : S.at (H ++ [.ob x]) b = some g) : b < H.length ∨ b = H.length := by
 by_cases e : b ≤ H.length
 ·omega
 ·have : (H ++ [Blk.ob x])[b]? = none := List.getElem?_eq_none (by simp; omega)
  simp [St.at, this] at h
theorem vcn9 {S : St} {H : List Blk} {L : Nat} {w : World} {x : OB} : (S.env H).le ((S.add H.length L w).env (H ++ [.ob x])) :=
 ⟨fun k o h => h, fun b s cur hb => ⟨cur, Nat.le_refl _, by
  have hb : shOf H b = some (s, cur) := hb
  have := qaS9 hb
  show shOf (H ++ [.ob x]) b = _
  simpa [shOf, List.getElem?_append_left this] using hb, fun _ => rfl⟩, fun b g hb => by
  have hb : mpOf S.ν H b = some g := hb
  have hlt := zaS9 hb
  show mpOf (upd S.ν H.length (some L)) (H ++ [.ob x]) b = _
  simpa [mpOf, List.getElem?_append_left hlt, qh0 _ _ (show b ≠ H.length by omega)] using hb⟩
theorem xdg9 {S : St} {H : List Blk} {L : Nat} {w : World} {o : Obj} {as : List AV} {vs : List Value} (hok : S.Ok H) (hL : S.Free H L) (hsame : ∀ k, k < S.w.heap.size → k ≠ L → w.heap[k]? = S.w.heap[k]?) (hnew : w.heap[L]? = some o) (hr : RelL (S.env H) as vs) :
  (S.add H.length L w).Ok (H ++ [.ob (.loop o as vs)]) := by
 have hle := vcn9 (S := S) (H := H) (L := L) (w := w) (x := .loop o as vs)
 have hne : ∀ b k, S.at H b = some k → k ≠ L := fun b k hb e => hL.1 ⟨b, by rw [← e]; exact hb⟩
 refine ⟨fun k o' hk => ?_, fun b s t es hb => ?_, fun b x hb => ?_, fun b b' g hb hb' => ?_⟩
 ·have hk' : S.M k = some o' := hk
  have : k ≠ L := fun e => by rw [e, hL.2] at hk'; cases hk'
  exact (hsame k (M_lt hok (by rw [hk']; simp)) this).trans (hok.imm k o' hk')
 ·have hlt : b < H.length := by
   have := (List.getElem?_eq_some_iff.1 hb).1
   simp at this
   rcases Nat.lt_or_ge b H.length with q|q
   ·exact q
   ·have e : b = H.length := by omega
    subst e; simp at hb
  rw [List.getElem?_append_left hlt] at hb
  rcases hok.row b s t es hb with q|⟨g, k, cs, h1, h2, h3, h4, h5, h6, h7⟩
  ·exact .inl q
  ·have hlt2 := (Array.getElem?_eq_some_iff.1 h3).1
   exact .inr ⟨g, k, cs, h1, h2, (hsame g hlt2 (hne b g (by simp [St.at, hb, h1]))).trans h3, h4, h5, h6, h7.mono hle⟩
 ·rcases Nat.lt_or_ge b H.length with hlt|hge
  ·rw [List.getElem?_append_left hlt] at hb
   obtain ⟨g, o1, h1, h2, h3, h4⟩ := hok.ob b x hb
   have hlt2 := (Array.getElem?_eq_some_iff.1 h3).1
   exact ⟨g, o1, (qh0 _ _ (show b ≠ H.length by omega)).trans h1, h2, (hsame g hlt2 (hne b g (by simp [St.at, hb, h1]))).trans h3, h4.mono hle⟩
  ·have e : b = H.length := by
    have := (List.getElem?_eq_some_iff.1 hb).1
    simp at this; omega
   subst e
   simp at hb
   subst hb
   exact ⟨L, o, ve0 _ _ _, hL.2, hnew, rfl, RelL.mono hle _ _ hr⟩
 ·rcases xM0 hb with e|e
  ·rw [qbg9 e] at hb
   rcases xM0 hb' with e'|e'
   ·rw [qbg9 e'] at hb'; exact hok.inj b b' g hb hb'
   ·rw [e', xO0] at hb'; injection hb' with hb'
    exact absurd hb'.symm (hne b g hb)
  ·rw [e, xO0] at hb; injection hb with hb
   rcases xM0 hb' with e'|e'
   ·rw [qbg9 e'] at hb'; exact absurd hb.symm (hne b' g hb')
   ·omega
theorem zbg9 {S : St} {H : List Blk} {x : OB} {L : Nat} (hok : S.Ok (H ++ [.ob x])) (hν : S.ν H.length = some L) : S.Free H L := by
 have hat : S.at (H ++ [.ob x]) H.length = some L := by simp [St.at, hν]
 refine ⟨fun ⟨b, hb⟩ => ?_, ?_⟩
 ·have hlt : b < H.length := by
   rcases Nat.lt_or_ge b H.length with q|q
   ·exact q
   ·simp [St.at, List.getElem?_eq_none q] at hb
  have : S.at (H ++ [.ob x]) b = some L := by simpa only [St.at, List.getElem?_append_left hlt] using hb
  have := hok.inj b H.length L this hat
  omega
 ·obtain ⟨g, o, h1, h2, _⟩ := hok.ob H.length x (by simp)
  rw [hν] at h1; injection h1 with h1; rw [h1]; exact h2
theorem xbg9 {S S' : St} {n0 : Nat} {H H' : List Blk} {L : Nat} (h : Ext n0 S H S' H') (hL : S.Owns H L ∨ S.w.heap.size ≤ L) (o : Obj) : Ext n0 S H (S'.shut L o) H' :=
 { h with
  size := by simpa [St.shut] using h.size
  keep := fun k hk hn => (World.putObj_heap_other (by rintro rfl; rcases hL with q|q; exact hn q; omega)).trans (h.keep k hk hn) }
theorem kcn9 {S : St} {H : List Blk} {g L : Nat} (h : S.Free H g) (o : Obj) : (S.shut L o).Free H g := h
theorem kS0 {k : Nat} {xs aS : List AV} {H1 H2 : List Blk} {fn : FuncId} {ts : Array Value} {ps : Array Tmp} {assign body : Code} {D : Nat} {e : Exit}
  (hbody : AWp true P G k assign (vbs9 (AWp true P G k body (fun e' a' H' => e' = e ∧ H'.take k = H2)) (fun _ _ _ => False)) (setA ps.toList xs aS) H1)
  (h1 : H1.length = k) (h2 : H2.length = k) (hb1 : H1.all (Blk.below k) = true) (hb2 : H2.all (Blk.below k) = true) (he : kY0 e = true) (hx : idsL van9 xs = true) (ha : idsL (fun b => decide (b < k)) aS = true) (hsz : xs.length = ps.size) :
  qY0 P G k xs (H1 ++ [.ob (.loop (wr0 fn ts ps assign body D .ready none) aS ts.toList)]) (.bool (vg0 e).isNone) (H2 ++ [.ob (.loop (wr0 fn ts ps assign body D (if (vg0 e).isNone = true then .ready else .done) (vg0 e)) aS ts.toList)]) := by
 subst h1
 intro S vals L hok hG hrel hL
 have hν : S.ν H1.length = some L := by simpa [mpOf] using hL
 have hfree := zbg9 hok hν
 obtain ⟨g, o, q1, q2, q3, q4, q5⟩ := hok.ob H1.length _ (by simp; rfl)
 rw [hν] at q1; injection q1 with q1; subst q1; subst q4
 have htk : (H1 ++ [Blk.ob (.loop (wr0 fn ts ps assign body D .ready none) aS ts.toList)]).take H1.length = H1 := by simp
 obtain ⟨hok1, hext1⟩ := waw9 (n0 := H1.length) hok (Nat.le_refl _) (by simp) (by rw [htk]; exact hb1)
 have hag := vaU9 (m := H1.length) S (H1 ++ [Blk.ob (.loop (wr0 fn ts ps assign body D .ready none) aS ts.toList)])
 rw [htk] at hok1 hext1 hag
 have hvs : vals.length = ps.size := by rw [← hrel.length]; exact hsz
 have hrx : RelL (S.env H1) xs vals := RelL.move (wC0 (E := S.env (H1 ++ [.ob (.loop (wr0 fn ts ps assign body D .ready none) aS ts.toList)])) (E' := S.env H1) fun k o q => q) _ _ hx hrel
 have hra : RelL (S.env H1) aS ts.toList := RelL.move hag _ _ ha q5
 refine ⟨fn, _, assign, body, run_yield (P := P) (args := vals.toArray) q3 (by simpa using hvs), roundIn_of_wpIn (F := Fence.wide) trivial ?_⟩
 have hset := kbf9 ps.toList xs aS ts vals hra hrx
 have hown : S.Owns (H1 ++ [Blk.ob (.loop (wr0 fn ts ps assign body D .ready none) aS ts.toList)]) L := ⟨H1.length, by simp [St.at, hν]⟩
 have hfold : ((ps.zip vals.toArray).foldl (fun t (p : Tmp × Value) => t.setIfInBounds p.1 p.2) ts) = ((ps.toList.zip vals).foldl (fun t (p : Tmp × Value) => t.setIfInBounds p.1 p.2) ts) := by
  rw [← Array.foldl_toList]; simp
 refine wpIn_mono (hbody (some L) S { tmps := (ps.zip vals.toArray).foldl (fun t (p : Tmp × Value) => t.setIfInBounds p.1 p.2) ts, defers := [] } rfl hok1 hG (Nat.le_refl _) (by rw [hfold]; exact hset)) fun e1 act1 w1 hE => ?_
 cases e1 with
 | normal =>
  obtain ⟨a1, Ha, Sa, rfl, hB, hoka, hexta, hra1, _⟩ := hE
  obtain ⟨hfa, hsame⟩ := hfree.ext (Array.getElem?_eq_some_iff.1 q3).1 hexta
  have hLa := hsame.trans q3
  refine ⟨_, run_beginRound (P := P) hLa rfl, ?_⟩
  have hokb := kbs9 hoka hfa (wr0 fn ts ps assign body D .busy none)
  have hlen : H1.length ≤ Ha.length := hexta.len (Nat.le_refl _)
  have henv : (Sa.shut L (wr0 fn ts ps assign body D .busy none)).env Ha = Sa.env Ha := rfl
  refine wpIn_mono (hB (some L) (Sa.shut L (wr0 fn ts ps assign body D .busy none)) act1 rfl hokb (hG.mono hexta.M) hlen hra1) fun e act2 w2 hE2 => ?_
  obtain ⟨a2, Hb, Sb, rfl, ⟨rfl, hH2⟩, hok2, hext2, _, _⟩ := hE2
  have hLb0 : (Sa.shut L (wr0 fn ts ps assign body D .busy none)).w.heap[L]? = some (wr0 fn ts ps assign body D .busy none) := World.putObj_heap_same (Array.getElem?_eq_some_iff.1 hLa).1
  obtain ⟨hfb, hsameb⟩ := (kcn9 (L := L) hfa (wr0 fn ts ps assign body D .busy none)).ext (Array.getElem?_eq_some_iff.1 hLb0).1 hext2
  have hLb := hsameb.trans hLb0
  have hlen2 : H1.length ≤ Hb.length := hext2.len hlen
  obtain ⟨hok3, hext3⟩ := waw9 (n0 := H1.length) hok2 (Nat.le_refl _) hlen2 (by rw [hH2]; exact hb2)
  rw [hH2] at hok3 hext3
  have hfc : Sb.Free H2 L := ⟨fun q => hfb.1 (by
   rcases q with ⟨b, hb⟩
   refine ⟨b, ?_⟩
   have hlt : b < H1.length := by
    rcases Nat.lt_or_ge b H2.length with q|q
    ·omega
    ·simp [St.at, List.getElem?_eq_none q] at hb
   rw [← hH2] at hb
   simpa only [St.at, List.getElem?_take, if_pos hlt] using hb), hfb.2⟩
  -- the chain, as the caller sees it
  have hchain : Ext H1.length S (H1 ++ [Blk.ob (.loop (wr0 fn ts ps assign body D .ready none) aS ts.toList)]) Sb H2 := ((xbg9 (hext1.trans hexta) (.inl hown) _).trans hext2).trans hext3
  have hra2 : RelL (Sb.env H2) aS ts.toList := by
   have e1 := RelL.mono (hexta.le (Nat.le_refl _)) _ _ hra
   refine RelL.mono ?_ _ _ hra
   have : Ext H1.length S H1 Sa Ha := hexta
   have l1 := hexta.le (Nat.le_refl _)
   refine ⟨fun k o q => hext3.M k o (hext2.M k o (hexta.M k o q)), fun b s cur hb => ?_, fun b g hb => ?_⟩
   ·have hlt := qaS9 hb
    obtain ⟨c1, l1, s1, m1⟩ := hexta.sh b s cur hlt hb
    obtain ⟨c2, l2, s2, m2⟩ := hext2.sh b s c1 hlt s1
    obtain ⟨c3, l3, s3, m3⟩ := hext3.sh b s c2 hlt s2
    refine ⟨c3, by omega, s3, fun e => ?_⟩
    have e3 : c3 = c2 := by omega
    have e2 : c2 = c1 := by omega
    have e1 : c1 = cur := by omega
    exact ((m3 e3).trans (m2 e2)).trans (m1 e1)
   ·have hlt := zaS9 hb
    exact hext3.ν b g hlt (hext2.ν b g hlt (hexta.ν b g hlt hb))
  have hend := run_endRound (P := P) (vg0 e) hLb
  let w' := Sb.w.putObj L (wr0 fn ts ps assign body D (if (vg0 e).isNone = true then .ready else .done) (vg0 e))
  have hfin : ∃ v S', Ending.returned (.bool (vg0 e).isNone) = .returned v ∧ S'.w = w' ∧ S'.Ok (H2 ++ [.ob (.loop (wr0 fn ts ps assign body D (if (vg0 e).isNone = true then .ready else .done) (vg0 e)) aS ts.toList)]) ∧
    Ext (H1 ++ [Blk.ob (.loop (wr0 fn ts ps assign body D .ready none) aS ts.toList)]).length S (H1 ++ [Blk.ob (.loop (wr0 fn ts ps assign body D .ready none) aS ts.toList)]) S' (H2 ++ [.ob (.loop (wr0 fn ts ps assign body D (if (vg0 e).isNone = true then .ready else .done) (vg0 e)) aS ts.toList)]) ∧
    Rel (S'.env (H2 ++ [.ob (.loop (wr0 fn ts ps assign body D (if (vg0 e).isNone = true then .ready else .done) (vg0 e)) aS ts.toList)])) (.bool (vg0 e).isNone) v := by
   refine ⟨_, Sb.add H2.length L w', rfl, rfl, xdg9 hok3 hfc (fun k hk hne => World.putObj_heap_other hne) (World.putObj_heap_same (Array.getElem?_eq_some_iff.1 hLb).1) hra2, ?_, by simp [Rel]⟩
   have hput := xbg9 hchain (.inl hown) (wr0 fn ts ps assign body D (if (vg0 e).isNone = true then .ready else .done) (vg0 e))
   have hlt1 : ∀ b, b < (H1 ++ [Blk.ob (.loop (wr0 fn ts ps assign body D .ready none) aS ts.toList)]).length → b < H1.length ∨ b = H1.length := fun b hb => by simp at hb; omega
   exact {
    os := hput.os
    tape := hput.tape
    output := hput.output
    size := hput.size
    keep := hput.keep
    M := hput.M
    dom := hput.dom
    own := fun j hj => by
     obtain ⟨b, hb⟩ := hj
     rcases xM0 hb with q|q
     ·rw [qbg9 q] at hb
      exact hput.own j ⟨b, hb⟩
     ·rw [q, xO0] at hb; injection hb with hb
      rw [← hb]; exact .inl hown
    sh := fun b s cur hb hs => by
     rcases hlt1 b hb with q|q
     ·obtain ⟨c, c1, c2, c3⟩ := hput.sh b s cur q hs
      refine ⟨c, c1, ?_, c3⟩
      have : b < H2.length := by omega
      simpa [shOf, List.getElem?_append_left this] using c2
     ·subst q; simp [shOf] at hs
    ν := fun b g hb hg => by
     rcases hlt1 b hb with q|q
     ·have : mpOf Sb.ν H2 b = some g := hput.ν b g q hg
      have hb2 : b < H2.length := by omega
      have e : (Sb.add H2.length L w').ν b = Sb.ν b := qh0 _ _ (by omega)
      simpa [mpOf, List.getElem?_append_left hb2, e] using this
     ·subst q
      have e : mpOf S.ν (H1 ++ [Blk.ob (.loop (wr0 fn ts ps assign body D .ready none) aS ts.toList)]) H1.length = some L := by simpa [mpOf] using hν
      rw [e] at hg; injection hg with hg; subst hg
      rw [← h2]
      simp [mpOf, St.add, ve0]
    len := fun _ => by simp; omega }
  cases e with
  | normal => exact ⟨_, w', hend, hfin⟩
  | ret => exact ⟨_, w', hend, hfin⟩
  | exit id => exact ⟨_, w', hend, hfin⟩
  | goto t => exact ⟨_, w', hend, hfin⟩
  | panic c => cases he
  | outgrown => cases he
 | exit id => obtain ⟨_, _, _, _, h, _⟩ := hE; exact h.elim
 | goto id => obtain ⟨_, _, _, _, h, _⟩ := hE; exact h.elim
 | ret => obtain ⟨_, _, _, _, h, _⟩ := hE; exact h.elim
 | panic id => obtain ⟨_, _, _, _, h, _⟩ := hE; exact h.elim
 | outgrown => obtain ⟨_, _, _, _, h, _⟩ := hE; exact h.elim
end
end Go.V
set_option linter.unusedVariables false
set_option linter.unusedSimpArgs false
namespace Go.V
open Go Go.RowKit
def Iter (P : Program) (G : Glob) (g : FuncId) (cap : List AV) (x : Nat → List AV) (N : Nat) : Prop :=
 ∀ (K : Nat → List Blk) (b m : Nat) (stop : Bool), (stop = true → m < N) → (stop = false → m = N) →
  (∀ i, i < m → qY0 P G b (x i) (K i) (.bool true) (K (i + 1))) → (stop = true → qY0 P G b (x m) (K m) (.bool false) (K (m + 1))) →
  qe0 P G g (.yld b :: cap) (K 0) (.tup []) (K (if stop = true then m + 1 else m))
def xdt9 (P : Program) (G : Glob) (g : FuncId) (cap : List AV) (x : Nat → List AV) (N : Nat) : Prop :=
 ∀ (K : Nat → List Blk) (b m : Nat) (stop : Bool), (∀ i, (K i).length = b + 1 ∧ (K i).all (Blk.below b) = true) → (stop = true → m < N) → (stop = false → m = N) →
  (∀ i, i < m → qY0 P G b (x i) (K i) (.bool true) (K (i + 1))) → (stop = true → qY0 P G b (x m) (K m) (.bool false) (K (m + 1))) →
  qe0 P G g (.yld b :: cap) (K 0) (.tup []) (K (if stop = true then m + 1 else m))
theorem Iter.toF {P : Program} {G : Glob} {g : FuncId} {cap : List AV} {x : Nat → List AV} {N : Nat} (h : Iter P G g cap x N) : xdt9 P G g cap x N := fun K b m stop _ => h K b m stop
section
variable {P : Program} {G : Glob}
theorem zbV9 {E : Env} {a : List AV} {vs : List Value} (k : Nat) (h : RelL E a vs) : RelL E (a.map (xi0 k)) vs := by
 refine RelL.mk (by simpa using h.length) fun i x v hx hv => ?_
 rw [List.getElem?_map] at hx
 cases hy : a[i]? with
 | none => rw [hy] at hx; cases hx
 | some y =>
  rw [hy] at hx
  simp only [Option.map_some, Option.some.injEq] at hx
  subst hx
  obtain ⟨v', hv', hr⟩ := h.get hy
  rw [hv] at hv'; injection hv' with hv'; subst hv'
  unfold xi0
  split
  ·exact hr
  ·simp [Rel]
theorem wax9 (k : Nat) (a : List AV) : idsL (fun b => decide (b < k)) (a.map (xi0 k)) = true := by
 rw [qO0]
 intro x hx
 obtain ⟨y, _, rfl⟩ := List.mem_map.1 hx
 unfold xi0
 split
 ·assumption
 ·rfl
theorem zaW9 {n0 k m N : Nat} {gf : FuncId} {g : Operand} {ps : Array Tmp} {assign body : Code} {a cap : List AV} {H : List Blk} {x : Nat → List AV} {Q : Post} {e : Exit} (Hs : Nat → List Blk)
  (hg : (ev G a g).strip = .fn gf cap) (hgk : (ev G a g).ok = true) (hent : wb0 P gf = true) (hit : xdt9 P G gf cap x N)
  (hk : H.length = k) (h0 : Hs 0 = H) (hlen : ∀ i, (Hs i).length = k) (hbel : ∀ i, (Hs i).all (Blk.below k) = true)
  (hx : ∀ i, idsL van9 (x i) = true ∧ (x i).length = ps.size)
  (hm1 : (vg0 e).isSome = true → m < N) (hm2 : (vg0 e).isSome = false → m = N) (he : kY0 e = true)
  (hround : ∀ i, i < m → AWp true P G k assign (vbs9 (AWp true P G k body (fun e' a' H' => e' = .normal ∧ H'.take k = Hs (i + 1))) (fun _ _ _ => False)) (setA ps.toList (x i) (a.map (xi0 k))) (Hs i))
  (hlast : (vg0 e).isSome = true → AWp true P G k assign (vbs9 (AWp true P G k body (fun e' a' H' => e' = e ∧ H'.take k = Hs (m + 1))) (fun _ _ _ => False)) (setA ps.toList (x m) (a.map (xi0 k))) (Hs m))
  (hQ : Q e a (Hs (if (vg0 e).isSome = true then m + 1 else m))) : AWp false P G n0 (.rangeFunc g ps assign body) Q a H := by
 intro ro S act hro hok hG hn ha
 have hro : ro = none := by cases ro with|none => rfl|some l => cases hro
 subst hro; subst hk
 refine wpIn_rangeFunc (F := fen none) (n := 0) fun fn hfn => ?_
 -- what is called
 have hfv := (qbd9 (act := act) hG ha g).strip hgk
 rw [hg] at hfv
 simp only [Rel] at hfv
 obtain ⟨caps, hfe, hcap⟩ := hfv
 -- the record and the block for the deferred calls
 obtain ⟨D, hD⟩ : ∃ D, S.w.heap.size = D := ⟨_, rfl⟩
 obtain ⟨R, hR⟩ : ∃ R : Nat → Obj, R = fun i => wr0 fn act.tmps ps assign body D (if i ≤ m then .ready else .done) (if i ≤ m then none else vg0 e) := ⟨_, rfl⟩
 have hRr : ∀ i, i ≤ m → R i = wr0 fn act.tmps ps assign body D .ready none := fun i hi => by rw [hR]; simp [hi]
 have hRd : R (m + 1) = wr0 fn act.tmps ps assign body D .done (vg0 e) := by
  have : ¬ m + 1 ≤ m := by omega
  rw [hR]; simp only [if_neg this]
 obtain ⟨W1, hW1⟩ : ∃ W1, (S.w.alloc (.deferred (some []))).alloc (wr0 fn act.tmps ps assign body D .ready none) = W1 := ⟨_, rfl⟩
 have hW1h : ∀ j, j < D → W1.heap[j]? = S.w.heap[j]? := fun j hj => by
  rw [← hW1]; exact (Below.heap_alloc _ _ _ (by simp; omega)).trans (Below.heap_alloc _ _ _ (by omega))
 have hW1s : W1.heap.size = D + 2 := by rw [← hW1]; simp; omega
 have hW1L : W1.heap[D + 1]? = some (wr0 fn act.tmps ps assign body D .ready none) := by
  rw [← hW1]; have := World.alloc_heap_new (S.w.alloc (.deferred (some []))) (wr0 fn act.tmps ps assign body D .ready none); rwa [World.size_alloc, hD] at this
 have hW1D : W1.heap[D]? = some (.deferred (some [])) := by
  rw [← hW1]
  have := World.alloc_heap_new S.w (.deferred (some []))
  rw [hD] at this
  exact (Below.heap_alloc _ _ _ (by simp; omega)).trans this
 have hnf : ∀ j, D ≤ j → S.Free H j := fun j hj => ⟨fun ⟨b, hb⟩ => by have := qal9 hok hb; omega, by
  cases hM : S.M j with
  | none => rfl
  | some o => have := M_lt hok (k := j) (by rw [hM]; simp); omega⟩
 let aS := a.map (xi0 H.length)
 let K : Nat → List Blk := fun i => Hs i ++ [.ob (.loop (R i) aS act.tmps.toList)]
 have hKl : ∀ i, (K i).length = H.length + 1 := fun i => by simp [K, hlen]
 let S1 : St := S.add H.length (D + 1) W1
 have hra : RelL (S.env H) aS act.tmps.toList := zbV9 _ ha
 have hK0 : K 0 = H ++ [.ob (.loop (wr0 fn act.tmps ps assign body D .ready none) aS act.tmps.toList)] := by simp only [K]; rw [hRr 0 (Nat.zero_le _), h0]
 have hok1 : S1.Ok (K 0) := by
  rw [hK0]
  exact xdg9 hok (hnf _ (by omega)) (fun j hj _ => hW1h j (by omega)) hW1L hra
 have hown1 : ∀ j, S1.Owns (K 0) j → S.Owns H j ∨ j = D + 1 := fun j ⟨b, hb⟩ => by
  rw [hK0] at hb
  rcases xM0 hb with q|q
  ·rw [qbg9 q] at hb; exact .inl ⟨b, hb⟩
  ·rw [q, xO0] at hb; injection hb with hb; exact .inr hb.symm
 have hcalls : qe0 P G gf (.yld H.length :: cap) (K 0) (.tup []) (K (if (vg0 e).isSome = true then m + 1 else m)) := by
  refine hit K H.length m (vg0 e).isSome (fun i => ⟨hKl i, by simp only [K, aS]; rw [List.all_append, hbel i, List.all_cons]; simp only [Blk.below, wax9]; rfl⟩) hm1 hm2 (fun i hi => ?_) (fun hj => ?_)
  ·have := kS0 (fn := fn) (ts := act.tmps) (D := D) (e := .normal) (hround i hi) (hlen i) (hlen _) (hbel i) (hbel _) rfl (hx i).1 (wax9 _ _) (hx i).2
   simp only [K]
   rw [hRr i (by omega), hRr (i + 1) (by omega)]
   exact this
  ·have := kS0 (fn := fn) (ts := act.tmps) (D := D) (hlast hj) (hlen m) (hlen _) (hbel m) (hbel _) he (hx m).1 (wax9 _ _) (hx m).2
   have hn : (vg0 e).isNone = false := by
    cases hje : vg0 e with
    | none => rw [hje] at hj; cases hj
    | some c => rfl
   rw [hn] at this
   simp only [K]
   rw [hRr m (Nat.le_refl _), hRd]
   exact this
 have hargs : RelL (S1.env (K 0)) (.yld H.length :: cap) (.func (.yield (D + 1)) #[] #[] :: caps) := by
  simp only [RelL]
  refine ⟨_, _, rfl, ?_, ?_⟩
  ·simp only [Rel]
   exact ⟨D + 1, by rw [hK0]; simp [St.env, mpOf, S1, St.add, ve0], rfl⟩
  ·rw [hK0]; exact RelL.mono vcn9 _ _ hcap
 have hcall := hcalls S1 _ hok1 hG hargs
 generalize hmm : (if (vg0 e).isSome = true then m + 1 else m) = mm at hcall hQ
 unfold wb0 at hent
 split at hent
 ·rename_i fn' hfn'
  simp only [Bool.and_eq_true, bne_iff_ne, ne_eq, Option.isSome_iff_exists] at hent
  obtain ⟨hname, body', hbody'⟩ := hent
  refine ⟨D + 1, [mark D], W1, { target := .fn (.func gf) caps.toArray, args := #[.func (.yield (D + 1)) #[] #[]] }, W1, gf, #[.func (.yield (D + 1)) #[] #[]] ++ caps.toArray, W1, ?_, ?_, fun _ _ => trivial, ?_, fun q => (by cases q), ?_⟩
  ·rw [← hW1, ← hD]; exact run_enterLoop_outer _ _ _ _ _
  ·simp only [resolve, hfe]
   simp [go_sem, Deferred.ofValue]
  ·simp [invoke, callFunc, hfn', hbody']
   exact hname
  ·have hvals : (.func (.yield (D + 1)) #[] #[] :: caps).toArray = #[.func (.yield (D + 1)) #[] #[]] ++ caps.toArray := by simp
   rw [hvals] at hcall
   refine xav9 (hcall.mono fun e3 w3 hh => ?_)
   obtain ⟨v, S', rfl, rfl, hok', hext', _⟩ := hh
   have hHl : (Hs mm).length = H.length := hlen mm
   have hν : S'.ν H.length = some (D + 1) := by
    have h1 : mpOf S1.ν (K 0) H.length = some (D + 1) := by rw [hK0]; simp [mpOf, S1, St.add, ve0]
    have h2 := hext'.ν H.length (D + 1) (by rw [hKl]; omega) h1
    simp only [K] at h2
    rw [← hHl] at h2
    simpa [mpOf, hHl] using h2
   obtain ⟨g1, o1, q1, q2, q3, q4, q5⟩ := hok'.ob H.length _ (by simp only [K]; rw [← hHl]; simp; rfl)
   rw [hν] at q1; injection q1 with q1; subst q1; subst q4
   have hfree : S'.Free (Hs mm) (D + 1) := zbg9 (x := .loop (R mm) aS act.tmps.toList) hok' (by rw [hHl]; exact hν)
   have htk : (K mm).take H.length = Hs mm := by simp only [K]; rw [← hHl]; simp
   obtain ⟨hok2, hext2⟩ := waw9 (n0 := H.length) hok' (Nat.le_refl _) (by rw [hKl]; omega) (by rw [htk]; exact hbel mm)
   rw [htk] at hok2 hext2
   have hRmm : R mm = .loop { state := (if mm ≤ m then .ready else .done), pending := (if mm ≤ m then none else vg0 e), fn := fn, tmps := act.tmps, params := ps, assign := assign, body := body, defers := D } := by rw [hR]; rfl
   rw [hRmm] at q3
   have hend := run_endLoop (P := P) q3 (by simp only; split <;> simp)
   generalize hX : Obj.loop { ({ state := (if mm ≤ m then .ready else .done), pending := (if mm ≤ m then none else vg0 e), fn := fn, tmps := act.tmps, params := ps, assign := assign, body := body, defers := D } : Loop) with state := .exhausted } = X at hend
   let S6 := S'.shut (D + 1) X
   have hok6 : S6.Ok (Hs mm) := kbs9 hok2 hfree X
   have hown6 : ∀ j, S6.Owns (Hs mm) j → S.Owns H j ∨ (D ≤ j ∧ j ≠ D) := fun j hj => by
    rcases hext2.own j hj with q|q
    ·rcases hext'.own j q with q|q
     ·rcases hown1 j q with q|q
      ·exact .inl q
      ·exact .inr (by omega)
     ·have : D + 2 ≤ j := by rw [← hW1s]; exact q
      exact .inr (by omega)
    ·have := hext'.size
     have : D + 2 ≤ j := by rw [← hW1s]; exact Nat.le_trans this q
     exact .inr (by omega)
   have hdom6 : ∀ j, S6.M j ≠ none → S.M j ≠ none ∨ S.Owns H j ∨ (D ≤ j ∧ j ≠ D) := fun j hj => by
    rcases hext'.dom j hj with q|q|q
    ·exact .inl q
    ·rcases hown1 j q with q|q
     ·exact .inr (.inl q)
     ·exact .inr (.inr (by omega))
    ·have : D + 2 ≤ j := by rw [← hW1s]; exact q
     exact .inr (.inr (by omega))
   have hkeep6 : ∀ j, j ≤ D → ¬ S.Owns H j → S6.w.heap[j]? = W1.heap[j]? := fun j hj hno =>
    (World.putObj_heap_other (by omega)).trans (hext'.keep j (by show j < W1.heap.size; omega) fun q => by
     rcases hown1 j q with q|q
     ·exact hno q
     ·omega)
   have hext6 : Ext H.length S H S6 (Hs mm) := {
    os := (by rw [show S6.w.os = S'.w.os from rfl, hext'.os, show S1.w = W1 from rfl, ← hW1]; rfl)
    tape := (by rw [show S6.w.tape = S'.w.tape from rfl, hext'.tape, show S1.w = W1 from rfl, ← hW1]; rfl)
    output := (by rw [show S6.w.output = S'.w.output from rfl, hext'.output, show S1.w = W1 from rfl, ← hW1]; rfl)
    size := by
     have := hext'.size
     have e : S1.w.heap.size = D + 2 := hW1s
     have e2 : S6.w.heap.size = S'.w.heap.size := by simp [S6, St.shut]
     omega
    keep := fun j hj hno => (hkeep6 j (by omega) hno).trans (hW1h j (by omega))
    M := fun j o hj => hext'.M j o hj
    dom := fun j hj => by
     rcases hdom6 j hj with q|q|q
     ·exact .inl q
     ·exact .inr (.inl q)
     ·exact .inr (.inr (by omega))
    own := fun j hj => by
     rcases hown6 j hj with q|q
     ·exact .inl q
     ·exact .inr (by omega)
    sh := fun b s cur hb hs => by
     have h1 : shOf (K 0) b = some (s, cur) := by rw [hK0]; simpa [shOf, List.getElem?_append_left hb] using hs
     obtain ⟨c1, l1, s1, m1⟩ := hext'.sh b s cur (by rw [hKl]; omega) h1
     refine ⟨c1, l1, ?_, m1⟩
     have hb2 : b < (Hs mm).length := by omega
     simpa [K, shOf, List.getElem?_append_left hb2] using s1
    ν := fun b g hb hg => by
     have h1 : mpOf S1.ν (K 0) b = some g := by
      rw [hK0]
      have e : S1.ν b = S.ν b := qh0 _ _ (by omega)
      simpa [mpOf, List.getElem?_append_left hb, e] using hg
     have h2 := hext'.ν b g (by rw [hKl]; omega) h1
     have hb2 : b < (Hs mm).length := by omega
     show mpOf S'.ν (Hs mm) b = some g
     simpa [K, mpOf, List.getElem?_append_left hb2] using h2
    len := fun _ => by omega }
   have hmark : Marks S act.defers S6 (Hs mm) (mark D :: act.defers) := by
    refine ⟨[D], rfl, by simp, fun j hj => ?_⟩
    have : j = D := by simpa using hj
    subst this
    have hnD := hnf j (Nat.le_refl _)
    refine ⟨by omega, ⟨fun q => ?_, ?_⟩, (hkeep6 j (Nat.le_refl _) hnD.1).trans hW1D⟩
    ·rcases hown6 j q with q|q
     ·exact hnD.1 q
     ·exact q.2 rfl
    ·cases hM : S6.M j with
     | none => rfl
     | some o =>
      rcases hdom6 j (by rw [hM]; simp) with q|q|q
      ·exact absurd hnD.2 q
      ·exact absurd q hnD.1
      ·exact absurd rfl q.2
   have hends : Ends G n0 S H act.defers (Q e) { act with defers := [mark D] ++ act.defers } S6.w :=
    ⟨a, Hs mm, S6, rfl, hQ, hok6, hext6.less hn (Nat.le_refl _), RelL.mono (hext6.le (Nat.le_refl _)) _ _ ha, hmark⟩
   refine ⟨_, S6.w, hend, ?_⟩
   by_cases hj : (vg0 e).isSome = true
   ·rw [if_pos hj] at hmm
    subst hmm
    have : ¬ m + 1 ≤ m := by omega
    simp only [if_neg this]
    cases e with
    | ret => exact wpIn_ret hends
    | exit id => exact wpIn_exit hends
    | goto t => exact wpIn_goto hends
    | normal => cases hj
    | panic c => cases hj
    | outgrown => cases hj
   ·rw [if_neg hj] at hmm
    subst hmm
    simp only [if_pos (Nat.le_refl m)]
    cases e with
    | normal => exact hends
    | ret => exact absurd rfl hj
    | exit id => exact absurd rfl hj
    | goto t => exact absurd rfl hj
    | panic c => cases he
    | outgrown => cases he
 ·cases hent
def setS : List Tmp → List AV → (Nat → AV) → Nat → AV
 | p :: ps, x :: xs, s => setS ps xs (updS s p x)
 | _, _, s => s
theorem kbE9 (n : Nat) : ∀ (ps : List Tmp) (xs : List AV) (s : Nat → AV), setA ps xs (Lst n s) = Lst n (setS ps xs s)
 | [], _, s => by simp [setA, setS]
 | _ :: _, [], s => by simp [setA, setS]
 | p :: ps, x :: xs, s => by
  simp only [setA, setS]
  rw [← kbE9 n ps xs]
  congr 1
  exact xr0 n s (some p) x
theorem vax9 (n k : Nat) (s : Nat → AV) : (Lst n s).map (xi0 k) = Lst n (fun t => xi0 k (s t)) := by
 simp [Lst]
def EndQ (k : Nat) (e : Exit) (H2 : List Blk) : wm0 := fun e' _ H' => e' = e ∧ H'.take k = H2
def qco9 : wm0 := fun _ _ _ => False
theorem wdt9 {k : Nat} {e : Exit} {H2 H : List Blk} {B : Prop} {s : Nat → AV} (h : B ∧ H.take k = H2) : Out (EndQ k e H2) e B s H := ⟨h.1, rfl, h.2⟩
theorem xaW9 {n0 n k m N : Nat} {code : Code} {p : List Nat} {B : Prop} {s : Nat → AV} {gf : FuncId} {g : Operand} {ps : Array Tmp} {assign body : Code} {cap : List AV} {H : List Blk} {x : Nat → List AV} {Q : wm0} (e : Exit) (Hs : Nat → List Blk)
  (hs : atR code p = .rangeFunc g ps assign body) (hB : B)
  (hg : (evS G n s g).strip = .fn gf cap) (hgk : (evS G n s g).ok = true) (hent : wb0 P gf = true) (hit : xdt9 P G gf cap x N)
  (hk : H.length = k) (h0 : Hs 0 = H) (hlen : ∀ i, (Hs i).length = k) (hbel : ∀ i, (Hs i).all (Blk.below k) = true)
  (hx : ∀ i, idsL van9 (x i) = true ∧ (x i).length = ps.size)
  (hm1 : (vg0 e).isSome = true → m < N) (hm2 : (vg0 e).isSome = false → m = N) (he : kY0 e = true)
  (hround : ∀ i, i < m → ∀ s1 : Nat → AV, (∀ t, s1 t = setS ps.toList (x i) (fun t => xi0 k (s t)) t) → Go true P G k n code (0 :: p) (vK0 (At true P G k n code (1 :: p) (EndQ k .normal (Hs (i + 1)))) qco9) True s1 (Hs i))
  (hlast : (vg0 e).isSome = true → ∀ s1 : Nat → AV, (∀ t, s1 t = setS ps.toList (x m) (fun t => xi0 k (s t)) t) → Go true P G k n code (0 :: p) (vK0 (At true P G k n code (1 :: p) (EndQ k e (Hs (m + 1)))) qco9) True s1 (Hs m))
  (hQ : Out Q e True s (Hs (if (vg0 e).isSome = true then m + 1 else m))) : Go false P G n0 n code p Q B s H := by
 refine ⟨hB, ?_⟩
 have key : ∀ (y : List AV) (e' : Exit) (H1 H2 : List Blk), (∀ s1 : Nat → AV, (∀ t, s1 t = setS ps.toList y (fun t => xi0 k (s t)) t) → Go true P G k n code (0 :: p) (vK0 (At true P G k n code (1 :: p) (EndQ k e' H2)) qco9) True s1 H1) →
   AWp true P G k assign (vbs9 (AWp true P G k body (fun e1 a' H' => e1 = e' ∧ H'.take k = H2)) (fun _ _ _ => False)) (setA ps.toList y ((Lst n s).map (xi0 k))) H1 := fun y e' H1 H2 h => by
  have h2 := (h _ fun t => rfl).2
  unfold At at h2
  simp only [atR, hs, kid] at h2
  rw [vax9, kbE9]
  refine zy0 h2 fun e1 a1 H' q => ?_
  rw [kU0] at q
  cases e1 with
  | normal =>
   obtain ⟨s', rfl, q⟩ := q
   exact zy0 q fun e2 a2 H'' ⟨s2, _, r⟩ => r
  | _ => obtain ⟨_, _, r⟩ := q; exact r.elim
 show AWp false P G n0 (atR code p) (vU0 n Q) (Lst n s) H
 rw [hs]
 exact zaW9 Hs (by rw [vp0]; exact hg) (by rw [vp0]; exact hgk) hent hit hk h0 hlen hbel hx hm1 hm2 he (fun i hi => key _ _ _ _ (hround i hi)) (fun hj => key _ _ _ _ (hlast hj)) ⟨s, rfl, hQ.2⟩
theorem wM0 {n0 n k m N : Nat} {code : Code} {p : List Nat} {B : Prop} {s : Nat → AV} {gf : FuncId} {g : Operand} {ps : Array Tmp} {assign body : Code} {cap : List AV} {H : List Blk} {x : Nat → List AV} {Q : wm0} (e : Exit) (Hs : Nat → List Blk)
  (hs : atR code p = .rangeFunc g ps assign body) (hB : B)
  (hg : (evS G n s g).strip = .fn gf cap) (hgk : (evS G n s g).ok = true) (hent : wb0 P gf = true) (hit : Iter P G gf cap x N)
  (hk : H.length = k) (h0 : Hs 0 = H) (hlen : ∀ i, (Hs i).length = k) (hbel : ∀ i, (Hs i).all (Blk.below k) = true)
  (hx : ∀ i, idsL van9 (x i) = true ∧ (x i).length = ps.size)
  (hm1 : (vg0 e).isSome = true → m < N) (hm2 : (vg0 e).isSome = false → m = N) (he : kY0 e = true)
  (hround : ∀ i, i < m → ∀ s1 : Nat → AV, (∀ t, s1 t = setS ps.toList (x i) (fun t => xi0 k (s t)) t) → Go true P G k n code (0 :: p) (vK0 (At true P G k n code (1 :: p) (EndQ k .normal (Hs (i + 1)))) qco9) True s1 (Hs i))
  (hlast : (vg0 e).isSome = true → ∀ s1 : Nat → AV, (∀ t, s1 t = setS ps.toList (x m) (fun t => xi0 k (s t)) t) → Go true P G k n code (0 :: p) (vK0 (At true P G k n code (1 :: p) (EndQ k e (Hs (m + 1)))) qco9) True s1 (Hs m))
  (hQ : Out Q e True s (Hs (if (vg0 e).isSome = true then m + 1 else m))) : Go false P G n0 n code p Q B s H :=
 xaW9 e Hs hs hB hg hgk hent hit.toF hk h0 hlen hbel hx hm1 hm2 he hround hlast hQ
end
end Go.V
set_option linter.unusedVariables false
set_option linter.unusedSimpArgs false
namespace Go.V
open Go Go.RowKit
theorem qV0 {H : List Blk} {b s : Nat} {t : TypeId} {es es' : List (List AV)} (hb : H[b]? = some (.row s t es)) (hl : es'.length = es.length) (x : Nat) : shOf (H.set b (.row s t es')) x = shOf H x := by
 by_cases e : x = b
 ·subst e
  have hlt := (List.getElem?_eq_some_iff.1 hb).1
  simp only [shOf, List.getElem?_set_self hlt, hb, hl]
 ·simp [shOf, List.getElem?_set_ne (Ne.symm e)]
theorem zV0 {ν : Nat → Option Nat} {H : List Blk} {b s : Nat} {t : TypeId} {es es' : List (List AV)} (hb : H[b]? = some (.row s t es)) (x : Nat) : mpOf ν (H.set b (.row s t es')) x = mpOf ν H x := by
 by_cases e : x = b
 ·subst e
  have hlt := (List.getElem?_eq_some_iff.1 hb).1
  simp only [mpOf, List.getElem?_set_self hlt, hb]
 ·simp [mpOf, List.getElem?_set_ne (Ne.symm e)]
theorem wbg9 {S : St} {H : List Blk} {b s : Nat} {t : TypeId} {es es' : List (List AV)} (hb : H[b]? = some (.row s t es)) (x : Nat) : S.at (H.set b (.row s t es')) x = S.at H x := by
 by_cases e : x = b
 ·subst e
  have hlt := (List.getElem?_eq_some_iff.1 hb).1
  simp only [St.at, List.getElem?_set_self hlt, hb]
 ·simp [St.at, List.getElem?_set_ne (Ne.symm e)]
theorem zco9 {S : St} {H : List Blk} {b s : Nat} {t : TypeId} {es es' : List (List AV)} (hok : S.Ok H) (hb : H[b]? = some (.row s t es)) (hl : es'.length = es.length) (hr : ∀ cs, RowIn (S.env H) s es cs → RowIn (S.env H) s es' cs) : S.Ok (H.set b (.row s t es')) := by
 have henv : S.env (H.set b (.row s t es')) = S.env H := by
  simp only [St.env]
  congr 1
  ·funext x; exact qV0 hb hl x
  ·funext x; exact zV0 hb x
 have hlt := (List.getElem?_eq_some_iff.1 hb).1
 refine ⟨hok.imm, fun x s' t' es2 hx => ?_, fun x o hx => ?_, fun x y g hx hy => ?_⟩
 ·rw [henv]
  by_cases e : x = b
  ·subst e
   rw [List.getElem?_set_self hlt] at hx
   injection hx with hx; injection hx with h1 h2 h3; subst h1; subst h2; subst h3
   rcases hok.row x s t es hb with q|⟨g, k, cs, h1, h2, h3, h4, h5, h6, h7⟩
   ·refine .inl ⟨q.1, q.2.imp (fun q2 => List.eq_nil_of_length_eq_zero ?_) id⟩
    rw [hl, q2]; rfl
   ·exact .inr ⟨g, k, cs, h1, h2, h3, h4, by omega, h6, hr cs h7⟩
  ·rw [List.getElem?_set_ne (Ne.symm e)] at hx
   exact hok.row x s' t' es2 hx
 ·rw [henv]
  have e : x ≠ b := by
   rintro rfl
   rw [List.getElem?_set_self hlt] at hx
   cases hx
  rw [List.getElem?_set_ne (Ne.symm e)] at hx
  exact hok.ob x o hx
 ·rw [wbg9 hb] at hx hy
  exact hok.inj x y g hx hy
theorem xbV9 {n0 : Nat} {S : St} {H : List Blk} {b s : Nat} {t : TypeId} {es es' : List (List AV)} (hb : H[b]? = some (.row s t es)) (hl : es'.length = es.length) : Ext n0 S H S (H.set b (.row s t es')) where
 os := rfl
 tape := rfl
 output := rfl
 size := Nat.le_refl _
 keep _ _ _ := rfl
 M _ _ h := h
 dom _ h := .inl h
 own k h := by
  obtain ⟨x, hx⟩ := h
  rw [wbg9 hb] at hx
  exact .inl ⟨x, hx⟩
 sh x s' cur _ hs := ⟨cur, Nat.le_refl _, by rw [qV0 hb hl]; exact hs, fun _ => rfl⟩
 ν x g _ hg := by rw [zV0 hb]; exact hg
 len h := by simpa using h
theorem vi0 {n0 n b i j z sz s0 : Nat} {t ty : TypeId} {s : Nat → AV} {H : List Blk} {es : List (List AV)} {e : List AV} (hb : H[b]? = some (.row s0 t es)) (hi : es[i]? = some e) (hj : e[j]? = some (.sl z [] (some 0))) :
  Weak n0 (Lst n s) H (Lst n s) (H.set b (.row s0 t (es.set i (e.set j (.own H.length 0 0 none)))) ++ [Blk.row sz ty []]) := fun S vs hok hn ha => by
 have hlt := (List.getElem?_eq_some_iff.1 hb).1
 have hext := qaW9 hok sz ty
 have hok1 := qcn9 hok sz ty
 have hb1 : (H ++ [Blk.row sz ty []])[b]? = some (.row s0 t es) := by rw [List.getElem?_append_left hlt]; exact hb
 have hset : (H ++ [Blk.row sz ty []]).set b (.row s0 t (es.set i (e.set j (.own H.length 0 0 none)))) = H.set b (.row s0 t (es.set i (e.set j (.own H.length 0 0 none)))) ++ [Blk.row sz ty []] := by
  rw [List.set_append_left _ _ hlt]
 have hr : ∀ cs, RowIn ((S.nil H.length).env (H ++ [Blk.row sz ty []])) s0 es cs → RowIn ((S.nil H.length).env (H ++ [Blk.row sz ty []])) s0 (es.set i (e.set j (.own H.length 0 0 none))) cs := fun cs h7 i' e' hi' => by
  rw [List.getElem?_set] at hi'
  split at hi'
  ·rename_i hii
   subst hii
   split at hi'
   ·injection hi' with hi'; subst hi'
    obtain ⟨l1, l2⟩ := h7 i e hi
    refine ⟨by simpa using l1, fun j' a hj' => ?_⟩
    rw [List.getElem?_set] at hj'
    split at hj'
    ·rename_i hjj
     subst hjj
     split at hj'
     ·injection hj' with hj'; subst hj'
      obtain ⟨v, hv, ho, hrel⟩ := l2 j _ hj
      refine ⟨v, hv, ho, ?_⟩
      simp only [Rel] at hrel ⊢
      obtain ⟨a, cap, rfl, h1, h2, h3, h4⟩ := hrel
      have : cap = 0 := h3 0 rfl
      subst this
      exact ⟨sz, 0, by simp [St.env, shOf], Nat.le_refl _, fun _ => ⟨Nat.le_refl _, .inl ⟨ve0 _ _ _, ⟨a, rfl⟩, by simp⟩⟩⟩
     ·cases hj'
    ·exact l2 j' a hj'
   ·cases hi'
  ·exact h7 i' e' hi'
 refine ⟨S.nil H.length, rfl, ?_, ?_, ?_⟩
 ·rw [← hset]; exact zco9 hok1 hb1 (by simp) hr
 ·rw [← hset]; exact (hext.less hn (Nat.le_refl _)).trans (xbV9 hb1 (by simp))
 ·rw [← hset]
  have henv : (S.nil H.length).env ((H ++ [Blk.row sz ty []]).set b (.row s0 t (es.set i (e.set j (.own H.length 0 0 none))))) = (S.nil H.length).env (H ++ [Blk.row sz ty []]) := by
   simp only [St.env]
   congr 1
   ·funext x; exact qV0 hb1 (by simp) x
   ·funext x; exact zV0 hb1 x
  rw [henv]
  exact RelL.mono (hext.le (Nat.le_refl _)) _ _ ha
theorem kaK9 {t : Nat} : ∀ (ps : List Tmp) (xs : List AV) (s : Nat → AV), (ps.all fun p => t != p) = true → setS ps xs s t = s t
 | [], _, s, _ => by simp [setS]
 | _ :: _, [], s, _ => by simp [setS]
 | p :: ps, x :: xs, s, h => by
  simp only [List.all_cons, Bool.and_eq_true, bne_iff_ne, ne_eq] at h
  rw [setS, kaK9 ps xs _ h.2, updS, if_neg h.1]
theorem qm0 {k : Nat} {ps : List Tmp} {xs : List AV} {s s1 : Nat → AV} (h : ∀ t, s1 t = setS ps xs (fun t => xi0 k (s t)) t) (t : Nat) (hn : (ps.all fun p => t != p) = true) : s1 t = xi0 k (s t) := (h t).trans (kaK9 ps xs _ hn)
theorem kp0 {n0 n : Nat} {Q : wm0} {B : Prop} {s : Nat → AV} {H : List Blk} {I : Nat → (Nat → AV) → List Blk → Prop} {m : Nat} (m' k : Nat) (hm : m' < m) (hB : B) (hn : n0 ≤ k) (hk : k ≤ H.length) (hb : (H.take k).all (Blk.below k) = true) (hI : I m' (fun t => xi0 k (s t)) (H.take k)) :
  Out (vK0 (fun s' H' => ∃ m' s2 H2, m' < m ∧ Weak n0 (Lst n s') H' (Lst n s2) H2 ∧ I m' s2 H2) Q) .normal B s H :=
 ⟨hB, m', _, _, hm, by rw [← vax9]; exact zbf9 hn hk hb, hI⟩
theorem wcQ9 (b : Bool) (x : AV) : AV.ite b x .top = if b = true then x else .top := by cases x <;> rfl
theorem vcQ9 (b : Bool) (y : AV) : AV.ite b .top y = if b = true then .top else y := by cases y <;> rfl
theorem kcQ9 (b : Bool) (x : AV) (l : List UInt8) : AV.ite b x (.str l) = if b = true then x else .str l := by cases x <;> rfl
theorem qcR9 (b : Bool) (y : AV) (l : List UInt8) : AV.ite b (.str l) y = if b = true then .str l else y := by cases y <;> rfl
theorem qao9 (P : Program) : wk0 P [] = some [] := rfl
theorem vag9 (P : Program) (f : Nat × TypeId) (fs : List (Nat × TypeId)) : wk0 P (f :: fs) = match qc0 P f.2 with|some T => (match wk0 P fs with|some r => some ((f.1, T.sz) :: r)|none => none)|none => none := by
 unfold wk0
 rw [List.mapM_cons]
 cases qc0 P f.2 with
 | none => rfl
 | some T => cases List.mapM (fun f => Option.map (fun T => (f.1, T.sz)) (qc0 P f.2)) fs <;> rfl
theorem waW9 : wae9 .nilFunc = .lit .nilFunc := rfl
theorem vbg9 : wae9 (.map none) = .lit (.map none) := rfl
theorem xaH9 : wae9 .nilIface = .lit .nilIface := rfl
attribute [push_cast] wcQ9 vcQ9 kcQ9 qcR9 qat9 vak9 qI0 kT0 kcI9 waW9 vbg9 xaH9 wan9 kbd9 vB0 ze0 wf0 qds9 optK zcO9 xcO9 zcl9 vdr9 wdr9 qcl9 qcO9 kdI9 xcm9 wbU9 qdK9 zdK9
 xdK9 wdK9 vdK9 wci9 vbT9 vci9 kci9 qcj9 zcN9 zcj9 xcj9 kbT9 xcN9 wcN9 vcj9 kcj9
 qck9 kdF9 kdo9 qdp9 zdp9 vcM9 xdp9 wdp9 vdp9 kcM9 qdG9 zdG9 qdq9 zdq9 xdG9 zbT9 qbt9
 zbt9 xbe9 xbt9 wbt9 vbt9 wbe9 xbT9 wbT9 qbu9 zbu9 xdq9 xbu9
 vbe9 waU9 kbe9 qbU9 zck9 zbU9 kdq9 xdI9 qdr9 qdH9 wdq9 zdH9 xdH9 wdH9 kdT9 ok_own vdH9
 vdq9 qdU9 zdU9 kdH9 qdI9 zdI9 xck9 xbU9 wck9 vck9 vcN9 qaf9 pNil kcN9 zdr9 kck9 zU0 shp zR0
 qL0 vo0 qbb9 ko0 zbb9 pInt pStr pBin pUn kW0 xbb9 wak9 pLen pCap kH0 wK0 wbb9 kR0 cut zz0 kj0 shOf  xS0
 eBox kX0 xaG9 wt0 vX0 waG9 AV.cells? AV.live vaI9 wl0 xT0 qao9 vag9 kx0 bad bad3 okR okA okC vS0 wv0 qi0
 AV.closed AV.ids idsL idsE vdF9 xdo9 exQ wcj9 kdG9 kdp9 kbt9
 List.isEmpty_toArray Nat.sub_zero List.getElem?_concat_length Nat.sub_self Option.map_some Option.getD_some Option.bind_some Option.map_none
 Option.getD_none Option.all_some Option.all_none Option.isSome_some Option.isSome_none Bool.and_eq_true Bool.true_and Bool.and_true Bool.false_and
 Bool.and_false Bool.or_eq_true Bool.true_or Bool.or_true Bool.false_or Bool.or_false Bool.not_true Bool.not_false Bool.not_eq_true' decide_eq_true_eq
 decide_eq_false_iff_not true_and and_true false_and and_false forall_const Bool.false_eq_true Bool.true_eq_false if_true if_false beq_self_eq_true
 beq_iff_eq List.length_cons List.length_nil List.getElem?_cons_zero List.getElem?_cons_succ List.getElem?_nil List.map_cons List.map_nil List.all_cons
 List.all_nil List.toList_toArray List.nil_append List.cons_append List.foldr_cons List.foldr_nil not_true_eq_false not_false_eq_true implies_true
 true_implies false_implies ne_eq Nat.zero_add Nat.add_zero Nat.zero_mul cond_true cond_false Nat.le_refl List.getD_cons_zero List.getD_cons_succ
 List.getD_nil List.drop_zero List.drop_succ_cons List.take_succ_cons List.take_zero Int.toNat_natCast Int.natCast_nonneg and_self Int.toNat_zero
 Int.toNat_one Int.ofNat_lt Int.ofNat_le List.replicate_succ List.replicate_zero List.flatten_cons List.flatten_nil List.append_nil List.length_append
 decide_true decide_false List.isEmpty_cons List.isEmpty_nil List.set_cons_zero List.set_cons_succ true_or or_true List.take_of_length_le
 List.drop_eq_nil_of_le List.length_replicate List.length_map bne_iff_ne Nat.one_ne_zero Int.natCast_inj Int.natCast_add Int.cast_ofNat_Int
 List.length_take_of_le Bool.not_eq_false' Bool.cond_true_left Bool.cond_false_right Bool.cond_true_right Bool.cond_false_left beq_false beq_true
 Bool.or_eq_false_iff Bool.and_eq_false_iff imp_self List.map_id' List.map_id_fun' id_eq
end Go.V
