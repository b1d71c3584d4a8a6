import Derived.Test.YtcoakjnmnommpaaDoorAP2
set_option linter.unusedVariables false
set_option linter.unusedSimpArgs false
namespace Go.Proofs
structure Nf where
 n : Nat
 d : Nat → Nat → Nat → Bool
 S : List Nat
 F : List Nat
def stepN (x : Nf) (S : List Nat) (a : Nat) : List Nat := (List.range x.n).filter fun t => S.any fun s => x.d s a t
def waE9 (x : Nf) : Nat → List Nat → Nat → Prop
 | s, [], t => s = t
 | s, a :: w, t => ∃ u, u < x.n ∧ x.d s a u = true ∧ waE9 x u w t
theorem xL0 (x : Nf) (S : List Nat) (a t : Nat) : t ∈ stepN x S a ↔ t < x.n ∧ ∃ s ∈ S, x.d s a t = true := by
 unfold stepN
 rw [List.mem_filter, List.mem_range, List.any_eq_true]
theorem kaT9 (x : Nf) : ∀ (w : List Nat) (S : List Nat) (t : Nat), t ∈ runX (stepN x) S w ↔ ∃ s ∈ S, waE9 x s w t
 | [], S, t => by
  show t ∈ S ↔ _
  constructor
  ·intro h; exact ⟨t, h, rfl⟩
  ·rintro ⟨s, h, rfl⟩; exact h
 | a :: w, S, t => by
  have : runX (stepN x) S (a :: w) = runX (stepN x) (stepN x S a) w := rfl
  rw [this, kaT9 x w]
  constructor
  ·rintro ⟨u, h1, h2⟩
   obtain ⟨hu, s, hs, hd⟩ := (xL0 x S a u).1 h1
   exact ⟨s, hs, u, hu, hd, h2⟩
  ·rintro ⟨s, hs, u, hu, hd, h2⟩
   exact ⟨u, (xL0 x S a u).2 ⟨hu, s, hs, hd⟩, h2⟩
def accN (x : Nf) (S : List Nat) : Bool := S.any fun s => x.F.contains s
def wL0 (x : Nf) (w : List Nat) : Bool := accN x (runX (stepN x) x.S w)
theorem xbg9 (x : Nf) (w : List Nat) : wL0 x w = true ↔ ∃ s ∈ x.S, ∃ t ∈ x.F, waE9 x s w t := by
 unfold wL0 accN
 rw [List.any_eq_true]
 constructor
 ·rintro ⟨t, h1, h2⟩
  obtain ⟨s, hs, hp⟩ := (kaT9 x w x.S t).1 h1
  exact ⟨s, hs, t, by simpa using h2, hp⟩
 ·rintro ⟨s, hs, t, ht, hp⟩
  exact ⟨t, (kaT9 x w x.S t).2 ⟨s, hs, hp⟩, by simpa using ht⟩
def revN (x : Nf) : Nf := ⟨x.n, fun s a t => x.d t a s, x.F, x.S⟩
theorem vax9 (x : Nf) : ∀ (w : List Nat) (s a t : Nat), t < x.n → (waE9 x s (w ++ [a]) t ↔ ∃ u, (w = [] ∧ u = s ∨ w ≠ [] ∧ u < x.n) ∧ waE9 x s w u ∧ x.d u a t = true)
 | [], s, a, t, ht => by
  constructor
  ·rintro ⟨u, hu, hd, rfl⟩; exact ⟨s, .inl ⟨rfl, rfl⟩, rfl, hd⟩
  ·rintro ⟨u, h1, h2, hd⟩; cases h2; exact ⟨t, ht, hd, rfl⟩
 | b :: w, s, a, t, ht => by
  rw [List.cons_append]
  constructor
  ·rintro ⟨v, hv, hd, hp⟩
   obtain ⟨u, h1, h2, h3⟩ := (vax9 x w v a t ht).1 hp
   refine ⟨u, .inr ⟨by simp, ?_⟩, ⟨v, hv, hd, h2⟩, h3⟩
   rcases h1 with ⟨_, rfl⟩|⟨_, h⟩
   ·exact hv
   ·exact h
  ·rintro ⟨u, h1, ⟨v, hv, hd, h2⟩, h3⟩
   refine ⟨v, hv, hd, (vax9 x w v a t ht).2 ⟨u, ?_, h2, h3⟩⟩
   cases w with
   | nil => left; cases h2; exact ⟨rfl, rfl⟩
   | cons c w => right; exact ⟨by simp, by rcases h1 with ⟨q, _⟩|⟨_, q⟩; cases q; exact q⟩
theorem kaa9 (x : Nf) : ∀ (w : List Nat) (s t : Nat), s < x.n → t < x.n → (waE9 x s w t ↔ waE9 (revN x) t w.reverse s)
 | [], s, t, _, _ => ⟨fun h => h.symm, fun h => h.symm⟩
 | a :: w, s, t, hs, ht => by
  rw [List.reverse_cons, vax9 (revN x) w.reverse t a s hs]
  constructor
  ·rintro ⟨u, hu, hd, hp⟩
   refine ⟨u, ?_, (kaa9 x w u t hu ht).1 hp, hd⟩
   cases w with
   | nil => left; cases hp; exact ⟨rfl, rfl⟩
   | cons b w => right; exact ⟨by simp, hu⟩
  ·rintro ⟨u, h1, h2, h3⟩
   have hu : u < x.n := by
    rcases h1 with ⟨_, rfl⟩|⟨_, h⟩
    ·exact ht
    ·exact h
   exact ⟨u, hu, h3, (kaa9 x w u t hu ht).2 h2⟩
structure OkN (x : Nf) : Prop where
 s : ∀ q ∈ x.S, q < x.n
 f : ∀ q ∈ x.F, q < x.n
theorem OkN.rev {x : Nf} (h : OkN x) : OkN (revN x) := ⟨h.f, h.s⟩
theorem xcM9 (x : Nf) (h : OkN x) (w : List Nat) : wL0 (revN x) w.reverse = wL0 x w := by
 rw [Bool.eq_iff_iff, xbg9, xbg9]
 constructor
 ·rintro ⟨s, hs, t, ht, hp⟩
  exact ⟨t, ht, s, hs, (kaa9 x w t s (h.s t ht) (h.f s hs)).2 hp⟩
 ·rintro ⟨s, hs, t, ht, hp⟩
  exact ⟨t, ht, s, hs, (kaa9 x w s t (h.s s hs) (h.f t ht)).1 hp⟩
def ofD (rows : List (List Nat)) (acc : List Bool) : Nf := ⟨rows.length, fun s a t => (rows.getD s []).getD a 0 == t, [0], (List.range rows.length).filter fun s => acc.getD s false⟩
theorem xbE9 (rows : List (List Nat)) (acc : List Bool) (A : Nat) (hr : ∀ s, s < rows.length → ∀ a, a < A → (rows.getD s []).getD a 0 < rows.length) : ∀ (w : List Nat) (s t : Nat), (∀ a ∈ w, a < A) → s < rows.length →
  (waE9 (ofD rows acc) s w t ↔ runD rows s w = t)
 | [], s, t, _, _ => Iff.rfl
 | a :: w, s, t, hw, hs => by
  have ha := hr s hs a (hw a List.mem_cons_self)
  have ih := xbE9 rows acc A hr w ((rows.getD s []).getD a 0) t (fun b hb => hw b (List.mem_cons_of_mem _ hb)) ha
  constructor
  ·rintro ⟨u, hu, hd, hp⟩
   have : (rows.getD s []).getD a 0 = u := by simpa [ofD] using hd
   subst this
   exact ih.1 hp
  ·intro h
   exact ⟨(rows.getD s []).getD a 0, ha, by simp [ofD], ih.2 h⟩
theorem xcm9 (rows : List (List Nat)) (A : Nat) (hr : ∀ s, s < rows.length → ∀ a, a < A → (rows.getD s []).getD a 0 < rows.length) : ∀ (w : List Nat) (s : Nat), (∀ a ∈ w, a < A) → s < rows.length → runD rows s w < rows.length
 | [], _, _, hs => hs
 | a :: w, s, hw, hs => xcm9 rows A hr w _ (fun b hb => hw b (List.mem_cons_of_mem _ hb)) (hr s hs a (hw a List.mem_cons_self))
end Go.Proofs
set_option linter.unusedVariables false
set_option linter.unusedSimpArgs false
namespace Go.Proofs
def eqL (a b : List Nat) : Bool := decide (a = b)
def InA (A : Nat) (w : List Nat) : Prop := ∀ a ∈ w, a < A
theorem InA.app {A : Nat} {v w : List Nat} (h : InA A v) (h2 : InA A w) : InA A (v ++ w) := fun a ha => (List.mem_append.1 ha).elim (h a) (h2 a)
theorem InA.rev {A : Nat} {v : List Nat} (h : InA A v) : InA A v.reverse := fun a ha => h a (List.mem_reverse.1 ha)
theorem vap9 {X : Type} (step : X → Nat → X) (x : X) (v w : List Nat) : runX step x (v ++ w) = runX step (runX step x v) w := List.foldl_append
theorem zO0 (rows : List (List Nat)) (s : Nat) (v w : List Nat) : runD rows s (v ++ w) = runD rows (runD rows s v) w := List.foldl_append
def detS (x : Nf) (A N : Nat) : List (List Nat) := (stX (stepN x) eqL A x.S N).1
def detR (x : Nf) (A N : Nat) : List (List Nat) := (stX (stepN x) eqL A x.S N).2
def detA (x : Nf) (A N : Nat) : List Bool := (detS x A N).map (accN x)
theorem xs0 (x : List Nat) : eqL x x = true := by simp [eqL]
theorem wbg9 {x y : List Nat} (h : eqL x y = true) : x = y := by simpa [eqL] using h
structure qaU9 (x : Nf) (A N : Nat) : Prop where
 len : (detR x A N).length = N
 pos : 0 < N
 row : ∀ s, s < N → ∀ a, a < A → ((detR x A N).getD s []).getD a 0 < N
 run : ∀ w, InA A w → (detS x A N)[runD (detR x A N) 0 w]? = some (runX (stepN x) x.S w)
 acc : ∀ w, InA A w → (detA x A N).getD (runD (detR x A N) 0 w) false = wL0 x w
 all : ∀ t, t < N → ∃ w, InA A w ∧ runD (detR x A N) 0 w = t
theorem vbg9 (x : Nf) (A N : Nat) (hN : (detS x A N).length = N) : qaU9 x A N := by
 have h0 : (detS x A N)[0]? = some x.S := zL0 x.S N
 have hpos : 0 < N := by have := (List.getElem?_eq_some_iff.1 h0).1; omega
 have hrun : ∀ w, InA A w → (detS x A N)[runD (detR x A N) 0 w]? = some (runX (stepN x) x.S w) := fun w hw => by
  obtain ⟨y, h1, h2⟩ := qcm9 (step := stepN x) (eqv := eqL) (A := A) xs0 (fun u v a h _ => by rw [wbg9 h]; exact xs0 _) (fun u v z h1 h2 => by rw [wbg9 h1]; exact h2) x.S N hN w hw 0 x.S h0 x.S (xs0 _)
  rw [← wbg9 h2]; exact h1
 have hat := qbS9 (step := stepN x) (eqv := eqL) (A := A) xs0 x.S N (Nat.le_of_eq hN.symm)
 refine ⟨kv0 _ _ _ _ _ (Nat.le_of_eq hN.symm), hpos, ?_, hrun, ?_, ?_⟩
 ·intro s hs a ha
  obtain ⟨y, _, h2⟩ := hat s hs
  have := h2 a ha
  have e : ((detR x A N).getD s []).getD a 0 = findX eqL (stX (stepN x) eqL A x.S N).1 (stepN x y a) := this.1
  have l : (stX (stepN x) eqL A x.S N).1.length = N := hN
  rw [e]; omega
 ·intro w hw
  have := hrun w hw
  rw [detA, List.getD_eq_getElem?_getD, List.getElem?_map, this]; rfl
 ·intro t ht
  have hall := qL0 (stepN x) eqL A (P := fun y => ∃ w, InA A w ∧ y = runX (stepN x) x.S w) x.S ⟨[], fun a h => (by cases h), rfl⟩ (by
   rintro y ⟨w, hw, rfl⟩ a ha
   exact ⟨w ++ [a], hw.app fun b hb => by simp at hb; omega, by rw [vap9]; rfl⟩) N
  have ht' : t < (detS x A N).length := by omega
  obtain ⟨w, hw, e⟩ := hall _ (List.getElem_mem ht')
  refine ⟨w, hw, ?_⟩
  have h1 := hrun w hw
  have hap := qy0 (stepN x) eqL A x.S N
  have h2 : (detS x A N)[t]? = some (runX (stepN x) x.S w) := by rw [List.getElem?_eq_getElem ht']; exact congrArg some e
  generalize runD (detR x A N) 0 w = s at *
  obtain ⟨q1, q1'⟩ := List.getElem?_eq_some_iff.1 h1
  obtain ⟨q2, q2'⟩ := List.getElem?_eq_some_iff.1 h2
  have hp := List.pairwise_iff_getElem.1 hap
  rcases Nat.lt_trichotomy s t with q|q|q
  ·have := hp s t q1 q2 q
   have e2 : (detS x A N)[s] = (detS x A N)[t] := by rw [q1', q2']
   have e3 : eqL (detS x A N)[s] (detS x A N)[t] = true := by rw [e2]; exact xs0 _
   have e4 : eqL (detS x A N)[s] (detS x A N)[t] = false := this
   rw [e3] at e4; cases e4
  ·exact q
  ·have := hp t s q2 q1 q
   have e2 : (detS x A N)[t] = (detS x A N)[s] := by rw [q1', q2']
   have e3 : eqL (detS x A N)[t] (detS x A N)[s] = true := by rw [e2]; exact xs0 _
   have e4 : eqL (detS x A N)[t] (detS x A N)[s] = false := this
   rw [e3] at e4; cases e4
def zl0 (x : Nf) (A N : Nat) : Nf := revN (ofD (detR (revN x) A N) (detA (revN x) A N))
theorem wbu9 (y : Nf) (S : List Nat) (p : Nat → Bool) (hS : S = (List.range y.n).filter p) : ∀ w, ∃ p, runX (stepN y) S w = (List.range y.n).filter p := by
 intro w
 induction w generalizing S p with
 | nil => exact ⟨p, hS⟩
 | cons a w ih => exact ih (stepN y S a) _ rfl
theorem xaJ9 {n : Nat} {p q : Nat → Bool} (h : ∀ t, t < n → (t ∈ (List.range n).filter p ↔ t ∈ (List.range n).filter q)) : (List.range n).filter p = (List.range n).filter q := by
 refine List.filter_congr fun t ht => ?_
 have := h t (List.mem_range.1 ht)
 rw [List.mem_filter, List.mem_filter] at this
 rw [Bool.eq_iff_iff]
 exact ⟨fun q1 => (this.1 ⟨ht, q1⟩).2, fun q1 => (this.2 ⟨ht, q1⟩).2⟩
theorem zaU9 (x : Nf) (A N : Nat) (h : qaU9 (revN x) A N) (w : List Nat) (hw : InA A w) :
  runX (stepN (zl0 x A N)) (zl0 x A N).S w = (List.range N).filter fun t => (detA (revN x) A N).getD (runD (detR (revN x) A N) t w.reverse) false := by
 have hn : (zl0 x A N).n = N := h.len
 have hS : (zl0 x A N).S = (List.range (zl0 x A N).n).filter fun s => (detA (revN x) A N).getD s false := rfl
 obtain ⟨p, hp⟩ := wbu9 (zl0 x A N) (zl0 x A N).S _ hS w
 have hm : ∀ t, t < N → (t ∈ runX (stepN (zl0 x A N)) (zl0 x A N).S w ↔ t ∈ (List.range N).filter fun t => (detA (revN x) A N).getD (runD (detR (revN x) A N) t w.reverse) false) := by
  intro t ht
  rw [kaT9, List.mem_filter, List.mem_range]
  have hD : ∀ s, s < (detR (revN x) A N).length → ∀ a, a < A → ((detR (revN x) A N).getD s []).getD a 0 < (detR (revN x) A N).length := by rw [h.len]; exact h.row
  have hpr : ∀ s, s < N → (waE9 (zl0 x A N) s w t ↔ runD (detR (revN x) A N) t w.reverse = s) := fun s hs => by
   have e := kaa9 (ofD (detR (revN x) A N) (detA (revN x) A N)) w.reverse t s (by show t < (detR (revN x) A N).length; rw [h.len]; exact ht) (by show s < (detR (revN x) A N).length; rw [h.len]; exact hs)
   rw [List.reverse_reverse] at e
   exact e.symm.trans (xbE9 _ _ A hD w.reverse t s hw.rev (by rw [h.len]; exact ht))
  have hl := xcm9 _ A hD w.reverse t hw.rev (by rw [h.len]; exact ht)
  rw [h.len] at hl
  constructor
  ·rintro ⟨s, hs, hpth⟩
   rw [hS, List.mem_filter, List.mem_range, hn] at hs
   have := (hpr s hs.1).1 hpth
   rw [this]; exact ⟨ht, hs.2⟩
  ·rintro ⟨_, hb⟩
   refine ⟨runD (detR (revN x) A N) t w.reverse, ?_, (hpr _ hl).2 rfl⟩
   rw [hS, List.mem_filter, List.mem_range, hn]
   exact ⟨hl, hb⟩
 rw [hp, hn] at hm ⊢
 exact xaJ9 hm
theorem kax9 (x : Nf) (hx : OkN x) (A N : Nat) (h : qaU9 (revN x) A N) (v w : List Nat) (hv : InA A v) (hw : InA A w) :
  (detA (revN x) A N).getD (runD (detR (revN x) A N) (runD (detR (revN x) A N) 0 v.reverse) w.reverse) false = wL0 x (w ++ v) := by
 rw [← zO0, ← List.reverse_append, h.acc _ (hw.app hv).rev, xcM9 x hx]
theorem wcM9 (x : Nf) (hx : OkN x) (A N : Nat) (h : qaU9 (revN x) A N) (w : List Nat) (hw : InA A w) : accN (zl0 x A N) (runX (stepN (zl0 x A N)) (zl0 x A N).S w) = wL0 x w := by
 have h1 := kax9 x hx A N h [] w (fun a ha => by cases ha) hw
 rw [List.append_nil] at h1
 rw [← h1, zaU9 x A N h w hw, accN]
 rw [Bool.eq_iff_iff, List.any_eq_true]
 constructor
 ·rintro ⟨t, ht, ht2⟩
  have : t = 0 := by simpa [zl0, revN, ofD] using ht2
  subst this
  exact (List.mem_filter.1 ht).2
 ·intro hb
  exact ⟨0, List.mem_filter.2 ⟨List.mem_range.2 h.pos, hb⟩, by simp [zl0, revN, ofD]⟩
theorem vdm9 (x : Nf) (hx : OkN x) (A N : Nat) (h : qaU9 (revN x) A N) (v w : List Nat) (hv : InA A v) (hw : InA A w) :
  runX (stepN (zl0 x A N)) (zl0 x A N).S v = runX (stepN (zl0 x A N)) (zl0 x A N).S w ↔ ∀ u, InA A u → wL0 x (v ++ u) = wL0 x (w ++ u) := by
 rw [zaU9 x A N h v hv, zaU9 x A N h w hw]
 constructor
 ·intro e u hu
  have hl : runD (detR (revN x) A N) 0 u.reverse < N := by
   have := xcm9 (detR (revN x) A N) A (by rw [h.len]; exact h.row) u.reverse 0 hu.rev (by rw [h.len]; exact h.pos)
   rwa [h.len] at this
  have e1 : runD (detR (revN x) A N) 0 u.reverse ∈ (List.range N).filter (fun t => (detA (revN x) A N).getD (runD (detR (revN x) A N) t v.reverse) false) ↔ runD (detR (revN x) A N) 0 u.reverse ∈ (List.range N).filter (fun t => (detA (revN x) A N).getD (runD (detR (revN x) A N) t w.reverse) false) := by rw [e]
  rw [List.mem_filter, List.mem_filter, kax9 x hx A N h u v hu hv, kax9 x hx A N h u w hu hw] at e1
  rw [Bool.eq_iff_iff]
  exact ⟨fun q => (e1.1 ⟨List.mem_range.2 hl, q⟩).2, fun q => (e1.2 ⟨List.mem_range.2 hl, q⟩).2⟩
 ·intro e
  refine List.filter_congr fun t ht => ?_
  obtain ⟨u, hu, hut⟩ := h.all t (List.mem_range.1 ht)
  have e1 := kax9 x hx A N h u.reverse v hu.rev hv
  have e2 := kax9 x hx A N h u.reverse w hu.rev hw
  rw [List.reverse_reverse, hut] at e1 e2
  rw [e1, e2]
  exact e _ hu.rev
theorem brz (x : Nf) (hx : OkN x) (A N : Nat) (h : qaU9 (revN x) A N) (rows : List (List Nat)) (acc : Nat → Bool) (e : Nat → Nat → Bool) (hacc : ∀ w, InA A w → acc (runD rows 0 w) = wL0 x w)
  (he : ∀ v w, InA A v → InA A w → (e (runD rows 0 v) (runD rows 0 w) = true ↔ ∀ u, InA A u → acc (runD rows (runD rows 0 v) u) = acc (runD rows (runD rows 0 w) u))) (i : Nat) :
  (stX (fun s a => (rows.getD s []).getD a 0) e A 0 i).2 = (stX (stepN (zl0 x A N)) eqL A (zl0 x A N).S i).2 ∧
  (stX (fun s a => (rows.getD s []).getD a 0) e A 0 i).1.map acc = (stX (stepN (zl0 x A N)) eqL A (zl0 x A N).S i).1.map (accN (zl0 x A N)) := by
 have key := qbg9 (s1 := fun s a => (rows.getD s []).getD a 0) (e1 := e) (s2 := stepN (zl0 x A N)) (e2 := eqL) (A := A)
  (R := fun s T => ∃ w, InA A w ∧ s = runD rows 0 w ∧ T = runX (stepN (zl0 x A N)) (zl0 x A N).S w) (by
   rintro s T s' T' ⟨v, hv, rfl, rfl⟩ ⟨w, hw, rfl, rfl⟩
   rw [Bool.eq_iff_iff, he v w hv hw]
   unfold eqL
   rw [decide_eq_true_eq, vdm9 x hx A N h v w hv hw]
   constructor
   ·intro q u hu
    have := q u hu
    rw [← zO0, ← zO0, hacc _ (hv.app hu), hacc _ (hw.app hu)] at this
    exact this
   ·intro q u hu
    rw [← zO0, ← zO0, hacc _ (hv.app hu), hacc _ (hw.app hu)]
    exact q u hu) (by
   rintro s T ⟨w, hw, rfl, rfl⟩ a ha
   refine ⟨w ++ [a], hw.app fun b hb => by simp at hb; omega, ?_, ?_⟩
   ·rw [zO0]; rfl
   ·rw [vap9]; rfl) (x0 := 0) (y0 := (zl0 x A N).S) ⟨[], fun a ha => (by cases ha), rfl, rfl⟩ i
 refine ⟨key.2, ?_⟩
 have hm : ∀ (l : List Nat) (m : List (List Nat)), All2 (fun s T => ∃ w, InA A w ∧ s = runD rows 0 w ∧ T = runX (stepN (zl0 x A N)) (zl0 x A N).S w) l m → l.map acc = m.map (accN (zl0 x A N)) := by
  intro l m hlm
  induction hlm with
  | nil => rfl
  | cons h1 _ ih =>
   obtain ⟨w, hw, rfl, rfl⟩ := h1
   rw [List.map_cons, List.map_cons, ih, hacc w hw, wcM9 x hx A N h w hw]
 exact hm _ _ key.1
end Go.Proofs
set_option linter.unusedVariables false
set_option linter.unusedSimpArgs false
namespace Go.Proofs
section
variable (e : Nat → Nat → Bool)
def eqX (x y : Nat) : Bool := decide (x = y)
def firsts (l : List Nat) : List Nat := l.foldl (addX e) []
theorem wl0 (l : List Nat) (x : Nat) : firsts e (l ++ [x]) = addX e (firsts e l) x := by simp [firsts, List.foldl_append]
end
section
variable {step : Nat → Nat → Nat} {e : Nat → Nat → Bool} {A : Nat}
theorem find_lt {l : List Nat} {x : Nat} : findX e l x < l.length ↔ ∃ y ∈ l, e y x = true := List.findIdx_lt_length
theorem qab9 {l : List Nat} {x : Nat} (h : ∃ y ∈ l, e y x = true) : addX e l x = l := by
 have := find_lt.2 h
 unfold addX; rw [if_neg (by omega)]
theorem zy0 {l : List Nat} {x : Nat} (h : ¬ ∃ y ∈ l, e y x = true) : addX e l x = l ++ [x] := by
 have h1 : ¬ findX e l x < l.length := fun q => h (find_lt.1 q)
 have := wax9 (eqv := e) l x
 unfold addX; rw [if_pos (by omega)]
theorem qai9 : ∀ (r l : List Nat), ∀ x ∈ r.foldl (addX e) l, x ∈ l ∨ x ∈ r
 | [], l, x, h => .inl h
 | y :: r, l, x, h => by
  rcases qai9 r (addX e l y) x h with q|q
  ·by_cases w : ∃ z ∈ l, e z y = true
   ·rw [qab9 w] at q; exact .inl q
   ·rw [zy0 w] at q
    rcases List.mem_append.1 q with q|q
    ·exact .inl q
    ·simp at q; right; simp [q]
  ·right; exact List.mem_cons_of_mem _ q
theorem waJ9 (hr : ∀ x, e x x = true) : ∀ (r l : List Nat), (∀ x ∈ l, x ∈ r.foldl (addX e) l) ∧ (∀ x ∈ r, ∃ y ∈ r.foldl (addX e) l, e y x = true)
 | [], l => ⟨fun x h => h, fun x h => by cases h⟩
 | z :: r, l => by
  have ih := waJ9 hr r (addX e l z)
  have hsub : ∀ x ∈ l, x ∈ addX e l z := fun x hx => by
   obtain ⟨s, h⟩ := kN0 e l z; rw [h]; exact List.mem_append_left _ hx
  refine ⟨fun x hx => ih.1 x (hsub x hx), fun x hx => ?_⟩
  rcases List.mem_cons.1 hx with rfl|hx
  ·by_cases w : ∃ y ∈ l, e y x = true
   ·obtain ⟨y, hy, hyx⟩ := w
    exact ⟨y, ih.1 y (hsub y hy), hyx⟩
   ·exact ⟨x, ih.1 x (by rw [zy0 w]; simp), hr x⟩
  ·exact ih.2 x hx
theorem zp0 (hr : ∀ x, e x x = true) {l : List Nat} {x : Nat} (h : x ∈ l) : ∃ y ∈ firsts e l, e y x = true := (waJ9 hr l []).2 x h
theorem zbS9 (hr : ∀ x, e x x = true) (l : List Nat) (x : Nat) : firsts e (addX eqX l x) = addX e (firsts e l) x := by
 by_cases w : ∃ y ∈ l, eqX y x = true
 ·rw [qab9 w]
  obtain ⟨y, hy, hyx⟩ := w
  have : y = x := by simpa [eqX] using hyx
  subst this
  rw [qab9 (zp0 hr hy)]
 ·rw [zy0 w, wl0]
theorem vaJ9 (hr : ∀ x, e x x = true) (l : List Nat) (x : Nat) : ∀ a, firsts e (rowX step eqX l x a).1 = (rowX step e (firsts e l) x a).1
 | 0 => rfl
 | a + 1 => by rw [rowX, rowX]; simp only; rw [zbS9 hr, vaJ9 hr l x a]
theorem wbE9 {l : List Nat} {x : Nat} : ∀ a, (∀ b, b < a → ∃ y ∈ l, e y (step x b) = true) → (rowX step e l x a).1 = l
 | 0, _ => rfl
 | a + 1, h => by
  rw [rowX]
  simp only
  rw [wbE9 a fun b hb => h b (by omega), qab9 (h a (by omega))]
theorem xO0 (l r : List Nat) : ∃ t, firsts e (l ++ r) = firsts e l ++ t := by
 unfold firsts
 rw [List.foldl_append]
 generalize l.foldl (addX e) [] = m
 induction r generalizing m with
 | nil => exact ⟨[], (List.append_nil m).symm⟩
 | cons x r ih =>
  obtain ⟨t, h⟩ := ih (addX e m x)
  obtain ⟨s, h2⟩ := kN0 e m x
  exact ⟨s ++ t, by rw [List.foldl_cons, h, h2, List.append_assoc]⟩
theorem wG0 (hr : ∀ x, e x x = true) (hs : ∀ x y, e x y = true → e y x = true) (ht : ∀ x y z, e x y = true → e y z = true → e x z = true) (hc : ∀ x y a, e x y = true → a < A → e (step x a) (step y a) = true) (x0 : Nat) :
  ∀ i, i ≤ (stX step eqX A x0 i).1.length → firsts e (stX step eqX A x0 i).1 = (stX step e A x0 (firsts e ((stX step eqX A x0 i).1.take i)).length).1 ∧
   ∀ x ∈ (stX step eqX A x0 i).1.take i, ∀ a, a < A → step x a ∈ (stX step eqX A x0 i).1
 | 0, _ => by
  refine ⟨?_, fun x hx => by simp at hx⟩
  have h1 : ¬ ∃ y ∈ ([] : List Nat), e y x0 = true := by rintro ⟨y, hy, _⟩; cases hy
  show addX e [] x0 = _
  rw [zy0 h1]; rfl
 | i + 1, hi => by
  obtain ⟨p, hp⟩ := zbu9 step eqX A x0 i
  cases q : (stX step eqX A x0 i).1[i]? with
  | none =>
   have := List.getElem?_eq_none_iff.1 q
   rw [zcm9 x0 i this] at hi
   omega
  | some x =>
   have hlt : i < (stX step eqX A x0 i).1.length := (List.getElem?_eq_some_iff.1 q).1
   obtain ⟨ih1, ih2⟩ := wG0 hr hs ht hc x0 i (by omega)
   have hst : (stX step eqX A x0 (i + 1)).1 = (rowX step eqX (stX step eqX A x0 i).1 x A).1 := by rw [stX, q]
   have htk : (stX step eqX A x0 (i + 1)).1.take (i + 1) = (stX step eqX A x0 i).1.take i ++ [x] := by
    rw [hp, List.take_append_of_le_length (by omega), List.take_add_one, q]; rfl
   have hmem : ∀ a, a < A → step x a ∈ (rowX step eqX (stX step eqX A x0 i).1 x A).1 := fun a ha => by
    have h1 := kcl9 (step := step) (eqv := eqX) (fun x => by simp [eqX]) (stX step eqX A x0 i).1 x A a ha
    obtain ⟨y, hy, hyx⟩ := find_lt.1 h1.2
    have : y = step x a := by simpa [eqX] using hyx
    rw [← this]; exact hy
   refine ⟨?_, ?_⟩
   ·rw [htk, wl0, hst, vaJ9 hr]
    have hx : x ∈ (stX step eqX A x0 i).1 := List.mem_of_getElem? q
    by_cases w : ∃ y ∈ firsts e ((stX step eqX A x0 i).1.take i), e y x = true
    ·rw [qab9 w, ← ih1]
     apply wbE9
     intro a ha
     obtain ⟨y, hy, hyx⟩ := w
     have hyt : y ∈ (stX step eqX A x0 i).1.take i := by
      rcases qai9 _ _ y hy with z|z
      ·cases z
      ·exact z
     obtain ⟨z, hz, hzy⟩ := zp0 hr (ih2 y hyt a ha)
     exact ⟨z, hz, ht _ _ _ hzy (hc _ _ _ hyx ha)⟩
    ·rw [zy0 w, List.length_append, List.length_singleton, stX]
     have hsplit : (stX step eqX A x0 i).1 = ((stX step eqX A x0 i).1.take i ++ [x]) ++ (stX step eqX A x0 i).1.drop (i + 1) := by
      conv => lhs; rw [← List.take_append_drop (i + 1) (stX step eqX A x0 i).1]
      rw [List.take_add_one, q]; rfl
     obtain ⟨t, h3⟩ := xO0 (e := e) ((stX step eqX A x0 i).1.take i ++ [x]) ((stX step eqX A x0 i).1.drop (i + 1))
     rw [← hsplit, wl0, zy0 w, ih1] at h3
     have hat : (stX step e A x0 (firsts e ((stX step eqX A x0 i).1.take i)).length).1[(firsts e ((stX step eqX A x0 i).1.take i)).length]? = some x := by
      rw [h3, List.append_assoc, List.getElem?_append_right (Nat.le_refl _), Nat.sub_self]; rfl
     rw [hat]
     simp only
     rw [ih1]
   ·rw [htk, hst]
    intro y hy a ha
    rcases List.mem_append.1 hy with h1|h1
    ·obtain ⟨t, h⟩ := xA0 step eqX (stX step eqX A x0 i).1 x A
     rw [h]; exact List.mem_append_left _ (ih2 y h1 a ha)
    ·simp only [List.mem_singleton] at h1
     subst h1
     exact hmem a ha
end
end Go.Proofs
