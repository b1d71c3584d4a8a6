import Derived.Test.YtcoakjnmnommpaaGreatDoorAP2
set_option linter.unusedVariables false
set_option linter.unusedSimpArgs false
namespace Go.Proofs
structure Nf where
 n : Nat
 d : Nat → Nat → Nat → Bool
 S : List Nat
 F : List Nat
def stepN (x : Nf) (S : List Nat) (a : Nat) : List Nat := (List.range x.n).filter fun t => S.any fun s => x.d s a t
def kah9 (x : Nf) : Nat → List Nat → Nat → Prop
 | s, [], t => s = t
 | s, a :: w, t => ∃ u, u < x.n ∧ x.d s a u = true ∧ kah9 x u w t
theorem kA0 (x : Nf) (S : List Nat) (a t : Nat) : t ∈ stepN x S a ↔ t < x.n ∧ ∃ s ∈ S, x.d s a t = true := by
 unfold stepN
 rw [List.mem_filter, List.mem_range, List.any_eq_true]
theorem wbx9 (x : Nf) : ∀ (w : List Nat) (S : List Nat) (t : Nat), t ∈ runX (stepN x) S w ↔ ∃ s ∈ S, kah9 x s w t
 | [], S, t => by
  show t ∈ S ↔ _
  constructor
  ·intro h; exact ⟨t, h, rfl⟩
  ·rintro ⟨s, h, rfl⟩; exact h
 | a :: w, S, t => by
  have : runX (stepN x) S (a :: w) = runX (stepN x) (stepN x S a) w := rfl
  rw [this, wbx9 x w]
  constructor
  ·rintro ⟨u, h1, h2⟩
   obtain ⟨hu, s, hs, hd⟩ := (kA0 x S a u).1 h1
   exact ⟨s, hs, u, hu, hd, h2⟩
  ·rintro ⟨s, hs, u, hu, hd, h2⟩
   exact ⟨u, (kA0 x S a u).2 ⟨hu, s, hs, hd⟩, h2⟩
def accN (x : Nf) (S : List Nat) : Bool := S.any fun s => x.F.contains s
def kB0 (x : Nf) (w : List Nat) : Bool := accN x (runX (stepN x) x.S w)
theorem xab9 (x : Nf) (w : List Nat) : kB0 x w = true ↔ ∃ s ∈ x.S, ∃ t ∈ x.F, kah9 x s w t := by
 unfold kB0 accN
 rw [List.any_eq_true]
 constructor
 ·rintro ⟨t, h1, h2⟩
  obtain ⟨s, hs, hp⟩ := (wbx9 x w x.S t).1 h1
  exact ⟨s, hs, t, by simpa using h2, hp⟩
 ·rintro ⟨s, hs, t, ht, hp⟩
  exact ⟨t, (wbx9 x w x.S t).2 ⟨s, hs, hp⟩, by simpa using ht⟩
def revN (x : Nf) : Nf := ⟨x.n, fun s a t => x.d t a s, x.F, x.S⟩
theorem wab9 (x : Nf) : ∀ (w : List Nat) (s a t : Nat), t < x.n → (kah9 x s (w ++ [a]) t ↔ ∃ u, (w = [] ∧ u = s ∨ w ≠ [] ∧ u < x.n) ∧ kah9 x s w u ∧ x.d u a t = true)
 | [], s, a, t, ht => by
  constructor
  ·rintro ⟨u, hu, hd, rfl⟩; exact ⟨s, .inl ⟨rfl, rfl⟩, rfl, hd⟩
  ·rintro ⟨u, h1, h2, hd⟩; cases h2; exact ⟨t, ht, hd, rfl⟩
 | b :: w, s, a, t, ht => by
  rw [List.cons_append]
  constructor
  ·rintro ⟨v, hv, hd, hp⟩
   obtain ⟨u, h1, h2, h3⟩ := (wab9 x w v a t ht).1 hp
   refine ⟨u, .inr ⟨by simp, ?_⟩, ⟨v, hv, hd, h2⟩, h3⟩
   rcases h1 with ⟨_, rfl⟩|⟨_, h⟩
   ·exact hv
   ·exact h
  ·rintro ⟨u, h1, ⟨v, hv, hd, h2⟩, h3⟩
   refine ⟨v, hv, hd, (wab9 x w v a t ht).2 ⟨u, ?_, h2, h3⟩⟩
   cases w with
   | nil => left; cases h2; exact ⟨rfl, rfl⟩
   | cons c w => right; exact ⟨by simp, by rcases h1 with ⟨q, _⟩|⟨_, q⟩; cases q; exact q⟩
theorem vab9 (x : Nf) : ∀ (w : List Nat) (s t : Nat), s < x.n → t < x.n → (kah9 x s w t ↔ kah9 (revN x) t w.reverse s)
 | [], s, t, _, _ => ⟨fun h => h.symm, fun h => h.symm⟩
 | a :: w, s, t, hs, ht => by
  rw [List.reverse_cons, wab9 (revN x) w.reverse t a s hs]
  constructor
  ·rintro ⟨u, hu, hd, hp⟩
   refine ⟨u, ?_, (vab9 x w u t hu ht).1 hp, hd⟩
   cases w with
   | nil => left; cases hp; exact ⟨rfl, rfl⟩
   | cons b w => right; exact ⟨by simp, hu⟩
  ·rintro ⟨u, h1, h2, h3⟩
   have hu : u < x.n := by
    rcases h1 with ⟨_, rfl⟩|⟨_, h⟩
    ·exact ht
    ·exact h
   exact ⟨u, hu, h3, (vab9 x w u t hu ht).2 h2⟩
structure OkN (x : Nf) : Prop where
 s : ∀ q ∈ x.S, q < x.n
 f : ∀ q ∈ x.F, q < x.n
theorem OkN.rev {x : Nf} (h : OkN x) : OkN (revN x) := ⟨h.f, h.s⟩
theorem qcU9 (x : Nf) (h : OkN x) (w : List Nat) : kB0 (revN x) w.reverse = kB0 x w := by
 rw [Bool.eq_iff_iff, xab9, xab9]
 constructor
 ·rintro ⟨s, hs, t, ht, hp⟩
  exact ⟨t, ht, s, hs, (vab9 x w t s (h.s t ht) (h.f s hs)).2 hp⟩
 ·rintro ⟨s, hs, t, ht, hp⟩
  exact ⟨t, ht, s, hs, (vab9 x w s t (h.s s hs) (h.f t ht)).1 hp⟩
def ofD (rows : List (List Nat)) (acc : List Bool) : Nf := ⟨rows.length, fun s a t => (rows.getD s []).getD a 0 == t, [0], (List.range rows.length).filter fun s => acc.getD s false⟩
end Go.Proofs
set_option linter.unusedVariables false
set_option linter.unusedSimpArgs false
namespace Go.Proofs
def eqL (a b : List Nat) : Bool := decide (a = b)
def InA (A : Nat) (w : List Nat) : Prop := ∀ a ∈ w, a < A
theorem InA.app {A : Nat} {v w : List Nat} (h : InA A v) (h2 : InA A w) : InA A (v ++ w) := fun a ha => (List.mem_append.1 ha).elim (h a) (h2 a)
theorem InA.rev {A : Nat} {v : List Nat} (h : InA A v) : InA A v.reverse := fun a ha => h a (List.mem_reverse.1 ha)
theorem wbI9 {X : Type} (step : X → Nat → X) (x : X) (v w : List Nat) : runX step x (v ++ w) = runX step (runX step x v) w := List.foldl_append
def detS (x : Nf) (A N : Nat) : List (List Nat) := (stX (stepN x) eqL A x.S N).1
def detR (x : Nf) (A N : Nat) : List (List Nat) := (stX (stepN x) eqL A x.S N).2
def detA (x : Nf) (A N : Nat) : List Bool := (detS x A N).map (accN x)
theorem zar9 (x : List Nat) : eqL x x = true := by simp [eqL]
theorem zdh9 {x y : List Nat} (h : eqL x y = true) : x = y := by simpa [eqL] using h
structure zei9 (x : Nf) (A N : Nat) : Prop where
 len : (detR x A N).length = N
 pos : 0 < N
 row : ∀ s, s < N → ∀ a, a < A → ((detR x A N).getD s []).getD a 0 < N
 run : ∀ w, InA A w → (detS x A N)[runD (detR x A N) 0 w]? = some (runX (stepN x) x.S w)
 acc : ∀ w, InA A w → (detA x A N).getD (runD (detR x A N) 0 w) false = kB0 x w
 all : ∀ t, t < N → ∃ w, InA A w ∧ runD (detR x A N) 0 w = t
def xei9 (x : Nf) (A N : Nat) : Nf := revN (ofD (detR (revN x) A N) (detA (revN x) A N))
theorem vbY9 {n : Nat} {p q : Nat → Bool} (h : ∀ t, t < n → (t ∈ (List.range n).filter p ↔ t ∈ (List.range n).filter q)) : (List.range n).filter p = (List.range n).filter q := by
 refine List.filter_congr fun t ht => ?_
 have := h t (List.mem_range.1 ht)
 rw [List.mem_filter, List.mem_filter] at this
 rw [Bool.eq_iff_iff]
 exact ⟨fun q1 => (this.1 ⟨ht, q1⟩).2, fun q1 => (this.2 ⟨ht, q1⟩).2⟩
end Go.Proofs
set_option linter.unusedVariables false
set_option linter.unusedSimpArgs false
namespace Go.Proofs
section
variable (e : Nat → Nat → Bool)
def eqX (x y : Nat) : Bool := decide (x = y)
def firsts (l : List Nat) : List Nat := l.foldl (addX e) []
theorem zu0 (l : List Nat) (x : Nat) : firsts e (l ++ [x]) = addX e (firsts e l) x := by simp [firsts, List.foldl_append]
end
section
variable {step : Nat → Nat → Nat} {e : Nat → Nat → Bool} {A : Nat}
theorem find_lt {l : List Nat} {x : Nat} : findX e l x < l.length ↔ ∃ y ∈ l, e y x = true := List.findIdx_lt_length
theorem zam9 {l : List Nat} {x : Nat} (h : ∃ y ∈ l, e y x = true) : addX e l x = l := by
 have := find_lt.2 h
 unfold addX; rw [if_neg (by omega)]
theorem zJ0 {l : List Nat} {x : Nat} (h : ¬ ∃ y ∈ l, e y x = true) : addX e l x = l ++ [x] := by
 have h1 : ¬ findX e l x < l.length := fun q => h (find_lt.1 q)
 have := vaA9 (eqv := e) l x
 unfold addX; rw [if_pos (by omega)]
theorem vaM9 : ∀ (r l : List Nat), ∀ x ∈ r.foldl (addX e) l, x ∈ l ∨ x ∈ r
 | [], l, x, h => .inl h
 | y :: r, l, x, h => by
  rcases vaM9 r (addX e l y) x h with q|q
  ·by_cases w : ∃ z ∈ l, e z y = true
   ·rw [zam9 w] at q; exact .inl q
   ·rw [zJ0 w] at q
    rcases List.mem_append.1 q with q|q
    ·exact .inl q
    ·simp at q; right; simp [q]
  ·right; exact List.mem_cons_of_mem _ q
theorem kaM9 (hr : ∀ x, e x x = true) : ∀ (r l : List Nat), (∀ x ∈ l, x ∈ r.foldl (addX e) l) ∧ (∀ x ∈ r, ∃ y ∈ r.foldl (addX e) l, e y x = true)
 | [], l => ⟨fun x h => h, fun x h => by cases h⟩
 | z :: r, l => by
  have ih := kaM9 hr r (addX e l z)
  have hsub : ∀ x ∈ l, x ∈ addX e l z := fun x hx => by
   obtain ⟨s, h⟩ := kaa9 e l z; rw [h]; exact List.mem_append_left _ hx
  refine ⟨fun x hx => ih.1 x (hsub x hx), fun x hx => ?_⟩
  rcases List.mem_cons.1 hx with rfl|hx
  ·by_cases w : ∃ y ∈ l, e y x = true
   ·obtain ⟨y, hy, hyx⟩ := w
    exact ⟨y, ih.1 y (hsub y hy), hyx⟩
   ·exact ⟨x, ih.1 x (by rw [zJ0 w]; simp), hr x⟩
  ·exact ih.2 x hx
theorem kab9 (hr : ∀ x, e x x = true) {l : List Nat} {x : Nat} (h : x ∈ l) : ∃ y ∈ firsts e l, e y x = true := (kaM9 hr l []).2 x h
theorem kbY9 (hr : ∀ x, e x x = true) (l : List Nat) (x : Nat) : firsts e (addX eqX l x) = addX e (firsts e l) x := by
 by_cases w : ∃ y ∈ l, eqX y x = true
 ·rw [zam9 w]
  obtain ⟨y, hy, hyx⟩ := w
  have : y = x := by simpa [eqX] using hyx
  subst this
  rw [zam9 (kab9 hr hy)]
 ·rw [zJ0 w, zu0]
theorem qaN9 (hr : ∀ x, e x x = true) (l : List Nat) (x : Nat) : ∀ a, firsts e (rowX step eqX l x a).1 = (rowX step e (firsts e l) x a).1
 | 0 => rfl
 | a + 1 => by rw [rowX, rowX]; simp only; rw [kbY9 hr, qaN9 hr l x a]
theorem vbI9 {l : List Nat} {x : Nat} : ∀ a, (∀ b, b < a → ∃ y ∈ l, e y (step x b) = true) → (rowX step e l x a).1 = l
 | 0, _ => rfl
 | a + 1, h => by
  rw [rowX]
  simp only
  rw [vbI9 a fun b hb => h b (by omega), zam9 (h a (by omega))]
theorem kP0 (l r : List Nat) : ∃ t, firsts e (l ++ r) = firsts e l ++ t := by
 unfold firsts
 rw [List.foldl_append]
 generalize l.foldl (addX e) [] = m
 induction r generalizing m with
 | nil => exact ⟨[], (List.append_nil m).symm⟩
 | cons x r ih =>
  obtain ⟨t, h⟩ := ih (addX e m x)
  obtain ⟨s, h2⟩ := kaa9 e m x
  exact ⟨s ++ t, by rw [List.foldl_cons, h, h2, List.append_assoc]⟩
theorem qac9 (hr : ∀ x, e x x = true) (hs : ∀ x y, e x y = true → e y x = true) (ht : ∀ x y z, e x y = true → e y z = true → e x z = true) (hc : ∀ x y a, e x y = true → a < A → e (step x a) (step y a) = true) (x0 : Nat) :
  ∀ i, i ≤ (stX step eqX A x0 i).1.length → firsts e (stX step eqX A x0 i).1 = (stX step e A x0 (firsts e ((stX step eqX A x0 i).1.take i)).length).1 ∧
   ∀ x ∈ (stX step eqX A x0 i).1.take i, ∀ a, a < A → step x a ∈ (stX step eqX A x0 i).1
 | 0, _ => by
  refine ⟨?_, fun x hx => by simp at hx⟩
  have h1 : ¬ ∃ y ∈ ([] : List Nat), e y x0 = true := by rintro ⟨y, hy, _⟩; cases hy
  show addX e [] x0 = _
  rw [zJ0 h1]; rfl
 | i + 1, hi => by
  obtain ⟨p, hp⟩ := xbx9 step eqX A x0 i
  cases q : (stX step eqX A x0 i).1[i]? with
  | none =>
   have := List.getElem?_eq_none_iff.1 q
   rw [wcs9 x0 i this] at hi
   omega
  | some x =>
   have hlt : i < (stX step eqX A x0 i).1.length := (List.getElem?_eq_some_iff.1 q).1
   obtain ⟨ih1, ih2⟩ := qac9 hr hs ht hc x0 i (by omega)
   have hst : (stX step eqX A x0 (i + 1)).1 = (rowX step eqX (stX step eqX A x0 i).1 x A).1 := by rw [stX, q]
   have htk : (stX step eqX A x0 (i + 1)).1.take (i + 1) = (stX step eqX A x0 i).1.take i ++ [x] := by
    rw [hp, List.take_append_of_le_length (by omega), List.take_add_one, q]; rfl
   have hmem : ∀ a, a < A → step x a ∈ (rowX step eqX (stX step eqX A x0 i).1 x A).1 := fun a ha => by
    have h1 := xcs9 (step := step) (eqv := eqX) (fun x => by simp [eqX]) (stX step eqX A x0 i).1 x A a ha
    obtain ⟨y, hy, hyx⟩ := find_lt.1 h1.2
    have : y = step x a := by simpa [eqX] using hyx
    rw [← this]; exact hy
   refine ⟨?_, ?_⟩
   ·rw [htk, zu0, hst, qaN9 hr]
    have hx : x ∈ (stX step eqX A x0 i).1 := List.mem_of_getElem? q
    by_cases w : ∃ y ∈ firsts e ((stX step eqX A x0 i).1.take i), e y x = true
    ·rw [zam9 w, ← ih1]
     apply vbI9
     intro a ha
     obtain ⟨y, hy, hyx⟩ := w
     have hyt : y ∈ (stX step eqX A x0 i).1.take i := by
      rcases vaM9 _ _ y hy with z|z
      ·cases z
      ·exact z
     obtain ⟨z, hz, hzy⟩ := kab9 hr (ih2 y hyt a ha)
     exact ⟨z, hz, ht _ _ _ hzy (hc _ _ _ hyx ha)⟩
    ·rw [zJ0 w, List.length_append, List.length_singleton, stX]
     have hsplit : (stX step eqX A x0 i).1 = ((stX step eqX A x0 i).1.take i ++ [x]) ++ (stX step eqX A x0 i).1.drop (i + 1) := by
      conv => lhs; rw [← List.take_append_drop (i + 1) (stX step eqX A x0 i).1]
      rw [List.take_add_one, q]; rfl
     obtain ⟨t, h3⟩ := kP0 (e := e) ((stX step eqX A x0 i).1.take i ++ [x]) ((stX step eqX A x0 i).1.drop (i + 1))
     rw [← hsplit, zu0, zJ0 w, ih1] at h3
     have hat : (stX step e A x0 (firsts e ((stX step eqX A x0 i).1.take i)).length).1[(firsts e ((stX step eqX A x0 i).1.take i)).length]? = some x := by
      rw [h3, List.append_assoc, List.getElem?_append_right (Nat.le_refl _), Nat.sub_self]; rfl
     rw [hat]
     simp only
     rw [ih1]
   ·rw [htk, hst]
    intro y hy a ha
    rcases List.mem_append.1 hy with h1|h1
    ·obtain ⟨t, h⟩ := wP0 step eqX (stX step eqX A x0 i).1 x A
     rw [h]; exact List.mem_append_left _ (ih2 y h1 a ha)
    ·simp only [List.mem_singleton] at h1
     subst h1
     exact hmem a ha
end
end Go.Proofs
