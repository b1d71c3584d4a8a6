import Derived.Test.YtcoakjnmnommpaaGreatDoorAP2
set_option linter.unusedVariables false
set_option linter.unusedSimpArgs false
namespace Go.Proofs
structure Nf where
 n : Nat
 d : Nat → Nat → Nat → Bool
 S : List Nat
 F : List Nat
def stepN (x : Nf) (S : List Nat) (a : Nat) : List Nat := (List.range x.n).filter fun t => S.any fun s => x.d s a t
def pathN (x : Nf) : Nat → List Nat → Nat → Prop
 | s, [], t => s = t
 | s, a :: w, t => ∃ u, u < x.n ∧ x.d s a u = true ∧ pathN x u w t
theorem mem_stepN (x : Nf) (S : List Nat) (a t : Nat) : t ∈ stepN x S a ↔ t < x.n ∧ ∃ s ∈ S, x.d s a t = true := by
 unfold stepN
 rw [List.mem_filter, List.mem_range, List.any_eq_true]
def accN (x : Nf) (S : List Nat) : Bool := S.any fun s => x.F.contains s
def langN (x : Nf) (w : List Nat) : Bool := accN x (runX (stepN x) x.S w)
def revN (x : Nf) : Nf := ⟨x.n, fun s a t => x.d t a s, x.F, x.S⟩
structure OkN (x : Nf) : Prop where
 s : ∀ q ∈ x.S, q < x.n
 f : ∀ q ∈ x.F, q < x.n
theorem OkN.rev {x : Nf} (h : OkN x) : OkN (revN x) := ⟨h.f, h.s⟩
def ofD (rows : List (List Nat)) (acc : List Bool) : Nf := ⟨rows.length, fun s a t => (rows.getD s []).getD a 0 == t, [0], (List.range rows.length).filter fun s => acc.getD s false⟩
theorem run_lt (rows : List (List Nat)) (A : Nat) (hr : ∀ s, s < rows.length → ∀ a, a < A → (rows.getD s []).getD a 0 < rows.length) : ∀ (w : List Nat) (s : Nat), (∀ a ∈ w, a < A) → s < rows.length → runD rows s w < rows.length
 | [], _, _, hs => hs
 | a :: w, s, hw, hs => run_lt rows A hr w _ (fun b hb => hw b (List.mem_cons_of_mem _ hb)) (hr s hs a (hw a List.mem_cons_self))
end Go.Proofs
set_option linter.unusedVariables false
set_option linter.unusedSimpArgs false
namespace Go.Proofs
def eqL (a b : List Nat) : Bool := decide (a = b)
def InA (A : Nat) (w : List Nat) : Prop := ∀ a ∈ w, a < A
theorem InA.app {A : Nat} {v w : List Nat} (h : InA A v) (h2 : InA A w) : InA A (v ++ w) := fun a ha => (List.mem_append.1 ha).elim (h a) (h2 a)
theorem InA.rev {A : Nat} {v : List Nat} (h : InA A v) : InA A v.reverse := fun a ha => h a (List.mem_reverse.1 ha)
theorem runX_app {X : Type} (step : X → Nat → X) (x : X) (v w : List Nat) : runX step x (v ++ w) = runX step (runX step x v) w := List.foldl_append
def detS (x : Nf) (A N : Nat) : List (List Nat) := (stX (stepN x) eqL A x.S N).1
def detR (x : Nf) (A N : Nat) : List (List Nat) := (stX (stepN x) eqL A x.S N).2
def detA (x : Nf) (A N : Nat) : List Bool := (detS x A N).map (accN x)
theorem eqL_refl (x : List Nat) : eqL x x = true := by simp [eqL]
theorem eqL_eq {x y : List Nat} (h : eqL x y = true) : x = y := by simpa [eqL] using h
structure DetOk (x : Nf) (A N : Nat) : Prop where
 len : (detR x A N).length = N
 pos : 0 < N
 row : ∀ s, s < N → ∀ a, a < A → ((detR x A N).getD s []).getD a 0 < N
 run : ∀ w, InA A w → (detS x A N)[runD (detR x A N) 0 w]? = some (runX (stepN x) x.S w)
 acc : ∀ w, InA A w → (detA x A N).getD (runD (detR x A N) 0 w) false = langN x w
 all : ∀ t, t < N → ∃ w, InA A w ∧ runD (detR x A N) 0 w = t
def backN (x : Nf) (A N : Nat) : Nf := revN (ofD (detR (revN x) A N) (detA (revN x) A N))
theorem filter_ext {n : Nat} {p q : Nat → Bool} (h : ∀ t, t < n → (t ∈ (List.range n).filter p ↔ t ∈ (List.range n).filter q)) : (List.range n).filter p = (List.range n).filter q := by
 refine List.filter_congr fun t ht => ?_
 have := h t (List.mem_range.1 ht)
 rw [List.mem_filter, List.mem_filter] at this
 rw [Bool.eq_iff_iff]
 exact ⟨fun q1 => (this.1 ⟨ht, q1⟩).2, fun q1 => (this.2 ⟨ht, q1⟩).2⟩
end Go.Proofs
set_option linter.unusedVariables false
set_option linter.unusedSimpArgs false
namespace Go.Proofs
section
variable (e : Nat → Nat → Bool)
def eqX (x y : Nat) : Bool := decide (x = y)
def firsts (l : List Nat) : List Nat := l.foldl (addX e) []
theorem firsts_snoc (l : List Nat) (x : Nat) : firsts e (l ++ [x]) = addX e (firsts e l) x := by simp [firsts, List.foldl_append]
end
section
variable {step : Nat → Nat → Nat} {e : Nat → Nat → Bool} {A : Nat}
theorem find_lt {l : List Nat} {x : Nat} : findX e l x < l.length ↔ ∃ y ∈ l, e y x = true := List.findIdx_lt_length
theorem add_in {l : List Nat} {x : Nat} (h : ∃ y ∈ l, e y x = true) : addX e l x = l := by
 have := find_lt.2 h
 unfold addX; rw [if_neg (by omega)]
theorem add_out {l : List Nat} {x : Nat} (h : ¬ ∃ y ∈ l, e y x = true) : addX e l x = l ++ [x] := by
 have h1 : ¬ findX e l x < l.length := fun q => h (find_lt.1 q)
 have := find_le (eqv := e) l x
 unfold addX; rw [if_pos (by omega)]
theorem firsts_sub : ∀ (r l : List Nat), ∀ x ∈ r.foldl (addX e) l, x ∈ l ∨ x ∈ r
 | [], l, x, h => .inl h
 | y :: r, l, x, h => by
  rcases firsts_sub r (addX e l y) x h with q|q
  ·by_cases w : ∃ z ∈ l, e z y = true
   ·rw [add_in w] at q; exact .inl q
   ·rw [add_out w] at q
    rcases List.mem_append.1 q with q|q
    ·exact .inl q
    ·simp at q; right; simp [q]
  ·right; exact List.mem_cons_of_mem _ q
theorem firsts_has (hr : ∀ x, e x x = true) : ∀ (r l : List Nat), (∀ x ∈ l, x ∈ r.foldl (addX e) l) ∧ (∀ x ∈ r, ∃ y ∈ r.foldl (addX e) l, e y x = true)
 | [], l => ⟨fun x h => h, fun x h => by cases h⟩
 | z :: r, l => by
  have ih := firsts_has hr r (addX e l z)
  have hsub : ∀ x ∈ l, x ∈ addX e l z := fun x hx => by
   obtain ⟨s, h⟩ := addX_pre e l z; rw [h]; exact List.mem_append_left _ hx
  refine ⟨fun x hx => ih.1 x (hsub x hx), fun x hx => ?_⟩
  rcases List.mem_cons.1 hx with rfl|hx
  ·by_cases w : ∃ y ∈ l, e y x = true
   ·obtain ⟨y, hy, hyx⟩ := w
    exact ⟨y, ih.1 y (hsub y hy), hyx⟩
   ·exact ⟨x, ih.1 x (by rw [add_out w]; simp), hr x⟩
  ·exact ih.2 x hx
theorem firsts_of (hr : ∀ x, e x x = true) {l : List Nat} {x : Nat} (h : x ∈ l) : ∃ y ∈ firsts e l, e y x = true := (firsts_has hr l []).2 x h
theorem firsts_add (hr : ∀ x, e x x = true) (l : List Nat) (x : Nat) : firsts e (addX eqX l x) = addX e (firsts e l) x := by
 by_cases w : ∃ y ∈ l, eqX y x = true
 ·rw [add_in w]
  obtain ⟨y, hy, hyx⟩ := w
  have : y = x := by simpa [eqX] using hyx
  subst this
  rw [add_in (firsts_of hr hy)]
 ·rw [add_out w, firsts_snoc]
theorem firsts_row (hr : ∀ x, e x x = true) (l : List Nat) (x : Nat) : ∀ a, firsts e (rowX step eqX l x a).1 = (rowX step e (firsts e l) x a).1
 | 0 => rfl
 | a + 1 => by rw [rowX, rowX]; simp only; rw [firsts_add hr, firsts_row hr l x a]
theorem row_same {l : List Nat} {x : Nat} : ∀ a, (∀ b, b < a → ∃ y ∈ l, e y (step x b) = true) → (rowX step e l x a).1 = l
 | 0, _ => rfl
 | a + 1, h => by
  rw [rowX]
  simp only
  rw [row_same a fun b hb => h b (by omega), add_in (h a (by omega))]
theorem firsts_pre (l r : List Nat) : ∃ t, firsts e (l ++ r) = firsts e l ++ t := by
 unfold firsts
 rw [List.foldl_append]
 generalize l.foldl (addX e) [] = m
 induction r generalizing m with
 | nil => exact ⟨[], (List.append_nil m).symm⟩
 | cons x r ih =>
  obtain ⟨t, h⟩ := ih (addX e m x)
  obtain ⟨s, h2⟩ := addX_pre e m x
  exact ⟨s ++ t, by rw [List.foldl_cons, h, h2, List.append_assoc]⟩
theorem search_firsts (hr : ∀ x, e x x = true) (hs : ∀ x y, e x y = true → e y x = true) (ht : ∀ x y z, e x y = true → e y z = true → e x z = true) (hc : ∀ x y a, e x y = true → a < A → e (step x a) (step y a) = true) (x0 : Nat) :
  ∀ i, i ≤ (stX step eqX A x0 i).1.length → firsts e (stX step eqX A x0 i).1 = (stX step e A x0 (firsts e ((stX step eqX A x0 i).1.take i)).length).1 ∧
   ∀ x ∈ (stX step eqX A x0 i).1.take i, ∀ a, a < A → step x a ∈ (stX step eqX A x0 i).1
 | 0, _ => by
  refine ⟨?_, fun x hx => by simp at hx⟩
  have h1 : ¬ ∃ y ∈ ([] : List Nat), e y x0 = true := by rintro ⟨y, hy, _⟩; cases hy
  show addX e [] x0 = _
  rw [add_out h1]; rfl
 | i + 1, hi => by
  obtain ⟨p, hp⟩ := stX_pre step eqX A x0 i
  cases q : (stX step eqX A x0 i).1[i]? with
  | none =>
   have := List.getElem?_eq_none_iff.1 q
   rw [st_done x0 i this] at hi
   omega
  | some x =>
   have hlt : i < (stX step eqX A x0 i).1.length := (List.getElem?_eq_some_iff.1 q).1
   obtain ⟨ih1, ih2⟩ := search_firsts hr hs ht hc x0 i (by omega)
   have hst : (stX step eqX A x0 (i + 1)).1 = (rowX step eqX (stX step eqX A x0 i).1 x A).1 := by rw [stX, q]
   have htk : (stX step eqX A x0 (i + 1)).1.take (i + 1) = (stX step eqX A x0 i).1.take i ++ [x] := by
    rw [hp, List.take_append_of_le_length (by omega), List.take_add_one, q]; rfl
   have hmem : ∀ a, a < A → step x a ∈ (rowX step eqX (stX step eqX A x0 i).1 x A).1 := fun a ha => by
    have h1 := row_at (step := step) (eqv := eqX) (fun x => by simp [eqX]) (stX step eqX A x0 i).1 x A a ha
    obtain ⟨y, hy, hyx⟩ := find_lt.1 h1.2
    have : y = step x a := by simpa [eqX] using hyx
    rw [← this]; exact hy
   refine ⟨?_, ?_⟩
   ·rw [htk, firsts_snoc, hst, firsts_row hr]
    have hx : x ∈ (stX step eqX A x0 i).1 := List.mem_of_getElem? q
    by_cases w : ∃ y ∈ firsts e ((stX step eqX A x0 i).1.take i), e y x = true
    ·rw [add_in w, ← ih1]
     apply row_same
     intro a ha
     obtain ⟨y, hy, hyx⟩ := w
     have hyt : y ∈ (stX step eqX A x0 i).1.take i := by
      rcases firsts_sub _ _ y hy with z|z
      ·cases z
      ·exact z
     obtain ⟨z, hz, hzy⟩ := firsts_of hr (ih2 y hyt a ha)
     exact ⟨z, hz, ht _ _ _ hzy (hc _ _ _ hyx ha)⟩
    ·rw [add_out w, List.length_append, List.length_singleton, stX]
     have hsplit : (stX step eqX A x0 i).1 = ((stX step eqX A x0 i).1.take i ++ [x]) ++ (stX step eqX A x0 i).1.drop (i + 1) := by
      conv => lhs; rw [← List.take_append_drop (i + 1) (stX step eqX A x0 i).1]
      rw [List.take_add_one, q]; rfl
     obtain ⟨t, h3⟩ := firsts_pre (e := e) ((stX step eqX A x0 i).1.take i ++ [x]) ((stX step eqX A x0 i).1.drop (i + 1))
     rw [← hsplit, firsts_snoc, add_out w, ih1] at h3
     have hat : (stX step e A x0 (firsts e ((stX step eqX A x0 i).1.take i)).length).1[(firsts e ((stX step eqX A x0 i).1.take i)).length]? = some x := by
      rw [h3, List.append_assoc, List.getElem?_append_right (Nat.le_refl _), Nat.sub_self]; rfl
     rw [hat]
     simp only
     rw [ih1]
   ·rw [htk, hst]
    intro y hy a ha
    rcases List.mem_append.1 hy with h1|h1
    ·obtain ⟨t, h⟩ := rowX_pre step eqX (stX step eqX A x0 i).1 x A
     rw [h]; exact List.mem_append_left _ (ih2 y h1 a ha)
    ·simp only [List.mem_singleton] at h1
     subst h1
     exact hmem a ha
end
end Go.Proofs
