import Derived.Test.YtcoakjnmnommpaaDoorAP5
set_option linter.unusedVariables false
set_option linter.unusedSimpArgs false
namespace Go.Proofs
section
variable {e1 e2 : Nat → Nat → Bool}
theorem vG0 (hr : ∀ x, e1 x x = true) (ht : ∀ x y z, e1 x y = true → e1 y z = true → e1 x z = true) (hc : ∀ x y, e2 x y = true → e1 x y = true) (l : List Nat) : ∀ k, k ≤ l.length → (firsts e1 (l.take k)).Sublist (firsts e2 (l.take k))
 | 0, _ => by simp [firsts]
 | k + 1, h => by
  have ih := vG0 hr ht hc l k (by omega)
  have hk : k < l.length := by omega
  rw [List.take_succ_eq_append_getElem hk, wl0, wl0]
  by_cases w1 : ∃ y ∈ firsts e1 (l.take k), e1 y l[k] = true
  ·rw [qab9 w1]
   obtain ⟨r, h'⟩ := kN0 e2 (firsts e2 (l.take k)) l[k]
   rw [h']
   exact ih.trans (List.sublist_append_left _ _)
  ·rw [zy0 w1, zy0]
   ·exact List.Sublist.append ih (List.Sublist.refl _)
   ·rintro ⟨y, hy, hyx⟩
    have hyl : y ∈ l.take k := by
     rcases qai9 _ _ y hy with z|z
     ·cases z
     ·exact z
    obtain ⟨z, hz, hzy⟩ := zp0 hr hyl
    exact w1 ⟨z, hz, ht _ _ _ hzy (hc _ _ hyx)⟩
theorem kbg9 (l : List Nat) : vaa9 e1 (firsts e1 l) := by
 have : ∀ (r m : List Nat), vaa9 e1 m → vaa9 e1 (r.foldl (addX e1) m) := by
  intro r
  induction r with
  | nil => intro m h; exact h
  | cons x r ih => intro m h; exact ih _ (qaJ9 e1 m x h)
 exact this l [] (by simp [vaa9])
theorem xbS9 (hr : ∀ x, e1 x x = true) (hs : ∀ x y, e1 x y = true → e1 y x = true) (ht : ∀ x y z, e1 x y = true → e1 y z = true → e1 x z = true) (hr2 : ∀ x, e2 x x = true) (hs2 : ∀ x y, e2 x y = true → e2 y x = true)
  (ht2 : ∀ x y z, e2 x y = true → e2 y z = true → e2 x z = true) (hc : ∀ x y, e2 x y = true → e1 x y = true) (l : List Nat) (hn : (firsts e1 l).length = (firsts e2 l).length) : ∀ x ∈ l, ∀ y ∈ l, e1 x y = true → e2 x y = true := by
 have hsub := vG0 hr ht hc l l.length (Nat.le_refl _)
 rw [List.take_length] at hsub
 have he := hsub.eq_of_length hn
 intro x hx y hy hxy
 obtain ⟨p, hp, hpx⟩ := zp0 hr2 hx
 obtain ⟨q, hq, hqy⟩ := zp0 hr2 hy
 rw [← he] at hp hq
 have hpq : e1 p q = true := ht _ _ _ (hc _ _ hpx) (ht _ _ _ hxy (hs _ _ (hc _ _ hqy)))
 have hap := List.pairwise_iff_getElem.1 (kbg9 (e1 := e1) l)
 obtain ⟨i, hi, rfl⟩ := List.getElem_of_mem hp
 obtain ⟨j, hj, rfl⟩ := List.getElem_of_mem hq
 rcases Nat.lt_trichotomy i j with w|w|w
 ·have := hap i j hi hj w; rw [hpq] at this; cases this
 ·subst w; exact ht2 _ _ _ (hs2 _ _ hpx) hqy
 ·have := hap j i hj hi w; rw [hs _ _ hpq] at this; cases this
end
section
variable {Y : Type} (f : Nat → Y) (q : Y → Y → Bool)
theorem vbE9 (l : List Nat) (x : Nat) : findX q (l.map f) (f x) = findX (fun s t => q (f s) (f t)) l x := by
 unfold findX
 induction l with
 | nil => rfl
 | cons y l ih => rw [List.map_cons, List.findIdx_cons, List.findIdx_cons, ih]
theorem kdm9 (l : List Nat) (x : Nat) : addX q (l.map f) (f x) = (addX (fun s t => q (f s) (f t)) l x).map f := by
 unfold addX
 rw [vbE9, List.length_map]
 split <;> simp
theorem wbS9 (r l : List Nat) : (r.map f).foldl (addX q) (l.map f) = (r.foldl (addX fun s t => q (f s) (f t)) l).map f := by
 induction r generalizing l with
 | nil => rfl
 | cons x r ih => rw [List.map_cons, List.foldl_cons, List.foldl_cons, kdm9, ih]
end
section
variable (δ : Nat → Nat → Nat) (acc : Nat → Bool) (A : Nat) (order : List Nat)
def qo0 (cl : Nat → Nat) (s : Nat) : List Nat := cl s :: (List.range A).map fun a => cl (δ s a)
def namesC (cl : Nat → Nat) (k : Nat) : List (List Nat) := ((order.take k).map (qo0 δ A cl)).foldl (addX eqL) []
def vbu9 (cl : Nat → Nat) (s : Nat) : Nat := findX eqL (namesC δ A order cl order.length) (qo0 δ A cl s)
def clK : Nat → Nat → Nat
 | 0, s => if acc s = true then 1 else 0
 | k + 1, s => vbu9 δ A order (clK k) s
def cntK (k : Nat) : Nat := (namesC δ A order (clK δ acc A order k) order.length).length
def we0 (k s t : Nat) : Bool := eqL (qo0 δ A (clK δ acc A order k) s) (qo0 δ A (clK δ acc A order k) t)
end
section
variable {δ : Nat → Nat → Nat} {acc : Nat → Bool} {A : Nat} {order : List Nat}
theorem wk0 (k s t : Nat) : we0 δ acc A order k s t = true ↔ qo0 δ A (clK δ acc A order k) s = qo0 δ A (clK δ acc A order k) t := by
 unfold we0 eqL; rw [decide_eq_true_eq]
theorem ql0 (k s : Nat) : we0 δ acc A order k s s = true := (wk0 k s s).2 rfl
theorem qw0 (k s t : Nat) (h : we0 δ acc A order k s t = true) : we0 δ acc A order k t s = true := (wk0 k t s).2 ((wk0 k s t).1 h).symm
theorem vl0 (k s t u : Nat) (h : we0 δ acc A order k s t = true) (h2 : we0 δ acc A order k t u = true) : we0 δ acc A order k s u = true := (wk0 k s u).2 (((wk0 k s t).1 h).trans ((wk0 k t u).1 h2))
theorem wD0 (cl : Nat → Nat) (s t : Nat) : qo0 δ A cl s = qo0 δ A cl t ↔ cl s = cl t ∧ ∀ a, a < A → cl (δ s a) = cl (δ t a) := by
 unfold qo0
 rw [List.cons.injEq, List.map_inj_left]
 simp only [List.mem_range]
theorem val9 (k j : Nat) : namesC δ A order (clK δ acc A order k) j = (firsts (we0 δ acc A order k) (order.take j)).map (qo0 δ A (clK δ acc A order k)) :=
 wbS9 (qo0 δ A (clK δ acc A order k)) eqL (order.take j) []
theorem xy0 (k : Nat) : cntK δ acc A order k = (firsts (we0 δ acc A order k) order).length := by
 unfold cntK; rw [val9, List.length_map, List.take_length]
theorem zab9 (k s : Nat) : clK δ acc A order (k + 1) s = findX (we0 δ acc A order k) (firsts (we0 δ acc A order k) order) s := by
 rw [clK, vbu9, val9, List.take_length, vbE9]; rfl
theorem kG0 (k s t : Nat) (hs : s ∈ order) (ht : t ∈ order) : clK δ acc A order (k + 1) s = clK δ acc A order (k + 1) t ↔ we0 δ acc A order k s t = true := by
 rw [zab9, zab9]
 have h1 : findX (we0 δ acc A order k) (firsts (we0 δ acc A order k) order) s < (firsts (we0 δ acc A order k) order).length := find_lt.2 (zp0 (ql0 k) hs)
 have h2 : findX (we0 δ acc A order k) (firsts (we0 δ acc A order k) order) t < (firsts (we0 δ acc A order k) order).length := find_lt.2 (zp0 (ql0 k) ht)
 constructor
 ·intro e
  obtain ⟨p, hp, hps⟩ := wap9 h1
  obtain ⟨q, hq, hqt⟩ := wap9 h2
  rw [e, hq] at hp
  obtain rfl := Option.some.inj hp
  exact vl0 _ _ _ _ (qw0 _ _ _ hps) hqt
 ·intro e
  unfold findX
  congr 1
  funext p
  rw [Bool.eq_iff_iff]
  exact ⟨fun q => vl0 _ _ _ _ q e, fun q => vl0 _ _ _ _ q (qw0 _ _ _ e)⟩
theorem xaU9 (hcl : ∀ s ∈ order, ∀ a, a < A → δ s a ∈ order) : ∀ k s t, s ∈ order → t ∈ order → (∀ u, InA A u → acc (runX δ s u) = acc (runX δ t u)) → clK δ acc A order k s = clK δ acc A order k t
 | 0, s, t, _, _, h => by
  have := h [] (fun a ha => by cases ha)
  have e : acc s = acc t := this
  rw [clK, clK, e]
 | k + 1, s, t, hs, ht, h => by
  rw [kG0 k s t hs ht, wk0, wD0]
  refine ⟨xaU9 hcl k s t hs ht h, fun a ha => xaU9 hcl k _ _ (hcl s hs a ha) (hcl t ht a ha) fun u hu => ?_⟩
  exact h (a :: u) fun b hb => by
   rcases List.mem_cons.1 hb with rfl|hb
   ·exact ha
   ·exact hu b hb
theorem wcm9 (k s t : Nat) (hs : s ∈ order) (ht : t ∈ order) (h : clK δ acc A order (k + 1) s = clK δ acc A order (k + 1) t) : clK δ acc A order k s = clK δ acc A order k t :=
 ((wD0 _ _ _).1 ((wk0 k s t).1 ((kG0 k s t hs ht).1 h))).1
theorem qdn9 (k s t : Nat) (hs : s ∈ order) (ht : t ∈ order) (h : clK δ acc A order k s = clK δ acc A order k t) : acc s = acc t := by
 induction k with
 | zero =>
  rw [clK, clK] at h
  cases a : acc s <;> cases b : acc t <;> simp_all
 | succ k ih => exact ih (wcm9 k s t hs ht h)
theorem vcm9 (hcl : ∀ s ∈ order, ∀ a, a < A → δ s a ∈ order) (k : Nat) (hn : cntK δ acc A order k = cntK δ acc A order (k + 1)) (s t : Nat) (hs : s ∈ order) (ht : t ∈ order) :
  we0 δ acc A order (k + 1) s t = true ↔ ∀ u, InA A u → acc (runX δ s u) = acc (runX δ t u) := by
 have hstep : ∀ x ∈ order, ∀ y ∈ order, clK δ acc A order (k + 1) x = clK δ acc A order (k + 1) y → clK δ acc A order (k + 2) x = clK δ acc A order (k + 2) y := by
  intro x hx y hy hxy
  rw [kG0 _ _ _ hx hy] at hxy ⊢
  rw [xy0, xy0] at hn
  let e2 : Nat → Nat → Bool := fun x y => we0 δ acc A order (k + 1) x y && we0 δ acc A order k x y
  have hf : firsts (we0 δ acc A order (k + 1)) order = firsts e2 order := by
   have : ∀ (r l : List Nat), (∀ x ∈ r, x ∈ order) → (∀ x ∈ l, x ∈ order) → r.foldl (addX (we0 δ acc A order (k + 1))) l = r.foldl (addX e2) l := by
    intro r
    induction r with
    | nil => intro l _ _; rfl
    | cons z r ih =>
     intro l h1 h2
     have hz := h1 z List.mem_cons_self
     have e : addX (we0 δ acc A order (k + 1)) l z = addX e2 l z := by
      have hfx : findX (we0 δ acc A order (k + 1)) l z = findX e2 l z := by
       unfold findX
       clear ih
       induction l with
       | nil => rfl
       | cons w l ih =>
        rw [List.findIdx_cons, List.findIdx_cons, ih fun x hx => h2 x (List.mem_cons_of_mem _ hx)]
        have hw := h2 w List.mem_cons_self
        have : we0 δ acc A order (k + 1) w z = e2 w z := by
         show _ = (we0 δ acc A order (k + 1) w z && we0 δ acc A order k w z)
         cases q : we0 δ acc A order (k + 1) w z
         ·rfl
         ·have q1 := ((wD0 _ _ _).1 ((wk0 _ _ _).1 q)).1
          rw [kG0 k w z hw hz] at q1
          rw [q1]; rfl
        rw [this]
      unfold addX; rw [hfx]
     rw [List.foldl_cons, List.foldl_cons, e]
     refine ih _ (fun x hx => h1 x (List.mem_cons_of_mem _ hx)) fun x hx => ?_
     unfold addX at hx
     split at hx
     ·rcases List.mem_append.1 hx with q|q
      ·exact h2 x q
      ·simp only [List.mem_singleton] at q; subst q; exact hz
     ·exact h2 x hx
   exact this order [] (fun x hx => hx) (fun x hx => by cases hx)
  have hsm := xbS9 (e1 := we0 δ acc A order k) (e2 := e2) (ql0 k) (qw0 k) (vl0 k) (fun x => by show (_ && _) = true; rw [ql0, ql0]; rfl)
   (fun x y h => by have h : (_ && _) = true := h; rw [Bool.and_eq_true] at h; show (_ && _) = true; rw [qw0 _ _ _ h.1, qw0 _ _ _ h.2]; rfl)
   (fun x y z h h' => by have h : (_ && _) = true := h; have h' : (_ && _) = true := h'; rw [Bool.and_eq_true] at h h'; show (_ && _) = true; rw [vl0 _ _ _ _ h.1 h'.1, vl0 _ _ _ _ h.2 h'.2]; rfl)
   (fun x y h => by have h : (_ && _) = true := h; rw [Bool.and_eq_true] at h; exact h.2) order (by rw [hn, hf])
  have := hsm x hx y hy hxy
  have : (we0 δ acc A order (k + 1) x y && we0 δ acc A order k x y) = true := this
  rw [Bool.and_eq_true] at this; exact this.1
 constructor
 ·intro h u hu
  have h0 := ((wD0 _ _ _).1 ((wk0 _ _ _).1 h)).1
  have key : ∀ (u : List Nat) (s t : Nat), InA A u → s ∈ order → t ∈ order → clK δ acc A order (k + 1) s = clK δ acc A order (k + 1) t → acc (runX δ s u) = acc (runX δ t u) := by
   intro u
   induction u with
   | nil => intro s t _ hs ht h; exact qdn9 _ s t hs ht h
   | cons a u ih =>
    intro s t hu hs ht h
    have ha := hu a List.mem_cons_self
    have h2 := hstep s hs t ht h
    rw [kG0 _ _ _ hs ht, wk0, wD0] at h2
    exact ih (δ s a) (δ t a) (fun b hb => hu b (List.mem_cons_of_mem _ hb)) (hcl s hs a ha) (hcl t ht a ha) (h2.2 a ha)
  exact key u s t hu hs ht h0
 ·intro h
  exact (kG0 _ _ _ hs ht).1 (xaU9 hcl (k + 2) s t hs ht h)
end
end Go.Proofs
set_option linter.unusedVariables false
set_option linter.unusedSimpArgs false
namespace Go.Proofs
section
variable {δ : Nat → Nat → Nat} {acc : Nat → Bool} {A : Nat}
theorem xab9 (x : Nat) : eqX x x = true := by simp [eqX]
theorem wA0 (M : Nat) (hM : (stX δ eqX A 0 M).1.length = M) : ∀ s ∈ (stX δ eqX A 0 M).1, ∀ a, a < A → δ s a ∈ (stX δ eqX A 0 M).1 := by
 have h := (wG0 (step := δ) (e := eqX) (A := A) xab9 (fun x y h => by simp [eqX] at *; exact h.symm) (fun x y z h h' => by simp [eqX] at *; exact h.trans h') (fun x y a h _ => by simp [eqX] at *; rw [h]) 0 M (Nat.le_of_eq hM.symm)).2
 rwa [List.take_of_length_le (Nat.le_of_eq hM)] at h
theorem zai9 (M : Nat) : 0 ∈ (stX δ eqX A 0 M).1 := List.mem_of_getElem? (zL0 0 M)
theorem wab9 (M : Nat) (hM : (stX δ eqX A 0 M).1.length = M) : ∀ (w : List Nat) (s : Nat), InA A w → s ∈ (stX δ eqX A 0 M).1 → runX δ s w ∈ (stX δ eqX A 0 M).1
 | [], _, _, h => h
 | a :: w, s, hw, h => wab9 M hM w (δ s a) (fun b hb => hw b (List.mem_cons_of_mem _ hb)) (wA0 M hM s h a (hw a List.mem_cons_self))
theorem kbu9 (M : Nat) : ∀ s ∈ (stX δ eqX A 0 M).1, ∃ w, InA A w ∧ runX δ 0 w = s :=
 qL0 δ eqX A (P := fun s => ∃ w, InA A w ∧ runX δ 0 w = s) 0 ⟨[], fun a h => (by cases h), rfl⟩ (by
  rintro y ⟨w, hw, rfl⟩ a ha
  exact ⟨w ++ [a], hw.app fun b hb => by simp at hb; omega, by rw [vap9]; rfl⟩) M
theorem qay9 {e1 e2 : Nat → Nat → Bool} (h : ∀ v w, InA A v → InA A w → e1 (runX δ 0 v) (runX δ 0 w) = e2 (runX δ 0 v) (runX δ 0 w)) (i : Nat) : stX δ e1 A 0 i = stX δ e2 A 0 i := by
 have key := qbg9 (s1 := δ) (e1 := e1) (s2 := δ) (e2 := e2) (A := A) (R := fun s t => s = t ∧ ∃ w, InA A w ∧ s = runX δ 0 w) (by
  rintro s _ s' _ ⟨rfl, v, hv, rfl⟩ ⟨rfl, w, hw, rfl⟩
  exact h v w hv hw) (by
  rintro s _ ⟨rfl, w, hw, rfl⟩ a ha
  exact ⟨rfl, w ++ [a], hw.app fun b hb => by simp at hb; omega, by rw [vap9]; rfl⟩) (x0 := 0) (y0 := 0) ⟨rfl, [], fun a h => (by cases h), rfl⟩ i
 have hl : ∀ l m : List Nat, All2 (fun s t => s = t ∧ ∃ w, InA A w ∧ s = runX δ 0 w) l m → l = m := by
  intro l m q
  induction q with
  | nil => rfl
  | cons q _ ih => rw [q.1, ih]
 exact Prod.ext (hl _ _ key.1) key.2
theorem kU0 {X : Type} {step : X → Nat → X} {eqv : X → X → Bool} (x0 : X) : ∀ i, ∀ r ∈ (stX step eqv A x0 i).2, r.length = A
 | 0, r, h => by cases h
 | i + 1, r, h => by
  rw [stX] at h
  split at h
  ·exact kU0 x0 i r h
  ·rcases List.mem_append.1 h with q|q
   ·exact kU0 x0 i r q
   ·simp only [List.mem_singleton] at q; subst q; exact zG0 _ _ _ _ _
def xu0 (δ : Nat → Nat → Nat) (A : Nat) (cls : Nat → Nat) (firstsL : List Nat) : List (List Nat) := firstsL.map fun s => (List.range A).map fun a => cls (δ s a)
theorem vcM9 (M : Nat) (hM : (stX δ eqX A 0 M).1.length = M) (k : Nat) (hn : cntK δ acc A (stX δ eqX A 0 M).1 k = cntK δ acc A (stX δ eqX A 0 M).1 (k + 1)) :
  (stX δ (we0 δ acc A (stX δ eqX A 0 M).1 (k + 1)) A 0 (cntK δ acc A (stX δ eqX A 0 M).1 (k + 1))).1 = firsts (we0 δ acc A (stX δ eqX A 0 M).1 (k + 1)) (stX δ eqX A 0 M).1 ∧
  (stX δ (we0 δ acc A (stX δ eqX A 0 M).1 (k + 1)) A 0 (cntK δ acc A (stX δ eqX A 0 M).1 (k + 1))).2 = xu0 δ A (clK δ acc A (stX δ eqX A 0 M).1 (k + 2)) (firsts (we0 δ acc A (stX δ eqX A 0 M).1 (k + 1)) (stX δ eqX A 0 M).1) := by
 have hcl := wA0 M hM
 have hend := vcm9 (acc := acc) hcl k hn
 have hfind := zab9 (δ := δ) (acc := acc) (A := A) (order := (stX δ eqX A 0 M).1) (k + 1)
 have hcnt := xy0 (δ := δ) (acc := acc) (A := A) (order := (stX δ eqX A 0 M).1) (k + 1)
 have hreach := kbu9 (δ := δ) (A := A) M
 have hrun := wab9 M hM
 have hzero := zai9 (δ := δ) (A := A) M
 have hrefl := ql0 (δ := δ) (acc := acc) (A := A) (order := (stX δ eqX A 0 M).1) (k + 1)
 have hsymm := qw0 (δ := δ) (acc := acc) (A := A) (order := (stX δ eqX A 0 M).1) (k + 1)
 have htrans := vl0 (δ := δ) (acc := acc) (A := A) (order := (stX δ eqX A 0 M).1) (k + 1)
 -- the likeness, made one that every step keeps
 let e : Nat → Nat → Bool := fun s t => decide (s = t) || (decide (s ∈ (stX δ eqX A 0 M).1) && (decide (t ∈ (stX δ eqX A 0 M).1) && we0 δ acc A (stX δ eqX A 0 M).1 (k + 1) s t))
 have he : ∀ s t, s ∈ (stX δ eqX A 0 M).1 → t ∈ (stX δ eqX A 0 M).1 → e s t = we0 δ acc A (stX δ eqX A 0 M).1 (k + 1) s t := by
  intro s t hs ht
  show (decide (s = t) || (decide _ && (decide _ && _))) = _
  simp only [hs, ht, decide_true, Bool.true_and]
  by_cases q : s = t
  ·subst q; rw [hrefl]; simp
  ·simp [q]
 have heiff : ∀ s t, e s t = true ↔ s = t ∨ (s ∈ (stX δ eqX A 0 M).1 ∧ t ∈ (stX δ eqX A 0 M).1 ∧ we0 δ acc A (stX δ eqX A 0 M).1 (k + 1) s t = true) := by
  intro s t
  show (decide (s = t) || (decide _ && (decide _ && _))) = true ↔ _
  simp only [Bool.or_eq_true, Bool.and_eq_true, decide_eq_true_eq]
 have er : ∀ x, e x x = true := fun x => (heiff x x).2 (.inl rfl)
 have es : ∀ x y, e x y = true → e y x = true := fun x y h => by
  rcases (heiff x y).1 h with rfl|⟨h1, h2, h3⟩
  ·exact er x
  ·exact (heiff y x).2 (.inr ⟨h2, h1, hsymm _ _ h3⟩)
 have et : ∀ x y z, e x y = true → e y z = true → e x z = true := fun x y z h h' => by
  rcases (heiff x y).1 h with rfl|⟨h1, h2, h3⟩
  ·exact h'
  ·rcases (heiff y z).1 h' with rfl|⟨h4, h5, h6⟩
   ·exact h
   ·exact (heiff x z).2 (.inr ⟨h1, h5, htrans _ _ _ h3 h6⟩)
 have ec : ∀ x y a, e x y = true → a < A → e (δ x a) (δ y a) = true := fun x y a h ha => by
  rcases (heiff x y).1 h with rfl|⟨h1, h2, h3⟩
  ·exact er _
  ·refine (heiff _ _).2 (.inr ⟨hcl x h1 a ha, hcl y h2 a ha, (hend _ _ (hcl x h1 a ha) (hcl y h2 a ha)).2 fun u hu => ?_⟩)
   exact (hend x y h1 h2).1 h3 (a :: u) fun b hb => by
    rcases List.mem_cons.1 hb with rfl|hb
    ·exact ha
    ·exact hu b hb
 have hsame : ∀ i, stX δ (we0 δ acc A (stX δ eqX A 0 M).1 (k + 1)) A 0 i = stX δ e A 0 i := fun i => qay9 (fun v w hv hw => (he _ _ (hrun v 0 hv hzero) (hrun w 0 hw hzero)).symm) i
 have hsf := (wG0 er es et ec 0 M (Nat.le_of_eq hM.symm)).1
 rw [List.take_of_length_le (Nat.le_of_eq hM)] at hsf
 have hff : firsts e (stX δ eqX A 0 M).1 = firsts (we0 δ acc A (stX δ eqX A 0 M).1 (k + 1)) (stX δ eqX A 0 M).1 := by
  have key : ∀ (r l : List Nat), (∀ x ∈ r, x ∈ (stX δ eqX A 0 M).1) → (∀ x ∈ l, x ∈ (stX δ eqX A 0 M).1) → r.foldl (addX e) l = r.foldl (addX (we0 δ acc A (stX δ eqX A 0 M).1 (k + 1))) l := by
   intro r
   induction r with
   | nil => intro l _ _; rfl
   | cons z r ih =>
    intro l h1 h2
    have hz := h1 z List.mem_cons_self
    have hfx : findX e l z = findX (we0 δ acc A (stX δ eqX A 0 M).1 (k + 1)) l z := by
     unfold findX
     clear ih
     induction l with
     | nil => rfl
     | cons w l ih => rw [List.findIdx_cons, List.findIdx_cons, ih fun x hx => h2 x (List.mem_cons_of_mem _ hx), he w z (h2 w List.mem_cons_self) hz]
    have hadd : addX e l z = addX (we0 δ acc A (stX δ eqX A 0 M).1 (k + 1)) l z := by unfold addX; rw [hfx]
    rw [List.foldl_cons, List.foldl_cons, hadd]
    refine ih _ (fun x hx => h1 x (List.mem_cons_of_mem _ hx)) fun x hx => ?_
    unfold addX at hx
    split at hx
    ·rcases List.mem_append.1 hx with q|q
     ·exact h2 x q
     ·simp only [List.mem_singleton] at q; subst q; exact hz
    ·exact h2 x hx
  exact key _ [] (fun x hx => hx) (fun x hx => by cases hx)
 rw [hff, ← hcnt] at hsf
 have hL : (stX δ (we0 δ acc A (stX δ eqX A 0 M).1 (k + 1)) A 0 (cntK δ acc A (stX δ eqX A 0 M).1 (k + 1))).1 = firsts (we0 δ acc A (stX δ eqX A 0 M).1 (k + 1)) (stX δ eqX A 0 M).1 := by rw [hsame]; exact hsf.symm
 refine ⟨hL, ?_⟩
 have hlen : (stX δ (we0 δ acc A (stX δ eqX A 0 M).1 (k + 1)) A 0 (cntK δ acc A (stX δ eqX A 0 M).1 (k + 1))).1.length = cntK δ acc A (stX δ eqX A 0 M).1 (k + 1) := by rw [hL, hcnt]
 have hrl := kv0 δ (we0 δ acc A (stX δ eqX A 0 M).1 (k + 1)) A 0 _ (Nat.le_of_eq hlen.symm)
 have hrw := kU0 (A := A) (step := δ) (eqv := we0 δ acc A (stX δ eqX A 0 M).1 (k + 1)) 0 (cntK δ acc A (stX δ eqX A 0 M).1 (k + 1))
 have hat := qbS9 (step := δ) (eqv := we0 δ acc A (stX δ eqX A 0 M).1 (k + 1)) (A := A) hrefl 0 _ (Nat.le_of_eq hlen.symm)
 generalize cntK δ acc A (stX δ eqX A 0 M).1 (k + 1) = m at *
 refine List.ext_getElem (by rw [hrl, xu0, List.length_map, ← hL, hlen]) fun j h1 h2 => ?_
 obtain ⟨x, hx1, hx2⟩ := hat j (by omega)
 rw [hL] at hx1 hx2
 obtain ⟨hj, hx3⟩ := List.getElem?_eq_some_iff.1 hx1
 have hr1 := hrw _ (List.getElem_mem h1)
 refine List.ext_getElem (by rw [hr1]; simp [xu0]) fun a g1 g2 => ?_
 have ha : a < A := by omega
 have h3 := (hx2 a ha).1
 rw [List.getD_eq_getElem?_getD, List.getD_eq_getElem?_getD, List.getElem?_eq_getElem h1, Option.getD_some, List.getElem?_eq_getElem g1, Option.getD_some] at h3
 rw [h3]
 simp only [xu0, List.getElem_map, List.getElem_range, hx3]
 exact (hfind _).symm
theorem apart_spec (n : Nat) (T : Nat → Nat → Bool) (hδ : ∀ s, s < n → ∀ a, a < A → δ s a < n) (h1 : ∀ s t, s < n → t < n → T s t = true → ∃ u, InA A u ∧ acc (runX δ s u) ≠ acc (runX δ t u))
  (h2 : ∀ s t, s < n → t < n → T s t = false → acc s = acc t ∧ ∀ a, a < A → T (δ s a) (δ t a) = false) (s t : Nat) (hs : s < n) (ht : t < n) :
  T s t = false ↔ ∀ u, InA A u → acc (runX δ s u) = acc (runX δ t u) := by
 constructor
 ·intro h u
  induction u generalizing s t with
  | nil => intro _; exact (h2 s t hs ht h).1
  | cons a u ih =>
   intro hu
   have ha := hu a List.mem_cons_self
   exact ih (δ s a) (δ t a) (hδ s hs a ha) (hδ t ht a ha) ((h2 s t hs ht h).2 a ha) fun b hb => hu b (List.mem_cons_of_mem _ hb)
 ·intro h
  cases q : T s t
  ·rfl
  ·obtain ⟨u, hu, hne⟩ := h1 s t hs ht q
   exact absurd (h u hu) hne
end
end Go.Proofs
set_option linter.unusedVariables false
set_option linter.unusedSimpArgs false
namespace Go.Proofs
structure vdU9 (x y : Nf) (σ : Nat → Nat) : Prop where
 n : y.n = x.n
 lt : ∀ s, s < x.n → σ s < x.n
 inj : ∀ s t, s < x.n → t < x.n → σ s = σ t → s = t
 sur : ∀ t, t < x.n → ∃ s, s < x.n ∧ σ s = t
 d : ∀ s t a, s < x.n → t < x.n → y.d (σ s) a (σ t) = x.d s a t
 F : ∀ s, s < x.n → (σ s ∈ y.F ↔ s ∈ x.F)
def FiltF (n : Nat) (S : List Nat) : Prop := ∃ p, S = (List.range n).filter p
theorem FiltF.lt {n : Nat} {S : List Nat} (h : FiltF n S) {s : Nat} (hs : s ∈ S) : s < n := by
 obtain ⟨p, rfl⟩ := h
 exact List.mem_range.1 (List.mem_filter.1 hs).1
theorem FiltF.ext {n : Nat} {S T : List Nat} (h : FiltF n S) (h2 : FiltF n T) (hm : ∀ s, s < n → (s ∈ S ↔ s ∈ T)) : S = T := by
 obtain ⟨p, rfl⟩ := h
 obtain ⟨q, rfl⟩ := h2
 exact xaJ9 hm
theorem zay9 (x : Nf) (S : List Nat) (a : Nat) : FiltF x.n (stepN x S a) := ⟨_, rfl⟩
def kdU9 (x : Nf) (σ : Nat → Nat) (S T : List Nat) : Prop := FiltF x.n S ∧ FiltF x.n T ∧ ∀ s, s < x.n → (σ s ∈ T ↔ s ∈ S)
def qcZ9 (x : Nf) (A : Nat) (S : List Nat) (t : Nat) : Prop := ∃ w, InA A w ∧ ∃ s ∈ S, waE9 x s w t
def qdV9 (x : Nf) (keep : List Nat) : Nf := ⟨keep.length, fun i a j => x.d (keep.getD i 0) a (keep.getD j 0), (List.range keep.length).filter fun i => x.S.contains (keep.getD i 0), (List.range keep.length).filter fun i => x.F.contains (keep.getD i 0)⟩
structure zdU9 (x : Nf) (A : Nat) (keep : List Nat) : Prop where
 lt : ∀ s ∈ keep, s < x.n
 mem : ∀ s, s < x.n → (s ∈ keep ↔ qcZ9 x A x.S s ∧ qcZ9 (revN x) A x.F s)
end Go.Proofs
