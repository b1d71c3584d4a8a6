import Derived.Test.YtcoakjnmnommpaaGreatDoorAP5
set_option linter.unusedVariables false
set_option linter.unusedSimpArgs false
namespace Go.Proofs
section
variable {e1 e2 : Nat → Nat → Bool}
end
section
variable {Y : Type} (f : Nat → Y) (q : Y → Y → Bool)
theorem kbI9 (l : List Nat) (x : Nat) : findX q (l.map f) (f x) = findX (fun s t => q (f s) (f t)) l x := by
 unfold findX
 induction l with
 | nil => rfl
 | cons y l ih => rw [List.map_cons, List.findIdx_cons, List.findIdx_cons, ih]
theorem kdv9 (l : List Nat) (x : Nat) : addX q (l.map f) (f x) = (addX (fun s t => q (f s) (f t)) l x).map f := by
 unfold addX
 rw [kbI9, List.length_map]
 split <;> simp
theorem qbZ9 (r l : List Nat) : (r.map f).foldl (addX q) (l.map f) = (r.foldl (addX fun s t => q (f s) (f t)) l).map f := by
 induction r generalizing l with
 | nil => rfl
 | cons x r ih => rw [List.map_cons, List.foldl_cons, List.foldl_cons, kdv9, ih]
end
section
variable (δ : Nat → Nat → Nat) (acc : Nat → Bool) (A : Nat) (order : List Nat)
def xu0 (cl : Nat → Nat) (s : Nat) : List Nat := cl s :: (List.range A).map fun a => cl (δ s a)
def namesC (cl : Nat → Nat) (k : Nat) : List (List Nat) := ((order.take k).map (xu0 δ A cl)).foldl (addX eqL) []
def vbx9 (cl : Nat → Nat) (s : Nat) : Nat := findX eqL (namesC δ A order cl order.length) (xu0 δ A cl s)
def clK : Nat → Nat → Nat
 | 0, s => if acc s = true then 1 else 0
 | k + 1, s => vbx9 δ A order (clK k) s
def cntK (k : Nat) : Nat := (namesC δ A order (clK δ acc A order k) order.length).length
def wR0 (k s t : Nat) : Bool := eqL (xu0 δ A (clK δ acc A order k) s) (xu0 δ A (clK δ acc A order k) t)
end
section
variable {δ : Nat → Nat → Nat} {acc : Nat → Bool} {A : Nat} {order : List Nat}
theorem vcs9 (k s t : Nat) : wR0 δ acc A order k s t = true ↔ xu0 δ A (clK δ acc A order k) s = xu0 δ A (clK δ acc A order k) t := by
 unfold wR0 eqL; rw [decide_eq_true_eq]
theorem qai9 (k s : Nat) : wR0 δ acc A order k s s = true := (vcs9 k s s).2 rfl
theorem xam9 (k j : Nat) : namesC δ A order (clK δ acc A order k) j = (firsts (wR0 δ acc A order k) (order.take j)).map (xu0 δ A (clK δ acc A order k)) :=
 qbZ9 (xu0 δ A (clK δ acc A order k)) eqL (order.take j) []
theorem qaY9 (k : Nat) : cntK δ acc A order k = (firsts (wR0 δ acc A order k) order).length := by
 unfold cntK; rw [xam9, List.length_map, List.take_length]
theorem qbJ9 (k s : Nat) : clK δ acc A order (k + 1) s = findX (wR0 δ acc A order k) (firsts (wR0 δ acc A order k) order) s := by
 rw [clK, vbx9, xam9, List.take_length, kbI9]; rfl
end
end Go.Proofs
set_option linter.unusedVariables false
set_option linter.unusedSimpArgs false
namespace Go.Proofs
section
variable {δ : Nat → Nat → Nat} {acc : Nat → Bool} {A : Nat}
theorem xar9 (x : Nat) : eqX x x = true := by simp [eqX]
theorem wbk9 (M : Nat) (hM : (stX δ eqX A 0 M).1.length = M) : ∀ s ∈ (stX δ eqX A 0 M).1, ∀ a, a < A → δ s a ∈ (stX δ eqX A 0 M).1 := by
 have h := (qac9 (step := δ) (e := eqX) (A := A) xar9 (fun x y h => by simp [eqX] at *; exact h.symm) (fun x y z h h' => by simp [eqX] at *; exact h.trans h') (fun x y a h _ => by simp [eqX] at *; rw [h]) 0 M (Nat.le_of_eq hM.symm)).2
 rwa [List.take_of_length_le (Nat.le_of_eq hM)] at h
theorem kbx9 {e1 e2 : Nat → Nat → Bool} (h : ∀ v w, InA A v → InA A w → e1 (runX δ 0 v) (runX δ 0 w) = e2 (runX δ 0 v) (runX δ 0 w)) (i : Nat) : stX δ e1 A 0 i = stX δ e2 A 0 i := by
 have key := qdh9 (s1 := δ) (e1 := e1) (s2 := δ) (e2 := e2) (A := A) (R := fun s t => s = t ∧ ∃ w, InA A w ∧ s = runX δ 0 w) (by
  rintro s _ s' _ ⟨rfl, v, hv, rfl⟩ ⟨rfl, w, hw, rfl⟩
  exact h v w hv hw) (by
  rintro s _ ⟨rfl, w, hw, rfl⟩ a ha
  exact ⟨rfl, w ++ [a], hw.app fun b hb => by simp at hb; omega, by rw [wbI9]; rfl⟩) (x0 := 0) (y0 := 0) ⟨rfl, [], fun a h => (by cases h), rfl⟩ i
 have hl : ∀ l m : List Nat, All2 (fun s t => s = t ∧ ∃ w, InA A w ∧ s = runX δ 0 w) l m → l = m := by
  intro l m q
  induction q with
  | nil => rfl
  | cons q _ ih => rw [q.1, ih]
 exact Prod.ext (hl _ _ key.1) key.2
def kaA9 (δ : Nat → Nat → Nat) (A : Nat) (cls : Nat → Nat) (firstsL : List Nat) : List (List Nat) := firstsL.map fun s => (List.range A).map fun a => cls (δ s a)
theorem apart_spec (n : Nat) (T : Nat → Nat → Bool) (hδ : ∀ s, s < n → ∀ a, a < A → δ s a < n) (h1 : ∀ s t, s < n → t < n → T s t = true → ∃ u, InA A u ∧ acc (runX δ s u) ≠ acc (runX δ t u))
  (h2 : ∀ s t, s < n → t < n → T s t = false → acc s = acc t ∧ ∀ a, a < A → T (δ s a) (δ t a) = false) (s t : Nat) (hs : s < n) (ht : t < n) :
  T s t = false ↔ ∀ u, InA A u → acc (runX δ s u) = acc (runX δ t u) := by
 constructor
 ·intro h u
  induction u generalizing s t with
  | nil => intro _; exact (h2 s t hs ht h).1
  | cons a u ih =>
   intro hu
   have ha := hu a List.mem_cons_self
   exact ih (δ s a) (δ t a) (hδ s hs a ha) (hδ t ht a ha) ((h2 s t hs ht h).2 a ha) fun b hb => hu b (List.mem_cons_of_mem _ hb)
 ·intro h
  cases q : T s t
  ·rfl
  ·obtain ⟨u, hu, hne⟩ := h1 s t hs ht q
   exact absurd (h u hu) hne
end
end Go.Proofs
set_option linter.unusedVariables false
set_option linter.unusedSimpArgs false
namespace Go.Proofs
structure wei9 (x y : Nf) (σ : Nat → Nat) : Prop where
 n : y.n = x.n
 lt : ∀ s, s < x.n → σ s < x.n
 inj : ∀ s t, s < x.n → t < x.n → σ s = σ t → s = t
 sur : ∀ t, t < x.n → ∃ s, s < x.n ∧ σ s = t
 d : ∀ s t a, s < x.n → t < x.n → y.d (σ s) a (σ t) = x.d s a t
 F : ∀ s, s < x.n → (σ s ∈ y.F ↔ s ∈ x.F)
def FiltF (n : Nat) (S : List Nat) : Prop := ∃ p, S = (List.range n).filter p
theorem FiltF.lt {n : Nat} {S : List Nat} (h : FiltF n S) {s : Nat} (hs : s ∈ S) : s < n := by
 obtain ⟨p, rfl⟩ := h
 exact List.mem_range.1 (List.mem_filter.1 hs).1
theorem FiltF.ext {n : Nat} {S T : List Nat} (h : FiltF n S) (h2 : FiltF n T) (hm : ∀ s, s < n → (s ∈ S ↔ s ∈ T)) : S = T := by
 obtain ⟨p, rfl⟩ := h
 obtain ⟨q, rfl⟩ := h2
 exact vbY9 hm
theorem qaB9 (x : Nf) (S : List Nat) (a : Nat) : FiltF x.n (stepN x S a) := ⟨_, rfl⟩
def vei9 (x : Nf) (σ : Nat → Nat) (S T : List Nat) : Prop := FiltF x.n S ∧ FiltF x.n T ∧ ∀ s, s < x.n → (σ s ∈ T ↔ s ∈ S)
def wn0 (x : Nf) (A : Nat) (S : List Nat) (t : Nat) : Prop := ∃ w, InA A w ∧ ∃ s ∈ S, kah9 x s w t
theorem wam9 (x : Nf) (A : Nat) (S : List Nat) (P : Nat → Prop) (h0 : ∀ s ∈ S, P s) (hs : ∀ s, P s → ∀ a, a < A → ∀ t, t < x.n → x.d s a t = true → P t) (hr : ∀ s, P s → wn0 x A S s) (t : Nat) : P t ↔ wn0 x A S t := by
 refine ⟨hr t, ?_⟩
 rintro ⟨w, hw, s, h, hp⟩
 have key : ∀ (w : List Nat) (s : Nat), InA A w → P s → kah9 x s w t → P t := by
  intro w
  induction w with
  | nil => intro s _ h hp; cases hp; exact h
  | cons a w ih =>
   rintro s hw h ⟨u, hu, hd, hp⟩
   exact ih u (fun b hb => hw b (List.mem_cons_of_mem _ hb)) (hs s h a (hw a List.mem_cons_self) u hu hd) hp
 exact key w s hw (h0 s h) hp
theorem zai9 (x : Nf) (A : Nat) (S : List Nat) (s a t : Nat) (h : wn0 x A S s) (ha : a < A) (ht : t < x.n) (hd : x.d s a t = true) (hsl : s < x.n) : wn0 x A S t := by
 obtain ⟨w, hw, q, hq, hp⟩ := h
 refine ⟨w ++ [a], hw.app fun b hb => by simp at hb; omega, q, hq, ?_⟩
 rw [wab9 x w q a t ht]
 refine ⟨s, ?_, hp, hd⟩
 cases w with
 | nil => left; cases hp; exact ⟨rfl, rfl⟩
 | cons b w => right; exact ⟨by simp, hsl⟩
def zcU9 (x : Nf) (keep : List Nat) : Nf := ⟨keep.length, fun i a j => x.d (keep.getD i 0) a (keep.getD j 0), (List.range keep.length).filter fun i => x.S.contains (keep.getD i 0), (List.range keep.length).filter fun i => x.F.contains (keep.getD i 0)⟩
structure xdh9 (x : Nf) (A : Nat) (keep : List Nat) : Prop where
 lt : ∀ s ∈ keep, s < x.n
 mem : ∀ s, s < x.n → (s ∈ keep ↔ wn0 x A x.S s ∧ wn0 (revN x) A x.F s)
theorem zaB9 {keep : List Nat} {i : Nat} (h : i < keep.length) : keep.getD i 0 ∈ keep := by
 rw [List.getD_eq_getElem?_getD, List.getElem?_eq_getElem h]; exact List.getElem_mem h
theorem war9 {keep : List Nat} {s : Nat} (h : s ∈ keep) : ∃ i, i < keep.length ∧ keep.getD i 0 = s := by
 obtain ⟨i, hi, e⟩ := List.getElem_of_mem h
 exact ⟨i, hi, by rw [List.getD_eq_getElem?_getD, List.getElem?_eq_getElem hi]; exact e⟩
theorem vbk9 (x : Nf) (keep : List Nat) (hk : ∀ s ∈ keep, s < x.n) : ∀ (w : List Nat) (i j : Nat), i < keep.length → j < keep.length → kah9 (zcU9 x keep) i w j → kah9 x (keep.getD i 0) w (keep.getD j 0)
 | [], i, j, _, _, h => by cases h; rfl
 | a :: w, i, j, hi, hj, ⟨u, hu, hd, hp⟩ => ⟨keep.getD u 0, hk _ (zaB9 hu), hd, vbk9 x keep hk w u j hu hj hp⟩
theorem kcs9 (x : Nf) (hx : OkN x) (A : Nat) (keep : List Nat) (h : xdh9 x A keep) (w : List Nat) (hw : InA A w) : kB0 (zcU9 x keep) w = kB0 x w := by
 rw [Bool.eq_iff_iff, xab9, xab9]
 constructor
 ·rintro ⟨i, hi, j, hj, hp⟩
  have hi' := List.mem_filter.1 hi
  have hj' := List.mem_filter.1 hj
  exact ⟨keep.getD i 0, by simpa using hi'.2, keep.getD j 0, by simpa using hj'.2, vbk9 x keep h.lt w i j (List.mem_range.1 hi'.1) (List.mem_range.1 hj'.1) hp⟩
 ·rintro ⟨s, hs, t, ht, hp⟩
  -- every state on the way is kept
  have key : ∀ (w : List Nat) (s : Nat), InA A w → s < x.n → wn0 x A x.S s → kah9 x s w t → ∃ i j, i < keep.length ∧ j < keep.length ∧ keep.getD i 0 = s ∧ keep.getD j 0 = t ∧ kah9 (zcU9 x keep) i w j := by
   intro w
   induction w with
   | nil =>
    intro s _ hsl hr hp
    cases hp
    have hmem := (h.mem t hsl).2 ⟨hr, [], (fun a ha => by cases ha), t, ht, rfl⟩
    obtain ⟨i, hi, e⟩ := war9 hmem
    exact ⟨i, i, hi, hi, e, e, rfl⟩
   | cons a w ih =>
    rintro s hw hsl hr hp
    have hco : wn0 (revN x) A x.F s := ⟨(a :: w).reverse, hw.rev, t, ht, (vab9 x (a :: w) s t hsl (hx.f t ht)).1 hp⟩
    obtain ⟨u, hu, hd, hp'⟩ := hp
    have ha := hw a List.mem_cons_self
    obtain ⟨i', j, hi', hj, ei, ej, hp2⟩ := ih u (fun b hb => hw b (List.mem_cons_of_mem _ hb)) hu (zai9 x A x.S s a u hr ha hu hd hsl) hp'
    obtain ⟨i, hi, e⟩ := war9 ((h.mem s hsl).2 ⟨hr, hco⟩)
    exact ⟨i, j, hi, hj, e, ej, i', hi', by show x.d (keep.getD i 0) a (keep.getD i' 0) = true; rw [e, ei]; exact hd, hp2⟩
  obtain ⟨i, j, hi, hj, ei, ej, hp2⟩ := key w s hw (hx.s s hs) ⟨[], fun a ha => (by cases ha), s, hs, rfl⟩ hp
  refine ⟨i, List.mem_filter.2 ⟨List.mem_range.2 hi, ?_⟩, j, List.mem_filter.2 ⟨List.mem_range.2 hj, ?_⟩, hp2⟩
  ·rw [ei]; simpa using hs
  ·rw [ej]; simpa using ht
end Go.Proofs
