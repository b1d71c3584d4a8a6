import Derived.Test.YtcoakjnmnommpaaGreatDoorAP5
set_option linter.unusedVariables false
set_option linter.unusedSimpArgs false
namespace Go.Proofs
section
variable {e1 e2 : Nat → Nat → Bool}
end
section
variable {Y : Type} (f : Nat → Y) (q : Y → Y → Bool)
theorem find_map (l : List Nat) (x : Nat) : findX q (l.map f) (f x) = findX (fun s t => q (f s) (f t)) l x := by
 unfold findX
 induction l with
 | nil => rfl
 | cons y l ih => rw [List.map_cons, List.findIdx_cons, List.findIdx_cons, ih]
theorem add_map (l : List Nat) (x : Nat) : addX q (l.map f) (f x) = (addX (fun s t => q (f s) (f t)) l x).map f := by
 unfold addX
 rw [find_map, List.length_map]
 split <;> simp
theorem firsts_map (r l : List Nat) : (r.map f).foldl (addX q) (l.map f) = (r.foldl (addX fun s t => q (f s) (f t)) l).map f := by
 induction r generalizing l with
 | nil => rfl
 | cons x r ih => rw [List.map_cons, List.foldl_cons, List.foldl_cons, add_map, ih]
end
section
variable (δ : Nat → Nat → Nat) (acc : Nat → Bool) (A : Nat) (order : List Nat)
def nameC (cl : Nat → Nat) (s : Nat) : List Nat := cl s :: (List.range A).map fun a => cl (δ s a)
def namesC (cl : Nat → Nat) (k : Nat) : List (List Nat) := ((order.take k).map (nameC δ A cl)).foldl (addX eqL) []
def nextC (cl : Nat → Nat) (s : Nat) : Nat := findX eqL (namesC δ A order cl order.length) (nameC δ A cl s)
def clK : Nat → Nat → Nat
 | 0, s => if acc s = true then 1 else 0
 | k + 1, s => nextC δ A order (clK k) s
def cntK (k : Nat) : Nat := (namesC δ A order (clK δ acc A order k) order.length).length
def likeK (k s t : Nat) : Bool := eqL (nameC δ A (clK δ acc A order k) s) (nameC δ A (clK δ acc A order k) t)
end
section
variable {δ : Nat → Nat → Nat} {acc : Nat → Bool} {A : Nat} {order : List Nat}
theorem likeK_iff (k s t : Nat) : likeK δ acc A order k s t = true ↔ nameC δ A (clK δ acc A order k) s = nameC δ A (clK δ acc A order k) t := by
 unfold likeK eqL; rw [decide_eq_true_eq]
theorem likeK_refl (k s : Nat) : likeK δ acc A order k s s = true := (likeK_iff k s s).2 rfl
theorem names_firsts (k j : Nat) : namesC δ A order (clK δ acc A order k) j = (firsts (likeK δ acc A order k) (order.take j)).map (nameC δ A (clK δ acc A order k)) :=
 firsts_map (nameC δ A (clK δ acc A order k)) eqL (order.take j) []
theorem cntK_eq (k : Nat) : cntK δ acc A order k = (firsts (likeK δ acc A order k) order).length := by
 unfold cntK; rw [names_firsts, List.length_map, List.take_length]
theorem clK_find (k s : Nat) : clK δ acc A order (k + 1) s = findX (likeK δ acc A order k) (firsts (likeK δ acc A order k) order) s := by
 rw [clK, nextC, names_firsts, List.take_length, find_map]; rfl
end
end Go.Proofs
set_option linter.unusedVariables false
set_option linter.unusedSimpArgs false
namespace Go.Proofs
section
variable {δ : Nat → Nat → Nat} {acc : Nat → Bool} {A : Nat}
theorem eqX_refl (x : Nat) : eqX x x = true := by simp [eqX]
theorem order_closed (M : Nat) (hM : (stX δ eqX A 0 M).1.length = M) : ∀ s ∈ (stX δ eqX A 0 M).1, ∀ a, a < A → δ s a ∈ (stX δ eqX A 0 M).1 := by
 have h := (search_firsts (step := δ) (e := eqX) (A := A) eqX_refl (fun x y h => by simp [eqX] at *; exact h.symm) (fun x y z h h' => by simp [eqX] at *; exact h.trans h') (fun x y a h _ => by simp [eqX] at *; rw [h]) 0 M (Nat.le_of_eq hM.symm)).2
 rwa [List.take_of_length_le (Nat.le_of_eq hM)] at h
theorem search_same {e1 e2 : Nat → Nat → Bool} (h : ∀ v w, InA A v → InA A w → e1 (runX δ 0 v) (runX δ 0 w) = e2 (runX δ 0 v) (runX δ 0 w)) (i : Nat) : stX δ e1 A 0 i = stX δ e2 A 0 i := by
 have key := st_rel (s1 := δ) (e1 := e1) (s2 := δ) (e2 := e2) (A := A) (R := fun s t => s = t ∧ ∃ w, InA A w ∧ s = runX δ 0 w) (by
  rintro s _ s' _ ⟨rfl, v, hv, rfl⟩ ⟨rfl, w, hw, rfl⟩
  exact h v w hv hw) (by
  rintro s _ ⟨rfl, w, hw, rfl⟩ a ha
  exact ⟨rfl, w ++ [a], hw.app fun b hb => by simp at hb; omega, by rw [runX_app]; rfl⟩) (x0 := 0) (y0 := 0) ⟨rfl, [], fun a h => (by cases h), rfl⟩ i
 have hl : ∀ l m : List Nat, All2 (fun s t => s = t ∧ ∃ w, InA A w ∧ s = runX δ 0 w) l m → l = m := by
  intro l m q
  induction q with
  | nil => rfl
  | cons q _ ih => rw [q.1, ih]
 exact Prod.ext (hl _ _ key.1) key.2
def minRows (δ : Nat → Nat → Nat) (A : Nat) (cls : Nat → Nat) (firstsL : List Nat) : List (List Nat) := firstsL.map fun s => (List.range A).map fun a => cls (δ s a)
theorem apart_spec (n : Nat) (T : Nat → Nat → Bool) (hδ : ∀ s, s < n → ∀ a, a < A → δ s a < n) (h1 : ∀ s t, s < n → t < n → T s t = true → ∃ u, InA A u ∧ acc (runX δ s u) ≠ acc (runX δ t u))
  (h2 : ∀ s t, s < n → t < n → T s t = false → acc s = acc t ∧ ∀ a, a < A → T (δ s a) (δ t a) = false) (s t : Nat) (hs : s < n) (ht : t < n) :
  T s t = false ↔ ∀ u, InA A u → acc (runX δ s u) = acc (runX δ t u) := by
 constructor
 ·intro h u
  induction u generalizing s t with
  | nil => intro _; exact (h2 s t hs ht h).1
  | cons a u ih =>
   intro hu
   have ha := hu a List.mem_cons_self
   exact ih (δ s a) (δ t a) (hδ s hs a ha) (hδ t ht a ha) ((h2 s t hs ht h).2 a ha) fun b hb => hu b (List.mem_cons_of_mem _ hb)
 ·intro h
  cases q : T s t
  ·rfl
  ·obtain ⟨u, hu, hne⟩ := h1 s t hs ht q
   exact absurd (h u hu) hne
end
end Go.Proofs
set_option linter.unusedVariables false
set_option linter.unusedSimpArgs false
namespace Go.Proofs
structure SameN (x y : Nf) (σ : Nat → Nat) : Prop where
 n : y.n = x.n
 lt : ∀ s, s < x.n → σ s < x.n
 inj : ∀ s t, s < x.n → t < x.n → σ s = σ t → s = t
 sur : ∀ t, t < x.n → ∃ s, s < x.n ∧ σ s = t
 d : ∀ s t a, s < x.n → t < x.n → y.d (σ s) a (σ t) = x.d s a t
 F : ∀ s, s < x.n → (σ s ∈ y.F ↔ s ∈ x.F)
def FiltF (n : Nat) (S : List Nat) : Prop := ∃ p, S = (List.range n).filter p
theorem FiltF.lt {n : Nat} {S : List Nat} (h : FiltF n S) {s : Nat} (hs : s ∈ S) : s < n := by
 obtain ⟨p, rfl⟩ := h
 exact List.mem_range.1 (List.mem_filter.1 hs).1
theorem FiltF.ext {n : Nat} {S T : List Nat} (h : FiltF n S) (h2 : FiltF n T) (hm : ∀ s, s < n → (s ∈ S ↔ s ∈ T)) : S = T := by
 obtain ⟨p, rfl⟩ := h
 obtain ⟨q, rfl⟩ := h2
 exact filter_ext hm
theorem step_filt (x : Nf) (S : List Nat) (a : Nat) : FiltF x.n (stepN x S a) := ⟨_, rfl⟩
def Renum (x : Nf) (σ : Nat → Nat) (S T : List Nat) : Prop := FiltF x.n S ∧ FiltF x.n T ∧ ∀ s, s < x.n → (σ s ∈ T ↔ s ∈ S)
def reachN (x : Nf) (A : Nat) (S : List Nat) (t : Nat) : Prop := ∃ w, InA A w ∧ ∃ s ∈ S, pathN x s w t
def trimN (x : Nf) (keep : List Nat) : Nf := ⟨keep.length, fun i a j => x.d (keep.getD i 0) a (keep.getD j 0), (List.range keep.length).filter fun i => x.S.contains (keep.getD i 0), (List.range keep.length).filter fun i => x.F.contains (keep.getD i 0)⟩
structure KeepOk (x : Nf) (A : Nat) (keep : List Nat) : Prop where
 lt : ∀ s ∈ keep, s < x.n
 mem : ∀ s, s < x.n → (s ∈ keep ↔ reachN x A x.S s ∧ reachN (revN x) A x.F s)
end Go.Proofs
