import Derived.Test.YtcoakjnmnommpaaGreatDoorAP5
set_option linter.unusedVariables false
set_option linter.unusedSimpArgs false
namespace Go.Proofs
section
variable {e1 e2 : Nat → Nat → Bool}
theorem qP0 (hr : ∀ x, e1 x x = true) (ht : ∀ x y z, e1 x y = true → e1 y z = true → e1 x z = true) (hc : ∀ x y, e2 x y = true → e1 x y = true) (l : List Nat) : ∀ k, k ≤ l.length → (firsts e1 (l.take k)).Sublist (firsts e2 (l.take k))
 | 0, _ => by simp [firsts]
 | k + 1, h => by
  have ih := qP0 hr ht hc l k (by omega);have hk : k < l.length := by omega
  rw [n'b hk, qo0, qo0];by_cases w1 : ∃ y ∈ firsts e1 (l.take k), e1 y l[k] = true
  ·rw [val9 w1];obtain ⟨r, h'⟩ := zZ0 e2 (firsts e2 (l.take k)) l[k];rw [h'];exact ih.trans (List.sublist_append_left _ _)
  ·rw [wD0 w1, wD0]
   ·exact List.Sublist.append ih (List.Sublist.refl _)
   ·rintro ⟨y, hy, hyx⟩;have hyl : y ∈ l.take k := by
     rcases xar9 _ _ y hy with z|z
     ·cases z
     ·exact z
    obtain ⟨z, hz, hzy⟩ := kt0 hr hyl;exact w1 ⟨z, hz, ht _ _ _ hzy (hc _ _ hyx)⟩
theorem qbw9 (l : List Nat) : wal9 e1 (firsts e1 l) := by
 have : ∀ (r m : List Nat), wal9 e1 m → wal9 e1 (r.foldl (addX e1) m) := by
  intro r;induction r with
  | nil => intro m h; exact h
  | cons x r ih => intro m h; exact ih _ (vaW9 e1 m x h)
 exact this l [] (by simp [wal9])
theorem zck9 (hr : ∀ x, e1 x x = true) (hs : ∀ x y, e1 x y = true → e1 y x = true) (ht : ∀ x y z, e1 x y = true → e1 y z = true → e1 x z = true) (hr2 : ∀ x, e2 x x = true) (hs2 : ∀ x y, e2 x y = true → e2 y x = true)
  (ht2 : ∀ x y z, e2 x y = true → e2 y z = true → e2 x z = true) (hc : ∀ x y, e2 x y = true → e1 x y = true) (l : List Nat) (hn : (firsts e1 l).length = (firsts e2 l).length) : ∀ x ∈ l, ∀ y ∈ l, e1 x y = true → e2 x y = true := by
 have hsub := qP0 hr ht hc l l.length (l'f _);rw [l'x] at hsub;have he := hsub.eq_of_length hn;intro x hx y hy hxy;obtain ⟨p, hp, hpx⟩ := kt0 hr2 hx;obtain ⟨q, hq, hqy⟩ := kt0 hr2 hy;rw [← he] at hp hq;have hpq : e1 p q = true := ht _ _ _ (hc _ _ hpx) (ht _ _ _ hxy (hs _ _ (hc _ _ hqy)));have hap := n'D.1 (qbw9 (e1 := e1) l);obtain ⟨i, hi, rfl⟩ := l'G hp;obtain ⟨j, hj, rfl⟩ := l'G hq;rcases Nat.lt_trichotomy i j with w|w|w
 ·have := hap i j hi hj w; rw [hpq] at this; cases this
 ·subst w; exact ht2 _ _ _ (hs2 _ _ hpx) hqy
 ·have := hap j i hj hi w; rw [hs _ _ hpq] at this; cases this
end
section
variable {Y : Type} (f : Nat → Y) (q : Y → Y → Bool)
theorem wbU9 (l : List Nat) (x : Nat) : findX q (l.map f) (f x) = findX (fun s t => q (f s) (f t)) l x := by
 unfold findX;induction l with
 | nil => rfl
 | cons y l ih => rw [List.map_cons, l'P, l'P, ih]
theorem kdN9 (l : List Nat) (x : Nat) : addX q (l.map f) (f x) = (addX (fun s t => q (f s) (f t)) l x).map f := by
 unfold addX;rw [wbU9, l'w];split <;> simp
theorem xck9 (r l : List Nat) : (r.map f).foldl (addX q) (l.map f) = (r.foldl (addX fun s t => q (f s) (f t)) l).map f := by
 induction r generalizing l with
 | nil => rfl
 | cons x r ih => rw [List.map_cons, List.foldl_cons, List.foldl_cons, kdN9, ih]
end
section
variable (δ : Nat → Nat → Nat) (acc : Nat → Bool) (A : Nat) (order : List Nat)
def qs0 (cl : Nat → Nat) (s : Nat) : List Nat := cl s :: (List.range A).map fun a => cl (δ s a)
def namesC (cl : Nat → Nat) (k : Nat) : List (List Nat) := ((order.take k).map (qs0 δ A cl)).foldl (addX eqL) []
def wbJ9 (cl : Nat → Nat) (s : Nat) : Nat := findX eqL (namesC δ A order cl order.length) (qs0 δ A cl s)
def clK : Nat → Nat → Nat
 | 0, s => if acc s = true then 1 else 0
 | k + 1, s => wbJ9 δ A order (clK k) s
def cntK (k : Nat) : Nat := (namesC δ A order (clK δ acc A order k) order.length).length
def vf0 (k s t : Nat) : Bool := eqL (qs0 δ A (clK δ acc A order k) s) (qs0 δ A (clK δ acc A order k) t)
end
section
variable {δ : Nat → Nat → Nat} {acc : Nat → Bool} {A : Nat} {order : List Nat}
theorem wm0 (k s t : Nat) : vf0 δ acc A order k s t = true ↔ qs0 δ A (clK δ acc A order k) s = qs0 δ A (clK δ acc A order k) t := by
 unfold vf0 eqL; rw [decide_eq_true_eq]
theorem qn0 (k s : Nat) : vf0 δ acc A order k s s = true := (wm0 k s s).2 rfl
theorem wB0 (k s t : Nat) (h : vf0 δ acc A order k s t = true) : vf0 δ acc A order k t s = true := (wm0 k t s).2 ((wm0 k s t).1 h).symm
theorem zo0 (k s t u : Nat) (h : vf0 δ acc A order k s t = true) (h2 : vf0 δ acc A order k t u = true) : vf0 δ acc A order k s u = true := (wm0 k s u).2 (((wm0 k s t).1 h).trans ((wm0 k t u).1 h2))
theorem zK0 (cl : Nat → Nat) (s t : Nat) : qs0 δ A cl s = qs0 δ A cl t ↔ cl s = cl t ∧ ∀ a, a < A → cl (δ s a) = cl (δ t a) := by
 unfold qs0;rw [List.cons.injEq, List.map_inj_left];simp only [l'o]
theorem wav9 (k j : Nat) : namesC δ A order (clK δ acc A order k) j = (firsts (vf0 δ acc A order k) (order.take j)).map (qs0 δ A (clK δ acc A order k)) :=
 xck9 (qs0 δ A (clK δ acc A order k)) eqL (order.take j) []
theorem vz0 (k : Nat) : cntK δ acc A order k = (firsts (vf0 δ acc A order k) order).length := by
 unfold cntK; rw [wav9, l'w, l'x]
theorem kal9 (k s : Nat) : clK δ acc A order (k + 1) s = findX (vf0 δ acc A order k) (firsts (vf0 δ acc A order k) order) s := by
 rw [clK, wbJ9, wav9, l'x, wbU9]; rfl
theorem zP0 (k s t : Nat) (hs : s ∈ order) (ht : t ∈ order) : clK δ acc A order (k + 1) s = clK δ acc A order (k + 1) t ↔ vf0 δ acc A order k s t = true := by
 rw [kal9, kal9];have h1 : findX (vf0 δ acc A order k) (firsts (vf0 δ acc A order k) order) s < (firsts (vf0 δ acc A order k) order).length := find_lt.2 (kt0 (qn0 k) hs);have h2 : findX (vf0 δ acc A order k) (firsts (vf0 δ acc A order k) order) t < (firsts (vf0 δ acc A order k) order).length := find_lt.2 (kt0 (qn0 k) ht);constructor
 ·intro e;obtain ⟨p, hp, hps⟩ := xaz9 h1;obtain ⟨q, hq, hqt⟩ := xaz9 h2;rw [e, hq] at hp;obtain rfl := Option.some.inj hp;exact zo0 _ _ _ _ (wB0 _ _ _ hps) hqt
 ·intro e;unfold findX;congr 1
  funext p
  rw [l'u];exact ⟨fun q => zo0 _ _ _ _ q e, fun q => zo0 _ _ _ _ q (wB0 _ _ _ e)⟩
theorem zbi9 (hcl : ∀ s ∈ order, ∀ a, a < A → δ s a ∈ order) : ∀ k s t, s ∈ order → t ∈ order → (∀ u, InA A u → acc (runX δ s u) = acc (runX δ t u)) → clK δ acc A order k s = clK δ acc A order k t
 | 0, s, t, _, _, h => by
  have := h [] (fun a ha => by cases ha);have e : acc s = acc t := this;rw [clK, clK, e]
 | k + 1, s, t, hs, ht, h => by
  rw [zP0 k s t hs ht, wm0, zK0];refine ⟨zbi9 hcl k s t hs ht h, fun a ha => zbi9 hcl k _ _ (hcl s hs a ha) (hcl t ht a ha) fun u hu => ?_⟩;exact h (a :: u) fun b hb => by
   rcases l'C.1 hb with rfl|hb
   ·exact ha
   ·exact hu b hb
theorem vcF9 (k s t : Nat) (hs : s ∈ order) (ht : t ∈ order) (h : clK δ acc A order (k + 1) s = clK δ acc A order (k + 1) t) : clK δ acc A order k s = clK δ acc A order k t :=
 ((zK0 _ _ _).1 ((wm0 k s t).1 ((zP0 k s t hs ht).1 h))).1
theorem qdO9 (k s t : Nat) (hs : s ∈ order) (ht : t ∈ order) (h : clK δ acc A order k s = clK δ acc A order k t) : acc s = acc t := by
 induction k with
 | zero =>
  rw [clK, clK] at h;cases a : acc s <;> cases b : acc t <;> simp_all
 | succ k ih => exact ih (vcF9 k s t hs ht h)
theorem kcF9 (hcl : ∀ s ∈ order, ∀ a, a < A → δ s a ∈ order) (k : Nat) (hn : cntK δ acc A order k = cntK δ acc A order (k + 1)) (s t : Nat) (hs : s ∈ order) (ht : t ∈ order) :
  vf0 δ acc A order (k + 1) s t = true ↔ ∀ u, InA A u → acc (runX δ s u) = acc (runX δ t u) := by
 have hstep : ∀ x ∈ order, ∀ y ∈ order, clK δ acc A order (k + 1) x = clK δ acc A order (k + 1) y → clK δ acc A order (k + 2) x = clK δ acc A order (k + 2) y := by
  intro x hx y hy hxy;rw [zP0 _ _ _ hx hy] at hxy ⊢;rw [vz0, vz0] at hn
  let e2 : Nat → Nat → Bool := fun x y => vf0 δ acc A order (k + 1) x y && vf0 δ acc A order k x y
  have hf : firsts (vf0 δ acc A order (k + 1)) order = firsts e2 order := by
   have : ∀ (r l : List Nat), (∀ x ∈ r, x ∈ order) → (∀ x ∈ l, x ∈ order) → r.foldl (addX (vf0 δ acc A order (k + 1))) l = r.foldl (addX e2) l := by
    intro r;induction r with
    | nil => intro l _ _; rfl
    | cons z r ih =>
     intro l h1 h2;have hz := h1 z l'n;have e : addX (vf0 δ acc A order (k + 1)) l z = addX e2 l z := by
      have hfx : findX (vf0 δ acc A order (k + 1)) l z = findX e2 l z := by
       unfold findX;clear ih;induction l with
       | nil => rfl
       | cons w l ih =>
        rw [l'P, l'P, ih fun x hx => h2 x (l'g _ hx)];have hw := h2 w l'n;have : vf0 δ acc A order (k + 1) w z = e2 w z := by
         show _ = (vf0 δ acc A order (k + 1) w z && vf0 δ acc A order k w z);cases q : vf0 δ acc A order (k + 1) w z
         ·rfl
         ·have q1 := ((zK0 _ _ _).1 ((wm0 _ _ _).1 q)).1;rw [zP0 k w z hw hz] at q1;rw [q1]; rfl
        rw [this]
      unfold addX; rw [hfx]
     rw [List.foldl_cons, List.foldl_cons, e];refine ih _ (fun x hx => h1 x (l'g _ hx)) fun x hx => ?_;unfold addX at hx;split at hx
     ·rcases l'D.1 hx with q|q
      ·exact h2 x q
      ·simp only [l'N] at q; subst q; exact hz
     ·exact h2 x hx
   exact this order [] (fun x hx => hx) (fun x hx => by cases hx)
  have hsm := zck9 (e1 := vf0 δ acc A order k) (e2 := e2) (qn0 k) (wB0 k) (zo0 k) (fun x => by show (_ && _) = true; rw [qn0, qn0]; rfl)
   (fun x y h => by have h : (_ && _) = true := h; rw [l'a] at h; show (_ && _) = true; rw [wB0 _ _ _ h.1, wB0 _ _ _ h.2]; rfl)
   (fun x y z h h' => by have h : (_ && _) = true := h; have h' : (_ && _) = true := h'; rw [l'a] at h h'; show (_ && _) = true; rw [zo0 _ _ _ _ h.1 h'.1, zo0 _ _ _ _ h.2 h'.2]; rfl)
   (fun x y h => by have h : (_ && _) = true := h; rw [l'a] at h; exact h.2) order (by rw [hn, hf])
  have := hsm x hx y hy hxy;have : (vf0 δ acc A order (k + 1) x y && vf0 δ acc A order k x y) = true := this;rw [l'a] at this; exact this.1
 constructor
 ·intro h u hu;have h0 := ((zK0 _ _ _).1 ((wm0 _ _ _).1 h)).1;have key : ∀ (u : List Nat) (s t : Nat), InA A u → s ∈ order → t ∈ order → clK δ acc A order (k + 1) s = clK δ acc A order (k + 1) t → acc (runX δ s u) = acc (runX δ t u) := by
   intro u;induction u with
   | nil => intro s t _ hs ht h; exact qdO9 _ s t hs ht h
   | cons a u ih =>
    intro s t hu hs ht h;have ha := hu a l'n;have h2 := hstep s hs t ht h;rw [zP0 _ _ _ hs ht, wm0, zK0] at h2;exact ih (δ s a) (δ t a) (fun b hb => hu b (l'g _ hb)) (hcl s hs a ha) (hcl t ht a ha) (h2.2 a ha)
  exact key u s t hu hs ht h0
 ·intro h;exact (zP0 _ _ _ hs ht).1 (zbi9 hcl (k + 2) s t hs ht h)
end
section
variable {δ : Nat → Nat → Nat} {acc : Nat → Bool} {A : Nat}
theorem kZ0 (x : Nat) : eqX x x = true := by simp [eqX]
theorem wG0 (M : Nat) (hM : (stX δ eqX A 0 M).1.length = M) : ∀ s ∈ (stX δ eqX A 0 M).1, ∀ a, a < A → δ s a ∈ (stX δ eqX A 0 M).1 := by
 have h := (kO0 (step := δ) (e := eqX) (A := A) kZ0 (fun x y h => by simp [eqX] at *; exact h.symm) (fun x y z h h' => by simp [eqX] at *; exact h.trans h') (fun x y a h _ => by simp [eqX] at *; rw [h]) 0 M (n'P hM.symm)).2
 rwa [l'k (n'P hM)] at h
theorem war9 (M : Nat) : 0 ∈ (stX δ eqX A 0 M).1 := l'q (wO0 0 M)
theorem qam9 (M : Nat) (hM : (stX δ eqX A 0 M).1.length = M) : ∀ (w : List Nat) (s : Nat), InA A w → s ∈ (stX δ eqX A 0 M).1 → runX δ s w ∈ (stX δ eqX A 0 M).1
 | [], _, _, h => h
 | a :: w, s, hw, h => qam9 M hM w (δ s a) (fun b hb => hw b (l'g _ hb)) (wG0 M hM s h a (hw a l'n))
theorem vbJ9 (M : Nat) : ∀ s ∈ (stX δ eqX A 0 M).1, ∃ w, InA A w ∧ runX δ 0 w = s :=
 zaf9 δ eqX A (P := fun s => ∃ w, InA A w ∧ runX δ 0 w = s) 0 ⟨[], fun a h => (by cases h), rfl⟩ (by
  rintro y ⟨w, hw, rfl⟩ a ha;exact ⟨w ++ [a], hw.app fun b hb => by simp at hb; omega, by rw [waz9]; rfl⟩) M
theorem xaJ9 {e1 e2 : Nat → Nat → Bool} (h : ∀ v w, InA A v → InA A w → e1 (runX δ 0 v) (runX δ 0 w) = e2 (runX δ 0 v) (runX δ 0 w)) (i : Nat) : stX δ e1 A 0 i = stX δ e2 A 0 i := by
 have key := qbU9 (s1 := δ) (e1 := e1) (s2 := δ) (e2 := e2) (A := A) (R := fun s t => s = t ∧ ∃ w, InA A w ∧ s = runX δ 0 w) (by
  rintro s _ s' _ ⟨rfl, v, hv, rfl⟩ ⟨rfl, w, hw, rfl⟩;exact h v w hv hw) (by
  rintro s _ ⟨rfl, w, hw, rfl⟩ a ha;exact ⟨rfl, w ++ [a], hw.app fun b hb => by simp at hb; omega, by rw [waz9]; rfl⟩) (x0 := 0) (y0 := 0) ⟨rfl, [], fun a h => (by cases h), rfl⟩ i
 have hl : ∀ l m : List Nat, All2 (fun s t => s = t ∧ ∃ w, InA A w ∧ s = runX δ 0 w) l m → l = m := by
  intro l m q;induction q with
  | nil => rfl
  | cons q _ ih => rw [q.1, ih]
 exact Prod.ext (hl _ _ key.1) key.2
theorem waf9 {X : Type} {step : X → Nat → X} {eqv : X → X → Bool} (x0 : X) : ∀ i, ∀ r ∈ (stX step eqv A x0 i).2, r.length = A
 | 0, r, h => by cases h
 | i + 1, r, h => by
  rw [stX] at h;split at h
  ·exact waf9 x0 i r h
  ·rcases l'D.1 h with q|q
   ·exact waf9 x0 i r q
   ·simp only [l'N] at q; subst q; exact xal9 _ _ _ _ _
def wr0 (δ : Nat → Nat → Nat) (A : Nat) (cls : Nat → Nat) (firstsL : List Nat) : List (List Nat) := firstsL.map fun s => (List.range A).map fun a => cls (δ s a)
theorem xdk9 (M : Nat) (hM : (stX δ eqX A 0 M).1.length = M) (k : Nat) (hn : cntK δ acc A (stX δ eqX A 0 M).1 k = cntK δ acc A (stX δ eqX A 0 M).1 (k + 1)) :
  (stX δ (vf0 δ acc A (stX δ eqX A 0 M).1 (k + 1)) A 0 (cntK δ acc A (stX δ eqX A 0 M).1 (k + 1))).1 = firsts (vf0 δ acc A (stX δ eqX A 0 M).1 (k + 1)) (stX δ eqX A 0 M).1 ∧
  (stX δ (vf0 δ acc A (stX δ eqX A 0 M).1 (k + 1)) A 0 (cntK δ acc A (stX δ eqX A 0 M).1 (k + 1))).2 = wr0 δ A (clK δ acc A (stX δ eqX A 0 M).1 (k + 2)) (firsts (vf0 δ acc A (stX δ eqX A 0 M).1 (k + 1)) (stX δ eqX A 0 M).1) := by
 have hcl := wG0 M hM;have hend := kcF9 (acc := acc) hcl k hn;have hfind := kal9 (δ := δ) (acc := acc) (A := A) (order := (stX δ eqX A 0 M).1) (k + 1);have hcnt := vz0 (δ := δ) (acc := acc) (A := A) (order := (stX δ eqX A 0 M).1) (k + 1);have hreach := vbJ9 (δ := δ) (A := A) M;have hrun := qam9 M hM;have hzero := war9 (δ := δ) (A := A) M;have hrefl := qn0 (δ := δ) (acc := acc) (A := A) (order := (stX δ eqX A 0 M).1) (k + 1);have hsymm := wB0 (δ := δ) (acc := acc) (A := A) (order := (stX δ eqX A 0 M).1) (k + 1);have htrans := zo0 (δ := δ) (acc := acc) (A := A) (order := (stX δ eqX A 0 M).1) (k + 1)
 -- the likeness, made one that every step keeps
 let e : Nat → Nat → Bool := fun s t => decide (s = t) || (decide (s ∈ (stX δ eqX A 0 M).1) && (decide (t ∈ (stX δ eqX A 0 M).1) && vf0 δ acc A (stX δ eqX A 0 M).1 (k + 1) s t))
 have he : ∀ s t, s ∈ (stX δ eqX A 0 M).1 → t ∈ (stX δ eqX A 0 M).1 → e s t = vf0 δ acc A (stX δ eqX A 0 M).1 (k + 1) s t := by
  intro s t hs ht;show (decide (s = t) || (decide _ && (decide _ && _))) = _;simp only [hs, ht, decide_true, n'o];by_cases q : s = t
  ·subst q; rw [hrefl]; simp
  ·simp [q]
 have heiff : ∀ s t, e s t = true ↔ s = t ∨ (s ∈ (stX δ eqX A 0 M).1 ∧ t ∈ (stX δ eqX A 0 M).1 ∧ vf0 δ acc A (stX δ eqX A 0 M).1 (k + 1) s t = true) := by
  intro s t;show (decide (s = t) || (decide _ && (decide _ && _))) = true ↔ _;simp only [l'H, l'a, decide_eq_true_eq]
 have er : ∀ x, e x x = true := fun x => (heiff x x).2 (.inl rfl);have es : ∀ x y, e x y = true → e y x = true := fun x y h => by
  rcases (heiff x y).1 h with rfl|⟨h1, h2, h3⟩
  ·exact er x
  ·exact (heiff y x).2 (.inr ⟨h2, h1, hsymm _ _ h3⟩)
 have et : ∀ x y z, e x y = true → e y z = true → e x z = true := fun x y z h h' => by
  rcases (heiff x y).1 h with rfl|⟨h1, h2, h3⟩
  ·exact h'
  ·rcases (heiff y z).1 h' with rfl|⟨h4, h5, h6⟩
   ·exact h
   ·exact (heiff x z).2 (.inr ⟨h1, h5, htrans _ _ _ h3 h6⟩)
 have ec : ∀ x y a, e x y = true → a < A → e (δ x a) (δ y a) = true := fun x y a h ha => by
  rcases (heiff x y).1 h with rfl|⟨h1, h2, h3⟩
  ·exact er _
  ·refine (heiff _ _).2 (.inr ⟨hcl x h1 a ha, hcl y h2 a ha, (hend _ _ (hcl x h1 a ha) (hcl y h2 a ha)).2 fun u hu => ?_⟩);exact (hend x y h1 h2).1 h3 (a :: u) fun b hb => by
    rcases l'C.1 hb with rfl|hb
    ·exact ha
    ·exact hu b hb
 have hsame : ∀ i, stX δ (vf0 δ acc A (stX δ eqX A 0 M).1 (k + 1)) A 0 i = stX δ e A 0 i := fun i => xaJ9 (fun v w hv hw => (he _ _ (hrun v 0 hv hzero) (hrun w 0 hw hzero)).symm) i;have hsf := (kO0 er es et ec 0 M (n'P hM.symm)).1;rw [l'k (n'P hM)] at hsf;have hff : firsts e (stX δ eqX A 0 M).1 = firsts (vf0 δ acc A (stX δ eqX A 0 M).1 (k + 1)) (stX δ eqX A 0 M).1 := by
  have key : ∀ (r l : List Nat), (∀ x ∈ r, x ∈ (stX δ eqX A 0 M).1) → (∀ x ∈ l, x ∈ (stX δ eqX A 0 M).1) → r.foldl (addX e) l = r.foldl (addX (vf0 δ acc A (stX δ eqX A 0 M).1 (k + 1))) l := by
   intro r;induction r with
   | nil => intro l _ _; rfl
   | cons z r ih =>
    intro l h1 h2;have hz := h1 z l'n;have hfx : findX e l z = findX (vf0 δ acc A (stX δ eqX A 0 M).1 (k + 1)) l z := by
     unfold findX;clear ih;induction l with
     | nil => rfl
     | cons w l ih => rw [l'P, l'P, ih fun x hx => h2 x (l'g _ hx), he w z (h2 w l'n) hz]
    have hadd : addX e l z = addX (vf0 δ acc A (stX δ eqX A 0 M).1 (k + 1)) l z := by unfold addX; rw [hfx]
    rw [List.foldl_cons, List.foldl_cons, hadd];refine ih _ (fun x hx => h1 x (l'g _ hx)) fun x hx => ?_;unfold addX at hx;split at hx
    ·rcases l'D.1 hx with q|q
     ·exact h2 x q
     ·simp only [l'N] at q; subst q; exact hz
    ·exact h2 x hx
  exact key _ [] (fun x hx => hx) (fun x hx => by cases hx)
 rw [hff, ← hcnt] at hsf;have hL : (stX δ (vf0 δ acc A (stX δ eqX A 0 M).1 (k + 1)) A 0 (cntK δ acc A (stX δ eqX A 0 M).1 (k + 1))).1 = firsts (vf0 δ acc A (stX δ eqX A 0 M).1 (k + 1)) (stX δ eqX A 0 M).1 := by rw [hsame]; exact hsf.symm
 refine ⟨hL, ?_⟩;have hlen : (stX δ (vf0 δ acc A (stX δ eqX A 0 M).1 (k + 1)) A 0 (cntK δ acc A (stX δ eqX A 0 M).1 (k + 1))).1.length = cntK δ acc A (stX δ eqX A 0 M).1 (k + 1) := by rw [hL, hcnt]
 have hrl := vA0 δ (vf0 δ acc A (stX δ eqX A 0 M).1 (k + 1)) A 0 _ (n'P hlen.symm);have hrw := waf9 (A := A) (step := δ) (eqv := vf0 δ acc A (stX δ eqX A 0 M).1 (k + 1)) 0 (cntK δ acc A (stX δ eqX A 0 M).1 (k + 1));have hat := vcj9 (step := δ) (eqv := vf0 δ acc A (stX δ eqX A 0 M).1 (k + 1)) (A := A) hrefl 0 _ (n'P hlen.symm);generalize cntK δ acc A (stX δ eqX A 0 M).1 (k + 1) = m at *;refine l'W (by rw [hrl, wr0, l'w, ← hL, hlen]) fun j h1 h2 => ?_;obtain ⟨x, hx1, hx2⟩ := hat j (by omega);rw [hL] at hx1 hx2;obtain ⟨hj, hx3⟩ := l'c.1 hx1;have hr1 := hrw _ (l'X h1);refine l'W (by rw [hr1]; simp [wr0]) fun a g1 g2 => ?_;have ha : a < A := by omega
 have h3 := (hx2 a ha).1;rw [l'b, l'b, l'e h1, Option.getD_some, l'e g1, Option.getD_some] at h3;rw [h3];simp only [wr0, z'r, z'c, hx3];exact (hfind _).symm
theorem apart_spec (n : Nat) (T : Nat → Nat → Bool) (hδ : ∀ s, s < n → ∀ a, a < A → δ s a < n) (h1 : ∀ s t, s < n → t < n → T s t = true → ∃ u, InA A u ∧ acc (runX δ s u) ≠ acc (runX δ t u))
  (h2 : ∀ s t, s < n → t < n → T s t = false → acc s = acc t ∧ ∀ a, a < A → T (δ s a) (δ t a) = false) (s t : Nat) (hs : s < n) (ht : t < n) :
  T s t = false ↔ ∀ u, InA A u → acc (runX δ s u) = acc (runX δ t u) := by
 constructor
 ·intro h u;induction u generalizing s t with
  | nil => intro _; exact (h2 s t hs ht h).1
  | cons a u ih =>
   intro hu;have ha := hu a l'n;exact ih (δ s a) (δ t a) (hδ s hs a ha) (hδ t ht a ha) ((h2 s t hs ht h).2 a ha) fun b hb => hu b (l'g _ hb)
 ·intro h;cases q : T s t
  ·rfl
  ·obtain ⟨u, hu, hne⟩ := h1 s t hs ht q;exact absurd (h u hu) hne
end
structure xeF9 (x y : Nf) (σ : Nat → Nat) : Prop where
 n : y.n = x.n
 lt : ∀ s, s < x.n → σ s < x.n
 inj : ∀ s t, s < x.n → t < x.n → σ s = σ t → s = t
 sur : ∀ t, t < x.n → ∃ s, s < x.n ∧ σ s = t
 d : ∀ s t a, s < x.n → t < x.n → y.d (σ s) a (σ t) = x.d s a t
 F : ∀ s, s < x.n → (σ s ∈ y.F ↔ s ∈ x.F)
def FiltF (n : Nat) (S : List Nat) : Prop := ∃ p, S = (List.range n).filter p
theorem FiltF.lt {n : Nat} {S : List Nat} (h : FiltF n S) {s : Nat} (hs : s ∈ S) : s < n := by
 obtain ⟨p, rfl⟩ := h;exact l'o.1 (l'T.1 hs).1
theorem FiltF.ext {n : Nat} {S T : List Nat} (h : FiltF n S) (h2 : FiltF n T) (hm : ∀ s, s < n → (s ∈ S ↔ s ∈ T)) : S = T := by
 obtain ⟨p, rfl⟩ := h;obtain ⟨q, rfl⟩ := h2;exact kcj9 hm
theorem waJ9 (x : Nf) (S : List Nat) (a : Nat) : FiltF x.n (stepN x S a) := ⟨_, rfl⟩
def weF9 (x : Nf) (σ : Nat → Nat) (S T : List Nat) : Prop := FiltF x.n S ∧ FiltF x.n T ∧ ∀ s, s < x.n → (σ s ∈ T ↔ s ∈ S)
def vr0 (x : Nf) (A : Nat) (S : List Nat) (t : Nat) : Prop := ∃ w, InA A w ∧ ∃ s ∈ S, wcF9 x s w t
theorem vav9 (x : Nf) (A : Nat) (S : List Nat) (P : Nat → Prop) (h0 : ∀ s ∈ S, P s) (hs : ∀ s, P s → ∀ a, a < A → ∀ t, t < x.n → x.d s a t = true → P t) (hr : ∀ s, P s → vr0 x A S s) (t : Nat) : P t ↔ vr0 x A S t := by
 refine ⟨hr t, ?_⟩;rintro ⟨w, hw, s, h, hp⟩;have key : ∀ (w : List Nat) (s : Nat), InA A w → P s → wcF9 x s w t → P t := by
  intro w;induction w with
  | nil => intro s _ h hp; cases hp; exact h
  | cons a w ih =>
   rintro s hw h ⟨u, hu, hd, hp⟩;exact ih u (fun b hb => hw b (l'g _ hb)) (hs s h a (hw a l'n) u hu hd) hp
 exact key w s hw (h0 s h) hp
theorem xaX9 (x : Nf) (A : Nat) (S : List Nat) (s a t : Nat) (h : vr0 x A S s) (ha : a < A) (ht : t < x.n) (hd : x.d s a t = true) (hsl : s < x.n) : vr0 x A S t := by
 obtain ⟨w, hw, q, hq, hp⟩ := h;refine ⟨w ++ [a], hw.app fun b hb => by simp at hb; omega, q, hq, ?_⟩;rw [zaJ9 x w q a t ht];refine ⟨s, ?_, hp, hd⟩;cases w with
 | nil => left; cases hp; exact ⟨rfl, rfl⟩
 | cons b w => right; exact ⟨by simp, hsl⟩
def veF9 (x : Nf) (keep : List Nat) : Nf := ⟨keep.length, fun i a j => x.d (keep.getD i 0) a (keep.getD j 0), (List.range keep.length).filter fun i => x.S.contains (keep.getD i 0), (List.range keep.length).filter fun i => x.F.contains (keep.getD i 0)⟩
structure weE9 (x : Nf) (A : Nat) (keep : List Nat) : Prop where
 lt : ∀ s ∈ keep, s < x.n
 mem : ∀ s, s < x.n → (s ∈ keep ↔ vr0 x A x.S s ∧ vr0 (revN x) A x.F s)
theorem zdO9 {keep : List Nat} {i : Nat} (h : i < keep.length) : keep.getD i 0 ∈ keep := by
 rw [l'b, l'e h]; exact l'X h
theorem vbU9 {keep : List Nat} {s : Nat} (h : s ∈ keep) : ∃ i, i < keep.length ∧ keep.getD i 0 = s := by
 obtain ⟨i, hi, e⟩ := l'G h;exact ⟨i, hi, by rw [l'b, l'e hi]; exact e⟩
end Go.Proofs
