import Derived.Test.YtcoakjnmnommpaaDoorAQ1
import Derived.Test.YtcoakjnmnommpaaDoorAP8
import Derived.Laws.Entries
namespace Go.Proofs
set_option linter.unusedSimpArgs false
set_option linter.unusedVariables false
open Go
theorem kab9 (n : Nat) (h : n < 2 ^ 64) : IntKind.u64.wrap (n : Int) = n := by
 have : (n : Int) < 18446744073709551616 := by
  have h2 : n < 18446744073709551616 := h
  omega
 simp only [IntKind.wrap, IntKind.signed, IntKind.bits]
 simp
 omega
theorem zco9 (a b : Nat) (ha : a < 2 ^ 64) (hb : b < 2 ^ 64) : bits .or .u64 (a : Int) (b : Int) = ((a ||| b : Nat) : Int) := by
 unfold bits
 simp only [show IntKind.u64.bits = 64 from rfl, BitVec.ofInt_natCast, BitVec.toNat_or, BitVec.toNat_ofNat, Nat.mod_eq_of_lt ha, Nat.mod_eq_of_lt hb]
 exact kab9 _ (Nat.or_lt_two_pow ha hb)
theorem waK9 (a b : Nat) (ha : a < 2 ^ 64) (hb : b < 2 ^ 64) : bits .and .u64 (a : Int) (b : Int) = ((a &&& b : Nat) : Int) := by
 unfold bits
 simp only [show IntKind.u64.bits = 64 from rfl, BitVec.ofInt_natCast, BitVec.toNat_and, BitVec.toNat_ofNat, Nat.mod_eq_of_lt ha, Nat.mod_eq_of_lt hb]
 exact kab9 _ (Nat.and_lt_two_pow _ hb)
theorem xdR9 (k : Nat) (h : k < 64) : IntKind.u64.wrap (1 * 2 ^ (min ((k : Int).toNat) 64)) = ((2 ^ k : Nat) : Int) := by
 have : min ((k : Int).toNat) 64 = k := by omega
 rw [this, Int.one_mul]
 have := kab9 (2 ^ k) (Nat.pow_lt_pow_right (by decide) h)
 rw [← this]
 congr 1
end Go.Proofs
set_option linter.unusedVariables false
set_option linter.unusedSimpArgs false
namespace Go.Proofs
def inL (l : List Int) (n : Nat) : Bool := l.contains (n : Int)
def lst (rows : List (List (List Int))) (s a : Nat) : List Int := (rows.getD s []).getD a []
def xbi9 (rows : List (List (List Int))) (p : Nat → Bool) (a : Nat) (t : Nat) : Bool := (elemsP p).any fun s => inL (lst rows s a) t
structure SetIs (n : Nat) (p : Nat → Bool) (S : List Nat) : Prop where
 mem : ∀ t, t < 256 → (p t = true ↔ t ∈ S)
 filt : FiltF n S
theorem SetIs.elems {n : Nat} {p : Nat → Bool} {S : List Nat} (h : SetIs n p S) (hn : n ≤ 256) : elemsP p = S := by
 obtain ⟨q, hq⟩ := h.filt
 have hS : S = (List.range 256).filter fun t => decide (t < n) && q t := by
  rw [hq]
  obtain ⟨d, hd⟩ : ∃ d, 256 = n + d := ⟨256 - n, by omega⟩
  rw [hd, List.range_add, List.filter_append]
  have e1 : (List.range n).filter (fun t => decide (t < n) && q t) = (List.range n).filter q := List.filter_congr fun t ht => by simp [List.mem_range.1 ht]
  have e2 : ((List.range d).map (n + ·)).filter (fun t => decide (t < n) && q t) = [] := by
   rw [List.filter_eq_nil_iff]
   intro t ht
   obtain ⟨j, _, rfl⟩ := List.mem_map.1 ht
   rw [decide_eq_false (by omega), Bool.false_and]; decide
  rw [e1, e2, List.append_nil]
 rw [elemsP, hS]
 refine List.filter_congr fun t ht => ?_
 have ht := List.mem_range.1 ht
 have h1 := h.mem t ht
 rw [hS, List.mem_filter, List.mem_range] at h1
 rw [Bool.eq_iff_iff, h1]
 exact ⟨fun q => q.2, fun q => ⟨ht, q⟩⟩
theorem SetIs.lt {n : Nat} {p : Nat → Bool} {S : List Nat} (h : SetIs n p S) {s : Nat} (hs : s ∈ S) : s < n := h.filt.lt hs
theorem vaK9 {l : List Int} {n : Nat} (h : xf0 l n = true) : SetIs n (inL l) (natL l) := by
 refine ⟨fun t _ => ?_, ?_⟩
 ·rw [inL, List.contains_iff_mem, natL, List.mem_map]
  constructor
  ·exact fun q => ⟨_, q, Int.toNat_natCast t⟩
  ·rintro ⟨x, hx, rfl⟩
   have := zh0 h x hx
   rwa [show ((x.toNat : Nat) : Int) = x by omega]
 ·exact ⟨_, qam9 h⟩
theorem xbF9 {A : Nat} {rows : List (List (List Int))} {st ac : List Int} (h : OkNv A rows st ac) {p : Nat → Bool} {S : List Nat} (hp : SetIs rows.length p S) {a : Nat} (ha : a < A) : SetIs rows.length (xbi9 rows p a) (stepN (nfOf rows st ac) S a) := by
 refine ⟨fun t ht => ?_, ⟨_, rfl⟩⟩
 rw [xbi9, hp.elems h.n, xL0, List.any_eq_true]
 constructor
 ·rintro ⟨s, hs, hd⟩
  refine ⟨?_, s, hs, hd⟩
  have := zh0 (h.ri s a (hp.lt hs) ha) _ (List.contains_iff_mem.1 hd)
  show t < rows.length
  omega
 ·rintro ⟨_, s, hs, hd⟩
  exact ⟨s, hs, hd⟩
theorem wbi9 {n : Nat} {p q : Nat → Bool} {S T : List Nat} (hp : SetIs n p S) (hq : SetIs n q T) (hn : n ≤ 256) : ((List.range 256).any fun t => p t && q t) = S.any fun s => T.contains s := by
 rw [Bool.eq_iff_iff, List.any_eq_true, List.any_eq_true]
 constructor
 ·rintro ⟨t, ht, h⟩
  have ht := List.mem_range.1 ht
  rw [Bool.and_eq_true] at h
  exact ⟨t, (hp.mem t ht).1 h.1, List.contains_iff_mem.2 ((hq.mem t ht).1 h.2)⟩
 ·rintro ⟨s, hs, h⟩
  have hl := hp.lt hs
  exact ⟨s, List.mem_range.2 (by omega), by rw [Bool.and_eq_true]; exact ⟨(hp.mem s (by omega)).2 hs, (hq.mem s (by omega)).2 (List.contains_iff_mem.1 h)⟩⟩
theorem wbT9 {n : Nat} {p q : Nat → Bool} {S T : List Nat} (hp : SetIs n p S) (hq : SetIs n q T) (hn : n ≤ 256) : (∀ i, i < 4 → wP p i = wP q i) ↔ S = T := by
 constructor
 ·intro h
  have := vdC9 h
  rw [← hp.elems hn, ← hq.elems hn]
  exact List.filter_congr fun t ht => this t (List.mem_range.1 ht)
 ·rintro rfl i _
  exact qbi9 (fun t ht => by rw [Bool.eq_iff_iff, hp.mem t ht, hq.mem t ht]) i
end Go.Proofs
set_option linter.unusedVariables false
set_option linter.unusedSimpArgs false
namespace Go.Proofs
theorem kaK9 (e : Nat → Nat → Bool) : ∀ (r l : List Nat), (r.foldl (addX e) l).length ≤ l.length + r.length
 | [], l => by simp
 | x :: r, l => by
  have h := kaK9 e r (addX e l x)
  have h2 : (addX e l x).length ≤ l.length + 1 := by unfold addX; split <;> simp
  rw [List.foldl_cons, List.length_cons]; omega
theorem vbi9 {e1 e2 : Nat → Nat → Bool} (order : List Nat) (h : ∀ x ∈ order, ∀ y ∈ order, e1 x y = e2 x y) : firsts e1 order = firsts e2 order := by
 have key : ∀ (r l : List Nat), (∀ x ∈ r, x ∈ order) → (∀ x ∈ l, x ∈ order) → r.foldl (addX e1) l = r.foldl (addX e2) l := by
  intro r
  induction r with
  | nil => intro l _ _; rfl
  | cons z r ih =>
   intro l h1 h2
   have hz := h1 z List.mem_cons_self
   have hfx : findX e1 l z = findX e2 l z := by
    unfold findX
    clear ih
    induction l with
    | nil => rfl
    | cons w l ih => rw [List.findIdx_cons, List.findIdx_cons, ih fun x hx => h2 x (List.mem_cons_of_mem _ hx), h w (h2 w List.mem_cons_self) z hz]
   have hadd : addX e1 l z = addX e2 l z := by unfold addX; rw [hfx]
   rw [List.foldl_cons, List.foldl_cons, hadd]
   refine ih _ (fun x hx => h1 x (List.mem_cons_of_mem _ hx)) fun x hx => ?_
   unfold addX at hx
   split at hx
   ·rcases List.mem_append.1 hx with q|q
    ·exact h2 x q
    ·simp only [List.mem_singleton] at q; subst q; exact hz
   ·exact h2 x hx
 exact key order [] (fun x hx => hx) (fun x hx => by cases hx)
section
variable {δ : Nat → Nat → Nat} {acc : Nat → Bool} {A : Nat} {order : List Nat}
theorem xco9 (k : Nat) : cntK δ acc A order k ≤ cntK δ acc A order (k + 1) := by
 rw [xy0, xy0]
 have hf : firsts (we0 δ acc A order (k + 1)) order = firsts (fun x y => we0 δ acc A order (k + 1) x y && we0 δ acc A order k x y) order := vbi9 order fun x hx y hy => by
  cases q : we0 δ acc A order (k + 1) x y
  ·rfl
  ·have q1 := ((wD0 _ _ _).1 ((wk0 _ _ _).1 q)).1
   rw [kG0 k x y hx hy] at q1
   rw [q1]; rfl
 rw [hf]
 have := vG0 (e1 := we0 δ acc A order k) (e2 := fun x y => we0 δ acc A order (k + 1) x y && we0 δ acc A order k x y) (ql0 k) (vl0 k) (fun x y h => by rw [Bool.and_eq_true] at h; exact h.2) order order.length (Nat.le_refl _)
 rw [List.take_length] at this
 exact this.length_le
theorem kaU9 (k : Nat) : cntK δ acc A order k ≤ order.length := by
 rw [xy0]
 have := kaK9 (we0 δ acc A order k) order []
 simpa [firsts] using this
theorem qaV9 (k : Nat) (h : order ≠ []) : 1 ≤ cntK δ acc A order k := by
 rw [xy0]
 obtain ⟨x, l, e⟩ := List.exists_cons_of_ne_nil h
 obtain ⟨y, hy, _⟩ := zp0 (e := we0 δ acc A order k) (ql0 k) (l := order) (x := x) (by rw [e]; exact List.mem_cons_self)
 exact List.length_pos_iff.2 fun q => by rw [q] at hy; cases hy
theorem zbv9 (h : order ≠ []) : ∃ k, k ≤ order.length ∧ cntK δ acc A order k = cntK δ acc A order (k + 1) ∧ ∀ j, j < k → cntK δ acc A order j < cntK δ acc A order (j + 1) := by
 have key : ∀ m, (∃ k, k < m ∧ cntK δ acc A order k = cntK δ acc A order (k + 1) ∧ ∀ j, j < k → cntK δ acc A order j < cntK δ acc A order (j + 1)) ∨ (∀ j, j < m → cntK δ acc A order j < cntK δ acc A order (j + 1)) := by
  intro m
  induction m with
  | zero => right; intro j hj; omega
  | succ m ih =>
   rcases ih with ⟨k, h1, h2⟩|h1
   ·left; exact ⟨k, by omega, h2⟩
   ·rcases Nat.lt_or_ge (cntK δ acc A order m) (cntK δ acc A order (m + 1)) with q|q
    ·right
     intro j hj
     rcases Nat.lt_or_ge j m with w|w
     ·exact h1 j w
     ·obtain rfl : j = m := by omega
      exact q
    ·left
     exact ⟨m, by omega, Nat.le_antisymm (xco9 m) q, h1⟩
 rcases key (order.length + 1) with ⟨k, h1, h2⟩|h1
 ·exact ⟨k, by omega, h2⟩
 ·exfalso
  have grow : ∀ m, m ≤ order.length + 1 → m + 1 ≤ cntK δ acc A order m := by
   intro m
   induction m with
   | zero => intro _; exact qaV9 0 h
   | succ m ih =>
    intro hm
    have := ih (by omega)
    have := h1 m (by omega)
    omega
  have g := grow (order.length + 1) (Nat.le_refl _)
  have := kaU9 (δ := δ) (acc := acc) (A := A) (order := order) (order.length + 1)
  omega
end
end Go.Proofs
set_option linter.unusedVariables false
set_option linter.unusedSimpArgs false
namespace Go.Proofs
section
variable {e : Nat → Nat → Bool}
theorem kbi9 (order : List Nat) (k : Nat) (hk : k < order.length) : ∃ t, firsts e order = addX e (firsts e (order.take k)) order[k] ++ t := by
 obtain ⟨t, h⟩ := xO0 (e := e) (order.take k ++ [order[k]]) (order.drop (k + 1))
 refine ⟨t, ?_⟩
 rw [← wl0, ← h]
 congr 1
 rw [← List.take_succ_eq_append_getElem hk, List.take_append_drop]
theorem wco9 (hr : ∀ x, e x x = true) (order : List Nat) (k : Nat) (hk : k < order.length) (h : ¬ ∃ y ∈ firsts e (order.take k), e y order[k] = true) :
  findX e (firsts e order) order[k] = (firsts e (order.take k)).length ∧ firsts e (order.take (k + 1)) = firsts e (order.take k) ++ [order[k]] := by
 obtain ⟨t, ht⟩ := kbi9 (e := e) order k hk
 have h1 : ¬ findX e (firsts e (order.take k)) order[k] < (firsts e (order.take k)).length := fun q => h (find_lt.1 q)
 have h2 := wax9 (eqv := e) (firsts e (order.take k)) order[k]
 have h3 := zbg9 (eqv := e) (firsts e (order.take k)) order[k] (hr _) (by omega)
 rw [ht, zy0 h]
 refine ⟨?_, by rw [List.take_succ_eq_append_getElem hk, wl0, zy0 h]⟩
 rw [qO0 t (by rw [h3]; simp), h3]
theorem vco9 (order : List Nat) (k : Nat) (hk : k < order.length) (h : ∃ y ∈ firsts e (order.take k), e y order[k] = true) :
  findX e (firsts e order) order[k] = findX e (firsts e (order.take k)) order[k] ∧ findX e (firsts e (order.take k)) order[k] < (firsts e (order.take k)).length ∧ firsts e (order.take (k + 1)) = firsts e (order.take k) := by
 obtain ⟨t, ht⟩ := kbi9 (e := e) order k hk
 have h1 := find_lt.2 h
 rw [ht, qab9 h]
 refine ⟨qO0 t h1, h1, by rw [List.take_succ_eq_append_getElem hk, wl0, qab9 h]⟩
end
end Go.Proofs
set_option linter.unusedVariables false
set_option linter.unusedSimpArgs false
namespace Go.Proofs
section
variable {X : Type} {step : X → Nat → X} {eqv : X → X → Bool} {A : Nat}
theorem xbv9 (x0 : X) {N : Nat} (h : (stX step eqv A x0 N).1.length = N) : ∀ j, stX step eqv A x0 (N + j) = stX step eqv A x0 N
 | 0 => rfl
 | j + 1 => by
  have ih := xbv9 x0 h j
  rw [← Nat.add_assoc, zcm9 x0 (N + j) (by rw [ih]; omega), ih]
theorem qaz9 (x0 : X) {N M : Nat} (h : (stX step eqv A x0 N).1.length = N) (h2 : (stX step eqv A x0 M).1.length = M) : N = M := by
 rcases Nat.le_total N M with q|q
 ·have := xbv9 x0 h (M - N)
  rw [Nat.add_sub_cancel' q] at this
  rw [this] at h2; omega
 ·have := xbv9 x0 h2 (N - M)
  rw [Nat.add_sub_cancel' q] at this
  rw [this] at h; omega
end
section
variable {δ : Nat → Nat → Nat} {acc : Nat → Bool} {A : Nat}
def wbF9 (δ : Nat → Nat → Nat) (acc : Nat → Bool) (A : Nat) (e : Nat → Nat → Bool) : Prop :=
 ∀ v w, InA A v → InA A w → (e (runX δ 0 v) (runX δ 0 w) = true ↔ ∀ u, InA A u → acc (runX δ (runX δ 0 v) u) = acc (runX δ (runX δ 0 w) u))
def MinOf (δ : Nat → Nat → Nat) (acc : Nat → Bool) (A : Nat) (rows : List (List Nat)) (ac : List Bool) : Prop :=
 ∃ (e : Nat → Nat → Bool) (N : Nat), wbF9 δ acc A e ∧ (stX δ e A 0 N).1.length = N ∧ rows = (stX δ e A 0 N).2 ∧ ac = (stX δ e A 0 N).1.map acc
theorem qac9 {e1 e2 : Nat → Nat → Bool} (h1 : wbF9 δ acc A e1) (h2 : wbF9 δ acc A e2) (i : Nat) : stX δ e1 A 0 i = stX δ e2 A 0 i :=
 qay9 (fun v w hv hw => by rw [Bool.eq_iff_iff, h1 v w hv hw, h2 v w hv hw]) i
theorem MinOf.one {r r' : List (List Nat)} {a a' : List Bool} (h1 : MinOf δ acc A r a) (h2 : MinOf δ acc A r' a') : r = r' ∧ a = a' := by
 obtain ⟨e, N, q1, q2, rfl, rfl⟩ := h1
 obtain ⟨e', M, p1, p2, rfl, rfl⟩ := h2
 have hs := qac9 q1 p1
 have : N = M := by
  rw [hs N] at q2
  exact qaz9 0 q2 p2
 subst this
 rw [hs N]
 exact ⟨rfl, rfl⟩
theorem wbv9 (M : Nat) (hM : (stX δ eqX A 0 M).1.length = M) (k : Nat) (hn : cntK δ acc A (stX δ eqX A 0 M).1 k = cntK δ acc A (stX δ eqX A 0 M).1 (k + 1)) :
  MinOf δ acc A (xu0 δ A (clK δ acc A (stX δ eqX A 0 M).1 (k + 2)) (firsts (we0 δ acc A (stX δ eqX A 0 M).1 (k + 1)) (stX δ eqX A 0 M).1)) ((firsts (we0 δ acc A (stX δ eqX A 0 M).1 (k + 1)) (stX δ eqX A 0 M).1).map acc) := by
 obtain ⟨h1, h2⟩ := vcM9 M hM k hn
 refine ⟨we0 δ acc A (stX δ eqX A 0 M).1 (k + 1), cntK δ acc A (stX δ eqX A 0 M).1 (k + 1), ?_, ?_, h2.symm, by rw [h1]⟩
 ·intro v w hv hw
  exact vcm9 (wA0 M hM) k hn _ _ (wab9 M hM v 0 hv (zai9 M)) (wab9 M hM w 0 hw (zai9 M))
 ·rw [h1, ← xy0]
open Classical in
noncomputable def eqW (δ : Nat → Nat → Nat) (acc : Nat → Bool) (A : Nat) (s t : Nat) : Bool := decide (∀ u, InA A u → acc (runX δ s u) = acc (runX δ t u))
open Classical in
theorem wu0 (s t : Nat) : eqW δ acc A s t = true ↔ ∀ u, InA A u → acc (runX δ s u) = acc (runX δ t u) := by unfold eqW; rw [decide_eq_true_eq]
theorem zH0 (s : Nat) : eqW δ acc A s s = true := (wu0 s s).2 fun _ _ => rfl
theorem zaV9 {s t : Nat} (h : eqW δ acc A s t = true) : eqW δ acc A t s = true := (wu0 t s).2 fun u hu => ((wu0 s t).1 h u hu).symm
theorem zac9 {s t v : Nat} (h : eqW δ acc A s t = true) (h2 : eqW δ acc A t v = true) : eqW δ acc A s v = true := (wu0 s v).2 fun u hu => ((wu0 s t).1 h u hu).trans ((wu0 t v).1 h2 u hu)
theorem wcN9 {s t a : Nat} (h : eqW δ acc A s t = true) (ha : a < A) : eqW δ acc A (δ s a) (δ t a) = true := (wu0 _ _).2 fun u hu =>
 (wu0 s t).1 h (a :: u) fun b hb => by
  rcases List.mem_cons.1 hb with rfl|q
  ·exact ha
  ·exact hu b q
theorem wdn9 {s t : Nat} (h : eqW δ acc A s t = true) : acc s = acc t := (wu0 s t).1 h [] fun a ha => by cases ha
theorem xac9 : wbF9 δ acc A (eqW δ acc A) := fun _ _ _ _ => wu0 _ _
theorem vbF9 {X : Type} {e : X → X → Bool} {l : List X} (h : vaa9 e l) {i j : Nat} {x y : X} (hi : l[i]? = some x) (hj : l[j]? = some y) (hij : i < j) : e x y = false := by
 obtain ⟨h1, rfl⟩ := List.getElem?_eq_some_iff.1 hi
 obtain ⟨h2, rfl⟩ := List.getElem?_eq_some_iff.1 hj
 exact List.pairwise_iff_getElem.1 h i j h1 h2 hij
theorem vcN9 {rows : List (List Nat)} {ac : List Bool} (h : MinOf δ acc A rows ac) : MinOf (fun s a => (rows.getD s []).getD a 0) (fun s => ac.getD s false) A rows ac := by
 obtain ⟨e, N, q1, q2, q3, q4⟩ := h
 have hs := qac9 q1 (xac9 (δ := δ) (acc := acc) (A := A))
 rw [hs N] at q2 q3 q4
 clear q1 hs
 have hap := qy0 δ (eqW δ acc A) A 0 N
 have hz := zL0 (step := δ) (eqv := eqW δ acc A) (A := A) 0 N
 have hat := qbS9 (step := δ) (eqv := eqW δ acc A) (A := A) zH0 0 N (Nat.le_of_eq q2.symm)
 generalize hl : (stX δ (eqW δ acc A) A 0 N).1 = l at *
 rw [← q3] at hat
 let R : Nat → Nat → Prop := fun s x => ∃ y, l[s]? = some y ∧ eqW δ acc A y x = true
 have R0 : R 0 0 := ⟨0, hz, zH0 0⟩
 have Re : ∀ s x s' x', R s x → R s' x' → eqX s s' = eqW δ acc A x x' := by
  rintro s x s' x' ⟨y, hy, hyx⟩ ⟨y', hy', hyx'⟩
  rw [Bool.eq_iff_iff]
  constructor
  ·intro q
   have : s = s' := by simpa [eqX] using q
   subst this
   rw [hy] at hy'
   obtain rfl := Option.some.inj hy'
   exact zac9 (zaV9 hyx) hyx'
  ·intro q
   have hyy : eqW δ acc A y y' = true := zac9 (zac9 hyx q) (zaV9 hyx')
   rcases Nat.lt_trichotomy s s' with w|w|w
   ·rw [vbF9 hap hy hy' w] at hyy; cases hyy
   ·simp [eqX, w]
   ·have hyy2 := zaV9 hyy
    rw [vbF9 hap hy' hy w] at hyy2; cases hyy2
 have Rs : ∀ s x, R s x → ∀ a, a < A → R ((rows.getD s []).getD a 0) (δ x a) := by
  rintro s x ⟨y, hy, hyx⟩ a ha
  have hsN : s < N := by rw [← q2]; exact (List.getElem?_eq_some_iff.1 hy).1
  obtain ⟨y', hy', hrow⟩ := hat s hsN
  rw [hy] at hy'
  obtain rfl := Option.some.inj hy'
  obtain ⟨h1, h2⟩ := hrow a ha
  obtain ⟨z, hz1, hz2⟩ := wap9 h2
  exact ⟨z, by rw [h1]; exact hz1, zac9 hz2 (wcN9 hyx ha)⟩
 have Rrun : ∀ (w : List Nat) (s x : Nat), R s x → InA A w → R (runX (fun s a => (rows.getD s []).getD a 0) s w) (runX δ x w) := by
  intro w
  induction w with
  | nil => exact fun s x h _ => h
  | cons a w ih => exact fun s x h hw => ih _ _ (Rs s x h a (hw a List.mem_cons_self)) fun b hb => hw b (List.mem_cons_of_mem _ hb)
 have Racc : ∀ s x, R s x → ac.getD s false = acc x := by
  rintro s x ⟨y, hy, hyx⟩
  rw [q4, List.getD_eq_getElem?_getD, List.getElem?_map, hy]
  exact wdn9 hyx
 have key := qbg9 (s1 := fun s a => (rows.getD s []).getD a 0) (e1 := eqX) (s2 := δ) (e2 := eqW δ acc A) (A := A) (R := R) Re Rs R0 N
 refine ⟨eqX, N, ?_, ?_, ?_, ?_⟩
 ·intro v w hv hw
  have hv' := Rrun v 0 0 R0 hv
  have hw' := Rrun w 0 0 R0 hw
  rw [Re _ _ _ _ hv' hw', wu0]
  constructor
  ·intro h u hu
   exact (Racc _ _ (Rrun u _ _ hv' hu)).trans ((h u hu).trans (Racc _ _ (Rrun u _ _ hw' hu)).symm)
  ·intro h u hu
   exact (Racc _ _ (Rrun u _ _ hv' hu)).symm.trans ((h u hu).trans (Racc _ _ (Rrun u _ _ hw' hu)))
 ·rw [key.1.len, hl, q2]
 ·rw [key.2, q3]
 ·have hm : ∀ l m : List Nat, All2 R l m → l.map (fun s => ac.getD s false) = m.map acc := by
   intro l m q
   induction q with
   | nil => rfl
   | cons q _ ih => rw [List.map_cons, List.map_cons, Racc _ _ q, ih]
  rw [hm _ _ key.1, hl]; exact q4
theorem kcN9 (x : Nf) (hx : OkN x) (N : Nat) (h : qaU9 (revN x) A N) (rows : List (List Nat)) (hacc : ∀ w, InA A w → acc (runD rows 0 w) = wL0 x w) {r : List (List Nat)} {c : List Bool} (hm : MinOf (fun s a => (rows.getD s []).getD a 0) acc A r c) :
  ∃ M, (detS (zl0 x A N) A M).length = M ∧ r = detR (zl0 x A N) A M ∧ c = detA (zl0 x A N) A M := by
 obtain ⟨e, M, q1, q2, rfl, rfl⟩ := hm
 obtain ⟨h1, h2⟩ := brz x hx A N h rows acc e hacc q1 M
 refine ⟨M, ?_, h1, h2⟩
 have := congrArg List.length h2
 rw [List.length_map, List.length_map, q2] at this
 exact this.symm
end
end Go.Proofs
set_option linter.unusedVariables false
set_option linter.unusedSimpArgs false
namespace Go.Proofs
structure SameF (A : Nat) (x y : Nf) : Prop where
 n : x.n = y.n
 S : x.S = y.S
 F : x.F = y.F
 d : ∀ s a t, s < x.n → a < A → t < x.n → x.d s a t = y.d s a t
theorem SameF.refl (A : Nat) (x : Nf) : SameF A x x := ⟨rfl, rfl, rfl, fun _ _ _ _ _ _ => rfl⟩
theorem SameF.trans {A : Nat} {x y z : Nf} (h : SameF A x y) (h2 : SameF A y z) : SameF A x z :=
 ⟨h.n.trans h2.n, h.S.trans h2.S, h.F.trans h2.F, fun s a t hs ha ht => (h.d s a t hs ha ht).trans (h2.d s a t (h.n ▸ hs) ha (h.n ▸ ht))⟩
theorem SameF.symm {A : Nat} {x y : Nf} (h : SameF A x y) : SameF A y x :=
 ⟨h.n.symm, h.S.symm, h.F.symm, fun s a t hs ha ht => (h.d s a t (h.n ▸ hs) ha (h.n ▸ ht)).symm⟩
theorem SameF.rev {A : Nat} {x y : Nf} (h : SameF A x y) : SameF A (revN x) (revN y) :=
 ⟨h.n, h.F, h.S, fun s a t hs ha ht => h.d t a s ht ha hs⟩
theorem SameF.step {A : Nat} {x y : Nf} (h : SameF A x y) {S : List Nat} (hS : ∀ s ∈ S, s < x.n) {a : Nat} (ha : a < A) : stepN x S a = stepN y S a := by
 unfold stepN
 rw [← h.n]
 refine List.filter_congr fun t ht => ?_
 rw [List.mem_range] at ht
 rw [Bool.eq_iff_iff, List.any_eq_true, List.any_eq_true]
 constructor
 ·rintro ⟨s, hs, q⟩; exact ⟨s, hs, by rw [← h.d s a t (hS s hs) ha ht]; exact q⟩
 ·rintro ⟨s, hs, q⟩; exact ⟨s, hs, by rw [h.d s a t (hS s hs) ha ht]; exact q⟩
theorem SameF.det {A : Nat} {x y : Nf} (h : SameF A x y) (hS : ∀ s ∈ x.S, s < x.n) (i : Nat) : stX (stepN x) eqL A x.S i = stX (stepN y) eqL A y.S i := by
 have key := qbg9 (s1 := stepN x) (e1 := eqL) (s2 := stepN y) (e2 := eqL) (A := A) (R := fun S T => S = T ∧ ∀ s ∈ S, s < x.n) (by
  rintro S _ S' _ ⟨rfl, _⟩ ⟨rfl, _⟩; rfl) (by
  rintro S _ ⟨rfl, hS⟩ a ha
  exact ⟨h.step hS ha, fun t ht => ((xL0 x S a t).1 ht).1⟩) (x0 := x.S) (y0 := y.S) ⟨h.S, hS⟩ i
 have hl : ∀ l m : List (List Nat), All2 (fun S T => S = T ∧ ∀ s ∈ S, s < x.n) l m → l = m := by
  intro l m q
  induction q with
  | nil => rfl
  | cons q _ ih => rw [q.1, ih]
 exact Prod.ext (hl _ _ key.1) key.2
theorem SameF.acc {A : Nat} {x y : Nf} (h : SameF A x y) : accN x = accN y := by
 funext S; unfold accN; rw [h.F]
theorem SameF.run {A : Nat} {x y : Nf} (h : SameF A x y) : ∀ (w S : List Nat), InA A w → (∀ s ∈ S, s < x.n) → runX (stepN x) S w = runX (stepN y) S w
 | [], _, _, _ => rfl
 | a :: w, S, hw, hS => by
  have e := h.step hS (hw a List.mem_cons_self)
  show runX (stepN x) (stepN x S a) w = runX (stepN y) (stepN y S a) w
  rw [← e]
  exact SameF.run h w _ (fun b hb => hw b (List.mem_cons_of_mem _ hb)) (fun t ht => ((xL0 x S a t).1 ht).1)
theorem SameF.detEq {A : Nat} {x y : Nf} (h : SameF A x y) (hS : ∀ s ∈ x.S, s < x.n) (N : Nat) : detR x A N = detR y A N ∧ detA x A N = detA y A N ∧ detS x A N = detS y A N := by
 unfold detR detA detS
 rw [h.det hS N, h.acc]
 exact ⟨rfl, rfl, rfl⟩
theorem vbT9 {A : Nat} (x : Nf) (hx : OkN x) (N : Nat) (h : qaU9 (revN x) A N) (rows : List (List Nat)) (acc : Nat → Bool) (n : Nat) (hn : 0 < n) (hδ : ∀ s, s < n → ∀ a, a < A → (rows.getD s []).getD a 0 < n) (hacc : ∀ w, InA A w → acc (runD rows 0 w) = wL0 x w) (i : Nat) :
  (stX (stepN (zl0 x A N)) eqL A (zl0 x A N).S i).1.length ≤ n := by
 obtain ⟨_, h2⟩ := brz x hx A N h rows acc (eqW (fun s a => (rows.getD s []).getD a 0) acc A) hacc xac9 i
 have := congrArg List.length h2
 rw [List.length_map, List.length_map] at this
 rw [← this]
 refine xG0 (eqv := eqW (fun s a => (rows.getD s []).getD a 0) acc A) id n _ ?_ (fun s _ t _ e => by
  have : s = t := e
  subst this; exact zH0 s) (qy0 _ _ A 0 i)
 exact qL0 (fun s a => (rows.getD s []).getD a 0) (eqW (fun s a => (rows.getD s []).getD a 0) acc A) A (P := fun s => s < n) 0 hn (fun s hs a ha => hδ s hs a ha) i
end Go.Proofs
