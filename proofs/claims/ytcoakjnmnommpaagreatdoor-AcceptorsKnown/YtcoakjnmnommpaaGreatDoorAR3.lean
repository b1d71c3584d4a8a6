import Derived.Test.YtcoakjnmnommpaaGreatDoorAQ1
import Derived.Test.YtcoakjnmnommpaaGreatDoorAP8
import Derived.Laws.Entries
namespace Go.Proofs
open Go
set_option linter.unusedSimpArgs false
set_option linter.unusedVariables false
theorem zam9 (n : Nat) (h : n < 2 ^ 64) : IntKind.u64.wrap (n : Int) = n := by
 have : (n : Int) < 18446744073709551616 := by
  have h2 : n < 18446744073709551616 := h;omega
 simp only [IntKind.wrap, IntKind.signed, IntKind.bits];simp;omega
theorem xV0 (a b : Nat) (ha : a < 2 ^ 64) (hb : b < 2 ^ 64) : bits .or .u64 (a : Int) (b : Int) = ((a ||| b : Nat) : Int) := by
 unfold bits;simp only [show IntKind.u64.bits = 64 from rfl, BitVec.ofInt_natCast, BitVec.toNat_or, BitVec.toNat_ofNat, l'U ha, l'U hb];exact zam9 _ (z'C ha hb)
theorem qas9 (a b : Nat) (ha : a < 2 ^ 64) (hb : b < 2 ^ 64) : bits .and .u64 (a : Int) (b : Int) = ((a &&& b : Nat) : Int) := by
 unfold bits;simp only [show IntKind.u64.bits = 64 from rfl, BitVec.ofInt_natCast, BitVec.toNat_and, BitVec.toNat_ofNat, l'U ha, l'U hb];exact zam9 _ (Nat.and_lt_two_pow _ hb)
theorem zcH9 (a j : Nat) (hj : j < 64) : (BitVec.ofNat 64 a)[j] = a.testBit j := by
 rw [← BitVec.getLsbD_eq_getElem hj, BitVec.getLsbD_ofNat, decide_eq_true hj, n'o]
theorem zaa9 (a b : Nat) (ha : a < 2 ^ 64) (hb : b < 2 ^ 64) : bits .andNot .u64 (a : Int) (b : Int) = 0 ↔ a &&& b = a := by
 have e : bits .andNot .u64 (a : Int) (b : Int) = IntKind.u64.wrap (((BitVec.ofNat 64 a &&& ~~~BitVec.ofNat 64 b).toNat : Nat) : Int) := by
  unfold bits;simp only [BitVec.ofInt_natCast];rfl
 rw [e, zam9 _ (BitVec.isLt _)];constructor
 ·intro h;have h0 : BitVec.ofNat 64 a &&& ~~~BitVec.ofNat 64 b = 0 := BitVec.eq_of_toNat_eq (by simpa using h);apply n'R;intro j;rw [z'y];by_cases hj : j < 64
  ·have := congrArg (fun x => x.getLsbD j) h0;simp [BitVec.getLsbD_and, BitVec.getLsbD_not, BitVec.getLsbD_ofNat, hj] at this;rw [zcH9 a j hj, zcH9 b j hj] at this;cases q : a.testBit j with
   | false => rfl
   | true => simp [this q]
  ·rw [n'g (n'v ha (n'z (by decide) (by omega)))]; rfl
 ·intro h;have h0 : BitVec.ofNat 64 a &&& ~~~BitVec.ofNat 64 b = 0 := by
   apply BitVec.eq_of_getLsbD_eq;intro j hj;simp [BitVec.getLsbD_and, BitVec.getLsbD_not, BitVec.getLsbD_ofNat, hj];intro q;have := congrArg (fun x => x.testBit j) h;simp [q] at this;rw [zcH9 _ j hj] at q ⊢;exact this q
  rw [h0]; rfl
theorem zeB9 (k : Nat) (h : k < 64) : IntKind.u64.wrap (1 * 2 ^ (min ((k : Int).toNat) 64)) = ((2 ^ k : Nat) : Int) := by
 have : min ((k : Int).toNat) 64 = k := by omega
 rw [this, Int.one_mul];have := zam9 (2 ^ k) (z'n (by decide) h);rw [← this];congr 1
end Go.Proofs
set_option linter.unusedVariables false
set_option linter.unusedSimpArgs false
namespace Go.Proofs
def inL (l : List Int) (n : Nat) : Bool := l.contains (n : Int)
def lst (rows : List (List (List Int))) (s a : Nat) : List Int := (rows.getD s []).getD a []
def zbx9 (rows : List (List (List Int))) (p : Nat → Bool) (a : Nat) (t : Nat) : Bool := (elemsP p).any fun s => inL (lst rows s a) t
structure SetIs (n : Nat) (p : Nat → Bool) (S : List Nat) : Prop where
 mem : ∀ t, t < 256 → (p t = true ↔ t ∈ S)
 filt : FiltF n S
theorem SetIs.elems {n : Nat} {p : Nat → Bool} {S : List Nat} (h : SetIs n p S) (hn : n ≤ 256) : elemsP p = S := by
 obtain ⟨q, hq⟩ := h.filt;have hS : S = (List.range 256).filter fun t => decide (t < n) && q t := by
  rw [hq];obtain ⟨d, hd⟩ : ∃ d, 256 = n + d := ⟨256 - n, by omega⟩;rw [hd, List.range_add, n'w];have e1 : (List.range n).filter (fun t => decide (t < n) && q t) = (List.range n).filter q := n'u fun t ht => by simp [l'o.1 ht]
  have e2 : ((List.range d).map (n + ·)).filter (fun t => decide (t < n) && q t) = [] := by
   rw [n'M];intro t ht;obtain ⟨j, _, rfl⟩ := l'B.1 ht;rw [decide_eq_false (by omega), z'F]; decide
  rw [e1, e2, l'R]
 rw [elemsP, hS];refine n'u fun t ht => ?_;have ht := l'o.1 ht;have h1 := h.mem t ht;rw [hS, l'T, l'o] at h1;rw [l'u, h1];exact ⟨fun q => q.2, fun q => ⟨ht, q⟩⟩
theorem SetIs.lt {n : Nat} {p : Nat → Bool} {S : List Nat} (h : SetIs n p S) {s : Nat} (hs : s ∈ S) : s < n := h.filt.lt hs
theorem xaK9 {l : List Int} {n : Nat} (h : zf0 l n = true) : SetIs n (inL l) (natL l) := by
 refine ⟨fun t _ => ?_, ?_⟩
 ·rw [inL, l'h, natL, l'B];constructor
  ·exact fun q => ⟨_, q, Int.toNat_natCast t⟩
  ·rintro ⟨x, hx, rfl⟩;have := qf0 h x hx
   rwa [show ((x.toNat : Nat) : Int) = x by omega]
 ·exact ⟨_, kU0 h⟩
theorem xbV9 {A : Nat} {rows : List (List (List Int))} {st ac : List Int} (h : OkNv A rows st ac) {p : Nat → Bool} {S : List Nat} (hp : SetIs rows.length p S) {a : Nat} (ha : a < A) : SetIs rows.length (zbx9 rows p a) (stepN (nfOf rows st ac) S a) := by
 refine ⟨fun t ht => ?_, ⟨_, rfl⟩⟩;rw [zbx9, hp.elems h.n, vU0, l'y];constructor
 ·rintro ⟨s, hs, hd⟩;refine ⟨?_, s, hs, hd⟩;have := qf0 (h.ri s a (hp.lt hs) ha) _ (l'h.1 hd);show t < rows.length;omega
 ·rintro ⟨_, s, hs, hd⟩;exact ⟨s, hs, hd⟩
theorem xbx9 {n : Nat} {p q : Nat → Bool} {S T : List Nat} (hp : SetIs n p S) (hq : SetIs n q T) (hn : n ≤ 256) : ((List.range 256).any fun t => p t && q t) = S.any fun s => T.contains s := by
 rw [l'u, l'y, l'y];constructor
 ·rintro ⟨t, ht, h⟩;have ht := l'o.1 ht;rw [l'a] at h;exact ⟨t, (hp.mem t ht).1 h.1, l'h.2 ((hq.mem t ht).1 h.2)⟩
 ·rintro ⟨s, hs, h⟩;have hl := hp.lt hs;exact ⟨s, l'o.2 (by omega), by rw [l'a]; exact ⟨(hp.mem s (by omega)).2 hs, (hq.mem s (by omega)).2 (l'h.1 h)⟩⟩
theorem xcl9 {n : Nat} {p q : Nat → Bool} {S T : List Nat} (hp : SetIs n p S) (hq : SetIs n q T) (hn : n ≤ 256) : (∀ i, i < 4 → wP p i = wP q i) ↔ S = T := by
 constructor
 ·intro h;have := vei9 h;rw [← hp.elems hn, ← hq.elems hn];exact n'u fun t ht => this t (l'o.1 ht)
 ·rintro rfl i _;exact qaY9 (fun t ht => by rw [l'u, hp.mem t ht, hq.mem t ht]) i
theorem zaY9 (e : Nat → Nat → Bool) : ∀ (r l : List Nat), (r.foldl (addX e) l).length ≤ l.length + r.length
 | [], l => by simp
 | x :: r, l => by
  have h := zaY9 e r (addX e l x);have h2 : (addX e l x).length ≤ l.length + 1 := by unfold addX; split <;> simp
  rw [List.foldl_cons, List.length_cons]; omega
theorem wbx9 {e1 e2 : Nat → Nat → Bool} (order : List Nat) (h : ∀ x ∈ order, ∀ y ∈ order, e1 x y = e2 x y) : firsts e1 order = firsts e2 order := by
 have key : ∀ (r l : List Nat), (∀ x ∈ r, x ∈ order) → (∀ x ∈ l, x ∈ order) → r.foldl (addX e1) l = r.foldl (addX e2) l := by
  intro r;induction r with
  | nil => intro l _ _; rfl
  | cons z r ih =>
   intro l h1 h2;have hz := h1 z l'n;have hfx : findX e1 l z = findX e2 l z := by
    unfold findX;clear ih;induction l with
    | nil => rfl
    | cons w l ih => rw [l'P, l'P, ih fun x hx => h2 x (l'g _ hx), h w (h2 w l'n) z hz]
   have hadd : addX e1 l z = addX e2 l z := by unfold addX; rw [hfx]
   rw [List.foldl_cons, List.foldl_cons, hadd];refine ih _ (fun x hx => h1 x (l'g _ hx)) fun x hx => ?_;unfold addX at hx;split at hx
   ·rcases l'D.1 hx with q|q
    ·exact h2 x q
    ·simp only [l'N] at q; subst q; exact hz
   ·exact h2 x hx
 exact key order [] (fun x hx => hx) (fun x hx => by cases hx)
section
variable {δ : Nat → Nat → Nat} {acc : Nat → Bool} {A : Nat} {order : List Nat}
theorem xcH9 (k : Nat) : cntK δ acc A order k ≤ cntK δ acc A order (k + 1) := by
 rw [vz0, vz0];have hf : firsts (vf0 δ acc A order (k + 1)) order = firsts (fun x y => vf0 δ acc A order (k + 1) x y && vf0 δ acc A order k x y) order := wbx9 order fun x hx y hy => by
  cases q : vf0 δ acc A order (k + 1) x y
  ·rfl
  ·have q1 := ((zK0 _ _ _).1 ((wm0 _ _ _).1 q)).1;rw [zP0 k x y hx hy] at q1;rw [q1]; rfl
 rw [hf];have := qP0 (e1 := vf0 δ acc A order k) (e2 := fun x y => vf0 δ acc A order (k + 1) x y && vf0 δ acc A order k x y) (qn0 k) (zo0 k) (fun x y h => by rw [l'a] at h; exact h.2) order order.length (l'f _);rw [l'x] at this;exact this.length_le
theorem wbi9 (k : Nat) : cntK δ acc A order k ≤ order.length := by
 rw [vz0];have := zaY9 (vf0 δ acc A order k) order [];simpa [firsts] using this
theorem vbi9 (k : Nat) (h : order ≠ []) : 1 ≤ cntK δ acc A order k := by
 rw [vz0];obtain ⟨x, l, e⟩ := l'K h;obtain ⟨y, hy, _⟩ := kt0 (e := vf0 δ acc A order k) (qn0 k) (l := order) (x := x) (by rw [e]; exact l'n);exact List.length_pos_iff.2 fun q => by rw [q] at hy; cases hy
theorem waK9 (h : order ≠ []) : ∃ k, k ≤ order.length ∧ cntK δ acc A order k = cntK δ acc A order (k + 1) ∧ ∀ j, j < k → cntK δ acc A order j < cntK δ acc A order (j + 1) := by
 have key : ∀ m, (∃ k, k < m ∧ cntK δ acc A order k = cntK δ acc A order (k + 1) ∧ ∀ j, j < k → cntK δ acc A order j < cntK δ acc A order (j + 1)) ∨ (∀ j, j < m → cntK δ acc A order j < cntK δ acc A order (j + 1)) := by
  intro m;induction m with
  | zero => right; intro j hj; omega
  | succ m ih =>
   rcases ih with ⟨k, h1, h2⟩|h1
   ·left; exact ⟨k, by omega, h2⟩
   ·rcases l'i (cntK δ acc A order m) (cntK δ acc A order (m + 1)) with q|q
    ·right
     intro j hj;rcases l'i j m with w|w
     ·exact h1 j w
     ·obtain rfl : j = m := by omega
      exact q
    ·left
     exact ⟨m, by omega, Nat.le_antisymm (xcH9 m) q, h1⟩
 rcases key (order.length + 1) with ⟨k, h1, h2⟩|h1
 ·exact ⟨k, by omega, h2⟩
 ·exfalso;have grow : ∀ m, m ≤ order.length + 1 → m + 1 ≤ cntK δ acc A order m := by
   intro m;induction m with
   | zero => intro _; exact vbi9 0 h
   | succ m ih =>
    intro hm;have := ih (by omega);have := h1 m (by omega);omega
  have g := grow (order.length + 1) (l'f _);have := wbi9 (δ := δ) (acc := acc) (A := A) (order := order) (order.length + 1);omega
end
section
variable {e : Nat → Nat → Bool}
theorem vbx9 (order : List Nat) (k : Nat) (hk : k < order.length) : ∃ t, firsts e order = addX e (firsts e (order.take k)) order[k] ++ t := by
 obtain ⟨t, h⟩ := vZ0 (e := e) (order.take k ++ [order[k]]) (order.drop (k + 1));refine ⟨t, ?_⟩;rw [← qo0, ← h];congr 1
 rw [← n'b hk, l'Q]
theorem wcH9 (hr : ∀ x, e x x = true) (order : List Nat) (k : Nat) (hk : k < order.length) (h : ¬ ∃ y ∈ firsts e (order.take k), e y order[k] = true) :
  findX e (firsts e order) order[k] = (firsts e (order.take k)).length ∧ firsts e (order.take (k + 1)) = firsts e (order.take k) ++ [order[k]] := by
 obtain ⟨t, ht⟩ := vbx9 (e := e) order k hk;have h1 : ¬ findX e (firsts e (order.take k)) order[k] < (firsts e (order.take k)).length := fun q => h (find_lt.1 q);have h2 := qaJ9 (eqv := e) (firsts e (order.take k)) order[k];have h3 := vbv9 (eqv := e) (firsts e (order.take k)) order[k] (hr _) (by omega);rw [ht, wD0 h];refine ⟨?_, by rw [n'b hk, qo0, wD0 h]⟩;rw [wZ0 t (by rw [h3]; simp), h3]
theorem vcH9 (order : List Nat) (k : Nat) (hk : k < order.length) (h : ∃ y ∈ firsts e (order.take k), e y order[k] = true) :
  findX e (firsts e order) order[k] = findX e (firsts e (order.take k)) order[k] ∧ findX e (firsts e (order.take k)) order[k] < (firsts e (order.take k)).length ∧ firsts e (order.take (k + 1)) = firsts e (order.take k) := by
 obtain ⟨t, ht⟩ := vbx9 (e := e) order k hk;have h1 := find_lt.2 h;rw [ht, val9 h];refine ⟨wZ0 t h1, h1, by rw [n'b hk, qo0, val9 h]⟩
end
section
variable {X : Type} {step : X → Nat → X} {eqv : X → X → Bool} {A : Nat}
theorem kbi9 (x0 : X) {N : Nat} (h : (stX step eqv A x0 N).1.length = N) : ∀ j, stX step eqv A x0 (N + j) = stX step eqv A x0 N
 | 0 => rfl
 | j + 1 => by
  have ih := kbi9 x0 h j;rw [← l'V, xcF9 x0 (N + j) (by rw [ih]; omega), ih]
theorem kbx9 (x0 : X) {N M : Nat} (h : (stX step eqv A x0 N).1.length = N) (h2 : (stX step eqv A x0 M).1.length = M) : N = M := by
 rcases Nat.le_total N M with q|q
 ·have := kbi9 x0 h (M - N);rw [n'L q] at this;rw [this] at h2; omega
 ·have := kbi9 x0 h2 (N - M);rw [n'L q] at this;rw [this] at h; omega
end
section
variable {δ : Nat → Nat → Nat} {acc : Nat → Bool} {A : Nat}
def vaK9 (δ : Nat → Nat → Nat) (acc : Nat → Bool) (A : Nat) (e : Nat → Nat → Bool) : Prop :=
 ∀ v w, InA A v → InA A w → (e (runX δ 0 v) (runX δ 0 w) = true ↔ ∀ u, InA A u → acc (runX δ (runX δ 0 v) u) = acc (runX δ (runX δ 0 w) u))
def MinOf (δ : Nat → Nat → Nat) (acc : Nat → Bool) (A : Nat) (rows : List (List Nat)) (ac : List Bool) : Prop :=
 ∃ (e : Nat → Nat → Bool) (N : Nat), vaK9 δ acc A e ∧ (stX δ e A 0 N).1.length = N ∧ rows = (stX δ e A 0 N).2 ∧ ac = (stX δ e A 0 N).1.map acc
theorem xam9 {e1 e2 : Nat → Nat → Bool} (h1 : vaK9 δ acc A e1) (h2 : vaK9 δ acc A e2) (i : Nat) : stX δ e1 A 0 i = stX δ e2 A 0 i :=
 xaJ9 (fun v w hv hw => by rw [l'u, h1 v w hv hw, h2 v w hv hw]) i
theorem MinOf.one {r r' : List (List Nat)} {a a' : List Bool} (h1 : MinOf δ acc A r a) (h2 : MinOf δ acc A r' a') : r = r' ∧ a = a' := by
 obtain ⟨e, N, q1, q2, rfl, rfl⟩ := h1;obtain ⟨e', M, p1, p2, rfl, rfl⟩ := h2;have hs := xam9 q1 p1;have : N = M := by
  rw [hs N] at q2;exact kbx9 0 q2 p2
 subst this;rw [hs N];exact ⟨rfl, rfl⟩
theorem kaK9 (M : Nat) (hM : (stX δ eqX A 0 M).1.length = M) (k : Nat) (hn : cntK δ acc A (stX δ eqX A 0 M).1 k = cntK δ acc A (stX δ eqX A 0 M).1 (k + 1)) :
  MinOf δ acc A (wr0 δ A (clK δ acc A (stX δ eqX A 0 M).1 (k + 2)) (firsts (vf0 δ acc A (stX δ eqX A 0 M).1 (k + 1)) (stX δ eqX A 0 M).1)) ((firsts (vf0 δ acc A (stX δ eqX A 0 M).1 (k + 1)) (stX δ eqX A 0 M).1).map acc) := by
 obtain ⟨h1, h2⟩ := xdk9 M hM k hn;refine ⟨vf0 δ acc A (stX δ eqX A 0 M).1 (k + 1), cntK δ acc A (stX δ eqX A 0 M).1 (k + 1), ?_, ?_, h2.symm, by rw [h1]⟩
 ·intro v w hv hw;exact kcF9 (wG0 M hM) k hn _ _ (qam9 M hM v 0 hv (war9 M)) (qam9 M hM w 0 hw (war9 M))
 ·rw [h1, ← vz0]
theorem run_in {n : Nat} (hδ : ∀ s, s < n → ∀ a, a < A → δ s a < n) : ∀ (w : List Nat) (s : Nat), InA A w → s < n → runX δ s w < n
 | [], _, _, h => h
 | a :: w, s, hw, h => run_in hδ w (δ s a) (fun b hb => hw b (l'g _ hb)) (hδ s h a (hw a l'n))
open Classical in
noncomputable def eqW (δ : Nat → Nat → Nat) (acc : Nat → Bool) (A : Nat) (s t : Nat) : Bool := decide (∀ u, InA A u → acc (runX δ s u) = acc (runX δ t u))
open Classical in
theorem kD0 (s t : Nat) : eqW δ acc A s t = true ↔ ∀ u, InA A u → acc (runX δ s u) = acc (runX δ t u) := by unfold eqW; rw [decide_eq_true_eq]
theorem kaz9 (s : Nat) : eqW δ acc A s s = true := (kD0 s s).2 fun _ _ => rfl
theorem qbj9 {s t : Nat} (h : eqW δ acc A s t = true) : eqW δ acc A t s = true := (kD0 t s).2 fun u hu => ((kD0 s t).1 h u hu).symm
theorem wam9 {s t v : Nat} (h : eqW δ acc A s t = true) (h2 : eqW δ acc A t v = true) : eqW δ acc A s v = true := (kD0 s v).2 fun u hu => ((kD0 s t).1 h u hu).trans ((kD0 t v).1 h2 u hu)
theorem qdl9 {s t a : Nat} (h : eqW δ acc A s t = true) (ha : a < A) : eqW δ acc A (δ s a) (δ t a) = true := (kD0 _ _).2 fun u hu =>
 (kD0 s t).1 h (a :: u) fun b hb => by
  rcases l'C.1 hb with rfl|q
  ·exact ha
  ·exact hu b q
theorem vdO9 {s t : Nat} (h : eqW δ acc A s t = true) : acc s = acc t := (kD0 s t).1 h [] fun a ha => by cases ha
theorem zbj9 : vaK9 δ acc A (eqW δ acc A) := fun _ _ _ _ => kD0 _ _
theorem wbV9 {X : Type} {e : X → X → Bool} {l : List X} (h : wal9 e l) {i j : Nat} {x y : X} (hi : l[i]? = some x) (hj : l[j]? = some y) (hij : i < j) : e x y = false := by
 obtain ⟨h1, rfl⟩ := l'c.1 hi;obtain ⟨h2, rfl⟩ := l'c.1 hj;exact n'D.1 h i j h1 h2 hij
theorem zdl9 {rows : List (List Nat)} {ac : List Bool} (h : MinOf δ acc A rows ac) : MinOf (fun s a => (rows.getD s []).getD a 0) (fun s => ac.getD s false) A rows ac := by
 obtain ⟨e, N, q1, q2, q3, q4⟩ := h;have hs := xam9 q1 (zbj9 (δ := δ) (acc := acc) (A := A));rw [hs N] at q2 q3 q4;clear q1 hs;have hap := qK0 δ (eqW δ acc A) A 0 N;have hz := wO0 (step := δ) (eqv := eqW δ acc A) (A := A) 0 N;have hat := vcj9 (step := δ) (eqv := eqW δ acc A) (A := A) kaz9 0 N (n'P q2.symm);generalize hl : (stX δ (eqW δ acc A) A 0 N).1 = l at *;rw [← q3] at hat
 let R : Nat → Nat → Prop := fun s x => ∃ y, l[s]? = some y ∧ eqW δ acc A y x = true
 have R0 : R 0 0 := ⟨0, hz, kaz9 0⟩;have Re : ∀ s x s' x', R s x → R s' x' → eqX s s' = eqW δ acc A x x' := by
  rintro s x s' x' ⟨y, hy, hyx⟩ ⟨y', hy', hyx'⟩;rw [l'u];constructor
  ·intro q;have : s = s' := by simpa [eqX] using q
   subst this;rw [hy] at hy';obtain rfl := Option.some.inj hy';exact wam9 (qbj9 hyx) hyx'
  ·intro q;have hyy : eqW δ acc A y y' = true := wam9 (wam9 hyx q) (qbj9 hyx');rcases Nat.lt_trichotomy s s' with w|w|w
   ·rw [wbV9 hap hy hy' w] at hyy; cases hyy
   ·simp [eqX, w]
   ·have hyy2 := qbj9 hyy;rw [wbV9 hap hy' hy w] at hyy2; cases hyy2
 have Rs : ∀ s x, R s x → ∀ a, a < A → R ((rows.getD s []).getD a 0) (δ x a) := by
  rintro s x ⟨y, hy, hyx⟩ a ha;have hsN : s < N := by rw [← q2]; exact (l'c.1 hy).1
  obtain ⟨y', hy', hrow⟩ := hat s hsN;rw [hy] at hy';obtain rfl := Option.some.inj hy';obtain ⟨h1, h2⟩ := hrow a ha;obtain ⟨z, hz1, hz2⟩ := xaz9 h2;exact ⟨z, by rw [h1]; exact hz1, wam9 hz2 (qdl9 hyx ha)⟩
 have Rrun : ∀ (w : List Nat) (s x : Nat), R s x → InA A w → R (runX (fun s a => (rows.getD s []).getD a 0) s w) (runX δ x w) := by
  intro w;induction w with
  | nil => exact fun s x h _ => h
  | cons a w ih => exact fun s x h hw => ih _ _ (Rs s x h a (hw a l'n)) fun b hb => hw b (l'g _ hb)
 have Racc : ∀ s x, R s x → ac.getD s false = acc x := by
  rintro s x ⟨y, hy, hyx⟩;rw [q4, l'b, l'p, hy];exact vdO9 hyx
 have key := qbU9 (s1 := fun s a => (rows.getD s []).getD a 0) (e1 := eqX) (s2 := δ) (e2 := eqW δ acc A) (A := A) (R := R) Re Rs R0 N;refine ⟨eqX, N, ?_, ?_, ?_, ?_⟩
 ·intro v w hv hw;have hv' := Rrun v 0 0 R0 hv;have hw' := Rrun w 0 0 R0 hw;rw [Re _ _ _ _ hv' hw', kD0];constructor
  ·intro h u hu;exact (Racc _ _ (Rrun u _ _ hv' hu)).trans ((h u hu).trans (Racc _ _ (Rrun u _ _ hw' hu)).symm)
  ·intro h u hu;exact (Racc _ _ (Rrun u _ _ hv' hu)).symm.trans ((h u hu).trans (Racc _ _ (Rrun u _ _ hw' hu)))
 ·rw [key.1.len, hl, q2]
 ·rw [key.2, q3]
 ·have hm : ∀ l m : List Nat, All2 R l m → l.map (fun s => ac.getD s false) = m.map acc := by
   intro l m q;induction q with
   | nil => rfl
   | cons q _ ih => rw [List.map_cons, List.map_cons, Racc _ _ q, ih]
  rw [hm _ _ key.1, hl]; exact q4
end
structure SameF (A : Nat) (x y : Nf) : Prop where
 n : x.n = y.n
 S : x.S = y.S
 F : x.F = y.F
 d : ∀ s a t, s < x.n → a < A → t < x.n → x.d s a t = y.d s a t
theorem SameF.refl (A : Nat) (x : Nf) : SameF A x x := ⟨rfl, rfl, rfl, fun _ _ _ _ _ _ => rfl⟩
theorem SameF.trans {A : Nat} {x y z : Nf} (h : SameF A x y) (h2 : SameF A y z) : SameF A x z :=
 ⟨h.n.trans h2.n, h.S.trans h2.S, h.F.trans h2.F, fun s a t hs ha ht => (h.d s a t hs ha ht).trans (h2.d s a t (h.n ▸ hs) ha (h.n ▸ ht))⟩
theorem SameF.symm {A : Nat} {x y : Nf} (h : SameF A x y) : SameF A y x :=
 ⟨h.n.symm, h.S.symm, h.F.symm, fun s a t hs ha ht => (h.d s a t (h.n ▸ hs) ha (h.n ▸ ht)).symm⟩
theorem SameF.rev {A : Nat} {x y : Nf} (h : SameF A x y) : SameF A (revN x) (revN y) :=
 ⟨h.n, h.F, h.S, fun s a t hs ha ht => h.d t a s ht ha hs⟩
theorem SameF.step {A : Nat} {x y : Nf} (h : SameF A x y) {S : List Nat} (hS : ∀ s ∈ S, s < x.n) {a : Nat} (ha : a < A) : stepN x S a = stepN y S a := by
 unfold stepN;rw [← h.n];refine n'u fun t ht => ?_;rw [l'o] at ht;rw [l'u, l'y, l'y];constructor
 ·rintro ⟨s, hs, q⟩; exact ⟨s, hs, by rw [← h.d s a t (hS s hs) ha ht]; exact q⟩
 ·rintro ⟨s, hs, q⟩; exact ⟨s, hs, by rw [h.d s a t (hS s hs) ha ht]; exact q⟩
theorem SameF.acc {A : Nat} {x y : Nf} (h : SameF A x y) : accN x = accN y := by
 funext S; unfold accN; rw [h.F]
theorem SameF.run {A : Nat} {x y : Nf} (h : SameF A x y) : ∀ (w S : List Nat), InA A w → (∀ s ∈ S, s < x.n) → runX (stepN x) S w = runX (stepN y) S w
 | [], _, _, _ => rfl
 | a :: w, S, hw, hS => by
  have e := h.step hS (hw a l'n);show runX (stepN x) (stepN x S a) w = runX (stepN y) (stepN y S a) w;rw [← e];exact SameF.run h w _ (fun b hb => hw b (l'g _ hb)) (fun t ht => ((vU0 x S a t).1 ht).1)
end Go.Proofs
