import Derived.Test.YtcoakjnmnommpaaGreatDoorAQ1
import Derived.Test.YtcoakjnmnommpaaGreatDoorAP8
import Derived.Laws.Entries
namespace Go.Proofs
set_option linter.unusedSimpArgs false
set_option linter.unusedVariables false
open Go
theorem xQ0 (n : Nat) (h : n < 2 ^ 64) : IntKind.u64.wrap (n : Int) = n := by
 have : (n : Int) < 18446744073709551616 := by
  have h2 : n < 18446744073709551616 := h
  omega
 simp only [IntKind.wrap, IntKind.signed, IntKind.bits]
 simp
 omega
theorem kM0 (a b : Nat) (ha : a < 2 ^ 64) (hb : b < 2 ^ 64) : bits .or .u64 (a : Int) (b : Int) = ((a ||| b : Nat) : Int) := by
 unfold bits
 simp only [show IntKind.u64.bits = 64 from rfl, BitVec.ofInt_natCast, BitVec.toNat_or, BitVec.toNat_ofNat, Nat.mod_eq_of_lt ha, Nat.mod_eq_of_lt hb]
 exact xQ0 _ (Nat.or_lt_two_pow ha hb)
theorem wai9 (a b : Nat) (ha : a < 2 ^ 64) (hb : b < 2 ^ 64) : bits .and .u64 (a : Int) (b : Int) = ((a &&& b : Nat) : Int) := by
 unfold bits
 simp only [show IntKind.u64.bits = 64 from rfl, BitVec.ofInt_natCast, BitVec.toNat_and, BitVec.toNat_ofNat, Nat.mod_eq_of_lt ha, Nat.mod_eq_of_lt hb]
 exact xQ0 _ (Nat.and_lt_two_pow _ hb)
theorem vcu9 (a j : Nat) (hj : j < 64) : (BitVec.ofNat 64 a)[j] = a.testBit j := by
 rw [← BitVec.getLsbD_eq_getElem hj, BitVec.getLsbD_ofNat, decide_eq_true hj, Bool.true_and]
theorem wQ0 (a b : Nat) (ha : a < 2 ^ 64) (hb : b < 2 ^ 64) : bits .andNot .u64 (a : Int) (b : Int) = 0 ↔ a &&& b = a := by
 have e : bits .andNot .u64 (a : Int) (b : Int) = IntKind.u64.wrap (((BitVec.ofNat 64 a &&& ~~~BitVec.ofNat 64 b).toNat : Nat) : Int) := by
  unfold bits
  simp only [BitVec.ofInt_natCast]
  rfl
 rw [e, xQ0 _ (BitVec.isLt _)]
 constructor
 ·intro h
  have h0 : BitVec.ofNat 64 a &&& ~~~BitVec.ofNat 64 b = 0 := BitVec.eq_of_toNat_eq (by simpa using h)
  apply Nat.eq_of_testBit_eq
  intro j
  rw [Nat.testBit_and]
  by_cases hj : j < 64
  ·have := congrArg (fun x => x.getLsbD j) h0
   simp [BitVec.getLsbD_and, BitVec.getLsbD_not, BitVec.getLsbD_ofNat, hj] at this
   rw [vcu9 a j hj, vcu9 b j hj] at this
   cases q : a.testBit j with
   | false => rfl
   | true => simp [this q]
  ·rw [Nat.testBit_lt_two_pow (Nat.lt_of_lt_of_le ha (Nat.pow_le_pow_right (by decide) (by omega)))]; rfl
 ·intro h
  have h0 : BitVec.ofNat 64 a &&& ~~~BitVec.ofNat 64 b = 0 := by
   apply BitVec.eq_of_getLsbD_eq
   intro j hj
   simp [BitVec.getLsbD_and, BitVec.getLsbD_not, BitVec.getLsbD_ofNat, hj]
   intro q
   have := congrArg (fun x => x.testBit j) h
   simp [q] at this
   rw [vcu9 _ j hj] at q ⊢
   exact this q
  rw [h0]; rfl
theorem xee9 (k : Nat) (h : k < 64) : IntKind.u64.wrap (1 * 2 ^ (min ((k : Int).toNat) 64)) = ((2 ^ k : Nat) : Int) := by
 have : min ((k : Int).toNat) 64 = k := by omega
 rw [this, Int.one_mul]
 have := xQ0 (2 ^ k) (Nat.pow_lt_pow_right (by decide) h)
 rw [← this]
 congr 1
end Go.Proofs
set_option linter.unusedVariables false
set_option linter.unusedSimpArgs false
namespace Go.Proofs
def inL (l : List Int) (n : Nat) : Bool := l.contains (n : Int)
def lst (rows : List (List (List Int))) (s a : Nat) : List Int := (rows.getD s []).getD a []
def vbl9 (rows : List (List (List Int))) (p : Nat → Bool) (a : Nat) (t : Nat) : Bool := (elemsP p).any fun s => inL (lst rows s a) t
structure SetIs (n : Nat) (p : Nat → Bool) (S : List Nat) : Prop where
 mem : ∀ t, t < 256 → (p t = true ↔ t ∈ S)
 filt : FiltF n S
theorem SetIs.elems {n : Nat} {p : Nat → Bool} {S : List Nat} (h : SetIs n p S) (hn : n ≤ 256) : elemsP p = S := by
 obtain ⟨q, hq⟩ := h.filt
 have hS : S = (List.range 256).filter fun t => decide (t < n) && q t := by
  rw [hq]
  obtain ⟨d, hd⟩ : ∃ d, 256 = n + d := ⟨256 - n, by omega⟩
  rw [hd, List.range_add, List.filter_append]
  have e1 : (List.range n).filter (fun t => decide (t < n) && q t) = (List.range n).filter q := List.filter_congr fun t ht => by simp [List.mem_range.1 ht]
  have e2 : ((List.range d).map (n + ·)).filter (fun t => decide (t < n) && q t) = [] := by
   rw [List.filter_eq_nil_iff]
   intro t ht
   obtain ⟨j, _, rfl⟩ := List.mem_map.1 ht
   rw [decide_eq_false (by omega), Bool.false_and]; decide
  rw [e1, e2, List.append_nil]
 rw [elemsP, hS]
 refine List.filter_congr fun t ht => ?_
 have ht := List.mem_range.1 ht
 have h1 := h.mem t ht
 rw [hS, List.mem_filter, List.mem_range] at h1
 rw [Bool.eq_iff_iff, h1]
 exact ⟨fun q => q.2, fun q => ⟨ht, q⟩⟩
theorem SetIs.lt {n : Nat} {p : Nat → Bool} {S : List Nat} (h : SetIs n p S) {s : Nat} (hs : s ∈ S) : s < n := h.filt.lt hs
theorem qaC9 {l : List Int} {n : Nat} (h : zf0 l n = true) : SetIs n (inL l) (natL l) := by
 refine ⟨fun t _ => ?_, ?_⟩
 ·rw [inL, List.contains_iff_mem, natL, List.mem_map]
  constructor
  ·exact fun q => ⟨_, q, Int.toNat_natCast t⟩
  ·rintro ⟨x, hx, rfl⟩
   have := vc0 h x hx
   rwa [show ((x.toNat : Nat) : Int) = x by omega]
 ·exact ⟨_, qw0 h⟩
theorem wbJ9 {A : Nat} {rows : List (List (List Int))} {st ac : List Int} (h : OkNv A rows st ac) {p : Nat → Bool} {S : List Nat} (hp : SetIs rows.length p S) {a : Nat} (ha : a < A) : SetIs rows.length (vbl9 rows p a) (stepN (nfOf rows st ac) S a) := by
 refine ⟨fun t ht => ?_, ⟨_, rfl⟩⟩
 rw [vbl9, hp.elems h.n, kA0, List.any_eq_true]
 constructor
 ·rintro ⟨s, hs, hd⟩
  refine ⟨?_, s, hs, hd⟩
  have := vc0 (h.ri s a (hp.lt hs) ha) _ (List.contains_iff_mem.1 hd)
  show t < rows.length
  omega
 ·rintro ⟨_, s, hs, hd⟩
  exact ⟨s, hs, hd⟩
theorem kbl9 {n : Nat} {p q : Nat → Bool} {S T : List Nat} (hp : SetIs n p S) (hq : SetIs n q T) (hn : n ≤ 256) : ((List.range 256).any fun t => p t && q t) = S.any fun s => T.contains s := by
 rw [Bool.eq_iff_iff, List.any_eq_true, List.any_eq_true]
 constructor
 ·rintro ⟨t, ht, h⟩
  have ht := List.mem_range.1 ht
  rw [Bool.and_eq_true] at h
  exact ⟨t, (hp.mem t ht).1 h.1, List.contains_iff_mem.2 ((hq.mem t ht).1 h.2)⟩
 ·rintro ⟨s, hs, h⟩
  have hl := hp.lt hs
  exact ⟨s, List.mem_range.2 (by omega), by rw [Bool.and_eq_true]; exact ⟨(hp.mem s (by omega)).2 hs, (hq.mem s (by omega)).2 (List.contains_iff_mem.1 h)⟩⟩
theorem qca9 {n : Nat} {p q : Nat → Bool} {S T : List Nat} (hp : SetIs n p S) (hq : SetIs n q T) (hn : n ≤ 256) : (∀ i, i < 4 → wP p i = wP q i) ↔ S = T := by
 constructor
 ·intro h
  have := qdN9 h
  rw [← hp.elems hn, ← hq.elems hn]
  exact List.filter_congr fun t ht => this t (List.mem_range.1 ht)
 ·rintro rfl i _
  exact kaN9 (fun t ht => by rw [Bool.eq_iff_iff, hp.mem t ht, hq.mem t ht]) i
end Go.Proofs
set_option linter.unusedVariables false
set_option linter.unusedSimpArgs false
namespace Go.Proofs
theorem qaO9 (e : Nat → Nat → Bool) : ∀ (r l : List Nat), (r.foldl (addX e) l).length ≤ l.length + r.length
 | [], l => by simp
 | x :: r, l => by
  have h := qaO9 e r (addX e l x)
  have h2 : (addX e l x).length ≤ l.length + 1 := by unfold addX; split <;> simp
  rw [List.foldl_cons, List.length_cons]; omega
section
variable {δ : Nat → Nat → Nat} {acc : Nat → Bool} {A : Nat} {order : List Nat}
theorem zby9 (k : Nat) : cntK δ acc A order k ≤ order.length := by
 rw [qaY9]
 have := qaO9 (wR0 δ acc A order k) order []
 simpa [firsts] using this
theorem vbJ9 (k : Nat) (h : order ≠ []) : 1 ≤ cntK δ acc A order k := by
 rw [qaY9]
 obtain ⟨x, l, e⟩ := List.exists_cons_of_ne_nil h
 obtain ⟨y, hy, _⟩ := kab9 (e := wR0 δ acc A order k) (qai9 k) (l := order) (x := x) (by rw [e]; exact List.mem_cons_self)
 exact List.length_pos_iff.2 fun q => by rw [q] at hy; cases hy
end
end Go.Proofs
set_option linter.unusedVariables false
set_option linter.unusedSimpArgs false
namespace Go.Proofs
section
variable {e : Nat → Nat → Bool}
theorem qbm9 (order : List Nat) (k : Nat) (hk : k < order.length) : ∃ t, firsts e order = addX e (firsts e (order.take k)) order[k] ++ t := by
 obtain ⟨t, h⟩ := kP0 (e := e) (order.take k ++ [order[k]]) (order.drop (k + 1))
 refine ⟨t, ?_⟩
 rw [← zu0, ← h]
 congr 1
 rw [← List.take_succ_eq_append_getElem hk, List.take_append_drop]
theorem kcu9 (hr : ∀ x, e x x = true) (order : List Nat) (k : Nat) (hk : k < order.length) (h : ¬ ∃ y ∈ firsts e (order.take k), e y order[k] = true) :
  findX e (firsts e order) order[k] = (firsts e (order.take k)).length ∧ firsts e (order.take (k + 1)) = firsts e (order.take k) ++ [order[k]] := by
 obtain ⟨t, ht⟩ := qbm9 (e := e) order k hk
 have h1 : ¬ findX e (firsts e (order.take k)) order[k] < (firsts e (order.take k)).length := fun q => h (find_lt.1 q)
 have h2 := vaA9 (eqv := e) (firsts e (order.take k)) order[k]
 have h3 := xbk9 (eqv := e) (firsts e (order.take k)) order[k] (hr _) (by omega)
 rw [ht, zJ0 h]
 refine ⟨?_, by rw [List.take_succ_eq_append_getElem hk, zu0, zJ0 h]⟩
 rw [vP0 t (by rw [h3]; simp), h3]
theorem qcv9 (order : List Nat) (k : Nat) (hk : k < order.length) (h : ∃ y ∈ firsts e (order.take k), e y order[k] = true) :
  findX e (firsts e order) order[k] = findX e (firsts e (order.take k)) order[k] ∧ findX e (firsts e (order.take k)) order[k] < (firsts e (order.take k)).length ∧ firsts e (order.take (k + 1)) = firsts e (order.take k) := by
 obtain ⟨t, ht⟩ := qbm9 (e := e) order k hk
 have h1 := find_lt.2 h
 rw [ht, zam9 h]
 refine ⟨vP0 t h1, h1, by rw [List.take_succ_eq_append_getElem hk, zu0, zam9 h]⟩
end
end Go.Proofs
set_option linter.unusedVariables false
set_option linter.unusedSimpArgs false
namespace Go.Proofs
section
variable {X : Type} {step : X → Nat → X} {eqv : X → X → Bool} {A : Nat}
theorem xby9 (x0 : X) {N : Nat} (h : (stX step eqv A x0 N).1.length = N) : ∀ j, stX step eqv A x0 (N + j) = stX step eqv A x0 N
 | 0 => rfl
 | j + 1 => by
  have ih := xby9 x0 h j
  rw [← Nat.add_assoc, wcs9 x0 (N + j) (by rw [ih]; omega), ih]
theorem kbJ9 (x0 : X) {N M : Nat} (h : (stX step eqv A x0 N).1.length = N) (h2 : (stX step eqv A x0 M).1.length = M) : N = M := by
 rcases Nat.le_total N M with q|q
 ·have := xby9 x0 h (M - N)
  rw [Nat.add_sub_cancel' q] at this
  rw [this] at h2; omega
 ·have := xby9 x0 h2 (N - M)
  rw [Nat.add_sub_cancel' q] at this
  rw [this] at h; omega
end
section
variable {δ : Nat → Nat → Nat} {acc : Nat → Bool} {A : Nat}
def qbK9 (δ : Nat → Nat → Nat) (acc : Nat → Bool) (A : Nat) (e : Nat → Nat → Bool) : Prop :=
 ∀ v w, InA A v → InA A w → (e (runX δ 0 v) (runX δ 0 w) = true ↔ ∀ u, InA A u → acc (runX δ (runX δ 0 v) u) = acc (runX δ (runX δ 0 w) u))
def MinOf (δ : Nat → Nat → Nat) (acc : Nat → Bool) (A : Nat) (rows : List (List Nat)) (ac : List Bool) : Prop :=
 ∃ (e : Nat → Nat → Bool) (N : Nat), qbK9 δ acc A e ∧ (stX δ e A 0 N).1.length = N ∧ rows = (stX δ e A 0 N).2 ∧ ac = (stX δ e A 0 N).1.map acc
theorem zaC9 {e1 e2 : Nat → Nat → Bool} (h1 : qbK9 δ acc A e1) (h2 : qbK9 δ acc A e2) (i : Nat) : stX δ e1 A 0 i = stX δ e2 A 0 i :=
 kbx9 (fun v w hv hw => by rw [Bool.eq_iff_iff, h1 v w hv hw, h2 v w hv hw]) i
theorem MinOf.one {r r' : List (List Nat)} {a a' : List Bool} (h1 : MinOf δ acc A r a) (h2 : MinOf δ acc A r' a') : r = r' ∧ a = a' := by
 obtain ⟨e, N, q1, q2, rfl, rfl⟩ := h1
 obtain ⟨e', M, p1, p2, rfl, rfl⟩ := h2
 have hs := zaC9 q1 p1
 have : N = M := by
  rw [hs N] at q2
  exact kbJ9 0 q2 p2
 subst this
 rw [hs N]
 exact ⟨rfl, rfl⟩
open Classical in
noncomputable def eqW (δ : Nat → Nat → Nat) (acc : Nat → Bool) (A : Nat) (s t : Nat) : Bool := decide (∀ u, InA A u → acc (runX δ s u) = acc (runX δ t u))
open Classical in
theorem zcv9 (s t : Nat) : eqW δ acc A s t = true ↔ ∀ u, InA A u → acc (runX δ s u) = acc (runX δ t u) := by unfold eqW; rw [decide_eq_true_eq]
theorem zbK9 (s : Nat) : eqW δ acc A s s = true := (zcv9 s s).2 fun _ _ => rfl
theorem xbK9 : qbK9 δ acc A (eqW δ acc A) := fun _ _ _ _ => zcv9 _ _
end
end Go.Proofs
set_option linter.unusedVariables false
set_option linter.unusedSimpArgs false
namespace Go.Proofs
structure SameF (A : Nat) (x y : Nf) : Prop where
 n : x.n = y.n
 S : x.S = y.S
 F : x.F = y.F
 d : ∀ s a t, s < x.n → a < A → t < x.n → x.d s a t = y.d s a t
theorem SameF.refl (A : Nat) (x : Nf) : SameF A x x := ⟨rfl, rfl, rfl, fun _ _ _ _ _ _ => rfl⟩
theorem SameF.trans {A : Nat} {x y z : Nf} (h : SameF A x y) (h2 : SameF A y z) : SameF A x z :=
 ⟨h.n.trans h2.n, h.S.trans h2.S, h.F.trans h2.F, fun s a t hs ha ht => (h.d s a t hs ha ht).trans (h2.d s a t (h.n ▸ hs) ha (h.n ▸ ht))⟩
theorem SameF.symm {A : Nat} {x y : Nf} (h : SameF A x y) : SameF A y x :=
 ⟨h.n.symm, h.S.symm, h.F.symm, fun s a t hs ha ht => (h.d s a t (h.n ▸ hs) ha (h.n ▸ ht)).symm⟩
theorem SameF.rev {A : Nat} {x y : Nf} (h : SameF A x y) : SameF A (revN x) (revN y) :=
 ⟨h.n, h.F, h.S, fun s a t hs ha ht => h.d t a s ht ha hs⟩
theorem SameF.step {A : Nat} {x y : Nf} (h : SameF A x y) {S : List Nat} (hS : ∀ s ∈ S, s < x.n) {a : Nat} (ha : a < A) : stepN x S a = stepN y S a := by
 unfold stepN
 rw [← h.n]
 refine List.filter_congr fun t ht => ?_
 rw [List.mem_range] at ht
 rw [Bool.eq_iff_iff, List.any_eq_true, List.any_eq_true]
 constructor
 ·rintro ⟨s, hs, q⟩; exact ⟨s, hs, by rw [← h.d s a t (hS s hs) ha ht]; exact q⟩
 ·rintro ⟨s, hs, q⟩; exact ⟨s, hs, by rw [h.d s a t (hS s hs) ha ht]; exact q⟩
theorem SameF.acc {A : Nat} {x y : Nf} (h : SameF A x y) : accN x = accN y := by
 funext S; unfold accN; rw [h.F]
theorem SameF.run {A : Nat} {x y : Nf} (h : SameF A x y) : ∀ (w S : List Nat), InA A w → (∀ s ∈ S, s < x.n) → runX (stepN x) S w = runX (stepN y) S w
 | [], _, _, _ => rfl
 | a :: w, S, hw, hS => by
  have e := h.step hS (hw a List.mem_cons_self)
  show runX (stepN x) (stepN x S a) w = runX (stepN y) (stepN y S a) w
  rw [← e]
  exact SameF.run h w _ (fun b hb => hw b (List.mem_cons_of_mem _ hb)) (fun t ht => ((kA0 x S a t).1 ht).1)
theorem SameF.lang {A : Nat} {x y : Nf} (h : SameF A x y) (hS : ∀ s ∈ x.S, s < x.n) {w : List Nat} (hw : InA A w) : kB0 x w = kB0 y w := by
 unfold kB0
 rw [h.acc, h.run w x.S hw hS, h.S]
end Go.Proofs
