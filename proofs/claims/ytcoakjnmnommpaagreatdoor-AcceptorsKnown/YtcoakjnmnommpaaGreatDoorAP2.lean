import Derived.Test.YtcoakjnmnommpaaGreatDoorV33
import Derived.Lib.AtoiTie
import Derived.Lib.ItoaNum
namespace Go.Proofs
open Go Go.V
abbrev Bs := List UInt8
def xaW9 (sep : Bs) : Nat → Bs → List Bs
 | 0, s => [s]
 | k + 1, s => if Lib.index s sep == -1 then [s] else s.take (Lib.index s sep).toNat :: xaW9 sep k (s.drop ((Lib.index s sep).toNat + sep.length))
theorem waI9 (sep : Bs) : ∀ (k : Nat) (s : ByteArray), (Lib.splitB ⟨sep.toArray⟩ 0 k s).map (·.data.toList) = xaW9 sep k s.data.toList
 | 0, s => by simp [Lib.splitB, xaW9]
 | k + 1, s => by
  have hi : Lib.indexB s ⟨sep.toArray⟩ = Lib.index s.data.toList sep := by simp [Lib.indexB]
  unfold Lib.splitB xaW9;rw [hi];split
  ·simp
  ·rw [List.map_cons, waI9 sep k];have hsz : (ByteArray.mk sep.toArray).size = sep.length := rfl;have h2 : s.size = s.data.toList.length := by simp
   rw [hsz];simp only [ByteArray.data_extract, Array.toList_extract, List.extract, Nat.add_zero, List.drop_zero, Nat.sub_zero, h2];rw [l'k (i := s.data.toList.length - _) (by simp)]
theorem vaI9 (s sep : Bs) : wx0 s sep = xaW9 sep (Lib.count s sep) s := by
 unfold wx0;rw [waI9]
theorem kbI9 {s sep : Bs} (h : Lib.index s sep = -1) : wx0 s sep = [s] := by
 rw [vaI9, Lib.count_miss h]; rfl
theorem xcj9 {s sep : Bs} {i : Nat} (hs : sep ≠ []) (h : Lib.index s sep = i) : wx0 s sep = s.take i :: wx0 (s.drop (i + sep.length)) sep := by
 rw [vaI9, Lib.count_hit hs h, n'F, xaW9, h, if_neg (by simp; try omega), vaI9]; rfl
structure Mark (sep : Bs) (q : Nat) (c : UInt8) : Prop where
 h : sep[q]? = some c
 one : ∀ k, k < q → sep[k]? ≠ some c
theorem kbS9 {sep s : Bs} {q : Nat} {c : UInt8} (m : Mark sep q c) {i : Nat} (h : Lib.occAt s sep i = true) : s[i + q]? = some c := by
 unfold Lib.occAt at h;obtain ⟨t, ht⟩ := List.isPrefixOf_iff_prefix.1 h;rw [← n'h, ← ht, l'd, m.h];exact (l'c.1 m.h).1
theorem qdk9 {sep p : Bs} {q : Nat} {c : UInt8} (m : Mark sep q c) (hp : ¬ c ∈ p) : Lib.index p sep = -1 := Lib.index_none fun j _ => by
 cases h : Lib.occAt p sep j with
 | false => rfl
 | true => exact absurd (l'q (kbS9 m h)) hp
theorem zdk9 {sep p r : Bs} {q : Nat} {c : UInt8} (m : Mark sep q c) (hp : ¬ c ∈ p) : Lib.index (p ++ (sep ++ r)) sep = p.length := Lib.index_first (by simp) (by unfold Lib.occAt; rw [List.drop_left]; exact List.isPrefixOf_iff_prefix.2 ⟨r, rfl⟩) fun j hj => by
 cases h : Lib.occAt (p ++ (sep ++ r)) sep j with
 | false => rfl
 | true =>
  exfalso;have e := kbS9 m h;rcases l'i (j + q) p.length with k|k
  ·rw [l'd k] at e;exact hp (l'q e)
  ·have hq := (l'c.1 m.h).1;rw [l'r k, l'd (by omega)] at e;exact m.one _ (by omega) e
theorem qk0 (p q : Bs) (r : List Bs) (sep : Bs) : Lib.join (p :: q :: r) sep = p ++ (sep ++ Lib.join (q :: r) sep) := by simp [Lib.join, List.intercalate, List.intersperse]
theorem xr0 (p : Bs) (sep : Bs) : Lib.join [p] sep = p := by simp [Lib.join, List.intercalate]
theorem zar9 {sep : Bs} {q : Nat} {c : UInt8} (m : Mark sep q c) : ∀ (l : List Bs), l ≠ [] → (∀ p ∈ l, ¬ c ∈ p) → wx0 (Lib.join l sep) sep = l
 | [], h, _ => absurd rfl h
 | [p], _, hp => by rw [xr0, kbI9 (qdk9 m (hp p (by simp)))]
 | p :: p2 :: r, _, hp => by
  have hs : sep ≠ [] := by rintro rfl; have := m.h; simp at this
  rw [qk0, xcj9 hs (zdk9 m (hp p (by simp))), List.take_left', ← l'A, List.drop_left' (by simp)]
  ·rw [zar9 m (p2 :: r) (by simp) fun x hx => hp x (l'g _ hx)]
  ·rfl
theorem zbv9 (sep : Bs) (x : Bs) : ∀ (l : List Bs), l ≠ [] → Lib.join (l ++ [x]) sep = Lib.join l sep ++ (sep ++ x)
 | [], h => absurd rfl h
 | [p], _ => by rw [List.cons_append, List.nil_append, qk0, xr0, xr0]
 | p :: q :: r, _ => by
  have ih := zbv9 sep x (q :: r) (by simp);rw [List.cons_append, List.cons_append, qk0, qk0, ← List.cons_append, ih]; simp
theorem qbT9 {c : UInt8} {sep : Bs} : ∀ (l : List Bs), ¬ c ∈ sep → (∀ p ∈ l, ¬ c ∈ p) → ¬ c ∈ Lib.join l sep
 | [], _, _ => by simp [Lib.join, List.intercalate]
 | [p], _, h => by rw [xr0]; exact h p (by simp)
 | p :: q :: r, h1, h2 => by
  rw [qk0];intro hm;rcases l'D.1 hm with k|k
  ·exact h2 p (by simp) k
  ·rcases l'D.1 k with k|k
   ·exact h1 k
   ·exact qbT9 (q :: r) h1 (fun x hx => h2 x (l'g _ hx)) k
set_option maxRecDepth 100000
theorem zg0 (n : Int) (h0 : 0 ≤ n) (h1 : n < 10) : Lib.itoa n = [UInt8.ofNat (48 + n.toNat)] := by
 rw [Lib.itoa, if_neg (by omega), Lib.decDigits, dif_pos (by omega)]
theorem kY0 (n : Int) (h : 10 ≤ n) : Lib.itoa n = Lib.itoa (n / 10) ++ Lib.itoa (n % 10) := by
 rw [zg0 (n % 10) (by omega) (by omega), Lib.itoa, if_neg (by omega), Lib.itoa, if_neg (by omega), Lib.decDigits, dif_neg (by omega)];rw [show (n / 10).toNat = n.toNat / 10 by omega, show (n % 10).toNat = n.toNat % 10 by omega]
def numF (a : Int) : List UInt8 → Int
 | [] => a
 | c :: cs => numF (10 * a + ((c.toNat : Int) - 48)) cs
def digs (p : List UInt8) : Prop := ∀ c ∈ p, 48 ≤ c.toNat ∧ c.toNat ≤ 57
def waW9 (p : List UInt8) : Prop := p ≠ [] ∧ digs p ∧ (1 < p.length → p.head? ≠ some 48)
theorem xO0 : ∀ (xs : List UInt8) (a : Int) (ys : List UInt8), numF a (xs ++ ys) = numF (numF a xs) ys
 | [], _, _ => rfl
 | c :: cs, a, ys => by rw [List.cons_append, numF, numF, xO0 cs]
theorem qbi9 : ∀ (xs : List UInt8) (a : Int), 0 ≤ a → digs xs → a ≤ numF a xs
 | [], a, _, _ => Int.le_refl _
 | c :: cs, a, h, hd => by
  have hc := hd c (l'n ..);rw [numF];exact Int.le_trans (by omega) (qbi9 cs _ (by omega) fun x hx => hd x (l'g _ hx))
theorem wcj9 {c : UInt8} (h : c ≠ 48) (h1 : 48 ≤ c.toNat) : 49 ≤ c.toNat := by
 rcases l'i c.toNat 49 with q|q
 ·exact absurd (UInt8.toNat_inj.1 (by show c.toNat = 48; omega)) h
 ·exact q
theorem kaI9 (c : UInt8) (h : 48 ≤ c.toNat) (h2 : c.toNat ≤ 57) : UInt8.ofNat (48 + (((c.toNat : Int) - 48).toNat)) = c := by
 apply UInt8.toNat_inj.1;rw [z'w];have : c.toNat < 256 := by omega
 have e : 48 + ((c.toNat : Int) - 48).toNat = c.toNat := by omega
 rw [e, l'U (by simpa using this)]
theorem xbv9 : ∀ (k : Nat) (p : List UInt8), p.length ≤ k → waW9 p → Lib.itoa (numF 0 p) = p
 | 0, p, h, hc => absurd (l'F (by omega)) hc.1
 | k + 1, p, h, hc => by
  rcases n'N p with e|⟨q, c, e⟩
  ·exact absurd e hc.1
  ·rw [n'O] at e;subst e;have hcd := hc.2.1 c (by simp);by_cases hq : q = []
   ·subst hq;simp only [List.nil_append, numF];rw [zg0 _ (by omega) (by omega)];rw [show 10 * (0 : Int) + ((c.toNat : Int) - 48) = (c.toNat : Int) - 48 by omega, kaI9 c hcd.1 hcd.2]
   ·obtain ⟨d, t, rfl⟩ : ∃ d t, q = d :: t := by cases q with|nil => exact absurd rfl hq|cons d t => exact ⟨d, t, rfl⟩
    have hh : d ≠ 48 := by
     have := hc.2.2 (by simp);simpa using this
    have hdq : digs (d :: t) := fun x hx => hc.2.1 x (n'c _ hx);have hd := hdq d (l'n ..);have h1 : 1 ≤ numF 0 (d :: t) := by
     rw [numF];exact Int.le_trans (by have := wcj9 hh hd.1; omega) (qbi9 t _ (by omega) fun x hx => hdq x (l'g _ hx))
    have ih := xbv9 k (d :: t) (by simp at h ⊢; omega) ⟨by simp, hdq, fun _ => by simpa using hh⟩;rw [xO0];generalize numF 0 (d :: t) = Q at *;simp only [numF];rw [kY0 _ (by omega), show (10 * Q + ((c.toNat : Int) - 48)) / 10 = Q by omega, show (10 * Q + ((c.toNat : Int) - 48)) % 10 = (c.toNat : Int) - 48 by omega, ih, zg0 _ (by omega) (by omega), kaI9 c hcd.1 hcd.2]
theorem zbT9 (v : Int) (h0 : 0 ≤ v) (h1 : v < 10) : (UInt8.ofNat (48 + v.toNat)).toNat = 48 + v.toNat := by
 rw [z'w];exact l'U (by omega)
theorem qZ0 : ∀ (k : Nat) (v : Int), 0 ≤ v → v ≤ k → waW9 (Lib.itoa v) ∧ numF 0 (Lib.itoa v) = v ∧ (1 ≤ v → (Lib.itoa v).head? ≠ some 48)
 | 0, v, h0, h1 => by
  have : v = 0 := by omega
  subst this;have e : Lib.itoa 0 = [48] := by rw [zg0 0 (by omega) (by omega)]; rfl
  rw [e];exact ⟨⟨by simp, fun x hx => by simp at hx; subst hx; decide, by simp⟩, by decide, by omega⟩
 | k + 1, v, h0, h1 => by
  by_cases hv : v < 10
  ·have hd := zbT9 v h0 hv;rw [zg0 v h0 hv];generalize UInt8.ofNat (48 + v.toNat) = c at *;refine ⟨⟨by simp, fun x hx => by simp at hx; subst hx; omega, by simp⟩, by simp only [numF]; omega, fun hv1 q => ?_⟩;simp at q; subst q;have : (48 : UInt8).toNat = 48 := rfl;omega
  ·obtain ⟨i1, i2, i3⟩ := qZ0 k (v / 10) (by omega) (by omega);have hd := zbT9 (v % 10) (by omega) (by omega);have i3 := i3 (by omega);rw [kY0 v (by omega), zg0 (v % 10) (by omega) (by omega)];generalize UInt8.ofNat (48 + (v % 10).toNat) = c at *;generalize Lib.itoa (v / 10) = q at *;have hne := i1.1;have hh : (q ++ [c]).head? ≠ some 48 := by
    cases q with
    | nil => exact absurd rfl hne
    | cons d t => simpa using i3
   refine ⟨⟨by simp, fun x hx => ?_, fun _ => hh⟩, by rw [xO0, i2]; simp only [numF]; omega, fun _ => hh⟩;rcases l'D.1 hx with h|h
   ·exact i1.2.1 x h
   ·simp at h; subst h; omega
instance (p : Bs) : Decidable (digs p) := inferInstanceAs (Decidable (∀ c ∈ p, 48 ≤ c.toNat ∧ c.toNat ≤ 57))
instance (p : Bs) : Decidable (waW9 p) := inferInstanceAs (Decidable (_ ∧ _ ∧ _))
def numV (f : Bs) : Option Int := if waW9 f ∧ f.length ≤ 3 then some (numF 0 f) else none
def veA9 : List Bs → Option (List Int)
 | [] => some []
 | f :: r => match numV f, veA9 r with|some x, some xs => some (x :: xs)|_, _ => none
theorem wcE9 {v : Int} (h0 : 0 ≤ v) (h1 : v ≤ 999) : (Lib.itoa v).length ≤ 3 := by
 by_cases a : v < 10
 ·rw [zg0 v h0 a]; simp
 ·by_cases b : v < 100
  ·rw [kY0 v (by omega), zg0 (v / 10) (by omega) (by omega), zg0 (v % 10) (by omega) (by omega)]; simp
  ·rw [kY0 v (by omega), kY0 (v / 10) (by omega), zg0 (v / 10 / 10) (by omega) (by omega), zg0 (v / 10 % 10) (by omega) (by omega), zg0 (v % 10) (by omega) (by omega)]; simp
theorem wbv9 {v : Int} (h0 : 0 ≤ v) : digs (Lib.itoa v) := (qZ0 v.toNat v h0 (by omega)).1.2.1
theorem xbT9 {p : Bs} (h : digs p) {c : UInt8} (hc : c.toNat < 48 ∨ 57 < c.toNat) : ¬ c ∈ p := fun q => by
 have := h c q; omega
end Go.Proofs
set_option linter.unusedVariables false
set_option linter.unusedSimpArgs false
namespace Go.Proofs
section
variable {X : Type} (step : X → Nat → X) (eqv : X → X → Bool) (A : Nat)
def findX (l : List X) (x : X) : Nat := l.findIdx fun y => eqv y x
def addX (l : List X) (x : X) : List X := if findX eqv l x = l.length then l ++ [x] else l
def rowX (l : List X) (x : X) : Nat → List X × List Nat
 | 0 => (l, [])
 | a + 1 => (addX eqv (rowX l x a).1 (step x a), (rowX l x a).2 ++ [findX eqv (rowX l x a).1 (step x a)])
def stX (x0 : X) : Nat → List X × List (List Nat)
 | 0 => ([x0], [])
 | i + 1 => match (stX x0 i).1[i]? with
  | none => stX x0 i
  | some x => ((rowX step eqv (stX x0 i).1 x A).1, (stX x0 i).2 ++ [(rowX step eqv (stX x0 i).1 x A).2])
theorem wbT9 (l : List X) (x : X) : l.length ≤ (addX eqv l x).length := by unfold addX; split <;> simp
theorem zZ0 (l : List X) (x : X) : ∃ r, addX eqv l x = l ++ r := by
 unfold addX; split
 ·exact ⟨[x], rfl⟩
 ·exact ⟨[], (l'R l).symm⟩
theorem xal9 (l : List X) (x : X) : ∀ a, (rowX step eqv l x a).2.length = a
 | 0 => rfl
 | a + 1 => by simp [rowX, xal9 l x a]
theorem xZ0 (l : List X) (x : X) : ∀ a, ∃ r, (rowX step eqv l x a).1 = l ++ r
 | 0 => ⟨[], (l'R l).symm⟩
 | a + 1 => by
  obtain ⟨r, h⟩ := xZ0 l x a;obtain ⟨r', h'⟩ := zZ0 eqv (rowX step eqv l x a).1 (step x a);exact ⟨r ++ r', by rw [rowX, h', h, l'A]⟩
theorem qbJ9 (x0 : X) (i : Nat) : ∃ r, (stX step eqv A x0 (i + 1)).1 = (stX step eqv A x0 i).1 ++ r := by
 rw [stX];split
 ·exact ⟨[], (l'R _).symm⟩
 ·exact xZ0 step eqv _ _ A
theorem vA0 (x0 : X) : ∀ i, i ≤ (stX step eqv A x0 i).1.length → (stX step eqv A x0 i).2.length = i
 | 0, _ => rfl
 | i + 1, h => by
  rw [stX] at h ⊢;split at h
  ·rename_i q;have := n'C.1 q;omega
  ·rename_i x q;have hi : i < (stX step eqv A x0 i).1.length := (l'c.1 q).1;simp [vA0 x0 i (by omega)]
theorem vbT9 {P : X → Prop} (l : List X) (x : X) (h : ∀ y ∈ l, P y) (hx : P x) : ∀ y ∈ addX eqv l x, P y := by
 intro y hy;unfold addX at hy;split at hy
 ·rcases l'D.1 hy with q|q
  ·exact h y q
  ·simp only [l'N] at q; subst q; exact hx
 ·exact h y hy
theorem zaz9 {P : X → Prop} (l : List X) (x : X) (h : ∀ y ∈ l, P y) (hx : ∀ a, a < A → P (step x a)) : ∀ a, a ≤ A → ∀ y ∈ (rowX step eqv l x a).1, P y
 | 0, _ => h
 | a + 1, ha => vbT9 eqv _ _ (zaz9 l x h hx a (by omega)) (hx a (by omega))
theorem zaf9 {P : X → Prop} (x0 : X) (h0 : P x0) (hs : ∀ x, P x → ∀ a, a < A → P (step x a)) : ∀ i, ∀ y ∈ (stX step eqv A x0 i).1, P y
 | 0 => by simp [stX, h0]
 | i + 1 => by
  have ih := zaf9 x0 h0 hs i;rw [stX];split
  ·exact ih
  ·rename_i x q;exact zaz9 step eqv A _ _ ih (hs x (ih x (l'q q))) A (l'f A)
def wal9 (l : List X) : Prop := l.Pairwise fun x y => eqv x y = false
theorem vaW9 (l : List X) (x : X) (h : wal9 eqv l) : wal9 eqv (addX eqv l x) := by
 unfold addX;split
 ·rename_i q;unfold wal9 at *;rw [z'm];refine ⟨h, by simp, ?_⟩;intro y hy z hz;simp only [l'N] at hz;subst hz;have := List.findIdx_eq_length.1 q y hy;simpa using this
 ·exact h
theorem kaW9 (l : List X) (x : X) (h : wal9 eqv l) : ∀ a, wal9 eqv (rowX step eqv l x a).1
 | 0 => h
 | a + 1 => vaW9 eqv _ _ (kaW9 l x h a)
theorem qK0 (x0 : X) : ∀ i, wal9 eqv (stX step eqv A x0 i).1
 | 0 => by simp [stX, wal9]
 | i + 1 => by
  have ih := qK0 x0 i;rw [stX];split
  ·exact ih
  ·exact kaW9 step eqv _ _ ih A
end
inductive All2 {X Y : Type} (R : X → Y → Prop) : List X → List Y → Prop
 | nil : All2 R [] []
 | cons {x y l m} : R x y → All2 R l m → All2 R (x :: l) (y :: m)
theorem All2.len {X Y : Type} {R : X → Y → Prop} {l : List X} {m : List Y} (h : All2 R l m) : l.length = m.length := by
 induction h with
 | nil => rfl
 | cons _ _ ih => simp [ih]
theorem All2.snoc {X Y : Type} {R : X → Y → Prop} {l : List X} {m : List Y} (h : All2 R l m) {x : X} {y : Y} (hx : R x y) : All2 R (l ++ [x]) (m ++ [y]) := by
 induction h with
 | nil => exact .cons hx .nil
 | cons h1 _ ih => exact .cons h1 ih
theorem All2.at {X Y : Type} {R : X → Y → Prop} {l : List X} {m : List Y} (h : All2 R l m) (i : Nat) : (l[i]? = none ∧ m[i]? = none) ∨ ∃ x y, l[i]? = some x ∧ m[i]? = some y ∧ R x y := by
 induction h generalizing i with
 | nil => left; simp
 | cons h1 _ ih =>
  cases i with
  | zero => right; exact ⟨_, _, rfl, rfl, h1⟩
  | succ i => simpa using ih i
section
variable {X Y : Type} {s1 : X → Nat → X} {e1 : X → X → Bool} {s2 : Y → Nat → Y} {e2 : Y → Y → Bool} {A : Nat} {R : X → Y → Prop}
theorem kbT9 (he : ∀ x y x' y', R x y → R x' y' → e1 x x' = e2 y y') {l : List X} {m : List Y} (h : All2 R l m) {x : X} {y : Y} (hx : R x y) : findX e1 l x = findX e2 m y := by
 unfold findX;induction h with
 | nil => rfl
 | cons h1 _ ih => rw [l'P, l'P, ih, he _ _ _ _ h1 hx]
theorem vdN9 (he : ∀ x y x' y', R x y → R x' y' → e1 x x' = e2 y y') {l : List X} {m : List Y} (h : All2 R l m) {x : X} {y : Y} (hx : R x y) : All2 R (addX e1 l x) (addX e2 m y) := by
 unfold addX;rw [kbT9 he h hx, h.len];split
 ·exact h.snoc hx
 ·exact h
theorem vcE9 (he : ∀ x y x' y', R x y → R x' y' → e1 x x' = e2 y y') (hs : ∀ x y, R x y → ∀ a, a < A → R (s1 x a) (s2 y a)) {l : List X} {m : List Y} (h : All2 R l m) {x : X} {y : Y} (hx : R x y) :
  ∀ a, a ≤ A → All2 R (rowX s1 e1 l x a).1 (rowX s2 e2 m y a).1 ∧ (rowX s1 e1 l x a).2 = (rowX s2 e2 m y a).2
 | 0, _ => ⟨h, rfl⟩
 | a + 1, ha => by
  have ih := vcE9 he hs h hx a (by omega);have hx' := hs x y hx a (by omega);refine ⟨vdN9 he ih.1 hx', ?_⟩;simp only [rowX];rw [ih.2, kbT9 he ih.1 hx']
theorem qbU9 (he : ∀ x y x' y', R x y → R x' y' → e1 x x' = e2 y y') (hs : ∀ x y, R x y → ∀ a, a < A → R (s1 x a) (s2 y a)) {x0 : X} {y0 : Y} (h0 : R x0 y0) :
  ∀ i, All2 R (stX s1 e1 A x0 i).1 (stX s2 e2 A y0 i).1 ∧ (stX s1 e1 A x0 i).2 = (stX s2 e2 A y0 i).2
 | 0 => ⟨.cons h0 .nil, rfl⟩
 | i + 1 => by
  have ih := qbU9 he hs h0 i;rw [stX, stX];rcases ih.1.at i with ⟨q1, q2⟩|⟨x, y, q1, q2, hx⟩
  ·rw [q1, q2]; exact ih
  ·rw [q1, q2];have := vcE9 he hs ih.1 hx A (l'f A);exact ⟨this.1, by simp only; rw [ih.2, this.2]⟩
end
section
variable {X : Type} {step : X → Nat → X} {eqv : X → X → Bool} {A : Nat}
theorem qaJ9 (l : List X) (x : X) : findX eqv l x ≤ l.length := List.findIdx_le_length
theorem wZ0 {l : List X} {x : X} (r : List X) (h : findX eqv l x < l.length) : findX eqv (l ++ r) x = findX eqv l x := by
 unfold findX at *;induction l with
 | nil => simp at h
 | cons y l ih =>
  rw [List.cons_append, l'P, l'P];cases q : eqv y x
  ·simp only [cond_false];rw [l'P, q] at h;simp only [cond_false, List.length_cons] at h;rw [ih (by omega)]
  ·rfl
theorem vbv9 (l : List X) (x : X) (hr : eqv x x = true) (h : findX eqv l x = l.length) : findX eqv (l ++ [x]) x = l.length := by
 unfold findX at *;induction l with
 | nil => simp [hr]
 | cons y l ih =>
  rw [List.cons_append, l'P];rw [l'P] at h;cases q : eqv y x
  ·rw [q] at h;simp only [cond_false, List.length_cons] at h ⊢;rw [ih (by omega)]
  ·rw [q] at h; simp at h
theorem zbU9 (l : List X) (x : X) (hr : eqv x x = true) : findX eqv (addX eqv l x) x = findX eqv l x ∧ findX eqv l x < (addX eqv l x).length := by
 unfold addX;split
 ·rename_i q;rw [vbv9 l x hr q, q];exact ⟨rfl, by simp⟩
 ·rename_i q;have := qaJ9 (eqv := eqv) l x;exact ⟨rfl, by omega⟩
theorem kcE9 (hr : ∀ x, eqv x x = true) (l : List X) (x : X) : ∀ a b, b < a → (rowX step eqv l x a).2.getD b 0 = findX eqv (rowX step eqv l x a).1 (step x b) ∧ findX eqv (rowX step eqv l x a).1 (step x b) < (rowX step eqv l x a).1.length
 | 0, b, h => by omega
 | a + 1, b, h => by
  have hl := xal9 step eqv l x a;rw [rowX];simp only;rcases l'i b a with q|q
  ·have ih := kcE9 hr l x a b q;obtain ⟨r, h'⟩ := zZ0 eqv (rowX step eqv l x a).1 (step x a);rw [h', wZ0 r ih.2, l'v];refine ⟨?_, by omega⟩;rw [← ih.1, l'b, l'd (by omega), l'b]
  ·obtain rfl : b = a := by omega
   have := zbU9 (rowX step eqv l x b).1 (step x b) (hr _);rw [this.1];refine ⟨?_, this.2⟩;rw [l'b, l'r (by omega), hl]; simp
theorem vcj9 (hr : ∀ x, eqv x x = true) (x0 : X) : ∀ i, i ≤ (stX step eqv A x0 i).1.length → ∀ j, j < i → ∃ x, (stX step eqv A x0 i).1[j]? = some x ∧
  ∀ b, b < A → ((stX step eqv A x0 i).2.getD j []).getD b 0 = findX eqv (stX step eqv A x0 i).1 (step x b) ∧ findX eqv (stX step eqv A x0 i).1 (step x b) < (stX step eqv A x0 i).1.length
 | 0, _, j, h => by omega
 | i + 1, hi, j, h => by
  rw [stX] at hi ⊢;split at hi
  ·rename_i q;have := n'C.1 q;omega
  ·rename_i x q;have hlt : i < (stX step eqv A x0 i).1.length := (l'c.1 q).1;have hrow := vA0 step eqv A x0 i (by omega);obtain ⟨r, hp⟩ := xZ0 step eqv (stX step eqv A x0 i).1 x A;simp only;rcases l'i j i with w|w
   ·obtain ⟨y, h1, h2⟩ := vcj9 hr x0 i (by omega) j w;refine ⟨y, ?_, fun b hb => ?_⟩
    ·rw [hp, l'd (by omega)]; exact h1
    ·have h3 := h2 b hb;rw [hp, wZ0 r h3.2, l'v];refine ⟨?_, by omega⟩;rw [← h3.1];congr 1
     rw [l'b, l'd (by omega), l'b]
   ·obtain rfl : j = i := by omega
    refine ⟨x, ?_, fun b hb => ?_⟩
    ·rw [hp, l'd hlt]; exact q
    ·have h3 := kcE9 (step := step) hr (stX step eqv A x0 j).1 x A b hb;refine ⟨?_, h3.2⟩;rw [← h3.1];congr 1
     rw [l'b, l'r (by omega), hrow]; simp
theorem wO0 (x0 : X) : ∀ i, (stX step eqv A x0 i).1[0]? = some x0
 | 0 => rfl
 | i + 1 => by
  obtain ⟨r, h⟩ := qbJ9 step eqv A x0 i;have ih := wO0 x0 i;rw [h];have : 0 < (stX step eqv A x0 i).1.length := (l'c.1 ih).1;rw [l'd this]; exact ih
def runD (rows : List (List Nat)) (s : Nat) (w : List Nat) : Nat := w.foldl (fun s a => (rows.getD s []).getD a 0) s
def runX (step : X → Nat → X) (x : X) (w : List Nat) : X := w.foldl step x
theorem xaz9 {l : List X} {x : X} (h : findX eqv l x < l.length) : ∃ y, l[findX eqv l x]? = some y ∧ eqv y x = true := by
 unfold findX at *;refine ⟨l[l.findIdx fun y => eqv y x], l'e h, ?_⟩;exact List.findIdx_getElem (w := h)
theorem qcF9 (hr : ∀ x, eqv x x = true) (hc : ∀ x y a, eqv x y = true → a < A → eqv (step x a) (step y a) = true) (ht : ∀ x y z, eqv x y = true → eqv y z = true → eqv x z = true) (x0 : X) (N : Nat) (hN : (stX step eqv A x0 N).1.length = N) :
  ∀ w : List Nat, (∀ a ∈ w, a < A) → ∀ s x, (stX step eqv A x0 N).1[s]? = some x → ∀ z, eqv x z = true → ∃ y, (stX step eqv A x0 N).1[runD (stX step eqv A x0 N).2 s w]? = some y ∧ eqv y (runX step z w) = true
 | [], _, s, x, hx, z, hz => ⟨x, hx, hz⟩
 | a :: w, hw, s, x, hx, z, hz => by
  have hs' : s < (stX step eqv A x0 N).1.length := (l'c.1 hx).1;have hs : s < N := by omega
  obtain ⟨x', h1, h2⟩ := vcj9 (step := step) (A := A) hr x0 N (by omega) s hs;rw [hx] at h1;obtain rfl := Option.some.inj h1;have h3 := h2 a (hw a l'n);obtain ⟨y, h4, h5⟩ := xaz9 h3.2;have e : runD (stX step eqv A x0 N).2 s (a :: w) = runD (stX step eqv A x0 N).2 (findX eqv (stX step eqv A x0 N).1 (step x a)) w := by
   rw [← h3.1]; rfl
  rw [e];exact qcF9 hr hc ht x0 N hN w (fun b hb => hw b (l'g _ hb)) _ y h4 (step z a) (ht _ _ _ h5 (hc _ _ _ hz (hw a l'n)))
end
section
variable {X : Type} {step : X → Nat → X} {eqv : X → X → Bool} {A : Nat}
theorem vO0 : ∀ (B : Nat) (l : List Nat), l.Nodup → (∀ v ∈ l, v < B) → l.length ≤ B
 | 0, l, _, h => by
  cases l with
  | nil => exact l'f _
  | cons v r => have := h v l'n; omega
 | B + 1, l, hn, h => by
  by_cases hm : B ∈ l
  ·have h1 := vO0 B (l.erase B) (hn.erase B) fun v hv => by
    have := (List.Nodup.mem_erase_iff hn).1 hv;have := h v this.2;omega
   have := List.length_erase_of_mem hm;omega
  ·have h1 := vO0 B l hn fun v hv => by
    have := h v hv;have : v ≠ B := fun e => hm (e ▸ hv);omega
   omega
theorem xaf9 (f : X → Nat) (B : Nat) (l : List X) (hf : ∀ x ∈ l, f x < B) (hi : ∀ x ∈ l, ∀ y ∈ l, f x = f y → eqv x y = true) (h : wal9 eqv l) : l.length ≤ B := by
 have hn : (l.map f).Nodup := by
  unfold wal9 at h;rw [List.Nodup, List.pairwise_map];refine List.Pairwise.imp_of_mem ?_ h;intro x y hx hy q e;rw [hi x hx y hy e] at q; cases q
 have := vO0 B (l.map f) hn fun v hv => by
  obtain ⟨x, hx, rfl⟩ := l'B.1 hv;exact hf x hx
 simpa using this
theorem zcF9 (x0 : X) : ∀ i, (stX step eqv A x0 i).1.length ≤ (stX step eqv A x0 (i + 1)).1.length := fun i => by
 obtain ⟨r, h⟩ := qbJ9 step eqv A x0 i;rw [h, l'v]; omega
theorem xcF9 (x0 : X) (i : Nat) (h : (stX step eqv A x0 i).1.length ≤ i) : stX step eqv A x0 (i + 1) = stX step eqv A x0 i := by
 rw [stX, l'I h]
theorem zbJ9 (x0 : X) (B : Nat) (hB : ∀ i, (stX step eqv A x0 i).1.length ≤ B) : ∃ N, N ≤ B ∧ (stX step eqv A x0 N).1.length = N ∧ ∀ i, i < N → i < (stX step eqv A x0 i).1.length := by
 have key : ∀ k, k ≤ B + 1 → (∀ i, i < k → i < (stX step eqv A x0 i).1.length) ∨ ∃ N, N < k ∧ (stX step eqv A x0 N).1.length = N ∧ ∀ i, i < N → i < (stX step eqv A x0 i).1.length := by
  intro k;induction k with
  | zero => intro _; left; intro i h; omega
  | succ k ih =>
   intro hk;rcases ih (by omega) with h|⟨N, h1, h2⟩
   ·rcases l'i k (stX step eqv A x0 k).1.length with q|q
    ·left
     intro i hi;rcases l'i i k with w|w
     ·exact h i w
     ·obtain rfl : i = k := by omega
      exact q
    ·right
     refine ⟨k, by omega, ?_, h⟩;cases k with
     | zero => simp [stX] at q
     | succ k =>
      have h1 := h k (by omega);have h2 := zcF9 (step := step) (eqv := eqv) (A := A) x0 k;omega
   ·right; exact ⟨N, by omega, h2⟩
 rcases key (B + 1) (l'f _) with h|⟨N, h1, h2⟩
 ·have h1 := h B (by omega);have h2 := hB B;omega
 ·exact ⟨N, by omega, h2⟩
end
end Go.Proofs
