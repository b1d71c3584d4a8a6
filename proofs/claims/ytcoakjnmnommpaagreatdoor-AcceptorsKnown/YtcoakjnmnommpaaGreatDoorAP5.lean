import Derived.Test.YtcoakjnmnommpaaGreatDoorAP2
set_option linter.unusedVariables false
set_option linter.unusedSimpArgs false
namespace Go.Proofs
structure Nf where
 n : Nat
 d : Nat → Nat → Nat → Bool
 S : List Nat
 F : List Nat
def stepN (x : Nf) (S : List Nat) (a : Nat) : List Nat := (List.range x.n).filter fun t => S.any fun s => x.d s a t
def wcF9 (x : Nf) : Nat → List Nat → Nat → Prop
 | s, [], t => s = t
 | s, a :: w, t => ∃ u, u < x.n ∧ x.d s a u = true ∧ wcF9 x u w t
theorem vU0 (x : Nf) (S : List Nat) (a t : Nat) : t ∈ stepN x S a ↔ t < x.n ∧ ∃ s ∈ S, x.d s a t = true := by
 unfold stepN;rw [l'T, l'o, l'y]
def accN (x : Nf) (S : List Nat) : Bool := S.any fun s => x.F.contains s
def xbJ9 (x : Nf) (w : List Nat) : Bool := accN x (runX (stepN x) x.S w)
def revN (x : Nf) : Nf := ⟨x.n, fun s a t => x.d t a s, x.F, x.S⟩
theorem zaJ9 (x : Nf) : ∀ (w : List Nat) (s a t : Nat), t < x.n → (wcF9 x s (w ++ [a]) t ↔ ∃ u, (w = [] ∧ u = s ∨ w ≠ [] ∧ u < x.n) ∧ wcF9 x s w u ∧ x.d u a t = true)
 | [], s, a, t, ht => by
  constructor
  ·rintro ⟨u, hu, hd, rfl⟩; exact ⟨s, .inl ⟨rfl, rfl⟩, rfl, hd⟩
  ·rintro ⟨u, h1, h2, hd⟩; cases h2; exact ⟨t, ht, hd, rfl⟩
 | b :: w, s, a, t, ht => by
  rw [List.cons_append];constructor
  ·rintro ⟨v, hv, hd, hp⟩;obtain ⟨u, h1, h2, h3⟩ := (zaJ9 x w v a t ht).1 hp;refine ⟨u, .inr ⟨by simp, ?_⟩, ⟨v, hv, hd, h2⟩, h3⟩;rcases h1 with ⟨_, rfl⟩|⟨_, h⟩
   ·exact hv
   ·exact h
  ·rintro ⟨u, h1, ⟨v, hv, hd, h2⟩, h3⟩;refine ⟨v, hv, hd, (zaJ9 x w v a t ht).2 ⟨u, ?_, h2, h3⟩⟩;cases w with
   | nil => left; cases h2; exact ⟨rfl, rfl⟩
   | cons c w => right; exact ⟨by simp, by rcases h1 with ⟨q, _⟩|⟨_, q⟩; cases q; exact q⟩
structure OkN (x : Nf) : Prop where
 s : ∀ q ∈ x.S, q < x.n
 f : ∀ q ∈ x.F, q < x.n
theorem OkN.rev {x : Nf} (h : OkN x) : OkN (revN x) := ⟨h.f, h.s⟩
def ofD (rows : List (List Nat)) (acc : List Bool) : Nf := ⟨rows.length, fun s a t => (rows.getD s []).getD a 0 == t, [0], (List.range rows.length).filter fun s => acc.getD s false⟩
theorem qdA9 (rows : List (List Nat)) (A : Nat) (hr : ∀ s, s < rows.length → ∀ a, a < A → (rows.getD s []).getD a 0 < rows.length) : ∀ (w : List Nat) (s : Nat), (∀ a ∈ w, a < A) → s < rows.length → runD rows s w < rows.length
 | [], _, _, hs => hs
 | a :: w, s, hw, hs => qdA9 rows A hr w _ (fun b hb => hw b (l'g _ hb)) (hr s hs a (hw a l'n))
def eqL (a b : List Nat) : Bool := decide (a = b)
def InA (A : Nat) (w : List Nat) : Prop := ∀ a ∈ w, a < A
theorem InA.app {A : Nat} {v w : List Nat} (h : InA A v) (h2 : InA A w) : InA A (v ++ w) := fun a ha => (l'D.1 ha).elim (h a) (h2 a)
theorem InA.rev {A : Nat} {v : List Nat} (h : InA A v) : InA A v.reverse := fun a ha => h a (List.mem_reverse.1 ha)
theorem waz9 {X : Type} (step : X → Nat → X) (x : X) (v w : List Nat) : runX step x (v ++ w) = runX step (runX step x v) w := n'T
def detS (x : Nf) (A N : Nat) : List (List Nat) := (stX (stepN x) eqL A x.S N).1
def detR (x : Nf) (A N : Nat) : List (List Nat) := (stX (stepN x) eqL A x.S N).2
def detA (x : Nf) (A N : Nat) : List Bool := (detS x A N).map (accN x)
theorem qx0 (x : List Nat) : eqL x x = true := by simp [eqL]
theorem kbv9 {x y : List Nat} (h : eqL x y = true) : x = y := by simpa [eqL] using h
structure keA9 (x : Nf) (A N : Nat) : Prop where
 len : (detR x A N).length = N
 pos : 0 < N
 row : ∀ s, s < N → ∀ a, a < A → ((detR x A N).getD s []).getD a 0 < N
 run : ∀ w, InA A w → (detS x A N)[runD (detR x A N) 0 w]? = some (runX (stepN x) x.S w)
 acc : ∀ w, InA A w → (detA x A N).getD (runD (detR x A N) 0 w) false = xbJ9 x w
 all : ∀ t, t < N → ∃ w, InA A w ∧ runD (detR x A N) 0 w = t
theorem wei9 (x : Nf) (A N : Nat) (hN : (detS x A N).length = N) : keA9 x A N := by
 have h0 : (detS x A N)[0]? = some x.S := wO0 x.S N;have hpos : 0 < N := by have := (l'c.1 h0).1; omega
 have hrun : ∀ w, InA A w → (detS x A N)[runD (detR x A N) 0 w]? = some (runX (stepN x) x.S w) := fun w hw => by
  obtain ⟨y, h1, h2⟩ := qcF9 (step := stepN x) (eqv := eqL) (A := A) qx0 (fun u v a h _ => by rw [kbv9 h]; exact qx0 _) (fun u v z h1 h2 => by rw [kbv9 h1]; exact h2) x.S N hN w hw 0 x.S h0 x.S (qx0 _);rw [← kbv9 h2]; exact h1
 have hat := vcj9 (step := stepN x) (eqv := eqL) (A := A) qx0 x.S N (n'P hN.symm);refine ⟨vA0 _ _ _ _ _ (n'P hN.symm), hpos, ?_, hrun, ?_, ?_⟩
 ·intro s hs a ha;obtain ⟨y, _, h2⟩ := hat s hs;have := h2 a ha;have e : ((detR x A N).getD s []).getD a 0 = findX eqL (stX (stepN x) eqL A x.S N).1 (stepN x y a) := this.1;have l : (stX (stepN x) eqL A x.S N).1.length = N := hN;rw [e]; omega
 ·intro w hw;have := hrun w hw;rw [detA, l'b, l'p, this]; rfl
 ·intro t ht;have hall := zaf9 (stepN x) eqL A (P := fun y => ∃ w, InA A w ∧ y = runX (stepN x) x.S w) x.S ⟨[], fun a h => (by cases h), rfl⟩ (by
   rintro y ⟨w, hw, rfl⟩ a ha;exact ⟨w ++ [a], hw.app fun b hb => by simp at hb; omega, by rw [waz9]; rfl⟩) N
  have ht' : t < (detS x A N).length := by omega
  obtain ⟨w, hw, e⟩ := hall _ (l'X ht');refine ⟨w, hw, ?_⟩;have h1 := hrun w hw;have hap := qK0 (stepN x) eqL A x.S N;have h2 : (detS x A N)[t]? = some (runX (stepN x) x.S w) := by rw [l'e ht']; exact congrArg some e
  generalize runD (detR x A N) 0 w = s at *;obtain ⟨q1, q1'⟩ := l'c.1 h1;obtain ⟨q2, q2'⟩ := l'c.1 h2;have hp := n'D.1 hap;rcases Nat.lt_trichotomy s t with q|q|q
  ·have := hp s t q1 q2 q;have e2 : (detS x A N)[s] = (detS x A N)[t] := by rw [q1', q2']
   have e3 : eqL (detS x A N)[s] (detS x A N)[t] = true := by rw [e2]; exact qx0 _
   have e4 : eqL (detS x A N)[s] (detS x A N)[t] = false := this;rw [e3] at e4; cases e4
  ·exact q
  ·have := hp t s q2 q1 q;have e2 : (detS x A N)[t] = (detS x A N)[s] := by rw [q1', q2']
   have e3 : eqL (detS x A N)[t] (detS x A N)[s] = true := by rw [e2]; exact qx0 _
   have e4 : eqL (detS x A N)[t] (detS x A N)[s] = false := this;rw [e3] at e4; cases e4
def zeF9 (x : Nf) (A N : Nat) : Nf := revN (ofD (detR (revN x) A N) (detA (revN x) A N))
theorem kcj9 {n : Nat} {p q : Nat → Bool} (h : ∀ t, t < n → (t ∈ (List.range n).filter p ↔ t ∈ (List.range n).filter q)) : (List.range n).filter p = (List.range n).filter q := by
 refine n'u fun t ht => ?_;have := h t (l'o.1 ht);rw [l'T, l'T] at this;rw [l'u];exact ⟨fun q1 => (this.1 ⟨ht, q1⟩).2, fun q1 => (this.2 ⟨ht, q1⟩).2⟩
section
variable (e : Nat → Nat → Bool)
def eqX (x y : Nat) : Bool := decide (x = y)
def firsts (l : List Nat) : List Nat := l.foldl (addX e) []
theorem qo0 (l : List Nat) (x : Nat) : firsts e (l ++ [x]) = addX e (firsts e l) x := by simp [firsts, n'T]
end
section
variable {step : Nat → Nat → Nat} {e : Nat → Nat → Bool} {A : Nat}
theorem find_lt {l : List Nat} {x : Nat} : findX e l x < l.length ↔ ∃ y ∈ l, e y x = true := List.findIdx_lt_length
theorem val9 {l : List Nat} {x : Nat} (h : ∃ y ∈ l, e y x = true) : addX e l x = l := by
 have := find_lt.2 h;unfold addX; rw [if_neg (by omega)]
theorem wD0 {l : List Nat} {x : Nat} (h : ¬ ∃ y ∈ l, e y x = true) : addX e l x = l ++ [x] := by
 have h1 : ¬ findX e l x < l.length := fun q => h (find_lt.1 q);have := qaJ9 (eqv := e) l x;unfold addX; rw [if_pos (by omega)]
theorem xar9 : ∀ (r l : List Nat), ∀ x ∈ r.foldl (addX e) l, x ∈ l ∨ x ∈ r
 | [], l, x, h => .inl h
 | y :: r, l, x, h => by
  rcases xar9 r (addX e l y) x h with q|q
  ·by_cases w : ∃ z ∈ l, e z y = true
   ·rw [val9 w] at q; exact .inl q
   ·rw [wD0 w] at q;rcases l'D.1 q with q|q
    ·exact .inl q
    ·simp at q; right; simp [q]
  ·right; exact l'g _ q
theorem qaX9 (hr : ∀ x, e x x = true) : ∀ (r l : List Nat), (∀ x ∈ l, x ∈ r.foldl (addX e) l) ∧ (∀ x ∈ r, ∃ y ∈ r.foldl (addX e) l, e y x = true)
 | [], l => ⟨fun x h => h, fun x h => by cases h⟩
 | z :: r, l => by
  have ih := qaX9 hr r (addX e l z);have hsub : ∀ x ∈ l, x ∈ addX e l z := fun x hx => by
   obtain ⟨s, h⟩ := zZ0 e l z; rw [h]; exact n'c _ hx
  refine ⟨fun x hx => ih.1 x (hsub x hx), fun x hx => ?_⟩;rcases l'C.1 hx with rfl|hx
  ·by_cases w : ∃ y ∈ l, e y x = true
   ·obtain ⟨y, hy, hyx⟩ := w;exact ⟨y, ih.1 y (hsub y hy), hyx⟩
   ·exact ⟨x, ih.1 x (by rw [wD0 w]; simp), hr x⟩
  ·exact ih.2 x hx
theorem kt0 (hr : ∀ x, e x x = true) {l : List Nat} {x : Nat} (h : x ∈ l) : ∃ y ∈ firsts e l, e y x = true := (qaX9 hr l []).2 x h
theorem qck9 (hr : ∀ x, e x x = true) (l : List Nat) (x : Nat) : firsts e (addX eqX l x) = addX e (firsts e l) x := by
 by_cases w : ∃ y ∈ l, eqX y x = true
 ·rw [val9 w];obtain ⟨y, hy, hyx⟩ := w;have : y = x := by simpa [eqX] using hyx
  subst this;rw [val9 (kt0 hr hy)]
 ·rw [wD0 w, qo0]
theorem zaX9 (hr : ∀ x, e x x = true) (l : List Nat) (x : Nat) : ∀ a, firsts e (rowX step eqX l x a).1 = (rowX step e (firsts e l) x a).1
 | 0 => rfl
 | a + 1 => by rw [rowX, rowX]; simp only; rw [qck9 hr, zaX9 hr l x a]
theorem xbU9 {l : List Nat} {x : Nat} : ∀ a, (∀ b, b < a → ∃ y ∈ l, e y (step x b) = true) → (rowX step e l x a).1 = l
 | 0, _ => rfl
 | a + 1, h => by
  rw [rowX];simp only;rw [xbU9 a fun b hb => h b (by omega), val9 (h a (by omega))]
theorem vZ0 (l r : List Nat) : ∃ t, firsts e (l ++ r) = firsts e l ++ t := by
 unfold firsts;rw [n'T];generalize l.foldl (addX e) [] = m;induction r generalizing m with
 | nil => exact ⟨[], (l'R m).symm⟩
 | cons x r ih =>
  obtain ⟨t, h⟩ := ih (addX e m x);obtain ⟨s, h2⟩ := zZ0 e m x;exact ⟨s ++ t, by rw [List.foldl_cons, h, h2, l'A]⟩
theorem kO0 (hr : ∀ x, e x x = true) (hs : ∀ x y, e x y = true → e y x = true) (ht : ∀ x y z, e x y = true → e y z = true → e x z = true) (hc : ∀ x y a, e x y = true → a < A → e (step x a) (step y a) = true) (x0 : Nat) :
  ∀ i, i ≤ (stX step eqX A x0 i).1.length → firsts e (stX step eqX A x0 i).1 = (stX step e A x0 (firsts e ((stX step eqX A x0 i).1.take i)).length).1 ∧
   ∀ x ∈ (stX step eqX A x0 i).1.take i, ∀ a, a < A → step x a ∈ (stX step eqX A x0 i).1
 | 0, _ => by
  refine ⟨?_, fun x hx => by simp at hx⟩;have h1 : ¬ ∃ y ∈ ([] : List Nat), e y x0 = true := by rintro ⟨y, hy, _⟩; cases hy
  show addX e [] x0 = _;rw [wD0 h1]; rfl
 | i + 1, hi => by
  obtain ⟨p, hp⟩ := qbJ9 step eqX A x0 i;cases q : (stX step eqX A x0 i).1[i]? with
  | none =>
   have := n'C.1 q;rw [xcF9 x0 i this] at hi;omega
  | some x =>
   have hlt : i < (stX step eqX A x0 i).1.length := (l'c.1 q).1;obtain ⟨ih1, ih2⟩ := kO0 hr hs ht hc x0 i (by omega);have hst : (stX step eqX A x0 (i + 1)).1 = (rowX step eqX (stX step eqX A x0 i).1 x A).1 := by rw [stX, q]
   have htk : (stX step eqX A x0 (i + 1)).1.take (i + 1) = (stX step eqX A x0 i).1.take i ++ [x] := by
    rw [hp, List.take_append_of_le_length (by omega), List.take_add_one, q]; rfl
   have hmem : ∀ a, a < A → step x a ∈ (rowX step eqX (stX step eqX A x0 i).1 x A).1 := fun a ha => by
    have h1 := kcE9 (step := step) (eqv := eqX) (fun x => by simp [eqX]) (stX step eqX A x0 i).1 x A a ha;obtain ⟨y, hy, hyx⟩ := find_lt.1 h1.2;have : y = step x a := by simpa [eqX] using hyx
    rw [← this]; exact hy
   refine ⟨?_, ?_⟩
   ·rw [htk, qo0, hst, zaX9 hr];have hx : x ∈ (stX step eqX A x0 i).1 := l'q q;by_cases w : ∃ y ∈ firsts e ((stX step eqX A x0 i).1.take i), e y x = true
    ·rw [val9 w, ← ih1];apply xbU9;intro a ha;obtain ⟨y, hy, hyx⟩ := w;have hyt : y ∈ (stX step eqX A x0 i).1.take i := by
      rcases xar9 _ _ y hy with z|z
      ·cases z
      ·exact z
     obtain ⟨z, hz, hzy⟩ := kt0 hr (ih2 y hyt a ha);exact ⟨z, hz, ht _ _ _ hzy (hc _ _ _ hyx ha)⟩
    ·rw [wD0 w, l'v, List.length_singleton, stX];have hsplit : (stX step eqX A x0 i).1 = ((stX step eqX A x0 i).1.take i ++ [x]) ++ (stX step eqX A x0 i).1.drop (i + 1) := by
      conv => lhs; rw [← l'Q (i + 1) (stX step eqX A x0 i).1]
      rw [List.take_add_one, q]; rfl
     obtain ⟨t, h3⟩ := vZ0 (e := e) ((stX step eqX A x0 i).1.take i ++ [x]) ((stX step eqX A x0 i).1.drop (i + 1));rw [← hsplit, qo0, wD0 w, ih1] at h3;have hat : (stX step e A x0 (firsts e ((stX step eqX A x0 i).1.take i)).length).1[(firsts e ((stX step eqX A x0 i).1.take i)).length]? = some x := by
      rw [h3, l'A, l'r (l'f _), n's]; rfl
     rw [hat];simp only;rw [ih1]
   ·rw [htk, hst];intro y hy a ha;rcases l'D.1 hy with h1|h1
    ·obtain ⟨t, h⟩ := xZ0 step eqX (stX step eqX A x0 i).1 x A;rw [h]; exact n'c _ (ih2 y h1 a ha)
    ·simp only [l'N] at h1;subst h1;exact hmem a ha
end
end Go.Proofs
