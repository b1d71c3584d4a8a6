import Derived.Test.YtcoakjnmnommpaaGreatDoorAP8
import Derived.Test.YtcoakjnmnommpaaGreatDoorAP2
set_option linter.unusedVariables false
set_option linter.unusedSimpArgs false
namespace Go.Proofs
theorem waX9 : ∀ {l m : List Int}, l.Pairwise (· < ·) → m.Pairwise (· < ·) → (∀ x, x ∈ l ↔ x ∈ m) → l = m
 | [], [], _, _, _ => rfl
 | [], y :: m, _, _, h => absurd ((h y).2 l'n) (by simp)
 | x :: l, [], _, _, h => absurd ((h x).1 l'n) (by simp)
 | x :: l, y :: m, hl, hm, h => by
  obtain ⟨l1, l2⟩ := z'b.1 hl;obtain ⟨m1, m2⟩ := z'b.1 hm;have hxy : x = y := by
   rcases l'C.1 ((h x).1 l'n) with q|q
   ·exact q
   ·rcases l'C.1 ((h y).2 l'n) with w|w
    ·exact w.symm
    ·have := m1 x q; have := l1 y w; omega
  subst hxy;rw [waX9 l2 m2 fun z => ?_];constructor
  ·intro hz;rcases l'C.1 ((h z).1 (l'g _ hz)) with q|q
   ·have := l1 z hz; omega
   ·exact q
  ·intro hz;rcases l'C.1 ((h z).2 (l'g _ hz)) with q|q
   ·have := m1 z hz; omega
   ·exact q
def okI (l : List Int) (n : Int) (i : Nat) : Bool := decide (0 ≤ l.getD i 0) && (decide (l.getD i 0 < n) && (decide (i = 0) || decide (l.getD (i - 1) 0 < l.getD i 0)))
def zf0 (l : List Int) (n : Int) : Bool := (List.range l.length).all fun i => okI l n i
theorem vaJ9 {l : List Int} {n : Int} (h : ∀ i, i < l.length → okI l n i = true) : zf0 l n = true := by
 rw [zf0, l'j]; exact fun i hi => h i (l'o.1 hi)
theorem kbU9 {l : List Int} {n : Int} {i : Nat} (hi : i < l.length) (h : okI l n i = false) : zf0 l n = false := by
 rw [zf0, z'i]; exact ⟨i, l'o.2 hi, by rw [h]; decide⟩
theorem qbV9 {l : List Int} {n : Int} (h : zf0 l n = true) {i : Nat} (hi : i < l.length) : okI l n i = true := by
 rw [zf0, l'j] at h; exact h i (l'o.2 hi)
theorem qf0 {l : List Int} {n : Int} (h : zf0 l n = true) : ∀ x ∈ l, 0 ≤ x ∧ x < n := fun x hx => by
 obtain ⟨i, hi, rfl⟩ := l'G hx;have := qbV9 h hi;simp only [okI, l'a, decide_eq_true_eq, l'b, l'e hi, Option.getD_some] at this;exact ⟨this.1, this.2.1⟩
theorem kav9 {l : List Int} {n : Int} (h : zf0 l n = true) : l.Pairwise (· < ·) := by
 have step : ∀ i, (hi : i + 1 < l.length) → l[i]'(by omega) < l[i + 1] := fun i hi => by
  have := qbV9 h hi;simp only [okI, l'a, decide_eq_true_eq, l'b, l'e hi, Option.getD_some, z'x, l'H] at this;rcases this.2.2 with q|q
  ·omega
  ·rwa [l'e (by omega), Option.getD_some] at q
 have far : ∀ d i, (hi : i + d + 1 < l.length) → l[i]'(by omega) < l[i + d + 1] := by
  intro d;induction d with
  | zero => exact fun i hi => step i hi
  | succ d ih => intro i hi; have := ih i (by omega); have := step (i + d + 1) (by omega); exact Int.lt_trans ‹l[i] < _› this
 rw [n'D];intro i j hi hj hij;obtain ⟨d, rfl⟩ : ∃ d, j = i + d + 1 := ⟨j - i - 1, by omega⟩;exact far d i hj
def natL (l : List Int) : List Nat := l.map Int.toNat
theorem kU0 {l : List Int} {n : Nat} (h : zf0 l n = true) : natL l = (List.range n).filter fun t : Nat => l.contains (t : Int) := by
 have hr := qf0 h;have hs := kav9 h;have h1 : l = ((List.range n).filter fun t : Nat => l.contains (t : Int)).map fun t : Nat => (t : Int) := by
  refine waX9 hs ?_ fun x => ?_
  ·rw [List.pairwise_map];exact (List.pairwise_lt_range.filter _).imp fun q => by omega
  ·rw [l'B];constructor
   ·intro hx;have := hr x hx;refine ⟨x.toNat, l'T.2 ⟨l'o.2 (by omega), ?_⟩, by omega⟩;rw [l'h, show ((x.toNat : Nat) : Int) = x by omega]; exact hx
   ·rintro ⟨t, ht, rfl⟩;exact l'h.1 (l'T.1 ht).2
 calc natL l = natL (((List.range n).filter fun t : Nat => l.contains (t : Int)).map fun t : Nat => (t : Int)) := by rw [← h1]
  _ = _ := by rw [natL, n'k]; exact (l'L fun t _ => Int.toNat_natCast t).trans (List.map_id _)
theorem zbw9 (n : Nat) (p : Nat → Bool) : zf0 (((List.range n).filter p).map fun t : Nat => (t : Int)) n = true := by
 have hs : (((List.range n).filter p).map fun t : Nat => (t : Int)).Pairwise (· < ·) := by
  rw [List.pairwise_map]; exact (List.pairwise_lt_range.filter _).imp fun q => by omega
 have hm : ∀ x ∈ ((List.range n).filter p).map (fun t : Nat => (t : Int)), 0 ≤ x ∧ x < n := fun x hx => by
  obtain ⟨t, ht, rfl⟩ := l'B.1 hx;have := l'o.1 (l'T.1 ht).1;omega
 generalize ((List.range n).filter p).map (fun t : Nat => (t : Int)) = l at *;refine vaJ9 fun i hi => ?_;have h1 := hm _ (l'X hi);simp only [okI, l'b, l'e hi, Option.getD_some, l'a, decide_eq_true_eq, l'H];refine ⟨h1.1, h1.2, ?_⟩;rcases n'G i with q|q
 ·exact .inl q
 ·refine .inr ?_;rw [l'e (by omega), Option.getD_some];exact n'D.1 hs _ _ _ _ (by omega)
def vG0 (sym n : Int) (r : List (List Int)) : Bool := decide ((r.length : Int) = sym) && r.all fun l => zf0 l n
def wh0 (sym : Int) (rows : List (List (List Int))) (st ac : List Int) : Int :=
 if 16 < sym ∨ 256 < rows.length then 3 else if sym < 1 ∨ zf0 st rows.length = false ∨ zf0 ac rows.length = false ∨ rows.all (vG0 sym rows.length) = false then 1 else 0
def xK0 (sym n : Int) (r : List Int) : Bool := decide ((r.length : Int) = sym) && r.all fun t => decide (0 ≤ t) && decide (t < n)
def vd0 (sym : Int) (rows : List (List Int)) (m : Nat) : Int :=
 if 16 < sym ∨ 256 < rows.length then 3 else if sym < 1 ∨ rows.length < 1 ∨ m ≠ rows.length ∨ rows.all (xK0 sym rows.length) = false then 1 else 0
structure OkNv (A : Nat) (rows : List (List (List Int))) (st ac : List Int) : Prop where
 a1 : 1 ≤ A
 a2 : A ≤ 16
 n : rows.length ≤ 256
 st : zf0 st rows.length = true
 ac : zf0 ac rows.length = true
 len : ∀ s, s < rows.length → (rows.getD s []).length = A
 ri : ∀ s a, s < rows.length → a < A → zf0 ((rows.getD s []).getD a []) rows.length = true
theorem wc0 {α : Type} {l : List α} {d : α} {i : Nat} (h : i < l.length) : l.getD i d ∈ l := by
 rw [l'b, l'e h]; exact l'X h
theorem wK0 {sym : Int} {rows : List (List (List Int))} {st ac : List Int} (h : wh0 sym rows st ac = 0) : ∃ A : Nat, sym = A ∧ OkNv A rows st ac := by
 unfold wh0 at h;split at h
 ·cases h
 ·rename_i h1;split at h
  ·cases h
  ·rename_i h2;simp only [not_or, n'B, Int.not_lt] at h1 h2;obtain ⟨g1, g2, g3, g4⟩ := h2;rw [l'j] at g4;refine ⟨sym.toNat, by omega, by omega, by omega, by omega, g2, g3, fun s hs => ?_, fun s a hs ha => ?_⟩
   ·have := g4 _ (wc0 (d := []) hs);simp only [vG0, l'a, decide_eq_true_eq] at this;omega
   ·have := g4 _ (wc0 (d := []) hs);simp only [vG0, l'a, decide_eq_true_eq, l'j] at this;exact this.2 _ (wc0 (by omega))
theorem xbw9 {A : Nat} {rows : List (List (List Int))} {st ac : List Int} (h : OkNv A rows st ac) : wh0 A rows st ac = 0 := by
 unfold wh0;have := h.a1; have := h.a2; have := h.n
 rw [if_neg (by omega), if_neg];simp only [not_or, n'B];refine ⟨by omega, h.st, h.ac, ?_⟩;rw [l'j];intro r hr;obtain ⟨s, hs, rfl⟩ := l'G hr;have e : rows[s] = rows.getD s [] := by rw [l'b, l'e hs]; rfl
 rw [e];simp only [vG0, l'a, decide_eq_true_eq, l'j];refine ⟨by rw [h.len s hs], fun l hl => ?_⟩;obtain ⟨a, ha, rfl⟩ := l'G hl;have := h.ri s a hs (by rw [← h.len s hs]; exact ha)
 rwa [l'b, l'e ha] at this
def nfOf (rows : List (List (List Int))) (st ac : List Int) : Nf := ⟨rows.length, fun s a t => ((rows.getD s []).getD a []).contains (t : Int), natL st, natL ac⟩
structure OkDv (A : Nat) (rows : List (List Int)) (m : Nat) : Prop where
 a1 : 1 ≤ A
 a2 : A ≤ 16
 n1 : 1 ≤ rows.length
 n : rows.length ≤ 256
 m : m = rows.length
 len : ∀ s, s < rows.length → (rows.getD s []).length = A
 tq : ∀ s a, s < rows.length → a < A → 0 ≤ (rows.getD s []).getD a 0 ∧ (rows.getD s []).getD a 0 < rows.length
theorem qV0 {sym : Int} {rows : List (List Int)} {m : Nat} (h : vd0 sym rows m = 0) : ∃ A : Nat, sym = A ∧ OkDv A rows m := by
 unfold vd0 at h;split at h
 ·cases h
 ·rename_i h1;split at h
  ·cases h
  ·rename_i h2;simp only [not_or, n'B, Int.not_lt, Nat.not_lt, ne_eq, z'B] at h1 h2;obtain ⟨g1, g2, g3, g4⟩ := h2;rw [l'j] at g4;refine ⟨sym.toNat, by omega, by omega, by omega, g2, by omega, g3, fun s hs => ?_, fun s a hs ha => ?_⟩
   ·have := g4 _ (wc0 (d := []) hs);simp only [xK0, l'a, decide_eq_true_eq] at this;omega
   ·have := g4 _ (wc0 (d := []) hs);simp only [xK0, l'a, decide_eq_true_eq, l'j] at this;have h5 := this.2 _ (wc0 (d := 0) (i := a) (by omega));exact h5
theorem qcG9 {A : Nat} {rows : List (List Int)} {m : Nat} (h : OkDv A rows m) : vd0 A rows m = 0 := by
 unfold vd0;have := h.a1; have := h.a2; have := h.n; have := h.n1; have := h.m
 rw [if_neg (by omega), if_neg];simp only [not_or, n'B, ne_eq, z'B];refine ⟨by omega, by omega, h.m, ?_⟩;rw [l'j];intro r hr;obtain ⟨s, hs, rfl⟩ := l'G hr;have e : rows[s] = rows.getD s [] := by rw [l'b, l'e hs]; rfl
 rw [e];simp only [xK0, l'a, decide_eq_true_eq, l'j];refine ⟨by rw [h.len s hs], fun t ht => ?_⟩;obtain ⟨a, ha, rfl⟩ := l'G ht;have := h.tq s a hs (by rw [← h.len s hs]; exact ha)
 rwa [l'b, l'e ha] at this
end Go.Proofs
namespace Go.Proofs
open Go Go.V
def splitC (c : UInt8) : Bs → List Bs
 | [] => [[]]
 | b :: r => if b = c then [] :: splitC c r else match splitC c r with|[] => [[b]]|p :: l => (b :: p) :: l
theorem xh0 (c : UInt8) (s : Bs) : splitC c s ≠ [] := by
 cases s with
 | nil => simp [splitC]
 | cons b r =>
  rw [splitC];split
  ·simp
  ·split <;> simp
theorem kr0 (c : UInt8) (r : Bs) : splitC c (c :: r) = [] :: splitC c r := by rw [splitC, if_pos rfl]
theorem zj0 {c b : UInt8} (h : ¬ b = c) {r p : Bs} {l : List Bs} (q : splitC c r = p :: l) : splitC c (b :: r) = (b :: p) :: l := by rw [splitC, if_neg h, q]
theorem vaf9 (c : UInt8) : ∀ s : Bs, splitC c (s ++ [c]) = splitC c s ++ [[]]
 | [] => by simp [splitC]
 | b :: r => by
  have ih := vaf9 c r;rw [List.cons_append];by_cases h : b = c
  ·subst h; rw [kr0, kr0, ih]; rfl
  ·obtain ⟨p, l, q⟩ := l'K (xh0 c r);rw [zj0 h q, zj0 h (by rw [ih, q]; rfl)]; rfl
theorem kaJ9 (c : UInt8) : ∀ s : Bs, ∀ p ∈ splitC c s, ¬ c ∈ p
 | [], p, hp => by simp [splitC] at hp; subst hp; simp
 | b :: r, p, hp => by
  have ih := kaJ9 c r;by_cases h : b = c
  ·subst h;rw [kr0] at hp;rcases l'C.1 hp with rfl|hp
   ·simp
   ·exact ih p hp
  ·obtain ⟨q, l, e⟩ := l'K (xh0 c r);rw [zj0 h e] at hp;rw [e] at ih;rcases l'C.1 hp with rfl|hp
   ·intro hc;rcases l'C.1 hc with rfl|hc
    ·exact h rfl
    ·exact ih q l'n hc
   ·exact ih p (l'g _ hp)
theorem zcG9 (b : UInt8) (p : Bs) (l : List Bs) (sep : Bs) : Lib.join ((b :: p) :: l) sep = b :: Lib.join (p :: l) sep := by
 cases l with
 | nil => rw [xr0, xr0]
 | cons q l => rw [qk0, qk0]; rfl
theorem vD0 (c : UInt8) : ∀ s : Bs, Lib.join (splitC c s) [c] = s
 | [] => by rw [splitC, xr0]
 | b :: r => by
  have ih := vD0 c r;obtain ⟨q, l, e⟩ := l'K (xh0 c r);by_cases h : b = c
  ·subst h;rw [kr0];rw [e] at ih ⊢;rw [qk0, ih]; rfl
  ·rw [zj0 h e, zcG9, ← e, ih]
theorem vaz9 (c : UInt8) (s : Bs) : wx0 s [c] = splitC c s := by
 have h := zar9 (sep := [c]) (q := 0) (c := c) ⟨rfl, fun k h => by omega⟩ (splitC c s) (xh0 c s) (kaJ9 c s);rw [vD0] at h;exact h
theorem qaK9 (c : UInt8) (l : List Bs) (h : l ≠ []) (hf : ∀ p ∈ l, ¬ c ∈ p) : splitC c (Lib.join l [c]) = l := by
 rw [← vaz9];exact zar9 (q := 0) (c := c) ⟨rfl, fun k h => by omega⟩ l h hf
theorem kbJ9 (c : UInt8) (s : Bs) (h : (splitC c s).getLast (xh0 c s) = []) : s = [] ∨ ∃ t, s = t ++ [c] := by
 rcases n'N s with e|⟨t, b, e⟩
 ·exact .inl e
 ·rw [n'O] at e;subst e;right
  by_cases hb : b = c
  ·subst hb; exact ⟨t, rfl⟩
  ·exfalso;have key : ∀ t : Bs, ∃ l p, splitC c (t ++ [b]) = l ++ [p ++ [b]] := by
    intro t;induction t with
    | nil => exact ⟨[], [], by rw [List.nil_append, zj0 hb (p := []) (l := []) rfl]; rfl⟩
    | cons a t ih =>
     obtain ⟨l, p, e⟩ := ih;rw [List.cons_append];by_cases ha : a = c
     ·subst ha; exact ⟨[] :: l, p, by rw [kr0, e]; rfl⟩
     ·cases l with
      | nil => exact ⟨[], a :: p, by rw [zj0 ha (p := p ++ [b]) (l := []) (by rw [e]; rfl)]; rfl⟩
      | cons q l => exact ⟨(a :: q) :: l, p, by rw [zj0 ha (p := q) (l := l ++ [p ++ [b]]) (by rw [e]; rfl)]; rfl⟩
   obtain ⟨l, p, e⟩ := key t;have : (splitC c (t ++ [b])).getLast (xh0 c _) = p ++ [b] := by simp only [e]; simp
   rw [this] at h;simp at h
def int4 (f : Bs) : Option Int := if waW9 f ∧ f.length ≤ 4 then some (numF 0 f) else none
def wi0 : List Bs → Option (List Int)
 | [] => some []
 | f :: r => match int4 f, wi0 r with|some x, some xs => some (x :: xs)|_, _ => none
theorem zaK9 {f : Bs} {x : Int} (h : int4 f = some x) : Lib.itoa x = f := by
 unfold int4 at h;split at h
 ·rename_i q;injection h with h; subst h
  exact xbv9 f.length f (l'f _) q.1
 ·cases h
theorem vK0 : ∀ {l : List Bs} {xs : List Int}, wi0 l = some xs → xs.map Lib.itoa = l
 | [], xs, h => by simp only [wi0, Option.some.injEq] at h; subst h; rfl
 | f :: r, xs, h => by
  unfold wi0 at h;split at h
  ·rename_i x xs' h1 h2;simp only [Option.some.injEq] at h;subst h;rw [List.map_cons, zaK9 h1, vK0 h2]
  ·cases h
theorem xcG9 {v : Int} (h0 : 0 ≤ v) (h1 : v ≤ 9999) : (Lib.itoa v).length ≤ 4 := by
 by_cases a : v < 10
 ·rw [zg0 v h0 a]; simp
 ·rw [kY0 v (by omega), zg0 (v % 10) (by omega) (by omega), l'v];have := wcE9 (v := v / 10) (by omega) (by omega);simp only [List.length_cons, List.length_nil]; omega
theorem wcG9 {v : Int} (h0 : 0 ≤ v) (h1 : v ≤ 9999) : int4 (Lib.itoa v) = some v := by
 obtain ⟨a, b, _⟩ := qZ0 v.toNat v h0 (by omega);rw [int4, if_pos ⟨a, xcG9 h0 h1⟩, b]
theorem var9 : ∀ {xs : List Int}, (∀ x ∈ xs, 0 ≤ x ∧ x ≤ 9999) → wi0 (xs.map Lib.itoa) = some xs
 | [], _ => rfl
 | x :: xs, h => by
  have h1 := h x l'n;rw [List.map_cons, wi0, wcG9 h1.1 h1.2, var9 fun y hy => h y (l'g _ hy)]
def qy0 : Bs := [97, 99, 99, 101, 112, 116, 111, 114]
def kA0 (b : Bool) : Bs := if b = true then [43] else [45]
def kK0 (first : Bs) (l : List Int) : Bs := Lib.join (first :: l.map Lib.itoa) [32]
def qv0 (rows : List (List Int × Bool)) : List Bs := rows.map fun r => kK0 (kA0 r.2) r.1
def zV0 (A : Int) (rows : List (List Int × Bool)) : Bs := (kK0 qy0 [A, (rows.length : Int)] :: qv0 rows).flatMap fun l => l ++ [10]
def xP0 (line : Bs) : Option (List Int × Bool) :=
 match wi0 (splitC 32 line).tail with
 | none => none
 | some row => if (splitC 32 line).headD [] = [43] then some (row, true) else if (splitC 32 line).headD [] = [45] then some (row, false) else none
def vm0 : List Bs → Option (List (List Int × Bool))
 | [] => some []
 | l :: r => match xP0 l, vm0 r with|some x, some xs => some (x :: xs)|_, _ => none
def kQ0 (lines : List Bs) : Option (Int × List (List Int × Bool)) :=
 match wi0 (splitC 32 (lines.headD [])).tail with
 | none => none
 | some size => if (splitC 32 (lines.headD [])).headD [] = qy0 ∧ size.length = 2 ∧ size.getD 1 0 = ((lines.length - 1 : Nat) : Int) then
   (match vm0 lines.tail with|none => none|some rows => some (size.getD 0 0, rows)) else none
def qr0 (s : Bs) : Option (Int × List (List Int × Bool)) := if s.getLast? = some 10 then kQ0 (splitC 10 s.dropLast) else none
theorem xdO9 (b : Bool) : ¬ (32 : UInt8) ∈ kA0 b := by cases b <;> decide
theorem vaX9 (first : Bs) (l : List Int) (h : ¬ (32 : UInt8) ∈ first) (hl : ∀ x ∈ l, 0 ≤ x) : splitC 32 (kK0 first l) = first :: l.map Lib.itoa := by
 refine qaK9 32 _ (by simp) ?_;intro p hp;rcases l'C.1 hp with rfl|hp
 ·exact h
 ·obtain ⟨n, hn, rfl⟩ := l'B.1 hp;exact xbT9 (wbv9 (hl n hn)) (by decide)
theorem vcG9 (first : Bs) (l : List Int) (h : ¬ (10 : UInt8) ∈ first) (hl : ∀ x ∈ l, 0 ≤ x) : ¬ (10 : UInt8) ∈ kK0 first l := by
 refine qbT9 _ (by decide) ?_;intro p hp;rcases l'C.1 hp with rfl|hp
 ·exact h
 ·obtain ⟨n, hn, rfl⟩ := l'B.1 hp;exact xbT9 (wbv9 (hl n hn)) (by decide)
theorem wbw9 (l : List Bs) (h : l ≠ []) : (l.flatMap fun p => p ++ [10]) = Lib.join l [10] ++ [10] := by
 match l with
 | [] => exact absurd rfl h
 | p :: r =>
  induction r generalizing p with
  | nil => simp [xr0]
  | cons q r ih => rw [List.flatMap_cons, ih q (by simp), qk0]; simp
theorem wck9 (l : List Int) (b : Bool) (hl : ∀ x ∈ l, 0 ≤ x ∧ x ≤ 9999) : xP0 (kK0 (kA0 b) l) = some (l, b) := by
 unfold xP0;rw [vaX9 _ _ (xdO9 b) fun x hx => (hl x hx).1, List.tail_cons, var9 hl];cases b <;> rfl
theorem kaX9 : ∀ (rows : List (List Int × Bool)), (∀ r ∈ rows, ∀ x ∈ r.1, 0 ≤ x ∧ x ≤ 9999) → vm0 (qv0 rows) = some rows
 | [], _ => rfl
 | r :: rows, h => by
  have e : qv0 (r :: rows) = kK0 (kA0 r.2) r.1 :: qv0 rows := rfl;rw [e, vm0, wck9 r.1 r.2 (h r l'n), kaX9 rows fun q hq => h q (l'g _ hq)]
theorem qbK9 (A : Int) (rows : List (List Int × Bool)) (hA : 0 ≤ A ∧ A ≤ 9999) (hn : rows.length ≤ 9999) (h : ∀ r ∈ rows, ∀ x ∈ r.1, 0 ≤ x ∧ x ≤ 9999) : qr0 (zV0 A rows) = some (A, rows) := by
 have hh : ∀ x ∈ [A, (rows.length : Int)], 0 ≤ x ∧ x ≤ 9999 := fun x hx => by simp at hx; omega
 have hs : splitC 10 (Lib.join (kK0 qy0 [A, (rows.length : Int)] :: qv0 rows) [10]) = kK0 qy0 [A, (rows.length : Int)] :: qv0 rows := by
  refine qaK9 10 _ (by simp) ?_;intro p hp;rcases l'C.1 hp with rfl|hp
  ·exact vcG9 _ _ (by decide) fun x hx => (hh x hx).1
  ·obtain ⟨r, hr, rfl⟩ := l'B.1 hp;exact vcG9 _ _ (by cases r.2 <;> decide) fun x hx => (h r hr x hx).1
 rw [zV0, wbw9 _ (by simp), qr0, if_pos (by simp), List.dropLast_concat, hs, kQ0, List.headD_cons, vaX9 _ _ (by decide) fun x hx => (hh x hx).1, List.tail_cons, var9 hh];simp only [List.headD_cons, List.tail_cons];rw [if_pos ⟨trivial, rfl, by simp [qv0]⟩, kaX9 rows h];rfl
theorem vck9 {l : Bs} {r : List Int × Bool} (h : xP0 l = some r) : l = kK0 (kA0 r.2) r.1 := by
 unfold xP0 at h;split at h
 ·cases h
 ·rename_i row q;have h1 := vK0 q;obtain ⟨f, w, e⟩ := l'K (xh0 32 l);have hj := vD0 32 l;rw [e] at h1 hj;rw [List.tail_cons] at h1;split at h
  ·rename_i h2;injection h with h; subst h
   rw [e, List.headD_cons] at h2;rw [← hj, kK0, h1, h2]; rfl
  ·split at h
   ·rename_i h2;injection h with h; subst h
    rw [e, List.headD_cons] at h2;rw [← hj, kK0, h1, h2]; rfl
   ·cases h
theorem kar9 : ∀ {l : List Bs} {rows : List (List Int × Bool)}, vm0 l = some rows → l = qv0 rows
 | [], rows, h => by simp only [vm0, Option.some.injEq] at h; subst h; rfl
 | p :: l, rows, h => by
  unfold vm0 at h;split at h
  ·rename_i x xs h1 h2;injection h with h; subst h
   rw [vck9 h1, kar9 h2]; rfl
  ·cases h
theorem zbK9 {s : Bs} {A : Int} {rows : List (List Int × Bool)} (h : qr0 s = some (A, rows)) : zV0 A rows = s := by
 unfold qr0 at h;split at h
 ·rename_i hl;have hs : s = s.dropLast ++ [10] := by
   rcases n'N s with e|⟨t, b, e⟩
   ·subst e; simp at hl
   ·rw [n'O] at e; subst e; simp at hl; subst hl; simp
  generalize s.dropLast = t at *;unfold kQ0 at h;split at h
  ·cases h
  ·rename_i size q;split at h
   ·rename_i hc;split at h
    ·cases h
    ·rename_i rows' hr;simp only [Option.some.injEq, Prod.mk.injEq] at h;obtain ⟨hA, rfl⟩ := h;obtain ⟨f, ls, e⟩ := l'K (xh0 10 t);have hj := vD0 10 t;rw [e] at hc hr hj q;simp only [List.headD_cons, List.tail_cons, List.length_cons, z'x] at hc hr q;have hrb := kar9 hr;have h1 := vK0 q;obtain ⟨g, w, e2⟩ := l'K (xh0 32 f);have hj2 := vD0 32 f;rw [e2] at hc h1 hj2;simp only [List.headD_cons, List.tail_cons] at hc h1;have hlen : ls.length = rows'.length := by rw [hrb]; simp [qv0]
     have hsz : size = [A, (rows'.length : Int)] := by
      match size, hc.2.1 with
      | [a, b], _ =>
       have h2 := hc.2.2;simp at h2 hA;rw [hA, h2, hlen]
     rw [hs, zV0, wbw9 _ (by simp), ← hrb, ← hj];congr 2
     rw [← hj2, kK0, ← hsz, h1, hc.1]
   ·cases h
 ·cases h
end Go.Proofs
namespace Go.Proofs
def qu0 (w : Nat) : List Nat := (List.range 64).filter fun b => w.testBit b
structure kcG9 (w b : Nat) : Prop where
 at1 : w.testBit b = true
 low : ∀ j, j < b → w.testBit j = false
theorem wdk9 {w b : Nat} (h : kcG9 w b) : ∃ m, w = 2 ^ b * (2 * m + 1) := by
 have h1 : w % 2 ^ b = 0 := by
  apply n'R;intro j;rw [z'u, z'M];by_cases q : j < b
  ·rw [h.low j q]; simp
  ·simp [q]
 have h2 := h.at1;rw [Nat.testBit_eq_decide_div_mod_eq, decide_eq_true_eq] at h2;refine ⟨w / 2 ^ b / 2, ?_⟩;have e1 : 2 * (w / 2 ^ b / 2) + 1 = w / 2 ^ b := by omega
 rw [e1];have := Nat.div_add_mod w (2 ^ b);omega
theorem qcH9 {w b : Nat} (h : kcG9 w b) (j : Nat) : (w &&& (w - 1)).testBit j = (w.testBit j && !decide (j = b)) := by
 rw [z'y];obtain ⟨m, e⟩ := wdk9 h;by_cases q : j < b
 ·rw [h.low j q]; simp
 ·have hp : 0 < 2 ^ b := Nat.two_pow_pos b;have e2 : w - 1 = 2 ^ b * (2 * m) + (2 ^ b - 1) := by rw [e, Nat.mul_add, z's]; omega
  have hd : (w - 1) / 2 ^ b = 2 * m := by
   rw [e2, Nat.mul_add_div hp, z'L (by omega)]; omega
  have hd2 : w / 2 ^ b = 2 * m + 1 := by rw [e, Nat.mul_div_cancel_left _ hp]
  obtain ⟨k, rfl⟩ : ∃ k, j = b + k := ⟨j - b, by omega⟩;have t1 : (w - 1).testBit (b + k) = (2 * m).testBit k := by rw [← hd, Nat.testBit_div_two_pow, n'F]
  have t2 : w.testBit (b + k) = (2 * m + 1).testBit k := by rw [← hd2, Nat.testBit_div_two_pow, n'F]
  rw [t1, t2];cases k with
  | zero => simp
  | succ k =>
   have a1 : (2 * m).testBit (k + 1) = m.testBit k := by rw [Nat.testBit_succ]; congr 1; omega
   have a2 : (2 * m + 1).testBit (k + 1) = m.testBit k := by rw [Nat.testBit_succ]; congr 1; omega
   rw [a1, a2];simp
theorem filter_cons {p q : Nat → Bool} {b : Nat} : ∀ n, b < n → p b = true → (∀ j, j < b → p j = false) → (∀ j, q j = (p j && !decide (j = b))) → (List.range n).filter p = b :: (List.range n).filter q
 | 0, h, _, _, _ => by omega
 | n + 1, h, h1, h2, h3 => by
  rw [l'Z, n'w, n'w];rcases l'i b n with w|w
  ·rw [filter_cons n w h1 h2 h3];have : q n = p n := by
    have := h3 n;have hne : ¬ n = b := by omega
    simpa [hne] using this
   simp only [n'H, List.filter_nil, this, List.cons_append]
  ·obtain rfl : b = n := by omega
   have e1 : (List.range b).filter p = [] := n'M.2 fun j hj => by rw [h2 j (l'o.1 hj)]; decide
   have e2 : (List.range b).filter q = [] := n'M.2 fun j hj => by rw [h3 j, h2 j (l'o.1 hj)]; simp
   have e3 : q b = false := by rw [h3 b]; simp
   rw [e1, e2];simp [h1, e3]
theorem kck9 {w b : Nat} (h : kcG9 w b) (hb : b < 64) : qu0 w = b :: qu0 (w &&& (w - 1)) := filter_cons 64 hb h.at1 h.low (qcH9 h)
theorem qcl9 : qu0 0 = [] := n'M.2 fun j _ => by simp
def vdk9 (l : List Nat) (i : Nat) : Nat := l.foldl (fun w n => if n / 64 = i then w ||| 2 ^ (n % 64) else w) 0
theorem vbw9 (i b : Nat) (hb : b < 64) : ∀ (l : List Nat) (w : Nat), (l.foldl (fun w n => if n / 64 = i then w ||| 2 ^ (n % 64) else w) w).testBit b = (w.testBit b || l.contains (64 * i + b))
 | [], w => by simp
 | n :: l, w => by
  rw [List.foldl_cons, vbw9 i b hb l, List.contains_cons];by_cases h : n / 64 = i
  ·rw [if_pos h, z'E, Nat.testBit_two_pow, n'q];congr 2
   rw [l'u, decide_eq_true_eq, beq_iff_eq];omega
  ·rw [if_neg h];have : (64 * i + b == n) = false := by
    rw [beq_eq_false_iff_ne]; omega
   rw [this, n'd]
theorem zcl9 (l : List Nat) (i b : Nat) (hb : b < 64) : (vdk9 l i).testBit b = l.contains (64 * i + b) := by
 unfold vdk9; rw [vbw9 i b hb l 0, z'M, n'd]
def wP (p : Nat → Bool) (i : Nat) : Nat := vdk9 ((List.range 256).filter p) i
theorem xj0 (p : Nat → Bool) (i b : Nat) (hi : i < 4) (hb : b < 64) : (wP p i).testBit b = p (64 * i + b) := by
 rw [wP, zcl9 _ _ _ hb, l'u, l'h, l'T, l'o];exact ⟨fun h => h.2, fun h => ⟨by omega, h⟩⟩
theorem kn0 (p : Nat → Bool) (i : Nat) : wP p i < 2 ^ 64 := by
 unfold wP vdk9;generalize (List.range 256).filter p = l;have : ∀ (l : List Nat) (w : Nat), w < 2 ^ 64 → (l.foldl (fun w n => if n / 64 = i then w ||| 2 ^ (n % 64) else w) w) < 2 ^ 64 := by
  intro l;induction l with
  | nil => intro w h; exact h
  | cons n l ih =>
   intro w h;rw [List.foldl_cons];refine ih _ ?_;split
   ·exact z'C h (z'n (by decide) (n'n _ (by decide)))
   ·exact h
 exact this l 0 (by decide)
theorem qaa9 {x y : Nat} (hx : x < 2 ^ 64) (hy : y < 2 ^ 64) (h : ∀ b, b < 64 → x.testBit b = y.testBit b) : x = y := by
 apply n'R;intro b;rcases l'i b 64 with q|q
 ·exact h b q
 ·rw [n'g (n'v hx (n'z (by decide) q)), n'g (n'v hy (n'z (by decide) q))]
theorem qaY9 {p q : Nat → Bool} (h : ∀ n, n < 256 → p n = q n) (i : Nat) : wP p i = wP q i := by
 have : (List.range 256).filter p = (List.range 256).filter q := n'u fun n hn => h n (l'o.1 hn);rw [wP, this, ← wP]
theorem vei9 {p q : Nat → Bool} (h : ∀ i, i < 4 → wP p i = wP q i) : ∀ n, n < 256 → p n = q n := fun n hn => by
 have h1 := xj0 p (n / 64) (n % 64) (by omega) (by omega);have h2 := xj0 q (n / 64) (n % 64) (by omega) (by omega);rw [show 64 * (n / 64) + n % 64 = n by omega] at h1 h2;rw [← h1, ← h2, h _ (by omega)]
theorem wdO9 (i : Nat) : wP (fun _ => false) i = 0 := by
 have : (List.range 256).filter (fun _ => false) = [] := by rw [n'M]; intro _ _; decide
 rw [wP, this]; rfl
theorem zbV9 (p : Nat → Bool) (n : Nat) (hn : n < 256) (i : Nat) (hi : i < 4) : wP (fun m => p m || decide (m = n)) i = if i = n / 64 then wP p i ||| 2 ^ (n % 64) else wP p i := by
 refine qaa9 (kn0 _ _) ?_ fun b hb => ?_
 ·split
  ·exact z'C (kn0 _ _) (z'n (by decide) (n'n _ (by decide)))
  ·exact kn0 _ _
 ·rw [xj0 _ _ _ hi hb];split
  ·rename_i e;rw [z'E, xj0 _ _ _ hi hb, Nat.testBit_two_pow];congr 1
   rw [decide_eq_decide];omega
  ·rename_i e;rw [xj0 _ _ _ hi hb];have : ¬ (64 * i + b = n) := by omega
   simp [this]
theorem kbw9 (p q : Nat → Bool) (i : Nat) (hi : i < 4) : wP p i &&& wP q i = wP (fun n => p n && q n) i := by
 refine qaa9 (Nat.and_lt_two_pow _ (kn0 _ _)) (kn0 _ _) fun b hb => ?_;rw [z'y, xj0 _ _ _ hi hb, xj0 _ _ _ hi hb, xj0 _ _ _ hi hb]
theorem qeB9 (p q : Nat → Bool) (i : Nat) (hi : i < 4) : wP p i ||| wP q i = wP (fun n => p n || q n) i := by
 refine qaa9 (z'C (kn0 _ _) (kn0 _ _)) (kn0 _ _) fun b hb => ?_;rw [z'E, xj0 _ _ _ hi hb, xj0 _ _ _ hi hb, xj0 _ _ _ hi hb]
theorem xbi9 (p : Nat → Bool) (i : Nat) (hi : i < 4) : wP p i = 0 ↔ ∀ b, b < 64 → p (64 * i + b) = false := by
 constructor
 ·intro h b hb;rw [← xj0 p i b hi hb, h, z'M]
 ·intro h;refine qaa9 (kn0 _ _) (by decide) fun b hb => ?_;rw [xj0 _ _ _ hi hb, h b hb, z'M]
def elemsP (p : Nat → Bool) : List Nat := (List.range 256).filter p
theorem kdk9 (p : Nat → Bool) (i : Nat) (hi : i < 4) : qu0 (wP p i) = (List.range 64).filter fun b => p (64 * i + b) :=
 n'u fun b hb => xj0 p i b hi (l'o.1 hb)
theorem qbx9 (p : Nat → Bool) : elemsP p = (List.range 4).flatMap fun i => (qu0 (wP p i)).map fun b => 64 * i + b := by
 have h : ∀ i, i < 4 → (qu0 (wP p i)).map (fun b => 64 * i + b) = ((List.range 64).map fun b => 64 * i + b).filter p := fun i hi => by
  rw [kdk9 p i hi, List.filter_map]; rfl
 have e : (List.range 4).flatMap (fun i => (qu0 (wP p i)).map fun b => 64 * i + b) = (List.range 4).flatMap fun i => ((List.range 64).map fun b => 64 * i + b).filter p := by
  simp only [List.flatMap];congr 1
  exact l'L fun i hi => h i (l'o.1 hi)
 rw [e];have e2 : (List.range 256) = (List.range 4).flatMap fun i => (List.range 64).map fun b => 64 * i + b := by decide +kernel
 rw [elemsP, e2];simp only [List.range, List.range.loop, List.flatMap_cons, List.flatMap_nil, n'w, l'R]
end Go.Proofs
