import Derived.Test.YtcoakjnmnommpaaGreatDoorAP8
import Derived.Test.YtcoakjnmnommpaaGreatDoorAP2
set_option linter.unusedVariables false
set_option linter.unusedSimpArgs false
namespace Go.Proofs
theorem zaN9 : ∀ {l m : List Int}, l.Pairwise (· < ·) → m.Pairwise (· < ·) → (∀ x, x ∈ l ↔ x ∈ m) → l = m
 | [], [], _, _, _ => rfl
 | [], y :: m, _, _, h => absurd ((h y).2 List.mem_cons_self) (by simp)
 | x :: l, [], _, _, h => absurd ((h x).1 List.mem_cons_self) (by simp)
 | x :: l, y :: m, hl, hm, h => by
  obtain ⟨l1, l2⟩ := List.pairwise_cons.1 hl
  obtain ⟨m1, m2⟩ := List.pairwise_cons.1 hm
  have hxy : x = y := by
   rcases List.mem_cons.1 ((h x).1 List.mem_cons_self) with q|q
   ·exact q
   ·rcases List.mem_cons.1 ((h y).2 List.mem_cons_self) with w|w
    ·exact w.symm
    ·have := m1 x q; have := l1 y w; omega
  subst hxy
  rw [zaN9 l2 m2 fun z => ?_]
  constructor
  ·intro hz
   rcases List.mem_cons.1 ((h z).1 (List.mem_cons_of_mem _ hz)) with q|q
   ·have := l1 z hz; omega
   ·exact q
  ·intro hz
   rcases List.mem_cons.1 ((h z).2 (List.mem_cons_of_mem _ hz)) with q|q
   ·have := m1 z hz; omega
   ·exact q
def okI (l : List Int) (n : Int) (i : Nat) : Bool := decide (0 ≤ l.getD i 0) && (decide (l.getD i 0 < n) && (decide (i = 0) || decide (l.getD (i - 1) 0 < l.getD i 0)))
def zf0 (l : List Int) (n : Int) : Bool := (List.range l.length).all fun i => okI l n i
theorem kbk9 {l : List Int} {n : Int} (h : ∀ i, i < l.length → okI l n i = true) : zf0 l n = true := by
 rw [zf0, List.all_eq_true]; exact fun i hi => h i (List.mem_range.1 hi)
theorem xcU9 {l : List Int} {n : Int} {i : Nat} (hi : i < l.length) (h : okI l n i = false) : zf0 l n = false := by
 rw [zf0, List.all_eq_false]; exact ⟨i, List.mem_range.2 hi, by rw [h]; decide⟩
theorem zbJ9 {l : List Int} {n : Int} (h : zf0 l n = true) {i : Nat} (hi : i < l.length) : okI l n i = true := by
 rw [zf0, List.all_eq_true] at h; exact h i (List.mem_range.2 hi)
theorem vc0 {l : List Int} {n : Int} (h : zf0 l n = true) : ∀ x ∈ l, 0 ≤ x ∧ x < n := fun x hx => by
 obtain ⟨i, hi, rfl⟩ := List.getElem_of_mem hx
 have := zbJ9 h hi
 simp only [okI, Bool.and_eq_true, decide_eq_true_eq, List.getD_eq_getElem?_getD, List.getElem?_eq_getElem hi, Option.getD_some] at this
 exact ⟨this.1, this.2.1⟩
theorem vam9 {l : List Int} {n : Int} (h : zf0 l n = true) : l.Pairwise (· < ·) := by
 have step : ∀ i, (hi : i + 1 < l.length) → l[i]'(by omega) < l[i + 1] := fun i hi => by
  have := zbJ9 h hi
  simp only [okI, Bool.and_eq_true, decide_eq_true_eq, List.getD_eq_getElem?_getD, List.getElem?_eq_getElem hi, Option.getD_some, Nat.add_sub_cancel, Bool.or_eq_true] at this
  rcases this.2.2 with q|q
  ·omega
  ·rwa [List.getElem?_eq_getElem (by omega), Option.getD_some] at q
 have far : ∀ d i, (hi : i + d + 1 < l.length) → l[i]'(by omega) < l[i + d + 1] := by
  intro d
  induction d with
  | zero => exact fun i hi => step i hi
  | succ d ih => intro i hi; have := ih i (by omega); have := step (i + d + 1) (by omega); exact Int.lt_trans ‹l[i] < _› this
 rw [List.pairwise_iff_getElem]
 intro i j hi hj hij
 obtain ⟨d, rfl⟩ : ∃ d, j = i + d + 1 := ⟨j - i - 1, by omega⟩
 exact far d i hj
def natL (l : List Int) : List Nat := l.map Int.toNat
theorem qw0 {l : List Int} {n : Nat} (h : zf0 l n = true) : natL l = (List.range n).filter fun t : Nat => l.contains (t : Int) := by
 have hr := vc0 h
 have hs := vam9 h
 have h1 : l = ((List.range n).filter fun t : Nat => l.contains (t : Int)).map fun t : Nat => (t : Int) := by
  refine zaN9 hs ?_ fun x => ?_
  ·rw [List.pairwise_map]
   exact (List.pairwise_lt_range.filter _).imp fun q => by omega
  ·rw [List.mem_map]
   constructor
   ·intro hx
    have := hr x hx
    refine ⟨x.toNat, List.mem_filter.2 ⟨List.mem_range.2 (by omega), ?_⟩, by omega⟩
    rw [List.contains_iff_mem, show ((x.toNat : Nat) : Int) = x by omega]; exact hx
   ·rintro ⟨t, ht, rfl⟩
    exact List.contains_iff_mem.1 (List.mem_filter.1 ht).2
 calc natL l = natL (((List.range n).filter fun t : Nat => l.contains (t : Int)).map fun t : Nat => (t : Int)) := by rw [← h1]
  _ = _ := by rw [natL, List.map_map]; exact (List.map_congr_left fun t _ => Int.toNat_natCast t).trans (List.map_id _)
theorem qbl9 (n : Nat) (p : Nat → Bool) : zf0 (((List.range n).filter p).map fun t : Nat => (t : Int)) n = true := by
 have hs : (((List.range n).filter p).map fun t : Nat => (t : Int)).Pairwise (· < ·) := by
  rw [List.pairwise_map]; exact (List.pairwise_lt_range.filter _).imp fun q => by omega
 have hm : ∀ x ∈ ((List.range n).filter p).map (fun t : Nat => (t : Int)), 0 ≤ x ∧ x < n := fun x hx => by
  obtain ⟨t, ht, rfl⟩ := List.mem_map.1 hx
  have := List.mem_range.1 (List.mem_filter.1 ht).1
  omega
 generalize ((List.range n).filter p).map (fun t : Nat => (t : Int)) = l at *
 refine kbk9 fun i hi => ?_
 have h1 := hm _ (List.getElem_mem hi)
 simp only [okI, List.getD_eq_getElem?_getD, List.getElem?_eq_getElem hi, Option.getD_some, Bool.and_eq_true, decide_eq_true_eq, Bool.or_eq_true]
 refine ⟨h1.1, h1.2, ?_⟩
 rcases Nat.eq_zero_or_pos i with q|q
 ·exact .inl q
 ·refine .inr ?_
  rw [List.getElem?_eq_getElem (by omega), Option.getD_some]
  exact List.pairwise_iff_getElem.1 hs _ _ _ _ (by omega)
def qD0 (sym n : Int) (r : List (List Int)) : Bool := decide ((r.length : Int) = sym) && r.all fun l => zf0 l n
def zs0 (sym : Int) (rows : List (List (List Int))) (st ac : List Int) : Int :=
 if 16 < sym ∨ 256 < rows.length then 3 else if sym < 1 ∨ zf0 st rows.length = false ∨ zf0 ac rows.length = false ∨ rows.all (qD0 sym rows.length) = false then 1 else 0
def wG0 (sym n : Int) (r : List Int) : Bool := decide ((r.length : Int) = sym) && r.all fun t => decide (0 ≤ t) && decide (t < n)
def vl0 (sym : Int) (rows : List (List Int)) (m : Nat) : Int :=
 if 16 < sym ∨ 256 < rows.length then 3 else if sym < 1 ∨ rows.length < 1 ∨ m ≠ rows.length ∨ rows.all (wG0 sym rows.length) = false then 1 else 0
structure OkNv (A : Nat) (rows : List (List (List Int))) (st ac : List Int) : Prop where
 a1 : 1 ≤ A
 a2 : A ≤ 16
 n : rows.length ≤ 256
 st : zf0 st rows.length = true
 ac : zf0 ac rows.length = true
 len : ∀ s, s < rows.length → (rows.getD s []).length = A
 ri : ∀ s a, s < rows.length → a < A → zf0 ((rows.getD s []).getD a []) rows.length = true
theorem qd0 {α : Type} {l : List α} {d : α} {i : Nat} (h : i < l.length) : l.getD i d ∈ l := by
 rw [List.getD_eq_getElem?_getD, List.getElem?_eq_getElem h]; exact List.getElem_mem h
theorem qct9 {sym : Int} {rows : List (List (List Int))} {st ac : List Int} (h : zs0 sym rows st ac = 0) : ∃ A : Nat, sym = A ∧ OkNv A rows st ac := by
 unfold zs0 at h
 split at h
 ·cases h
 ·rename_i h1
  split at h
  ·cases h
  ·rename_i h2
   simp only [not_or, Bool.not_eq_false, Int.not_lt] at h1 h2
   obtain ⟨g1, g2, g3, g4⟩ := h2
   rw [List.all_eq_true] at g4
   refine ⟨sym.toNat, by omega, by omega, by omega, by omega, g2, g3, fun s hs => ?_, fun s a hs ha => ?_⟩
   ·have := g4 _ (qd0 (d := []) hs)
    simp only [qD0, Bool.and_eq_true, decide_eq_true_eq] at this
    omega
   ·have := g4 _ (qd0 (d := []) hs)
    simp only [qD0, Bool.and_eq_true, decide_eq_true_eq, List.all_eq_true] at this
    exact this.2 _ (qd0 (by omega))
theorem xaB9 {A : Nat} {rows : List (List (List Int))} {st ac : List Int} (h : OkNv A rows st ac) : zs0 A rows st ac = 0 := by
 unfold zs0
 have := h.a1; have := h.a2; have := h.n
 rw [if_neg (by omega), if_neg]
 simp only [not_or, Bool.not_eq_false]
 refine ⟨by omega, h.st, h.ac, ?_⟩
 rw [List.all_eq_true]
 intro r hr
 obtain ⟨s, hs, rfl⟩ := List.getElem_of_mem hr
 have e : rows[s] = rows.getD s [] := by rw [List.getD_eq_getElem?_getD, List.getElem?_eq_getElem hs]; rfl
 rw [e]
 simp only [qD0, Bool.and_eq_true, decide_eq_true_eq, List.all_eq_true]
 refine ⟨by rw [h.len s hs], fun l hl => ?_⟩
 obtain ⟨a, ha, rfl⟩ := List.getElem_of_mem hl
 have := h.ri s a hs (by rw [← h.len s hs]; exact ha)
 rwa [List.getD_eq_getElem?_getD, List.getElem?_eq_getElem ha] at this
def nfOf (rows : List (List (List Int))) (st ac : List Int) : Nf := ⟨rows.length, fun s a t => ((rows.getD s []).getD a []).contains (t : Int), natL st, natL ac⟩
structure OkDv (A : Nat) (rows : List (List Int)) (m : Nat) : Prop where
 a1 : 1 ≤ A
 a2 : A ≤ 16
 n1 : 1 ≤ rows.length
 n : rows.length ≤ 256
 m : m = rows.length
 len : ∀ s, s < rows.length → (rows.getD s []).length = A
 to : ∀ s a, s < rows.length → a < A → 0 ≤ (rows.getD s []).getD a 0 ∧ (rows.getD s []).getD a 0 < rows.length
theorem zct9 {sym : Int} {rows : List (List Int)} {m : Nat} (h : vl0 sym rows m = 0) : ∃ A : Nat, sym = A ∧ OkDv A rows m := by
 unfold vl0 at h
 split at h
 ·cases h
 ·rename_i h1
  split at h
  ·cases h
  ·rename_i h2
   simp only [not_or, Bool.not_eq_false, Int.not_lt, Nat.not_lt, ne_eq, Classical.not_not] at h1 h2
   obtain ⟨g1, g2, g3, g4⟩ := h2
   rw [List.all_eq_true] at g4
   refine ⟨sym.toNat, by omega, by omega, by omega, g2, by omega, g3, fun s hs => ?_, fun s a hs ha => ?_⟩
   ·have := g4 _ (qd0 (d := []) hs)
    simp only [wG0, Bool.and_eq_true, decide_eq_true_eq] at this
    omega
   ·have := g4 _ (qd0 (d := []) hs)
    simp only [wG0, Bool.and_eq_true, decide_eq_true_eq, List.all_eq_true] at this
    have h5 := this.2 _ (qd0 (d := 0) (i := a) (by omega))
    exact h5
theorem xct9 {A : Nat} {rows : List (List Int)} {m : Nat} (h : OkDv A rows m) : vl0 A rows m = 0 := by
 unfold vl0
 have := h.a1; have := h.a2; have := h.n; have := h.n1; have := h.m
 rw [if_neg (by omega), if_neg]
 simp only [not_or, Bool.not_eq_false, ne_eq, Classical.not_not]
 refine ⟨by omega, by omega, h.m, ?_⟩
 rw [List.all_eq_true]
 intro r hr
 obtain ⟨s, hs, rfl⟩ := List.getElem_of_mem hr
 have e : rows[s] = rows.getD s [] := by rw [List.getD_eq_getElem?_getD, List.getElem?_eq_getElem hs]; rfl
 rw [e]
 simp only [wG0, Bool.and_eq_true, decide_eq_true_eq, List.all_eq_true]
 refine ⟨by rw [h.len s hs], fun t ht => ?_⟩
 obtain ⟨a, ha, rfl⟩ := List.getElem_of_mem ht
 have := h.to s a hs (by rw [← h.len s hs]; exact ha)
 rwa [List.getD_eq_getElem?_getD, List.getElem?_eq_getElem ha] at this
end Go.Proofs
set_option linter.unusedVariables false
set_option linter.unusedSimpArgs false
namespace Go.Proofs
open Go Go.V
def splitC (c : UInt8) : Bs → List Bs
 | [] => [[]]
 | b :: r => if b = c then [] :: splitC c r else match splitC c r with|[] => [[b]]|p :: l => (b :: p) :: l
theorem xs0 (c : UInt8) (s : Bs) : splitC c s ≠ [] := by
 cases s with
 | nil => simp [splitC]
 | cons b r =>
  rw [splitC]
  split
  ·simp
  ·split <;> simp
theorem vG0 (c : UInt8) (r : Bs) : splitC c (c :: r) = [] :: splitC c r := by rw [splitC, if_pos rfl]
theorem wu0 {c b : UInt8} (h : ¬ b = c) {r p : Bs} {l : List Bs} (q : splitC c r = p :: l) : splitC c (b :: r) = (b :: p) :: l := by rw [splitC, if_neg h, q]
theorem waB9 (c : UInt8) : ∀ s : Bs, ∀ p ∈ splitC c s, ¬ c ∈ p
 | [], p, hp => by simp [splitC] at hp; subst hp; simp
 | b :: r, p, hp => by
  have ih := waB9 c r
  by_cases h : b = c
  ·subst h
   rw [vG0] at hp
   rcases List.mem_cons.1 hp with rfl|hp
   ·simp
   ·exact ih p hp
  ·obtain ⟨q, l, e⟩ := List.exists_cons_of_ne_nil (xs0 c r)
   rw [wu0 h e] at hp
   rw [e] at ih
   rcases List.mem_cons.1 hp with rfl|hp
   ·intro hc
    rcases List.mem_cons.1 hc with rfl|hc
    ·exact h rfl
    ·exact ih q List.mem_cons_self hc
   ·exact ih p (List.mem_cons_of_mem _ hp)
theorem wct9 (b : UInt8) (p : Bs) (l : List Bs) (sep : Bs) : Lib.join ((b :: p) :: l) sep = b :: Lib.join (p :: l) sep := by
 cases l with
 | nil => rw [zq0, zq0]
 | cons q l => rw [xk0, xk0]; rfl
theorem zW0 (c : UInt8) : ∀ s : Bs, Lib.join (splitC c s) [c] = s
 | [] => by rw [splitC, zq0]
 | b :: r => by
  have ih := zW0 c r
  obtain ⟨q, l, e⟩ := List.exists_cons_of_ne_nil (xs0 c r)
  by_cases h : b = c
  ·subst h
   rw [vG0]
   rw [e] at ih ⊢
   rw [xk0, ih]; rfl
  ·rw [wu0 h e, wct9, ← e, ih]
theorem var9 (c : UInt8) (s : Bs) : vv0 s [c] = splitC c s := by
 have h := vah9 (sep := [c]) (q := 0) (c := c) ⟨rfl, fun k h => by omega⟩ (splitC c s) (xs0 c s) (waB9 c s)
 rw [zW0] at h
 exact h
theorem vaB9 (c : UInt8) (l : List Bs) (h : l ≠ []) (hf : ∀ p ∈ l, ¬ c ∈ p) : splitC c (Lib.join l [c]) = l := by
 rw [← var9]
 exact vah9 (q := 0) (c := c) ⟨rfl, fun k h => by omega⟩ l h hf
end Go.Proofs
set_option linter.unusedVariables false
set_option linter.unusedSimpArgs false
namespace Go.Proofs
open Go Go.V
def int4 (f : Bs) : Option Int := if kbj9 f ∧ f.length ≤ 4 then some (numF 0 f) else none
def zo0 : List Bs → Option (List Int)
 | [] => some []
 | f :: r => match int4 f, zo0 r with|some x, some xs => some (x :: xs)|_, _ => none
theorem kaB9 {f : Bs} {x : Int} (h : int4 f = some x) : Lib.itoa x = f := by
 unfold int4 at h
 split at h
 ·rename_i q
  injection h with h; subst h
  exact qbk9 f.length f (Nat.le_refl _) q.1
 ·cases h
theorem qQ0 : ∀ {l : List Bs} {xs : List Int}, zo0 l = some xs → xs.map Lib.itoa = l
 | [], xs, h => by simp only [zo0, Option.some.injEq] at h; subst h; rfl
 | f :: r, xs, h => by
  unfold zo0 at h
  split at h
  ·rename_i x xs' h1 h2
   simp only [Option.some.injEq] at h
   subst h
   rw [List.map_cons, kaB9 h1, qQ0 h2]
  ·cases h
theorem vct9 {v : Int} (h0 : 0 ≤ v) (h1 : v ≤ 9999) : (Lib.itoa v).length ≤ 4 := by
 by_cases a : v < 10
 ·rw [qg0 v h0 a]; simp
 ·rw [zP0 v (by omega), qg0 (v % 10) (by omega) (by omega), List.length_append]
  have := qcs9 (v := v / 10) (by omega) (by omega)
  simp only [List.length_cons, List.length_nil]; omega
theorem kct9 {v : Int} (h0 : 0 ≤ v) (h1 : v ≤ 9999) : int4 (Lib.itoa v) = some v := by
 obtain ⟨a, b, _⟩ := xP0 v.toNat v h0 (by omega)
 rw [int4, if_pos ⟨a, vct9 h0 h1⟩, b]
theorem xai9 : ∀ {xs : List Int}, (∀ x ∈ xs, 0 ≤ x ∧ x ≤ 9999) → zo0 (xs.map Lib.itoa) = some xs
 | [], _ => rfl
 | x :: xs, h => by
  have h1 := h x List.mem_cons_self
  rw [List.map_cons, zo0, kct9 h1.1 h1.2, xai9 fun y hy => h y (List.mem_cons_of_mem _ hy)]
def vE0 : Bs := [97, 99, 99, 101, 112, 116, 111, 114]
def vR0 (b : Bool) : Bs := if b = true then [43] else [45]
def xJ0 (first : Bs) (l : List Int) : Bs := Lib.join (first :: l.map Lib.itoa) [32]
def zw0 (rows : List (List Int × Bool)) : List Bs := rows.map fun r => xJ0 (vR0 r.2) r.1
def xW0 (A : Int) (rows : List (List Int × Bool)) : Bs := (xJ0 vE0 [A, (rows.length : Int)] :: zw0 rows).flatMap fun l => l ++ [10]
def wW0 (line : Bs) : Option (List Int × Bool) :=
 match zo0 (splitC 32 line).tail with
 | none => none
 | some row => if (splitC 32 line).headD [] = [43] then some (row, true) else if (splitC 32 line).headD [] = [45] then some (row, false) else none
def qq0 : List Bs → Option (List (List Int × Bool))
 | [] => some []
 | l :: r => match wW0 l, qq0 r with|some x, some xs => some (x :: xs)|_, _ => none
def zac9 (lines : List Bs) : Option (Int × List (List Int × Bool)) :=
 match zo0 (splitC 32 (lines.headD [])).tail with
 | none => none
 | some size => if (splitC 32 (lines.headD [])).headD [] = vE0 ∧ size.length = 2 ∧ size.getD 1 0 = ((lines.length - 1 : Nat) : Int) then
   (match qq0 lines.tail with|none => none|some rows => some (size.getD 0 0, rows)) else none
def kam9 (s : Bs) : Option (Int × List (List Int × Bool)) := if s.getLast? = some 10 then zac9 (splitC 10 s.dropLast) else none
theorem qdw9 (b : Bool) : ¬ (32 : UInt8) ∈ vR0 b := by cases b <;> decide
theorem xaN9 (first : Bs) (l : List Int) (h : ¬ (32 : UInt8) ∈ first) (hl : ∀ x ∈ l, 0 ≤ x) : splitC 32 (xJ0 first l) = first :: l.map Lib.itoa := by
 refine vaB9 32 _ (by simp) ?_
 intro p hp
 rcases List.mem_cons.1 hp with rfl|hp
 ·exact h
 ·obtain ⟨n, hn, rfl⟩ := List.mem_map.1 hp
  exact vbH9 (zbk9 (hl n hn)) (by decide)
theorem qcu9 (first : Bs) (l : List Int) (h : ¬ (10 : UInt8) ∈ first) (hl : ∀ x ∈ l, 0 ≤ x) : ¬ (10 : UInt8) ∈ xJ0 first l := by
 refine xbH9 _ (by decide) ?_
 intro p hp
 rcases List.mem_cons.1 hp with rfl|hp
 ·exact h
 ·obtain ⟨n, hn, rfl⟩ := List.mem_map.1 hp
  exact vbH9 (zbk9 (hl n hn)) (by decide)
theorem zcu9 (l : List Bs) (h : l ≠ []) : (l.flatMap fun p => p ++ [10]) = Lib.join l [10] ++ [10] := by
 match l with
 | [] => exact absurd rfl h
 | p :: r =>
  induction r generalizing p with
  | nil => simp [zq0]
  | cons q r ih => rw [List.flatMap_cons, ih q (by simp), xk0]; simp
theorem zbZ9 (l : List Int) (b : Bool) (hl : ∀ x ∈ l, 0 ≤ x ∧ x ≤ 9999) : wW0 (xJ0 (vR0 b) l) = some (l, b) := by
 unfold wW0
 rw [xaN9 _ _ (qdw9 b) fun x hx => (hl x hx).1, List.tail_cons, xai9 hl]
 cases b <;> rfl
theorem waN9 : ∀ (rows : List (List Int × Bool)), (∀ r ∈ rows, ∀ x ∈ r.1, 0 ≤ x ∧ x ≤ 9999) → qq0 (zw0 rows) = some rows
 | [], _ => rfl
 | r :: rows, h => by
  have e : zw0 (r :: rows) = xJ0 (vR0 r.2) r.1 :: zw0 rows := rfl
  rw [e, qq0, zbZ9 r.1 r.2 (h r List.mem_cons_self), waN9 rows fun q hq => h q (List.mem_cons_of_mem _ hq)]
theorem qby9 (A : Int) (rows : List (List Int × Bool)) (hA : 0 ≤ A ∧ A ≤ 9999) (hn : rows.length ≤ 9999) (h : ∀ r ∈ rows, ∀ x ∈ r.1, 0 ≤ x ∧ x ≤ 9999) : kam9 (xW0 A rows) = some (A, rows) := by
 have hh : ∀ x ∈ [A, (rows.length : Int)], 0 ≤ x ∧ x ≤ 9999 := fun x hx => by simp at hx; omega
 have hs : splitC 10 (Lib.join (xJ0 vE0 [A, (rows.length : Int)] :: zw0 rows) [10]) = xJ0 vE0 [A, (rows.length : Int)] :: zw0 rows := by
  refine vaB9 10 _ (by simp) ?_
  intro p hp
  rcases List.mem_cons.1 hp with rfl|hp
  ·exact qcu9 _ _ (by decide) fun x hx => (hh x hx).1
  ·obtain ⟨r, hr, rfl⟩ := List.mem_map.1 hp
   exact qcu9 _ _ (by cases r.2 <;> decide) fun x hx => (h r hr x hx).1
 rw [xW0, zcu9 _ (by simp), kam9, if_pos (by simp), List.dropLast_concat, hs, zac9, List.headD_cons, xaN9 _ _ (by decide) fun x hx => (hh x hx).1, List.tail_cons, xai9 hh]
 simp only [List.headD_cons, List.tail_cons]
 rw [if_pos ⟨trivial, rfl, by simp [zw0]⟩, waN9 rows h]
 rfl
theorem xbZ9 {l : Bs} {r : List Int × Bool} (h : wW0 l = some r) : l = xJ0 (vR0 r.2) r.1 := by
 unfold wW0 at h
 split at h
 ·cases h
 ·rename_i row q
  have h1 := qQ0 q
  obtain ⟨f, w, e⟩ := List.exists_cons_of_ne_nil (xs0 32 l)
  have hj := zW0 32 l
  rw [e] at h1 hj
  rw [List.tail_cons] at h1
  split at h
  ·rename_i h2
   injection h with h; subst h
   rw [e, List.headD_cons] at h2
   rw [← hj, xJ0, h1, h2]; rfl
  ·split at h
   ·rename_i h2
    injection h with h; subst h
    rw [e, List.headD_cons] at h2
    rw [← hj, xJ0, h1, h2]; rfl
   ·cases h
theorem vaN9 : ∀ {l : List Bs} {rows : List (List Int × Bool)}, qq0 l = some rows → l = zw0 rows
 | [], rows, h => by simp only [qq0, Option.some.injEq] at h; subst h; rfl
 | p :: l, rows, h => by
  unfold qq0 at h
  split at h
  ·rename_i x xs h1 h2
   injection h with h; subst h
   rw [xbZ9 h1, vaN9 h2]; rfl
  ·cases h
end Go.Proofs
set_option linter.unusedVariables false
set_option linter.unusedSimpArgs false
namespace Go.Proofs
def ws0 (w : Nat) : List Nat := (List.range 64).filter fun b => w.testBit b
structure xcu9 (w b : Nat) : Prop where
 at1 : w.testBit b = true
 low : ∀ j, j < b → w.testBit j = false
theorem wcU9 {w b : Nat} (h : xcu9 w b) : ∃ m, w = 2 ^ b * (2 * m + 1) := by
 have h1 : w % 2 ^ b = 0 := by
  apply Nat.eq_of_testBit_eq
  intro j
  rw [Nat.testBit_mod_two_pow, Nat.zero_testBit]
  by_cases q : j < b
  ·rw [h.low j q]; simp
  ·simp [q]
 have h2 := h.at1
 rw [Nat.testBit_eq_decide_div_mod_eq, decide_eq_true_eq] at h2
 refine ⟨w / 2 ^ b / 2, ?_⟩
 have e1 : 2 * (w / 2 ^ b / 2) + 1 = w / 2 ^ b := by omega
 rw [e1]
 have := Nat.div_add_mod w (2 ^ b)
 omega
theorem wcu9 {w b : Nat} (h : xcu9 w b) (j : Nat) : (w &&& (w - 1)).testBit j = (w.testBit j && !decide (j = b)) := by
 rw [Nat.testBit_and]
 obtain ⟨m, e⟩ := wcU9 h
 by_cases q : j < b
 ·rw [h.low j q]; simp
 ·have hp : 0 < 2 ^ b := Nat.two_pow_pos b
  have e2 : w - 1 = 2 ^ b * (2 * m) + (2 ^ b - 1) := by rw [e, Nat.mul_add, Nat.mul_one]; omega
  have hd : (w - 1) / 2 ^ b = 2 * m := by
   rw [e2, Nat.mul_add_div hp, Nat.div_eq_of_lt (by omega)]; omega
  have hd2 : w / 2 ^ b = 2 * m + 1 := by rw [e, Nat.mul_div_cancel_left _ hp]
  obtain ⟨k, rfl⟩ : ∃ k, j = b + k := ⟨j - b, by omega⟩
  have t1 : (w - 1).testBit (b + k) = (2 * m).testBit k := by rw [← hd, Nat.testBit_div_two_pow, Nat.add_comm]
  have t2 : w.testBit (b + k) = (2 * m + 1).testBit k := by rw [← hd2, Nat.testBit_div_two_pow, Nat.add_comm]
  rw [t1, t2]
  cases k with
  | zero => simp
  | succ k =>
   have a1 : (2 * m).testBit (k + 1) = m.testBit k := by rw [Nat.testBit_succ]; congr 1; omega
   have a2 : (2 * m + 1).testBit (k + 1) = m.testBit k := by rw [Nat.testBit_succ]; congr 1; omega
   rw [a1, a2]
   simp
theorem filter_cons {p q : Nat → Bool} {b : Nat} : ∀ n, b < n → p b = true → (∀ j, j < b → p j = false) → (∀ j, q j = (p j && !decide (j = b))) → (List.range n).filter p = b :: (List.range n).filter q
 | 0, h, _, _, _ => by omega
 | n + 1, h, h1, h2, h3 => by
  rw [List.range_succ, List.filter_append, List.filter_append]
  rcases Nat.lt_or_ge b n with w|w
  ·rw [filter_cons n w h1 h2 h3]
   have : q n = p n := by
    have := h3 n
    have hne : ¬ n = b := by omega
    simpa [hne] using this
   simp only [List.filter_cons, List.filter_nil, this, List.cons_append]
  ·obtain rfl : b = n := by omega
   have e1 : (List.range b).filter p = [] := List.filter_eq_nil_iff.2 fun j hj => by rw [h2 j (List.mem_range.1 hj)]; decide
   have e2 : (List.range b).filter q = [] := List.filter_eq_nil_iff.2 fun j hj => by rw [h3 j, h2 j (List.mem_range.1 hj)]; simp
   have e3 : q b = false := by rw [h3 b]; simp
   rw [e1, e2]
   simp [h1, e3]
theorem wbZ9 {w b : Nat} (h : xcu9 w b) (hb : b < 64) : ws0 w = b :: ws0 (w &&& (w - 1)) := filter_cons 64 hb h.at1 h.low (wcu9 h)
theorem vbZ9 : ws0 0 = [] := List.filter_eq_nil_iff.2 fun j _ => by simp
def vcU9 (l : List Nat) (i : Nat) : Nat := l.foldl (fun w n => if n / 64 = i then w ||| 2 ^ (n % 64) else w) 0
theorem zbl9 (i b : Nat) (hb : b < 64) : ∀ (l : List Nat) (w : Nat), (l.foldl (fun w n => if n / 64 = i then w ||| 2 ^ (n % 64) else w) w).testBit b = (w.testBit b || l.contains (64 * i + b))
 | [], w => by simp
 | n :: l, w => by
  rw [List.foldl_cons, zbl9 i b hb l, List.contains_cons]
  by_cases h : n / 64 = i
  ·rw [if_pos h, Nat.testBit_or, Nat.testBit_two_pow, Bool.or_assoc]
   congr 2
   rw [Bool.eq_iff_iff, decide_eq_true_eq, beq_iff_eq]
   omega
  ·rw [if_neg h]
   have : (64 * i + b == n) = false := by
    rw [beq_eq_false_iff_ne]; omega
   rw [this, Bool.false_or]
theorem kbZ9 (l : List Nat) (i b : Nat) (hb : b < 64) : (vcU9 l i).testBit b = l.contains (64 * i + b) := by
 unfold vcU9; rw [zbl9 i b hb l 0, Nat.zero_testBit, Bool.false_or]
end Go.Proofs
set_option linter.unusedVariables false
set_option linter.unusedSimpArgs false
namespace Go.Proofs
def wP (p : Nat → Bool) (i : Nat) : Nat := vcU9 ((List.range 256).filter p) i
theorem xj0 (p : Nat → Bool) (i b : Nat) (hi : i < 4) (hb : b < 64) : (wP p i).testBit b = p (64 * i + b) := by
 rw [wP, kbZ9 _ _ _ hb, Bool.eq_iff_iff, List.contains_iff_mem, List.mem_filter, List.mem_range]
 exact ⟨fun h => h.2, fun h => ⟨by omega, h⟩⟩
theorem qo0 (p : Nat → Bool) (i : Nat) : wP p i < 2 ^ 64 := by
 unfold wP vcU9
 generalize (List.range 256).filter p = l
 have : ∀ (l : List Nat) (w : Nat), w < 2 ^ 64 → (l.foldl (fun w n => if n / 64 = i then w ||| 2 ^ (n % 64) else w) w) < 2 ^ 64 := by
  intro l
  induction l with
  | nil => intro w h; exact h
  | cons n l ih =>
   intro w h
   rw [List.foldl_cons]
   refine ih _ ?_
   split
   ·exact Nat.or_lt_two_pow h (Nat.pow_lt_pow_right (by decide) (Nat.mod_lt _ (by decide)))
   ·exact h
 exact this l 0 (by decide)
theorem zQ0 {x y : Nat} (hx : x < 2 ^ 64) (hy : y < 2 ^ 64) (h : ∀ b, b < 64 → x.testBit b = y.testBit b) : x = y := by
 apply Nat.eq_of_testBit_eq
 intro b
 rcases Nat.lt_or_ge b 64 with q|q
 ·exact h b q
 ·rw [Nat.testBit_lt_two_pow (Nat.lt_of_lt_of_le hx (Nat.pow_le_pow_right (by decide) q)), Nat.testBit_lt_two_pow (Nat.lt_of_lt_of_le hy (Nat.pow_le_pow_right (by decide) q))]
theorem kaN9 {p q : Nat → Bool} (h : ∀ n, n < 256 → p n = q n) (i : Nat) : wP p i = wP q i := by
 have : (List.range 256).filter p = (List.range 256).filter q := List.filter_congr fun n hn => h n (List.mem_range.1 hn)
 rw [wP, this, ← wP]
theorem qdN9 {p q : Nat → Bool} (h : ∀ i, i < 4 → wP p i = wP q i) : ∀ n, n < 256 → p n = q n := fun n hn => by
 have h1 := xj0 p (n / 64) (n % 64) (by omega) (by omega)
 have h2 := xj0 q (n / 64) (n % 64) (by omega) (by omega)
 rw [show 64 * (n / 64) + n % 64 = n by omega] at h1 h2
 rw [← h1, ← h2, h _ (by omega)]
theorem zdw9 (i : Nat) : wP (fun _ => false) i = 0 := by
 have : (List.range 256).filter (fun _ => false) = [] := by rw [List.filter_eq_nil_iff]; intro _ _; decide
 rw [wP, this]; rfl
theorem xbJ9 (p : Nat → Bool) (n : Nat) (hn : n < 256) (i : Nat) (hi : i < 4) : wP (fun m => p m || decide (m = n)) i = if i = n / 64 then wP p i ||| 2 ^ (n % 64) else wP p i := by
 refine zQ0 (qo0 _ _) ?_ fun b hb => ?_
 ·split
  ·exact Nat.or_lt_two_pow (qo0 _ _) (Nat.pow_lt_pow_right (by decide) (Nat.mod_lt _ (by decide)))
  ·exact qo0 _ _
 ·rw [xj0 _ _ _ hi hb]
  split
  ·rename_i e
   rw [Nat.testBit_or, xj0 _ _ _ hi hb, Nat.testBit_two_pow]
   congr 1
   rw [decide_eq_decide]
   omega
  ·rename_i e
   rw [xj0 _ _ _ hi hb]
   have : ¬ (64 * i + b = n) := by omega
   simp [this]
theorem xbl9 (p q : Nat → Bool) (i : Nat) (hi : i < 4) : wP p i &&& wP q i = wP (fun n => p n && q n) i := by
 refine zQ0 (Nat.and_lt_two_pow _ (qo0 _ _)) (qo0 _ _) fun b hb => ?_
 rw [Nat.testBit_and, xj0 _ _ _ hi hb, xj0 _ _ _ hi hb, xj0 _ _ _ hi hb]
theorem zee9 (p q : Nat → Bool) (i : Nat) (hi : i < 4) : wP p i ||| wP q i = wP (fun n => p n || q n) i := by
 refine zQ0 (Nat.or_lt_two_pow (qo0 _ _) (qo0 _ _)) (qo0 _ _) fun b hb => ?_
 rw [Nat.testBit_or, xj0 _ _ _ hi hb, xj0 _ _ _ hi hb, xj0 _ _ _ hi hb]
theorem zaY9 (p : Nat → Bool) (i : Nat) (hi : i < 4) : wP p i = 0 ↔ ∀ b, b < 64 → p (64 * i + b) = false := by
 constructor
 ·intro h b hb
  rw [← xj0 p i b hi hb, h, Nat.zero_testBit]
 ·intro h
  refine zQ0 (qo0 _ _) (by decide) fun b hb => ?_
  rw [xj0 _ _ _ hi hb, h b hb, Nat.zero_testBit]
def elemsP (p : Nat → Bool) : List Nat := (List.range 256).filter p
theorem kcU9 (p : Nat → Bool) (i : Nat) (hi : i < 4) : ws0 (wP p i) = (List.range 64).filter fun b => p (64 * i + b) :=
 List.filter_congr fun b hb => xj0 p i b hi (List.mem_range.1 hb)
theorem wbl9 (p : Nat → Bool) : elemsP p = (List.range 4).flatMap fun i => (ws0 (wP p i)).map fun b => 64 * i + b := by
 have h : ∀ i, i < 4 → (ws0 (wP p i)).map (fun b => 64 * i + b) = ((List.range 64).map fun b => 64 * i + b).filter p := fun i hi => by
  rw [kcU9 p i hi, List.filter_map]; rfl
 have e : (List.range 4).flatMap (fun i => (ws0 (wP p i)).map fun b => 64 * i + b) = (List.range 4).flatMap fun i => ((List.range 64).map fun b => 64 * i + b).filter p := by
  simp only [List.flatMap]
  congr 1
  exact List.map_congr_left fun i hi => h i (List.mem_range.1 hi)
 rw [e]
 have e2 : (List.range 256) = (List.range 4).flatMap fun i => (List.range 64).map fun b => 64 * i + b := by decide +kernel
 rw [elemsP, e2]
 simp only [List.range, List.range.loop, List.flatMap_cons, List.flatMap_nil, List.filter_append, List.append_nil]
end Go.Proofs
