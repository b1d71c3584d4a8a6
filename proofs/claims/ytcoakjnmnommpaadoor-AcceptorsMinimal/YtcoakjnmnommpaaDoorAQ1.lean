import Derived.Test.YtcoakjnmnommpaaDoorAP8
import Derived.Test.YtcoakjnmnommpaaDoorAP2
set_option linter.unusedVariables false
set_option linter.unusedSimpArgs false
namespace Go.Proofs
theorem kaJ9 : ∀ {l m : List Int}, l.Pairwise (· < ·) → m.Pairwise (· < ·) → (∀ x, x ∈ l ↔ x ∈ m) → l = m
 | [], [], _, _, _ => rfl
 | [], y :: m, _, _, h => absurd ((h y).2 List.mem_cons_self) (by simp)
 | x :: l, [], _, _, h => absurd ((h x).1 List.mem_cons_self) (by simp)
 | x :: l, y :: m, hl, hm, h => by
  obtain ⟨l1, l2⟩ := List.pairwise_cons.1 hl
  obtain ⟨m1, m2⟩ := List.pairwise_cons.1 hm
  have hxy : x = y := by
   rcases List.mem_cons.1 ((h x).1 List.mem_cons_self) with q|q
   ·exact q
   ·rcases List.mem_cons.1 ((h y).2 List.mem_cons_self) with w|w
    ·exact w.symm
    ·have := m1 x q; have := l1 y w; omega
  subst hxy
  rw [kaJ9 l2 m2 fun z => ?_]
  constructor
  ·intro hz
   rcases List.mem_cons.1 ((h z).1 (List.mem_cons_of_mem _ hz)) with q|q
   ·have := l1 z hz; omega
   ·exact q
  ·intro hz
   rcases List.mem_cons.1 ((h z).2 (List.mem_cons_of_mem _ hz)) with q|q
   ·have := m1 z hz; omega
   ·exact q
def okI (l : List Int) (n : Int) (i : Nat) : Bool := decide (0 ≤ l.getD i 0) && (decide (l.getD i 0 < n) && (decide (i = 0) || decide (l.getD (i - 1) 0 < l.getD i 0)))
def xf0 (l : List Int) (n : Int) : Bool := (List.range l.length).all fun i => okI l n i
theorem qbh9 {l : List Int} {n : Int} (h : ∀ i, i < l.length → okI l n i = true) : xf0 l n = true := by
 rw [xf0, List.all_eq_true]; exact fun i hi => h i (List.mem_range.1 hi)
theorem kcM9 {l : List Int} {n : Int} {i : Nat} (hi : i < l.length) (h : okI l n i = false) : xf0 l n = false := by
 rw [xf0, List.all_eq_false]; exact ⟨i, List.mem_range.2 hi, by rw [h]; decide⟩
theorem kbE9 {l : List Int} {n : Int} (h : xf0 l n = true) {i : Nat} (hi : i < l.length) : okI l n i = true := by
 rw [xf0, List.all_eq_true] at h; exact h i (List.mem_range.2 hi)
theorem zh0 {l : List Int} {n : Int} (h : xf0 l n = true) : ∀ x ∈ l, 0 ≤ x ∧ x < n := fun x hx => by
 obtain ⟨i, hi, rfl⟩ := List.getElem_of_mem hx
 have := kbE9 h hi
 simp only [okI, Bool.and_eq_true, decide_eq_true_eq, List.getD_eq_getElem?_getD, List.getElem?_eq_getElem hi, Option.getD_some] at this
 exact ⟨this.1, this.2.1⟩
theorem kal9 {l : List Int} {n : Int} (h : xf0 l n = true) : l.Pairwise (· < ·) := by
 have step : ∀ i, (hi : i + 1 < l.length) → l[i]'(by omega) < l[i + 1] := fun i hi => by
  have := kbE9 h hi
  simp only [okI, Bool.and_eq_true, decide_eq_true_eq, List.getD_eq_getElem?_getD, List.getElem?_eq_getElem hi, Option.getD_some, Nat.add_sub_cancel, Bool.or_eq_true] at this
  rcases this.2.2 with q|q
  ·omega
  ·rwa [List.getElem?_eq_getElem (by omega), Option.getD_some] at q
 have far : ∀ d i, (hi : i + d + 1 < l.length) → l[i]'(by omega) < l[i + d + 1] := by
  intro d
  induction d with
  | zero => exact fun i hi => step i hi
  | succ d ih => intro i hi; have := ih i (by omega); have := step (i + d + 1) (by omega); exact Int.lt_trans ‹l[i] < _› this
 rw [List.pairwise_iff_getElem]
 intro i j hi hj hij
 obtain ⟨d, rfl⟩ : ∃ d, j = i + d + 1 := ⟨j - i - 1, by omega⟩
 exact far d i hj
def natL (l : List Int) : List Nat := l.map Int.toNat
theorem qam9 {l : List Int} {n : Nat} (h : xf0 l n = true) : natL l = (List.range n).filter fun t : Nat => l.contains (t : Int) := by
 have hr := zh0 h
 have hs := kal9 h
 have h1 : l = ((List.range n).filter fun t : Nat => l.contains (t : Int)).map fun t : Nat => (t : Int) := by
  refine kaJ9 hs ?_ fun x => ?_
  ·rw [List.pairwise_map]
   exact (List.pairwise_lt_range.filter _).imp fun q => by omega
  ·rw [List.mem_map]
   constructor
   ·intro hx
    have := hr x hx
    refine ⟨x.toNat, List.mem_filter.2 ⟨List.mem_range.2 (by omega), ?_⟩, by omega⟩
    rw [List.contains_iff_mem, show ((x.toNat : Nat) : Int) = x by omega]; exact hx
   ·rintro ⟨t, ht, rfl⟩
    exact List.contains_iff_mem.1 (List.mem_filter.1 ht).2
 calc natL l = natL (((List.range n).filter fun t : Nat => l.contains (t : Int)).map fun t : Nat => (t : Int)) := by rw [← h1]
  _ = _ := by rw [natL, List.map_map]; exact (List.map_congr_left fun t _ => Int.toNat_natCast t).trans (List.map_id _)
theorem zbh9 (n : Nat) (p : Nat → Bool) : xf0 (((List.range n).filter p).map fun t : Nat => (t : Int)) n = true := by
 have hs : (((List.range n).filter p).map fun t : Nat => (t : Int)).Pairwise (· < ·) := by
  rw [List.pairwise_map]; exact (List.pairwise_lt_range.filter _).imp fun q => by omega
 have hm : ∀ x ∈ ((List.range n).filter p).map (fun t : Nat => (t : Int)), 0 ≤ x ∧ x < n := fun x hx => by
  obtain ⟨t, ht, rfl⟩ := List.mem_map.1 hx
  have := List.mem_range.1 (List.mem_filter.1 ht).1
  omega
 generalize ((List.range n).filter p).map (fun t : Nat => (t : Int)) = l at *
 refine qbh9 fun i hi => ?_
 have h1 := hm _ (List.getElem_mem hi)
 simp only [okI, List.getD_eq_getElem?_getD, List.getElem?_eq_getElem hi, Option.getD_some, Bool.and_eq_true, decide_eq_true_eq, Bool.or_eq_true]
 refine ⟨h1.1, h1.2, ?_⟩
 rcases Nat.eq_zero_or_pos i with q|q
 ·exact .inl q
 ·refine .inr ?_
  rw [List.getElem?_eq_getElem (by omega), Option.getD_some]
  exact List.pairwise_iff_getElem.1 hs _ _ _ _ (by omega)
def vA0 (sym n : Int) (r : List (List Int)) : Bool := decide ((r.length : Int) = sym) && r.all fun l => xf0 l n
def xp0 (sym : Int) (rows : List (List (List Int))) (st ac : List Int) : Int :=
 if 16 < sym ∨ 256 < rows.length then 3 else if sym < 1 ∨ xf0 st rows.length = false ∨ xf0 ac rows.length = false ∨ rows.all (vA0 sym rows.length) = false then 1 else 0
def vD0 (sym n : Int) (r : List Int) : Bool := decide ((r.length : Int) = sym) && r.all fun t => decide (0 ≤ t) && decide (t < n)
def qi0 (sym : Int) (rows : List (List Int)) (m : Nat) : Int :=
 if 16 < sym ∨ 256 < rows.length then 3 else if sym < 1 ∨ rows.length < 1 ∨ m ≠ rows.length ∨ rows.all (vD0 sym rows.length) = false then 1 else 0
structure OkNv (A : Nat) (rows : List (List (List Int))) (st ac : List Int) : Prop where
 a1 : 1 ≤ A
 a2 : A ≤ 16
 n : rows.length ≤ 256
 st : xf0 st rows.length = true
 ac : xf0 ac rows.length = true
 len : ∀ s, s < rows.length → (rows.getD s []).length = A
 ri : ∀ s a, s < rows.length → a < A → xf0 ((rows.getD s []).getD a []) rows.length = true
theorem kd0 {α : Type} {l : List α} {d : α} {i : Nat} (h : i < l.length) : l.getD i d ∈ l := by
 rw [List.getD_eq_getElem?_getD, List.getElem?_eq_getElem h]; exact List.getElem_mem h
theorem kcm9 {sym : Int} {rows : List (List (List Int))} {st ac : List Int} (h : xp0 sym rows st ac = 0) : ∃ A : Nat, sym = A ∧ OkNv A rows st ac := by
 unfold xp0 at h
 split at h
 ·cases h
 ·rename_i h1
  split at h
  ·cases h
  ·rename_i h2
   simp only [not_or, Bool.not_eq_false, Int.not_lt] at h1 h2
   obtain ⟨g1, g2, g3, g4⟩ := h2
   rw [List.all_eq_true] at g4
   refine ⟨sym.toNat, by omega, by omega, by omega, by omega, g2, g3, fun s hs => ?_, fun s a hs ha => ?_⟩
   ·have := g4 _ (kd0 (d := []) hs)
    simp only [vA0, Bool.and_eq_true, decide_eq_true_eq] at this
    omega
   ·have := g4 _ (kd0 (d := []) hs)
    simp only [vA0, Bool.and_eq_true, decide_eq_true_eq, List.all_eq_true] at this
    exact this.2 _ (kd0 (by omega))
theorem xbh9 {A : Nat} {rows : List (List (List Int))} {st ac : List Int} (h : OkNv A rows st ac) : xp0 A rows st ac = 0 := by
 unfold xp0
 have := h.a1; have := h.a2; have := h.n
 rw [if_neg (by omega), if_neg]
 simp only [not_or, Bool.not_eq_false]
 refine ⟨by omega, h.st, h.ac, ?_⟩
 rw [List.all_eq_true]
 intro r hr
 obtain ⟨s, hs, rfl⟩ := List.getElem_of_mem hr
 have e : rows[s] = rows.getD s [] := by rw [List.getD_eq_getElem?_getD, List.getElem?_eq_getElem hs]; rfl
 rw [e]
 simp only [vA0, Bool.and_eq_true, decide_eq_true_eq, List.all_eq_true]
 refine ⟨by rw [h.len s hs], fun l hl => ?_⟩
 obtain ⟨a, ha, rfl⟩ := List.getElem_of_mem hl
 have := h.ri s a hs (by rw [← h.len s hs]; exact ha)
 rwa [List.getD_eq_getElem?_getD, List.getElem?_eq_getElem ha] at this
def nfOf (rows : List (List (List Int))) (st ac : List Int) : Nf := ⟨rows.length, fun s a t => ((rows.getD s []).getD a []).contains (t : Int), natL st, natL ac⟩
structure OkDv (A : Nat) (rows : List (List Int)) (m : Nat) : Prop where
 a1 : 1 ≤ A
 a2 : A ≤ 16
 n1 : 1 ≤ rows.length
 n : rows.length ≤ 256
 m : m = rows.length
 len : ∀ s, s < rows.length → (rows.getD s []).length = A
 to : ∀ s a, s < rows.length → a < A → 0 ≤ (rows.getD s []).getD a 0 ∧ (rows.getD s []).getD a 0 < rows.length
theorem wbh9 {sym : Int} {rows : List (List Int)} {m : Nat} (h : qi0 sym rows m = 0) : ∃ A : Nat, sym = A ∧ OkDv A rows m := by
 unfold qi0 at h
 split at h
 ·cases h
 ·rename_i h1
  split at h
  ·cases h
  ·rename_i h2
   simp only [not_or, Bool.not_eq_false, Int.not_lt, Nat.not_lt, ne_eq, Classical.not_not] at h1 h2
   obtain ⟨g1, g2, g3, g4⟩ := h2
   rw [List.all_eq_true] at g4
   refine ⟨sym.toNat, by omega, by omega, by omega, g2, by omega, g3, fun s hs => ?_, fun s a hs ha => ?_⟩
   ·have := g4 _ (kd0 (d := []) hs)
    simp only [vD0, Bool.and_eq_true, decide_eq_true_eq] at this
    omega
   ·have := g4 _ (kd0 (d := []) hs)
    simp only [vD0, Bool.and_eq_true, decide_eq_true_eq, List.all_eq_true] at this
    have h5 := this.2 _ (kd0 (d := 0) (i := a) (by omega))
    exact h5
theorem vbh9 {A : Nat} {rows : List (List Int)} {m : Nat} (h : OkDv A rows m) : qi0 A rows m = 0 := by
 unfold qi0
 have := h.a1; have := h.a2; have := h.n; have := h.n1; have := h.m
 rw [if_neg (by omega), if_neg]
 simp only [not_or, Bool.not_eq_false, ne_eq, Classical.not_not]
 refine ⟨by omega, by omega, h.m, ?_⟩
 rw [List.all_eq_true]
 intro r hr
 obtain ⟨s, hs, rfl⟩ := List.getElem_of_mem hr
 have e : rows[s] = rows.getD s [] := by rw [List.getD_eq_getElem?_getD, List.getElem?_eq_getElem hs]; rfl
 rw [e]
 simp only [vD0, Bool.and_eq_true, decide_eq_true_eq, List.all_eq_true]
 refine ⟨by rw [h.len s hs], fun t ht => ?_⟩
 obtain ⟨a, ha, rfl⟩ := List.getElem_of_mem ht
 have := h.to s a hs (by rw [← h.len s hs]; exact ha)
 rwa [List.getD_eq_getElem?_getD, List.getElem?_eq_getElem ha] at this
end Go.Proofs
set_option linter.unusedVariables false
set_option linter.unusedSimpArgs false
namespace Go.Proofs
open Go Go.V
def splitC (c : UInt8) : Bs → List Bs
 | [] => [[]]
 | b :: r => if b = c then [] :: splitC c r else match splitC c r with|[] => [[b]]|p :: l => (b :: p) :: l
theorem wp0 (c : UInt8) (s : Bs) : splitC c s ≠ [] := by
 cases s with
 | nil => simp [splitC]
 | cons b r =>
  rw [splitC]
  split
  ·simp
  ·split <;> simp
theorem kD0 (c : UInt8) (r : Bs) : splitC c (c :: r) = [] :: splitC c r := by rw [splitC, if_pos rfl]
theorem zr0 {c b : UInt8} (h : ¬ b = c) {r p : Bs} {l : List Bs} (q : splitC c r = p :: l) : splitC c (b :: r) = (b :: p) :: l := by rw [splitC, if_neg h, q]
theorem xay9 (c : UInt8) : ∀ s : Bs, ∀ p ∈ splitC c s, ¬ c ∈ p
 | [], p, hp => by simp [splitC] at hp; subst hp; simp
 | b :: r, p, hp => by
  have ih := xay9 c r
  by_cases h : b = c
  ·subst h
   rw [kD0] at hp
   rcases List.mem_cons.1 hp with rfl|hp
   ·simp
   ·exact ih p hp
  ·obtain ⟨q, l, e⟩ := List.exists_cons_of_ne_nil (wp0 c r)
   rw [zr0 h e] at hp
   rw [e] at ih
   rcases List.mem_cons.1 hp with rfl|hp
   ·intro hc
    rcases List.mem_cons.1 hc with rfl|hc
    ·exact h rfl
    ·exact ih q List.mem_cons_self hc
   ·exact ih p (List.mem_cons_of_mem _ hp)
theorem qcn9 (b : UInt8) (p : Bs) (l : List Bs) (sep : Bs) : Lib.join ((b :: p) :: l) sep = b :: Lib.join (p :: l) sep := by
 cases l with
 | nil => rw [vn0, vn0]
 | cons q l => rw [vi0, vi0]; rfl
theorem qV0 (c : UInt8) : ∀ s : Bs, Lib.join (splitC c s) [c] = s
 | [] => by rw [splitC, vn0]
 | b :: r => by
  have ih := qV0 c r
  obtain ⟨q, l, e⟩ := List.exists_cons_of_ne_nil (wp0 c r)
  by_cases h : b = c
  ·subst h
   rw [kD0]
   rw [e] at ih ⊢
   rw [vi0, ih]; rfl
  ·rw [zr0 h e, qcn9, ← e, ih]
theorem kap9 (c : UInt8) (s : Bs) : zt0 s [c] = splitC c s := by
 have h := kah9 (sep := [c]) (q := 0) (c := c) ⟨rfl, fun k h => by omega⟩ (splitC c s) (wp0 c s) (xay9 c s)
 rw [qV0] at h
 exact h
theorem way9 (c : UInt8) (l : List Bs) (h : l ≠ []) (hf : ∀ p ∈ l, ¬ c ∈ p) : splitC c (Lib.join l [c]) = l := by
 rw [← kap9]
 exact kah9 (q := 0) (c := c) ⟨rfl, fun k h => by omega⟩ l h hf
end Go.Proofs
set_option linter.unusedVariables false
set_option linter.unusedSimpArgs false
namespace Go.Proofs
open Go Go.V
def int4 (f : Bs) : Option Int := if wbf9 f ∧ f.length ≤ 4 then some (numF 0 f) else none
def kl0 : List Bs → Option (List Int)
 | [] => some []
 | f :: r => match int4 f, kl0 r with|some x, some xs => some (x :: xs)|_, _ => none
theorem vay9 {f : Bs} {x : Int} (h : int4 f = some x) : Lib.itoa x = f := by
 unfold int4 at h
 split at h
 ·rename_i q
  injection h with h; subst h
  exact vbf9 f.length f (Nat.le_refl _) q.1
 ·cases h
theorem wO0 : ∀ {l : List Bs} {xs : List Int}, kl0 l = some xs → xs.map Lib.itoa = l
 | [], xs, h => by simp only [kl0, Option.some.injEq] at h; subst h; rfl
 | f :: r, xs, h => by
  unfold kl0 at h
  split at h
  ·rename_i x xs' h1 h2
   simp only [Option.some.injEq] at h
   subst h
   rw [List.map_cons, vay9 h1, wO0 h2]
  ·cases h
theorem zcn9 {v : Int} (h0 : 0 ≤ v) (h1 : v ≤ 9999) : (Lib.itoa v).length ≤ 4 := by
 by_cases a : v < 10
 ·rw [zf0 v h0 a]; simp
 ·rw [wN0 v (by omega), zf0 (v % 10) (by omega) (by omega), List.length_append]
  have := wcl9 (v := v / 10) (by omega) (by omega)
  simp only [List.length_cons, List.length_nil]; omega
theorem xcn9 {v : Int} (h0 : 0 ≤ v) (h1 : v ≤ 9999) : int4 (Lib.itoa v) = some v := by
 obtain ⟨a, b, _⟩ := vN0 v.toNat v h0 (by omega)
 rw [int4, if_pos ⟨a, zcn9 h0 h1⟩, b]
theorem xai9 : ∀ {xs : List Int}, (∀ x ∈ xs, 0 ≤ x ∧ x ≤ 9999) → kl0 (xs.map Lib.itoa) = some xs
 | [], _ => rfl
 | x :: xs, h => by
  have h1 := h x List.mem_cons_self
  rw [List.map_cons, kl0, xcn9 h1.1 h1.2, xai9 fun y hy => h y (List.mem_cons_of_mem _ hy)]
def zC0 : Bs := [97, 99, 99, 101, 112, 116, 111, 114]
def kP0 (b : Bool) : Bs := if b = true then [43] else [45]
def qH0 (first : Bs) (l : List Int) : Bs := Lib.join (first :: l.map Lib.itoa) [32]
def wt0 (rows : List (List Int × Bool)) : List Bs := rows.map fun r => qH0 (kP0 r.2) r.1
def zV0 (A : Int) (rows : List (List Int × Bool)) : Bs := (qH0 zC0 [A, (rows.length : Int)] :: wt0 rows).flatMap fun l => l ++ [10]
def xV0 (line : Bs) : Option (List Int × Bool) :=
 match kl0 (splitC 32 line).tail with
 | none => none
 | some row => if (splitC 32 line).headD [] = [43] then some (row, true) else if (splitC 32 line).headD [] = [45] then some (row, false) else none
def wn0 : List Bs → Option (List (List Int × Bool))
 | [] => some []
 | l :: r => match xV0 l, wn0 r with|some x, some xs => some (x :: xs)|_, _ => none
def vab9 (lines : List Bs) : Option (Int × List (List Int × Bool)) :=
 match kl0 (splitC 32 (lines.headD [])).tail with
 | none => none
 | some size => if (splitC 32 (lines.headD [])).headD [] = zC0 ∧ size.length = 2 ∧ size.getD 1 0 = ((lines.length - 1 : Nat) : Int) then
   (match wn0 lines.tail with|none => none|some rows => some (size.getD 0 0, rows)) else none
def zam9 (s : Bs) : Option (Int × List (List Int × Bool)) := if s.getLast? = some 10 then vab9 (splitC 10 s.dropLast) else none
theorem zdn9 (b : Bool) : ¬ (32 : UInt8) ∈ kP0 b := by cases b <;> decide
theorem qaK9 (first : Bs) (l : List Int) (h : ¬ (32 : UInt8) ∈ first) (hl : ∀ x ∈ l, 0 ≤ x) : splitC 32 (qH0 first l) = first :: l.map Lib.itoa := by
 refine way9 32 _ (by simp) ?_
 intro p hp
 rcases List.mem_cons.1 hp with rfl|hp
 ·exact h
 ·obtain ⟨n, hn, rfl⟩ := List.mem_map.1 hp
  exact vbD9 (kbf9 (hl n hn)) (by decide)
theorem wcn9 (first : Bs) (l : List Int) (h : ¬ (10 : UInt8) ∈ first) (hl : ∀ x ∈ l, 0 ≤ x) : ¬ (10 : UInt8) ∈ qH0 first l := by
 refine xbD9 _ (by decide) ?_
 intro p hp
 rcases List.mem_cons.1 hp with rfl|hp
 ·exact h
 ·obtain ⟨n, hn, rfl⟩ := List.mem_map.1 hp
  exact vbD9 (kbf9 (hl n hn)) (by decide)
theorem vcn9 (l : List Bs) (h : l ≠ []) : (l.flatMap fun p => p ++ [10]) = Lib.join l [10] ++ [10] := by
 match l with
 | [] => exact absurd rfl h
 | p :: r =>
  induction r generalizing p with
  | nil => simp [vn0]
  | cons q r ih => rw [List.flatMap_cons, ih q (by simp), vi0]; simp
theorem vbS9 (l : List Int) (b : Bool) (hl : ∀ x ∈ l, 0 ≤ x ∧ x ≤ 9999) : xV0 (qH0 (kP0 b) l) = some (l, b) := by
 unfold xV0
 rw [qaK9 _ _ (zdn9 b) fun x hx => (hl x hx).1, List.tail_cons, xai9 hl]
 cases b <;> rfl
theorem zaK9 : ∀ (rows : List (List Int × Bool)), (∀ r ∈ rows, ∀ x ∈ r.1, 0 ≤ x ∧ x ≤ 9999) → wn0 (wt0 rows) = some rows
 | [], _ => rfl
 | r :: rows, h => by
  have e : wt0 (r :: rows) = qH0 (kP0 r.2) r.1 :: wt0 rows := rfl
  rw [e, wn0, vbS9 r.1 r.2 (h r List.mem_cons_self), zaK9 rows fun q hq => h q (List.mem_cons_of_mem _ hq)]
theorem qbv9 (A : Int) (rows : List (List Int × Bool)) (hA : 0 ≤ A ∧ A ≤ 9999) (hn : rows.length ≤ 9999) (h : ∀ r ∈ rows, ∀ x ∈ r.1, 0 ≤ x ∧ x ≤ 9999) : zam9 (zV0 A rows) = some (A, rows) := by
 have hh : ∀ x ∈ [A, (rows.length : Int)], 0 ≤ x ∧ x ≤ 9999 := fun x hx => by simp at hx; omega
 have hs : splitC 10 (Lib.join (qH0 zC0 [A, (rows.length : Int)] :: wt0 rows) [10]) = qH0 zC0 [A, (rows.length : Int)] :: wt0 rows := by
  refine way9 10 _ (by simp) ?_
  intro p hp
  rcases List.mem_cons.1 hp with rfl|hp
  ·exact wcn9 _ _ (by decide) fun x hx => (hh x hx).1
  ·obtain ⟨r, hr, rfl⟩ := List.mem_map.1 hp
   exact wcn9 _ _ (by cases r.2 <;> decide) fun x hx => (h r hr x hx).1
 rw [zV0, vcn9 _ (by simp), zam9, if_pos (by simp), List.dropLast_concat, hs, vab9, List.headD_cons, qaK9 _ _ (by decide) fun x hx => (hh x hx).1, List.tail_cons, xai9 hh]
 simp only [List.headD_cons, List.tail_cons]
 rw [if_pos ⟨trivial, rfl, by simp [wt0]⟩, zaK9 rows h]
 rfl
theorem kbS9 {l : Bs} {r : List Int × Bool} (h : xV0 l = some r) : l = qH0 (kP0 r.2) r.1 := by
 unfold xV0 at h
 split at h
 ·cases h
 ·rename_i row q
  have h1 := wO0 q
  obtain ⟨f, w, e⟩ := List.exists_cons_of_ne_nil (wp0 32 l)
  have hj := qV0 32 l
  rw [e] at h1 hj
  rw [List.tail_cons] at h1
  split at h
  ·rename_i h2
   injection h with h; subst h
   rw [e, List.headD_cons] at h2
   rw [← hj, qH0, h1, h2]; rfl
  ·split at h
   ·rename_i h2
    injection h with h; subst h
    rw [e, List.headD_cons] at h2
    rw [← hj, qH0, h1, h2]; rfl
   ·cases h
theorem xaK9 : ∀ {l : List Bs} {rows : List (List Int × Bool)}, wn0 l = some rows → l = wt0 rows
 | [], rows, h => by simp only [wn0, Option.some.injEq] at h; subst h; rfl
 | p :: l, rows, h => by
  unfold wn0 at h
  split at h
  ·rename_i x xs h1 h2
   injection h with h; subst h
   rw [kbS9 h1, xaK9 h2]; rfl
  ·cases h
end Go.Proofs
set_option linter.unusedVariables false
set_option linter.unusedSimpArgs false
namespace Go.Proofs
def vp0 (w : Nat) : List Nat := (List.range 64).filter fun b => w.testBit b
structure kcn9 (w b : Nat) : Prop where
 at1 : w.testBit b = true
 low : ∀ j, j < b → w.testBit j = false
theorem qcN9 {w b : Nat} (h : kcn9 w b) : ∃ m, w = 2 ^ b * (2 * m + 1) := by
 have h1 : w % 2 ^ b = 0 := by
  apply Nat.eq_of_testBit_eq
  intro j
  rw [Nat.testBit_mod_two_pow, Nat.zero_testBit]
  by_cases q : j < b
  ·rw [h.low j q]; simp
  ·simp [q]
 have h2 := h.at1
 rw [Nat.testBit_eq_decide_div_mod_eq, decide_eq_true_eq] at h2
 refine ⟨w / 2 ^ b / 2, ?_⟩
 have e1 : 2 * (w / 2 ^ b / 2) + 1 = w / 2 ^ b := by omega
 rw [e1]
 have := Nat.div_add_mod w (2 ^ b)
 omega
theorem qco9 {w b : Nat} (h : kcn9 w b) (j : Nat) : (w &&& (w - 1)).testBit j = (w.testBit j && !decide (j = b)) := by
 rw [Nat.testBit_and]
 obtain ⟨m, e⟩ := qcN9 h
 by_cases q : j < b
 ·rw [h.low j q]; simp
 ·have hp : 0 < 2 ^ b := Nat.two_pow_pos b
  have e2 : w - 1 = 2 ^ b * (2 * m) + (2 ^ b - 1) := by rw [e, Nat.mul_add, Nat.mul_one]; omega
  have hd : (w - 1) / 2 ^ b = 2 * m := by
   rw [e2, Nat.mul_add_div hp, Nat.div_eq_of_lt (by omega)]; omega
  have hd2 : w / 2 ^ b = 2 * m + 1 := by rw [e, Nat.mul_div_cancel_left _ hp]
  obtain ⟨k, rfl⟩ : ∃ k, j = b + k := ⟨j - b, by omega⟩
  have t1 : (w - 1).testBit (b + k) = (2 * m).testBit k := by rw [← hd, Nat.testBit_div_two_pow, Nat.add_comm]
  have t2 : w.testBit (b + k) = (2 * m + 1).testBit k := by rw [← hd2, Nat.testBit_div_two_pow, Nat.add_comm]
  rw [t1, t2]
  cases k with
  | zero => simp
  | succ k =>
   have a1 : (2 * m).testBit (k + 1) = m.testBit k := by rw [Nat.testBit_succ]; congr 1; omega
   have a2 : (2 * m + 1).testBit (k + 1) = m.testBit k := by rw [Nat.testBit_succ]; congr 1; omega
   rw [a1, a2]
   simp
theorem filter_cons {p q : Nat → Bool} {b : Nat} : ∀ n, b < n → p b = true → (∀ j, j < b → p j = false) → (∀ j, q j = (p j && !decide (j = b))) → (List.range n).filter p = b :: (List.range n).filter q
 | 0, h, _, _, _ => by omega
 | n + 1, h, h1, h2, h3 => by
  rw [List.range_succ, List.filter_append, List.filter_append]
  rcases Nat.lt_or_ge b n with w|w
  ·rw [filter_cons n w h1 h2 h3]
   have : q n = p n := by
    have := h3 n
    have hne : ¬ n = b := by omega
    simpa [hne] using this
   simp only [List.filter_cons, List.filter_nil, this, List.cons_append]
  ·obtain rfl : b = n := by omega
   have e1 : (List.range b).filter p = [] := List.filter_eq_nil_iff.2 fun j hj => by rw [h2 j (List.mem_range.1 hj)]; decide
   have e2 : (List.range b).filter q = [] := List.filter_eq_nil_iff.2 fun j hj => by rw [h3 j, h2 j (List.mem_range.1 hj)]; simp
   have e3 : q b = false := by rw [h3 b]; simp
   rw [e1, e2]
   simp [h1, e3]
theorem qbT9 {w b : Nat} (h : kcn9 w b) (hb : b < 64) : vp0 w = b :: vp0 (w &&& (w - 1)) := filter_cons 64 hb h.at1 h.low (qco9 h)
theorem zbT9 : vp0 0 = [] := List.filter_eq_nil_iff.2 fun j _ => by simp
def zcN9 (l : List Nat) (i : Nat) : Nat := l.foldl (fun w n => if n / 64 = i then w ||| 2 ^ (n % 64) else w) 0
theorem kbh9 (i b : Nat) (hb : b < 64) : ∀ (l : List Nat) (w : Nat), (l.foldl (fun w n => if n / 64 = i then w ||| 2 ^ (n % 64) else w) w).testBit b = (w.testBit b || l.contains (64 * i + b))
 | [], w => by simp
 | n :: l, w => by
  rw [List.foldl_cons, kbh9 i b hb l, List.contains_cons]
  by_cases h : n / 64 = i
  ·rw [if_pos h, Nat.testBit_or, Nat.testBit_two_pow, Bool.or_assoc]
   congr 2
   rw [Bool.eq_iff_iff, decide_eq_true_eq, beq_iff_eq]
   omega
  ·rw [if_neg h]
   have : (64 * i + b == n) = false := by
    rw [beq_eq_false_iff_ne]; omega
   rw [this, Bool.false_or]
theorem xbT9 (l : List Nat) (i b : Nat) (hb : b < 64) : (zcN9 l i).testBit b = l.contains (64 * i + b) := by
 unfold zcN9; rw [kbh9 i b hb l 0, Nat.zero_testBit, Bool.false_or]
end Go.Proofs
set_option linter.unusedVariables false
set_option linter.unusedSimpArgs false
namespace Go.Proofs
def wP (p : Nat → Bool) (i : Nat) : Nat := zcN9 ((List.range 256).filter p) i
theorem kp0 (p : Nat → Bool) (i b : Nat) (hi : i < 4) (hb : b < 64) : (wP p i).testBit b = p (64 * i + b) := by
 rw [wP, xbT9 _ _ _ hb, Bool.eq_iff_iff, List.contains_iff_mem, List.mem_filter, List.mem_range]
 exact ⟨fun h => h.2, fun h => ⟨by omega, h⟩⟩
theorem kay9 (p : Nat → Bool) (i : Nat) : wP p i < 2 ^ 64 := by
 unfold wP zcN9
 generalize (List.range 256).filter p = l
 have : ∀ (l : List Nat) (w : Nat), w < 2 ^ 64 → (l.foldl (fun w n => if n / 64 = i then w ||| 2 ^ (n % 64) else w) w) < 2 ^ 64 := by
  intro l
  induction l with
  | nil => intro w h; exact h
  | cons n l ih =>
   intro w h
   rw [List.foldl_cons]
   refine ih _ ?_
   split
   ·exact Nat.or_lt_two_pow h (Nat.pow_lt_pow_right (by decide) (Nat.mod_lt _ (by decide)))
   ·exact h
 exact this l 0 (by decide)
theorem waU9 {x y : Nat} (hx : x < 2 ^ 64) (hy : y < 2 ^ 64) (h : ∀ b, b < 64 → x.testBit b = y.testBit b) : x = y := by
 apply Nat.eq_of_testBit_eq
 intro b
 rcases Nat.lt_or_ge b 64 with q|q
 ·exact h b q
 ·rw [Nat.testBit_lt_two_pow (Nat.lt_of_lt_of_le hx (Nat.pow_le_pow_right (by decide) q)), Nat.testBit_lt_two_pow (Nat.lt_of_lt_of_le hy (Nat.pow_le_pow_right (by decide) q))]
theorem qbi9 {p q : Nat → Bool} (h : ∀ n, n < 256 → p n = q n) (i : Nat) : wP p i = wP q i := by
 have : (List.range 256).filter p = (List.range 256).filter q := List.filter_congr fun n hn => h n (List.mem_range.1 hn)
 rw [wP, this, ← wP]
theorem vdC9 {p q : Nat → Bool} (h : ∀ i, i < 4 → wP p i = wP q i) : ∀ n, n < 256 → p n = q n := fun n hn => by
 have h1 := kp0 p (n / 64) (n % 64) (by omega) (by omega)
 have h2 := kp0 q (n / 64) (n % 64) (by omega) (by omega)
 rw [show 64 * (n / 64) + n % 64 = n by omega] at h1 h2
 rw [← h1, ← h2, h _ (by omega)]
theorem xdn9 (i : Nat) : wP (fun _ => false) i = 0 := by
 have : (List.range 256).filter (fun _ => false) = [] := by rw [List.filter_eq_nil_iff]; intro _ _; decide
 rw [wP, this]; rfl
theorem qbF9 (p : Nat → Bool) (n : Nat) (hn : n < 256) (i : Nat) (hi : i < 4) : wP (fun m => p m || decide (m = n)) i = if i = n / 64 then wP p i ||| 2 ^ (n % 64) else wP p i := by
 refine waU9 (kay9 _ _) ?_ fun b hb => ?_
 ·split
  ·exact Nat.or_lt_two_pow (kay9 _ _) (Nat.pow_lt_pow_right (by decide) (Nat.mod_lt _ (by decide)))
  ·exact kay9 _ _
 ·rw [kp0 _ _ _ hi hb]
  split
  ·rename_i e
   rw [Nat.testBit_or, kp0 _ _ _ hi hb, Nat.testBit_two_pow]
   congr 1
   rw [decide_eq_decide]
   omega
  ·rename_i e
   rw [kp0 _ _ _ hi hb]
   have : ¬ (64 * i + b = n) := by omega
   simp [this]
theorem zbF9 (p q : Nat → Bool) (i : Nat) (hi : i < 4) : wP p i &&& wP q i = wP (fun n => p n && q n) i := by
 refine waU9 (Nat.and_lt_two_pow _ (kay9 _ _)) (kay9 _ _) fun b hb => ?_
 rw [Nat.testBit_and, kp0 _ _ _ hi hb, kp0 _ _ _ hi hb, kp0 _ _ _ hi hb]
theorem vaU9 (p : Nat → Bool) (i : Nat) (hi : i < 4) : wP p i = 0 ↔ ∀ b, b < 64 → p (64 * i + b) = false := by
 constructor
 ·intro h b hb
  rw [← kp0 p i b hi hb, h, Nat.zero_testBit]
 ·intro h
  refine waU9 (kay9 _ _) (by decide) fun b hb => ?_
  rw [kp0 _ _ _ hi hb, h b hb, Nat.zero_testBit]
def elemsP (p : Nat → Bool) : List Nat := (List.range 256).filter p
theorem xcN9 (p : Nat → Bool) (i : Nat) (hi : i < 4) : vp0 (wP p i) = (List.range 64).filter fun b => p (64 * i + b) :=
 List.filter_congr fun b hb => kp0 p i b hi (List.mem_range.1 hb)
theorem zbi9 (p : Nat → Bool) : elemsP p = (List.range 4).flatMap fun i => (vp0 (wP p i)).map fun b => 64 * i + b := by
 have h : ∀ i, i < 4 → (vp0 (wP p i)).map (fun b => 64 * i + b) = ((List.range 64).map fun b => 64 * i + b).filter p := fun i hi => by
  rw [xcN9 p i hi, List.filter_map]; rfl
 have e : (List.range 4).flatMap (fun i => (vp0 (wP p i)).map fun b => 64 * i + b) = (List.range 4).flatMap fun i => ((List.range 64).map fun b => 64 * i + b).filter p := by
  simp only [List.flatMap]
  congr 1
  exact List.map_congr_left fun i hi => h i (List.mem_range.1 hi)
 rw [e]
 have e2 : (List.range 256) = (List.range 4).flatMap fun i => (List.range 64).map fun b => 64 * i + b := by decide +kernel
 rw [elemsP, e2]
 simp only [List.range, List.range.loop, List.flatMap_cons, List.flatMap_nil, List.filter_append, List.append_nil]
end Go.Proofs
