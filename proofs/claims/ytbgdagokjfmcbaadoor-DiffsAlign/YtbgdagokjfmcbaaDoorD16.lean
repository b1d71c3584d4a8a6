import Derived.Test.YtbgdagokjfmcbaaDoorD15
namespace Go.Proofs
open Go Go.V
set_option linter.unusedVariables false
set_option linter.unusedSimpArgs false
def toAt (l : List Row) (s i : Int) : Int := ((l.getD s.toNat ([], none)).1.getD i.toNat (0, 0)).1
abbrev PP := List (Int × Int)
def qah9 (P : PP) (s t : Int) : Bool := decide (s ≠ -1) && decide (t ≠ -1) && P.all fun x => decide (x.1 ≠ s) && decide (x.2 ≠ t)
def stepP (la lb : List Row) (x : Int × Int) (P : PP) (i : Nat) : PP := bif qah9 P (toAt la x.1 i) (toAt lb x.2 i) then P ++ [(toAt la x.1 i, toAt lb x.2 i)] else P
def rowP (la lb : List Row) (x : Int × Int) (P : PP) : Nat → PP
 | 0 => P
 | i + 1 => stepP la lb x (rowP la lb x P i) i
def goP (la lb : List Row) (I : Nat) : Nat → Nat → PP → PP
 | 0, _, P => P
 | F + 1, k, P => if k < P.length then goP la lb I F (k + 1) (rowP la lb (P.getD k (0, 0)) P I) else P
def pairsP (la lb : List Row) (I : Nat) : PP := goP la lb I (lb.length + 1) 0 [(0, 0)]
def vn0 (P : PP) (t : Int) : Int := match P.find? (fun x => decide (x.2 = t)) with|some x => x.1|none => -1
def outM (nb : Nat) (P : PP) : List Int := (List.range nb).map fun t => vn0 P (t : Nat)
def vm0 (na : Nat) (P : PP) : List Bool := (List.range na).map fun s => P.any fun x => decide (x.1 = (s : Nat))
structure OkP (na nb : Nat) (P : PP) : Prop where
 b : ∀ x ∈ P, (0 ≤ x.1 ∧ x.1 < na) ∧ 0 ≤ x.2 ∧ x.2 < nb
 nd : (P.map (·.2)).Nodup
theorem vK0 : ∀ (n : Nat) (l : List Nat), l.Nodup → (∀ x ∈ l, x < n) → l.length ≤ n
 | 0, l, _, h => by
  cases l with
  | nil => simp
  | cons x l => exact absurd (h x (by simp)) (by omega)
 | n + 1, l, hn, h => by
  have := vK0 n (l.erase n) (hn.erase n) fun x hx => by
   have h1 := h x (List.mem_of_mem_erase hx);have h2 : x ≠ n := ((List.Nodup.mem_erase_iff hn).1 hx).1;omega
  rw [List.length_erase] at this;split at this <;> omega
theorem OkP.len {na nb : Nat} {P : PP} (h : OkP na nb P) : P.length ≤ nb := by
 have := vK0 nb (P.map fun x => x.2.toNat) ?_ ?_
 ·simpa using this
 ·have hn := h.nd;rw [List.Nodup, List.pairwise_map] at hn ⊢;refine hn.imp_of_mem fun {x y} hx hy hxy => ?_;have h1 := h.b x hx;have h2 := h.b y hy;omega
 ·intro x hx;obtain ⟨y, hy, rfl⟩ := List.mem_map.1 hx;have := h.b y hy;omega
theorem kD0 {na nb : Nat} {P : PP} (h : OkP na nb P) {x : Int × Int} (hx : x ∈ P) : vn0 P x.2 = x.1 := by
 obtain ⟨y, hy⟩ : ∃ y, P.find? (fun z => decide (z.2 = x.2)) = some y := by
  cases hf : P.find? (fun z => decide (z.2 = x.2)) with
  | some y => exact ⟨y, rfl⟩
  | none => exact absurd (List.find?_eq_none.1 hf x hx) (by simp)
 have h1 := List.mem_of_find?_eq_some hy;have h2 : y.2 = x.2 := by simpa using List.find?_some hy
 have : y = x := by
  have hn := h.nd;rw [List.Nodup, List.pairwise_map] at hn;obtain ⟨i, hi, rfl⟩ := List.getElem_of_mem h1;obtain ⟨j, hj, rfl⟩ := List.getElem_of_mem hx;rcases Nat.lt_trichotomy i j with q|q|q
  ·exact absurd h2 (List.pairwise_iff_getElem.1 hn i j hi hj q)
  ·subst q; rfl
  ·exact absurd h2.symm (List.pairwise_iff_getElem.1 hn j i hj hi q)
 rw [vn0, hy, this]
theorem vcB9 {P : PP} {t : Int} (h : ∀ x ∈ P, x.2 ≠ t) : vn0 P t = -1 := by
 have : P.find? (fun x => decide (x.2 = t)) = none := List.find?_eq_none.2 fun x hx => by simpa using h x hx
 rw [vn0, this]
theorem kK0 {na nb : Nat} {P : PP} (h : OkP na nb P) {t : Int} : vn0 P t = -1 ↔ ∀ x ∈ P, x.2 ≠ t := by
 constructor
 ·intro hn x hx ht;have := kD0 h hx;rw [ht, hn] at this;have := h.b x hx;omega
 ·exact vcB9
theorem qE0 {nb : Nat} {P : PP} (t : Nat) (h : t < nb) : (outM nb P).getD t 0 = vn0 P t := by
 simp [outM, h]
theorem xG0 {na : Nat} {P : PP} (s : Nat) (h : s < na) : (vm0 na P).getD s false = P.any fun x => decide (x.1 = (s : Nat)) := by
 simp [vm0, h]
theorem vd0 (nb : Nat) (P : PP) : (outM nb P).length = nb := by simp [outM]
theorem qd0 (na : Nat) (P : PP) : (vm0 na P).length = na := by simp [vm0]
theorem qL0 {nb : Nat} {P : PP} {s t : Int} (h0 : 0 ≤ t) (hf : ∀ x ∈ P, x.2 ≠ t) : (outM nb P).set t.toNat s = outM nb (P ++ [(s, t)]) := by
 refine List.ext_getElem (by simp [outM]) fun k h1 h2 => ?_;simp only [List.length_set, vd0] at h1;rw [List.getElem_set];simp only [outM, List.getElem_map, List.getElem_range];by_cases hk : t.toNat = k
 ·rw [if_pos hk];have ht : t = (k : Int) := by omega
  subst ht;have : P.find? (fun x => decide (x.2 = (k : Int))) = none := List.find?_eq_none.2 fun x hx => by simpa using hf x hx
  simp [vn0, List.find?_append, this]
 ·rw [if_neg hk];have : ¬ t = (k : Int) := by omega
  simp only [vn0, List.find?_append];cases P.find? (fun x => decide (x.2 = (k : Int))) with
  | some y => simp
  | none => simp [this]
theorem kz0 {na : Nat} {P : PP} {s t : Int} (h0 : 0 ≤ s) : (vm0 na P).set s.toNat true = vm0 na (P ++ [(s, t)]) := by
 refine List.ext_getElem (by simp [vm0]) fun k h1 h2 => ?_;simp only [List.length_set, qd0] at h1;rw [List.getElem_set];simp only [vm0, List.getElem_map, List.getElem_range, List.any_append, List.any_cons, List.any_nil, Bool.or_false];by_cases hk : s.toNat = k
 ·rw [if_pos hk];have : s = (k : Int) := by omega
  simp [this]
 ·rw [if_neg hk];have : ¬ s = (k : Int) := by omega
  simp [this]
theorem zbx9 {na nb : Nat} {P : PP} (h : OkP na nb P) (s t : Int) : qah9 P s t = (decide (s ≠ -1) && (decide (t ≠ -1) && (!(P.any fun x => decide (x.1 = s)) && decide (vn0 P t = -1)))) := by
 rw [Bool.eq_iff_iff];simp only [qah9, Bool.and_eq_true, decide_eq_true_eq, List.all_eq_true, Bool.not_eq_true', List.any_eq_false, kK0 h];constructor
 ·rintro ⟨⟨h1, h2⟩, h3⟩;exact ⟨h1, h2, fun x hx => (h3 x hx).1, fun x hx => (h3 x hx).2⟩
 ·rintro ⟨h1, h2, h3, h4⟩;exact ⟨⟨h1, h2⟩, fun x hx => ⟨h3 x hx, h4 x hx⟩⟩
theorem zah9 {P : PP} {s t : Int} (h : qah9 P s t = true) : s ≠ -1 ∧ t ≠ -1 ∧ (∀ x ∈ P, x.1 ≠ s) ∧ ∀ x ∈ P, x.2 ≠ t := by
 simp only [qah9, Bool.and_eq_true, decide_eq_true_eq, List.all_eq_true] at h;exact ⟨h.1.1, h.1.2, fun x hx => (h.2 x hx).1, fun x hx => (h.2 x hx).2⟩
theorem OkP.snoc {na nb : Nat} {P : PP} (h : OkP na nb P) {s t : Int} (hs : 0 ≤ s ∧ s < na) (ht : 0 ≤ t ∧ t < nb) (hf : ∀ x ∈ P, x.2 ≠ t) : OkP na nb (P ++ [(s, t)]) := by
 refine ⟨fun x hx => ?_, ?_⟩
 ·rcases List.mem_append.1 hx with q|q
  ·exact h.b x q
  ·simp at q; subst q; exact ⟨hs, ht⟩
 ·rw [List.map_append, List.nodup_append];refine ⟨h.nd, by simp, ?_⟩;intro a ha b hb;obtain ⟨x, hx, rfl⟩ := List.mem_map.1 ha;simp at hb; subst hb;exact hf x hx
def qaB9 (I n : Nat) (l : List Row) : Prop := ∀ s j : Nat, s < l.length → j < I → toAt l s j = -1 ∨ (0 ≤ toAt l s j ∧ toAt l s j < n)
theorem OkP.step {na nb I : Nat} {la lb : List Row} {P : PP} (h : OkP na nb P) (hna : na = la.length) (hnb : nb = lb.length) (ga : qaB9 I na la) (gb : qaB9 I nb lb) {x : Int × Int} (hx : (0 ≤ x.1 ∧ x.1 < na) ∧ 0 ≤ x.2 ∧ x.2 < nb) {i : Nat} (hi : i < I) : OkP na nb (stepP la lb x P i) := by
 unfold stepP;cases hf : qah9 P (toAt la x.1 i) (toAt lb x.2 i) with
 | false => exact h
 | true =>
  obtain ⟨f1, f2, f3, f4⟩ := zah9 hf;have h1 := ga x.1.toNat i (by omega) hi;have h2 := gb x.2.toNat i (by omega) hi;rw [show ((x.1.toNat : Nat) : Int) = x.1 by omega] at h1;rw [show ((x.2.toNat : Nat) : Int) = x.2 by omega] at h2;exact h.snoc (by omega) (by omega) f4
theorem OkP.row {na nb I : Nat} {la lb : List Row} {P : PP} (h : OkP na nb P) (hna : na = la.length) (hnb : nb = lb.length) (ga : qaB9 I na la) (gb : qaB9 I nb lb) {x : Int × Int} (hx : (0 ≤ x.1 ∧ x.1 < na) ∧ 0 ≤ x.2 ∧ x.2 < nb) : ∀ j, j ≤ I → OkP na nb (rowP la lb x P j)
 | 0, _ => h
 | j + 1, hj => (OkP.row h hna hnb ga gb hx j (by omega)).step hna hnb ga gb hx (by omega)
theorem vbJ9 (la lb : List Row) (x : Int × Int) (P : PP) (i : Nat) : ∃ l, stepP la lb x P i = P ++ l := by
 unfold stepP;cases qah9 P (toAt la x.1 i) (toAt lb x.2 i) with
 | false => exact ⟨[], by simp⟩
 | true => exact ⟨_, rfl⟩
theorem qq0 (la lb : List Row) (x : Int × Int) (P : PP) : ∀ j, ∃ l, rowP la lb x P j = P ++ l
 | 0 => ⟨[], by simp [rowP]⟩
 | j + 1 => by
  obtain ⟨l, hl⟩ := qq0 la lb x P j;obtain ⟨m, hm⟩ := vbJ9 la lb x (rowP la lb x P j) j;exact ⟨l ++ m, by rw [rowP, hm, hl, List.append_assoc]⟩
theorem kbJ9 {o : Int} {n I : Nat} {l : List Row} (hw : ∀ s, s < l.length → (l.getD s ([], none)).1.length = I) (hf : ∀ j, j < l.length → (l.getD j ([], none)).1.all (fitE o n) = true) : qaB9 I n l := fun s j hs hj => by
 have h1 := hf s hs;have h2 := hw s hs;have e : toAt l s j = ((l.getD s ([], none)).1.getD j (0, 0)).1 := by simp [toAt]
 rw [e];generalize (l.getD s ([], none)).1 = r at *;have h3 := List.all_eq_true.1 h1 (r.getD j (0, 0)) (by
  have hj' : j < r.length := by omega
  simp [hj'])
 simp only [fitE, Bool.or_eq_true, Bool.and_eq_true, decide_eq_true_eq] at h3;omega
end Go.Proofs
