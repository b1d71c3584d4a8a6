/- Steps in a finite set: what is reached is reached in fewer steps than there are elements: plain. -/
import Derived.Test.YtbgdagokjfmcbaaDoorD30
import Derived.Test.YtbgdagokjfmcbaaDoorD17
namespace Go.Proofs
open Go Go.V
set_option linter.unusedVariables false
set_option linter.unusedSimpArgs false
def num1 (nb : Nat) (P : PP) (t : Nat) : Int := if (nb : Int) ≤ vn0 P t then -1 else vn0 P t
def zq0 (nb : Nat) (P : PP) : List Int := (List.range nb).map (num1 nb P)
def kak9 (nb : Nat) (l : List Int) : List Bool := (List.range nb).map fun s => l.any fun x => decide (x = (s : Nat))
def fillL : List Bool → List Int → List Int
 | _, [] => []
 | tk, s :: r => if s = -1 then ((tk.idxOf false : Nat) : Int) :: fillL (tk.set (tk.idxOf false) true) r else s :: fillL tk r
theorem vbe9 : ∀ (n : Nat) (l : List Int), (∀ s : Nat, s < n → (s : Int) ∈ l) → n ≤ l.length
 | 0, _, _ => Nat.zero_le _
 | n + 1, l, h => by
  have hn := h n (by omega);have := vbe9 n (l.erase n) fun s hs => by
   rw [List.mem_erase_of_ne (by omega)]; exact h s (by omega)
  rw [List.length_erase_of_mem hn] at this;have h1 : 0 < l.length := List.length_pos_of_mem hn;omega
structure kH0 (nb : Nat) (tk : List Bool) (done l : List Int) : Prop where
 n : tk.length = nb
 len : done.length + l.length = nb
 tk : ∀ s : Nat, s < nb → (tk.getD s false = true ↔ (s : Int) ∈ done ∨ (s : Int) ∈ l)
 b : ∀ x ∈ l, x = -1 ∨ (0 ≤ x ∧ x < nb)
 d : ∀ x ∈ done, 0 ≤ x ∧ x < nb
 nd : (done ++ l.filter fun x => decide (x ≠ -1)).Nodup
theorem wah9 {nb : Nat} {s : Int} {r : List Int} {tk : List Bool} {done : List Int} (h : kH0 nb tk done (s :: r)) (hs : s = -1) : tk.idxOf false < nb ∧ kH0 nb (tk.set (tk.idxOf false) true) (done ++ [((tk.idxOf false : Nat) : Int)]) r := by
 have hex : false ∈ tk := by
  rcases Decidable.em (false ∈ tk) with q|q
  ·exact q
  ·exfalso;have hall : ∀ s2 : Nat, s2 < nb → (s2 : Int) ∈ done ++ r := fun s2 h2 => by
    have hl : s2 < tk.length := by rw [h.n]; exact h2
    have h3 : tk.getD s2 false = true := by
     rw [List.getD_eq_getElem?_getD, List.getElem?_eq_getElem hl, Option.getD_some];cases hv : tk[s2] with
     | true => rfl
     | false => exact absurd (hv ▸ List.getElem_mem hl) q
    rcases (h.tk s2 h2).1 h3 with w|w
    ·exact List.mem_append_left _ w
    ·rcases List.mem_cons.1 w with w|w
     ·omega
     ·exact List.mem_append_right _ w
   have := vbe9 nb _ hall;have h4 := h.len;simp only [List.length_append, List.length_cons] at this h4;omega
 have hi : tk.idxOf false < tk.length := List.idxOf_lt_length_of_mem hex;have hv : tk[tk.idxOf false] = false := List.getElem_idxOf hi;generalize tk.idxOf false = n at *;have hfree : ¬ ((n : Int) ∈ done ∨ (n : Int) ∈ s :: r) := fun q => by
  have := (h.tk n (by rw [← h.n]; exact hi)).2 q;rw [List.getD_eq_getElem?_getD, List.getElem?_eq_getElem hi, Option.getD_some, hv] at this;cases this
 have hnb := h.n;have hk : kH0 nb (tk.set n true) (done ++ [(n : Int)]) r := by
  refine ⟨by simp [h.n], by have := h.len; simp at this ⊢; omega, fun s2 h2 => ?_, fun x hx => h.b x (List.mem_cons_of_mem _ hx), fun x hx => ?_, ?_⟩
  ·have e := h.tk s2 h2;by_cases q : n = s2
   ·subst q;rw [List.getD_eq_getElem?_getD, List.getElem?_set_self hi];simp
   ·rw [List.getD_eq_getElem?_getD, List.getElem?_set_ne q, ← List.getD_eq_getElem?_getD, e];simp only [List.mem_append, List.mem_cons, List.not_mem_nil, or_false];constructor
    ·rintro (w|w|w)
     ·exact .inl (.inl w)
     ·omega
     ·exact .inr w
    ·rintro ((w|w)|w)
     ·exact .inl w
     ·omega
     ·exact .inr (.inr w)
  ·rcases List.mem_append.1 hx with w|w
   ·exact h.d x w
   ·simp at w; subst w; omega
  ·have e := h.nd;rw [List.filter_cons, if_neg (by simp [hs])] at e;rw [List.append_assoc];rw [List.nodup_append] at e ⊢;refine ⟨e.1, ?_, ?_⟩
   ·rw [List.singleton_append, List.nodup_cons];exact ⟨fun w => hfree (.inr (List.mem_cons_of_mem _ (List.mem_filter.1 w).1)), e.2.1⟩
   ·intro a ha b hb;rw [List.singleton_append, List.mem_cons] at hb;rcases hb with rfl|hb
    ·rintro rfl; exact hfree (.inl ha)
    ·exact e.2.2 a ha b hb
 exact ⟨by omega, hk⟩
theorem kaG9 {nb : Nat} {s : Int} {r : List Int} {tk : List Bool} {done : List Int} (h : kH0 nb tk done (s :: r)) (hs : s ≠ -1) : kH0 nb tk (done ++ [s]) r := by
 have hb := (h.b s (List.mem_cons_self ..)).resolve_left hs;have hk : kH0 nb tk (done ++ [s]) r := by
  refine ⟨h.n, by have := h.len; simp at this ⊢; omega, fun s2 h2 => ?_, fun x hx => h.b x (List.mem_cons_of_mem _ hx), fun x hx => ?_, ?_⟩
  ·rw [h.tk s2 h2];simp only [List.mem_append, List.mem_cons, List.not_mem_nil, or_false];constructor
   ·rintro (w|w|w)
    ·exact .inl (.inl w)
    ·exact .inl (.inr w)
    ·exact .inr w
   ·rintro ((w|w)|w)
    ·exact .inl w
    ·exact .inr (.inl w)
    ·exact .inr (.inr w)
  ·rcases List.mem_append.1 hx with w|w
   ·exact h.d x w
   ·simp at w; subst w; exact hb
  ·have e := h.nd;rw [List.filter_cons, if_pos (by simp [hs])] at e;rw [List.append_assoc]; exact e
 exact hk
theorem waP9 {nb : Nat} : ∀ (l : List Int) (tk : List Bool) (done : List Int), kH0 nb tk done l → (done ++ fillL tk l).Nodup ∧ (∀ x ∈ fillL tk l, 0 ≤ x ∧ x < nb) ∧ (fillL tk l).length = l.length
 | [], tk, done, h => ⟨by have := h.nd; simpa [fillL] using this, by simp [fillL], rfl⟩
 | s :: r, tk, done, h => by
  rw [fillL];by_cases hs : s = -1
  ·rw [if_pos hs];obtain ⟨hi, hk⟩ := wah9 h hs;obtain ⟨k1, k2, k3⟩ := waP9 r _ _ hk;refine ⟨by rw [List.append_assoc] at k1; exact k1, fun x hx => ?_, by simp [k3]⟩;rcases List.mem_cons.1 hx with rfl|hx
   ·omega
   ·exact k2 x hx
  ·rw [if_neg hs];have hb := (h.b s (List.mem_cons_self ..)).resolve_left hs;obtain ⟨k1, k2, k3⟩ := waP9 r tk _ (kaG9 h hs);refine ⟨by rw [List.append_assoc] at k1; exact k1, fun x hx => ?_, by simp [k3]⟩;rcases List.mem_cons.1 hx with rfl|hx
   ·exact hb
   ·exact k2 x hx
def qR0 : List Bool → List Int → List Bool
 | tk, [] => tk
 | tk, s :: r => if s = -1 then qR0 (tk.set (tk.idxOf false) true) r else qR0 tk r
theorem qH0 : ∀ (a b : List Int) (tk : List Bool), fillL tk (a ++ b) = fillL tk a ++ fillL (qR0 tk a) b ∧ qR0 tk (a ++ b) = qR0 (qR0 tk a) b
 | [], b, tk => ⟨rfl, rfl⟩
 | s :: a, b, tk => by
  rw [List.cons_append, fillL, qR0, fillL, qR0];by_cases hs : s = -1
  ·simp only [if_pos hs];obtain ⟨h1, h2⟩ := qH0 a b (tk.set (tk.idxOf false) true);exact ⟨by rw [h1, List.cons_append], h2⟩
  ·simp only [if_neg hs];obtain ⟨h1, h2⟩ := qH0 a b tk;exact ⟨by rw [h1, List.cons_append], h2⟩
theorem xL0 {nb : Nat} : ∀ (a b : List Int) (tk : List Bool) (done : List Int), kH0 nb tk done (a ++ b) → kH0 nb (qR0 tk a) (done ++ fillL tk a) b
 | [], b, tk, done, h => by rw [fillL, qR0, List.append_nil]; exact h
 | s :: a, b, tk, done, h => by
  rw [fillL, qR0];by_cases hs : s = -1
  ·simp only [if_pos hs];have := xL0 a b _ _ (wah9 h hs).2;rw [List.append_assoc] at this; exact this
  ·simp only [if_neg hs];have := xL0 a b _ _ (kaG9 h hs);rw [List.append_assoc] at this; exact this
theorem wL0 : ∀ (l : List Int) (tk : List Bool), (qR0 tk l).length = tk.length
 | [], _ => rfl
 | s :: r, tk => by
  rw [qR0]; split
  ·rw [wL0 r]; simp
  ·exact wL0 r tk
def Inj1 (P : PP) : Prop := (P.map (·.1)).Nodup
theorem xcg9 {la lb : List Row} {x : Int × Int} {P : PP} {i : Nat} (h : Inj1 P) : Inj1 (stepP la lb x P i) := by
 unfold stepP;cases hf : qah9 P (toAt la x.1 i) (toAt lb x.2 i) with
 | false => exact h
 | true =>
  obtain ⟨_, _, f3, _⟩ := zah9 hf;show ((P ++ [(toAt la x.1 i, toAt lb x.2 i)]).map (fun x : Int × Int => x.1)).Nodup;rw [List.map_append, List.nodup_append];refine ⟨h, by simp, fun a ha b hb => ?_⟩;obtain ⟨y, hy, rfl⟩ := List.mem_map.1 ha;simp at hb; subst hb;exact f3 y hy
theorem vaP9 {la lb : List Row} {x : Int × Int} {P : PP} (h : Inj1 P) : ∀ j, Inj1 (rowP la lb x P j)
 | 0 => h
 | j + 1 => xcg9 (vaP9 h j)
theorem wcg9 {la lb : List Row} {I : Nat} : ∀ (F k : Nat) (P : PP), Inj1 P → Inj1 (goP la lb I F k P)
 | 0, _, P, h => h
 | F + 1, k, P, h => by
  rw [goP];split
  ·exact wcg9 F (k + 1) _ (vaP9 h I)
  ·exact h
theorem vL0 (la lb : List Row) (I : Nat) : Inj1 (pairsP la lb I) := wcg9 _ _ _ (by simp [Inj1])
theorem xE0 {P : PP} {t : Int} (h : vn0 P t ≠ -1) : (vn0 P t, t) ∈ P := by
 unfold vn0 at h ⊢;cases hf : P.find? (fun x => decide (x.2 = t)) with
 | none => rw [hf] at h; exact absurd rfl h
 | some y =>
  have h1 := List.mem_of_find?_eq_some hf;have h2 : y.2 = t := by simpa using List.find?_some hf
  dsimp only;rw [← h2]; exact h1
theorem qde9 {P : PP} (h : Inj1 P) {x y : Int × Int} (hx : x ∈ P) (hy : y ∈ P) (e : x.1 = y.1) : x = y := by
 obtain ⟨i, hi, rfl⟩ := List.getElem_of_mem hx;obtain ⟨j, hj, rfl⟩ := List.getElem_of_mem hy;unfold Inj1 at h;rw [List.Nodup, List.pairwise_map] at h;rcases Nat.lt_trichotomy i j with q|q|q
 ·exact absurd e (List.pairwise_iff_getElem.1 h i j hi hj q)
 ·subst q; rfl
 ·exact absurd e.symm (List.pairwise_iff_getElem.1 h j i hj hi q)
theorem qaH9 {na nb : Nat} {P : PP} (h : OkP na nb P) (t : Nat) : num1 nb P t = -1 ∨ (0 ≤ num1 nb P t ∧ num1 nb P t < nb) := by
 unfold num1;split
 ·exact .inl rfl
 ·rename_i q;rcases Decidable.em (vn0 P t = -1) with w|w
  ·exact .inl w
  ·have := h.b _ (xE0 w);dsimp only at this;exact .inr (by omega)
theorem xcF9 {nb : Nat} {P : PP} (hj : Inj1 P) {t u : Nat} (h1 : num1 nb P t ≠ -1) (h2 : num1 nb P u ≠ -1) (e : num1 nb P t = num1 nb P u) : t = u := by
 unfold num1 at h1 h2 e;split at h1
 ·exact absurd rfl h1
 ·split at h2
  ·exact absurd rfl h2
  ·rename_i q1 q2;rw [if_neg q1, if_neg q2] at e;have a := xE0 h1;have b := xE0 h2;have := qde9 hj a b e;have h3 : ((t : Int)) = u := congrArg Prod.snd this;omega
theorem vr0 (nb : Nat) (P : PP) : (zq0 nb P).length = nb := by simp [zq0]
theorem qax9 {na nb : Nat} {P : PP} (h : OkP na nb P) (hj : Inj1 P) : kH0 nb (kak9 nb (zq0 nb P)) [] (zq0 nb P) := by
 refine ⟨by simp [kak9], by simp [vr0], fun s hs => ?_, fun x hx => ?_, fun x hx => (by cases hx), ?_⟩
 ·have : (kak9 nb (zq0 nb P)).getD s false = (zq0 nb P).any fun x => decide (x = (s : Nat)) := by simp [kak9, hs]
  rw [this, List.any_eq_true];constructor
  ·rintro ⟨x, hx, e⟩;right
   have e : x = (s : Int) := by simpa using e
   rw [← e]; exact hx
  ·rintro (q|q)
   ·cases q
   ·exact ⟨_, q, by simp⟩
 ·obtain ⟨t, _, rfl⟩ := List.mem_map.1 hx;exact qaH9 h t
 ·rw [List.nil_append, zq0, List.Nodup, List.pairwise_filter, List.pairwise_map];refine List.Pairwise.imp_of_mem (fun {a b} ha hb hab => ?_) List.pairwise_lt_range;intro q1 q2 e;have := xcF9 hj (by simpa using q1) (by simpa using q2) e;omega
def numsF (nb : Nat) (P : PP) : List Int := fillL (kak9 nb (zq0 nb P)) (zq0 nb P)
theorem kan9 {na nb : Nat} {P : PP} (h : OkP na nb P) (hj : Inj1 P) : (numsF nb P).Nodup ∧ (∀ x ∈ numsF nb P, 0 ≤ x ∧ x < nb) ∧ (numsF nb P).length = nb := by
 obtain ⟨a, b, c⟩ := waP9 _ _ _ (qax9 h hj);exact ⟨by simpa [numsF] using a, b, by rw [numsF, c, vr0]⟩
theorem xac9 : ∀ (l : List Int) (tk : List Bool) (k : Nat), k < l.length → l.getD k 0 ≠ -1 → (fillL tk l).getD k 0 = l.getD k 0
 | [], _, k, h, _ => by simp at h
 | s :: r, tk, 0, _, h => by
  have h : s ≠ -1 := h;rw [fillL, if_neg h]; rfl
 | s :: r, tk, k + 1, hk, h => by
  have h : r.getD k 0 ≠ -1 := by simpa using h
  have hk : k < r.length := by simpa using hk
  rw [fillL];split
  ·have := xac9 r (tk.set (tk.idxOf false) true) k hk h;simpa using this
  ·have := xac9 r tk k hk h;simpa using this
structure wcF9 (n I : Nat) (la lb : List Row) (σ : Int → Int) : Prop where
 z : σ 0 = 0
 r : ∀ s : Int, (0 ≤ s ∧ s < n) → 0 ≤ σ s ∧ σ s < n
 j : ∀ s t : Int, (0 ≤ s ∧ s < n) → (0 ≤ t ∧ t < n) → σ s = σ t → s = t
 a : ∀ (s : Int) (i : Nat), (0 ≤ s ∧ s < n) → i < I → toAt la s i = -1 ∨ (0 ≤ toAt la s i ∧ toAt la s i < n)
 e : ∀ (s : Int) (i : Nat), (0 ≤ s ∧ s < n) → i < I → toAt lb (σ s) i = if toAt la s i = -1 then -1 else σ (toAt la s i)
def OnG (n : Nat) (σ : Int → Int) (P : PP) : Prop := ∀ x ∈ P, (0 ≤ x.1 ∧ x.1 < n) ∧ x.2 = σ x.1
section
variable {n I : Nat} {la lb : List Row} {σ : Int → Int} (R : wcF9 n I la lb σ)
include R
theorem vcF9 {x : Int × Int} {P : PP} {i : Nat} (hi : i < I) (hx : (0 ≤ x.1 ∧ x.1 < n) ∧ x.2 = σ x.1) (h : OnG n σ P) : OnG n σ (stepP la lb x P i) ∧ (∀ y ∈ P, y ∈ stepP la lb x P i) ∧ (toAt la x.1 i ≠ -1 → ∃ y ∈ stepP la lb x P i, y.1 = toAt la x.1 i) := by
 have ha := R.a x.1 i hx.1 hi;have hb := R.e x.1 i hx.1 hi;rw [← hx.2] at hb;unfold stepP;cases hf : qah9 P (toAt la x.1 i) (toAt lb x.2 i) with
 | true =>
  obtain ⟨f1, f2, _, _⟩ := zah9 hf;rw [if_neg f1] at hb;refine ⟨fun y hy => ?_, fun y hy => List.mem_append_left _ hy, fun _ => ⟨(toAt la x.1 i, toAt lb x.2 i), List.mem_append_right _ (List.mem_singleton.2 rfl), rfl⟩⟩;rcases List.mem_append.1 hy with q|q
  ·exact h y q
  ·rw [List.mem_singleton] at q; subst q;exact ⟨ha.resolve_left f1, hb⟩
 | false =>
  refine ⟨h, fun y hy => hy, fun f1 => ?_⟩;rw [if_neg f1] at hb;have hr := ha.resolve_left f1;have hs := R.r _ hr;rcases Decidable.em (∃ y ∈ P, y.1 = toAt la x.1 i) with q|q
  ·exact q
  ·exfalso;have : qah9 P (toAt la x.1 i) (toAt lb x.2 i) = true := by
    simp only [qah9, Bool.and_eq_true, decide_eq_true_eq, List.all_eq_true];refine ⟨⟨f1, by rw [hb]; omega⟩, fun y hy => ⟨fun e => q ⟨y, hy, e⟩, fun e => ?_⟩⟩;obtain ⟨y1, y2⟩ := h y hy;rw [y2, hb] at e;exact q ⟨y, hy, R.j _ _ y1 hr e⟩
   rw [hf] at this; cases this
theorem vcg9 {x : Int × Int} {P : PP} (hx : (0 ≤ x.1 ∧ x.1 < n) ∧ x.2 = σ x.1) (h : OnG n σ P) : ∀ j, j ≤ I → OnG n σ (rowP la lb x P j) ∧ (∀ y ∈ P, y ∈ rowP la lb x P j) ∧ ∀ i, i < j → toAt la x.1 i ≠ -1 → ∃ y ∈ rowP la lb x P j, y.1 = toAt la x.1 i
 | 0, _ => ⟨h, fun y hy => hy, fun i hi => by omega⟩
 | j + 1, hj => by
  obtain ⟨a, b, c⟩ := vcg9 hx h j (by omega);obtain ⟨d, e, f⟩ := vcF9 R (i := j) (by omega) hx a;refine ⟨d, fun y hy => e y (b y hy), fun i hi hne => ?_⟩;rcases Nat.lt_or_ge i j with q|q
  ·obtain ⟨y, hy, he⟩ := c i q hne;exact ⟨y, e y hy, he⟩
  ·obtain rfl : i = j := by omega
   exact f hne
def kcF9 (I : Nat) (la : List Row) (k : Nat) (P : PP) : Prop := ∀ j, j < k → ∀ i, i < I → toAt la (P.getD j (0, 0)).1 i ≠ -1 → ∃ y ∈ P, y.1 = toAt la (P.getD j (0, 0)).1 i
omit R in
theorem zde9 {P : PP} (h : OnG n σ P) (hj : Inj1 P) : P.length ≤ n := by
 have := vK0 n (P.map fun x => x.1.toNat) ?_ ?_
 ·simpa using this
 ·unfold Inj1 at hj;rw [List.Nodup, List.pairwise_map] at hj ⊢;refine hj.imp_of_mem fun {x y} hx hy hxy => ?_;have h1 := (h x hx).1;have h2 := (h y hy).1;omega
 ·intro x hx;obtain ⟨y, hy, rfl⟩ := List.mem_map.1 hx;have := (h y hy).1;omega
theorem zcN9 : ∀ (F k : Nat) (P : PP), OnG n σ P → Inj1 P → k ≤ P.length → n < F + k → kcF9 I la k P → OnG n σ (goP la lb I F k P) ∧ (∀ y ∈ P, y ∈ goP la lb I F k P) ∧ kcF9 I la (goP la lb I F k P).length (goP la lb I F k P)
 | 0, k, P, h, hj, hk, hF, _ => by
  have := zde9 h hj; omega
 | F + 1, k, P, h, hj, hk, hF, hd => by
  rw [goP];split
  ·rename_i hlt;have hm : P.getD k (0, 0) ∈ P := by rw [List.getD_eq_getElem?_getD, List.getElem?_eq_getElem hlt]; exact List.getElem_mem hlt
   obtain ⟨a, b, c⟩ := vcg9 R (h _ hm) h I (Nat.le_refl _);obtain ⟨l, hl⟩ := qq0 la lb (P.getD k (0, 0)) P I;have hg : ∀ j, j < P.length → (rowP la lb (P.getD k (0, 0)) P I).getD j (0, 0) = P.getD j (0, 0) := fun j hj => by
    rw [hl, List.getD_eq_getElem?_getD, List.getElem?_append_left hj, ← List.getD_eq_getElem?_getD]
   have hd2 : kcF9 I la (k + 1) (rowP la lb (P.getD k (0, 0)) P I) := fun j hj2 i hi hne => by
    rw [hg j (by omega)] at hne ⊢;rcases Nat.lt_or_ge j k with q|q
    ·obtain ⟨y, hy, he⟩ := hd j q i hi hne;exact ⟨y, b y hy, he⟩
    ·obtain rfl : j = k := by omega
     exact c i hi hne
   have hk2 : k + 1 ≤ (rowP la lb (P.getD k (0, 0)) P I).length := by rw [hl]; simp; omega
   obtain ⟨d, e, f⟩ := zcN9 F (k + 1) _ a (vaP9 hj I) hk2 (by omega) hd2;exact ⟨d, fun y hy => e y (b y hy), f⟩
  ·rename_i hge;obtain rfl : k = P.length := by omega
   exact ⟨h, fun y hy => hy, hd⟩
end
inductive ReachS (I : Nat) (la : List Row) : Int → Prop where
 | zero : ReachS I la 0
 | step {s : Int} {i : Nat} (h : ReachS I la s) (hi : i < I) (hne : toAt la s i ≠ -1) : ReachS I la (toAt la s i)
theorem kcg9 {n I : Nat} {la lb : List Row} {σ : Int → Int} (R : wcF9 n I la lb σ) (hn : 1 ≤ n) (hl : lb.length = n) : OnG n σ (pairsP la lb I) ∧ ∀ s, ReachS I la s → ∃ y ∈ pairsP la lb I, y.1 = s := by
 have h0 : OnG n σ [(0, 0)] := fun x hx => by
  simp at hx; subst hx;exact ⟨⟨by simp, by simp; omega⟩, R.z.symm⟩
 obtain ⟨a, b, c⟩ := zcN9 R (lb.length + 1) 0 [(0, 0)] h0 (by simp [Inj1]) (by simp) (by omega) (fun j hj => by omega);refine ⟨a, fun s hs => ?_⟩
 change kcF9 I la (pairsP la lb I).length (pairsP la lb I) at c
 induction hs with
 | zero => exact ⟨(0, 0), b _ (by simp), rfl⟩
 | step h hi hne ih =>
  obtain ⟨y, hy, rfl⟩ := ih;obtain ⟨k, hk, e⟩ := List.getElem_of_mem hy;have e2 : (pairsP la lb I).getD k (0, 0) = y := by simp [hk, e]
  have := c k hk _ hi (by rw [e2]; exact hne)
  rwa [e2] at this
def relE (F : List Int) (r : List Edg) : List Edg := r.map fun e => if e.1 = -1 then e else (F.getD e.1.toNat 0, e.2)
def zax9 (F : List Int) (R : Rs) : Nat → Rs
 | 0 => List.replicate R.length []
 | k + 1 => (zax9 F R k).set (F.getD k 0).toNat (relE F (R.getD k []))
def zh0 (F : List Int) (R : Rs) : Rs := zax9 F R R.length
theorem ki0 (F : List Int) (R : Rs) : ∀ k, (zax9 F R k).length = R.length
 | 0 => by simp [zax9]
 | k + 1 => by rw [zax9, List.length_set, ki0 F R k]
theorem kL0 {F : List Int} {R : Rs} (hl : F.length = R.length) (hn : F.Nodup) (hb : ∀ x ∈ F, 0 ≤ x ∧ x < R.length) : ∀ k, k ≤ R.length → ∀ t, t < k → (zax9 F R k).getD (F.getD t 0).toNat [] = relE F (R.getD t [])
 | 0, _, t, ht => by omega
 | k + 1, hk, t, ht => by
  have hm : ∀ j, j < R.length → F.getD j 0 ∈ F := fun j hj => by
   rw [List.getD_eq_getElem?_getD, List.getElem?_eq_getElem (by omega)]; exact List.getElem_mem _
  have h1 := hb _ (hm k (by omega));rw [zax9];rcases Nat.lt_or_ge t k with q|q
  ·have h2 := hb _ (hm t (by omega));have hne : (F.getD k 0).toNat ≠ (F.getD t 0).toNat := fun e => by
    have e2 : F.getD k 0 = F.getD t 0 := by omega
    have := (List.pairwise_iff_getElem.1 hn) t k (by omega) (by omega) q;simp only [List.getD_eq_getElem?_getD, List.getElem?_eq_getElem (show k < F.length by omega), List.getElem?_eq_getElem (show t < F.length by omega), Option.getD_some] at e2;exact this e2.symm
   rw [List.getD_eq_getElem?_getD, List.getElem?_set_ne hne, ← List.getD_eq_getElem?_getD];exact kL0 hl hn hb k (by omega) t q
  ·obtain rfl : t = k := by omega
   rw [List.getD_eq_getElem?_getD, List.getElem?_set_self (by rw [ki0]; omega)]; rfl
def relS (σ : Int → Int) (r : List Edg) : List Edg := r.map fun e => if e.1 = -1 then e else (σ e.1, e.2)
theorem qcG9 {F : List Int} {σ : Int → Int} {r : List Edg} {n : Nat} (hF : ∀ s : Int, (0 ≤ s ∧ s < n) → F.getD (σ s).toNat 0 = s) (hσ : ∀ s : Int, (0 ≤ s ∧ s < n) → 0 ≤ σ s) (hr : ∀ e ∈ r, e.1 = -1 ∨ (0 ≤ e.1 ∧ e.1 < n)) : relE F (relS σ r) = r := by
 rw [relE, relS, List.map_map]
 conv => rhs; rw [← List.map_id r]
 refine List.map_congr_left fun e he => ?_;simp only [Function.comp, id_eq];rcases hr e he with h|h
 ·rw [if_pos h, if_pos h]
 ·have h0 : ¬ e.1 = -1 := by omega
  have h1 : ¬ σ e.1 = -1 := by have := hσ e.1 h; omega
  simp only [if_neg h0, if_neg h1];rw [hF e.1 h]
theorem qbM9 {n I : Nat} {la lb : List Row} {σ : Int → Int} (R : wcF9 n I la lb σ) (hn : 1 ≤ n) (hl : lb.length = n) (hla : la.length = n) (hall : ∀ s : Int, (0 ≤ s ∧ s < n) → ReachS I la s)
  (hrows : ∀ s : Int, (0 ≤ s ∧ s < n) → (edgesOf lb).getD (σ s).toNat [] = relS σ ((edgesOf la).getD s.toNat [])) (hfit : ∀ s : Int, (0 ≤ s ∧ s < n) → ∀ e ∈ (edgesOf la).getD s.toNat [], e.1 = -1 ∨ (0 ≤ e.1 ∧ e.1 < n))
  (hok : OkP n n (pairsP la lb I)) : zh0 (numsF n (pairsP la lb I)) (edgesOf lb) = edgesOf la := by
 obtain ⟨hon, hreach⟩ := kcg9 R hn hl;have hj := vL0 la lb I;obtain ⟨f1, f2, f3⟩ := kan9 hok hj;have hF : ∀ s : Int, (0 ≤ s ∧ s < n) → (numsF n (pairsP la lb I)).getD (σ s).toNat 0 = s := fun s hs => by
  obtain ⟨y, hy, e⟩ := hreach s (hall s hs);have hy2 := (hon y hy).2;have hσ := R.r s hs;have hnum : vn0 (pairsP la lb I) (σ s) = s := by
   have := kD0 hok hy;rw [hy2, e] at this; exact this
  have hn1 : (zq0 n (pairsP la lb I)).getD (σ s).toNat 0 = s := by
   have : num1 n (pairsP la lb I) (σ s).toNat = s := by
    rw [num1, show (((σ s).toNat : Nat) : Int) = σ s by omega, hnum, if_neg (by omega)]
   simp [zq0, show (σ s).toNat < n by omega, this]
  rw [numsF, xac9 _ _ _ (by rw [vr0]; omega) (by rw [hn1]; omega), hn1]
 have hle : (edgesOf lb).length = n := by simp [edgesOf, hl]
 refine qab9 [] ?_ fun k hk => ?_
 ·rw [zh0, ki0, hle]; simp [edgesOf, hla]
 ·rw [zh0, ki0, hle] at hk;have hs : (0 : Int) ≤ k ∧ (k : Int) < n := by omega
  have hσ := R.r k hs;have := kL0 (F := numsF n (pairsP la lb I)) (R := edgesOf lb) (by rw [f3, hle]) f1 (fun x hx => by rw [hle]; exact f2 x hx) (edgesOf lb).length (Nat.le_refl _) (σ k).toNat (by rw [hle]; omega);rw [hF k hs, hrows k hs] at this;rw [zh0];rw [show ((k : Int)).toNat = k by omega] at this;rw [this];exact qcG9 hF (fun s hs => (R.r s hs).1) (hfit k hs)
def apX (mk : Nat → Nat → Bool) (x y : Edg) : Bool := decide (x.2 ≠ y.2) || (decide (0 ≤ x.1) && (decide (0 ≤ y.1) && mk x.1.toNat y.1.toNat))
def apartM (I : Nat) (R : Rs) (mk : Nat → Nat → Bool) (s t : Nat) : Bool := (List.range I).any fun i => apX mk ((R.getD s []).getD i (0, 0)) ((R.getD t []).getD i (0, 0))
def markM (I : Nat) (R : Rs) : Nat → Nat → Nat → Bool
 | 0, _, _ => false
 | k + 1, s, t => markM I R k s t || apartM I R (markM I R k) s t
def qM0 (n : Nat) (r : List Edg) : List Edg := r.map fun e => if 0 ≤ e.1 then (e.1 + n, e.2) else e
def xA0 (A B : Rs) : Rs := A ++ B.map (qM0 A.length)
theorem kbe9 {I : Nat} {F : List Int} {B : Rs} (hl : F.length = B.length) (hn : F.Nodup) (hb : ∀ x ∈ F, 0 ≤ x ∧ x < B.length) (hw : ∀ t, t < B.length → (B.getD t []).length = I)
  (hfit : ∀ t, t < B.length → ∀ e ∈ B.getD t [], e.1 = -1 ∨ (0 ≤ e.1 ∧ e.1 < B.length)) : ∀ k t, t < B.length → markM I (xA0 (zh0 F B) B) k (F.getD t 0).toNat (B.length + t) = false
 | 0, _, _ => rfl
 | k + 1, t, ht => by
  have ih := fun t h => kbe9 hl hn hb hw hfit k t h;have hm : ∀ j, j < B.length → F.getD j 0 ∈ F := fun j hj => by
   rw [List.getD_eq_getElem?_getD, List.getElem?_eq_getElem (by omega)]; exact List.getElem_mem _
  have hA : (zh0 F B).length = B.length := ki0 F B _;rw [markM, ih t ht, Bool.false_or];rw [apartM, List.any_eq_false];intro i hi;have hi := List.mem_range.1 hi;have e1 : (xA0 (zh0 F B) B).getD (F.getD t 0).toNat [] = relE F (B.getD t []) := by
   have h1 := hb _ (hm t ht);rw [xA0, List.getD_eq_getElem?_getD, List.getElem?_append_left (by omega), ← List.getD_eq_getElem?_getD];exact kL0 hl hn hb B.length (Nat.le_refl _) t ht
  have e2 : (xA0 (zh0 F B) B).getD (B.length + t) [] = qM0 B.length (B.getD t []) := by
   rw [xA0, List.getD_eq_getElem?_getD, List.getElem?_append_right (by omega), hA, Nat.add_sub_cancel_left];simp [ht]
  rw [e1, e2];have hlen := hw t ht;have hft := hfit t ht;clear e1 e2;generalize B.getD t [] = r at *;have hg : r.getD i (0, 0) = r[i]'(by omega) := by simp [hlen, hi]
  have he : r.getD i (0, 0) ∈ r := by rw [hg]; exact List.getElem_mem _
  have hf := hft _ he;have g1 : (relE F r).getD i (0, 0) = if (r.getD i (0, 0)).1 = -1 then r.getD i (0, 0) else (F.getD (r.getD i (0, 0)).1.toNat 0, (r.getD i (0, 0)).2) := by
   rw [hg, relE, List.getD_eq_getElem?_getD, List.getElem?_map, List.getElem?_eq_getElem (by omega)]; rfl
  have g2 : (qM0 B.length r).getD i (0, 0) = if 0 ≤ (r.getD i (0, 0)).1 then ((r.getD i (0, 0)).1 + B.length, (r.getD i (0, 0)).2) else r.getD i (0, 0) := by
   rw [hg, qM0, List.getD_eq_getElem?_getD, List.getElem?_map, List.getElem?_eq_getElem (by omega)]; rfl
  rw [g1, g2];generalize r.getD i (0, 0) = e at *;rcases hf with h|h
  ·rw [if_pos h, if_neg (by omega)];simp [apX, h]
  ·rw [if_neg (by omega), if_pos h.1];have hx := hb _ (hm e.1.toNat (by omega));have := ih e.1.toNat (by omega);simp only [apX];rw [show (e.1 + (B.length : Int)).toNat = B.length + e.1.toNat by omega, this];simp
end Go.Proofs
namespace Go.Proofs
set_option linter.unusedVariables false
def RK (E : Nat → Nat → Prop) : Nat → Nat → Prop
 | 0, s => s = 0
 | k + 1, s => RK E k s ∨ ∃ r, RK E k r ∧ E r s
theorem qbf9 {α : Type} {p q : α → Bool} : ∀ {l : List α}, (∀ x ∈ l, p x = true → q x = true) → (∃ x ∈ l, q x = true ∧ p x = false) → l.countP p + 1 ≤ l.countP q
 | [], _, ⟨x, hx, _⟩ => by cases hx
 | y :: l, h, ⟨x, hx, hq, hp⟩ => by
  have hmono : l.countP p ≤ l.countP q := List.countP_mono_left fun z hz hz2 => h z (List.mem_cons_of_mem _ hz) hz2;rw [List.countP_cons, List.countP_cons];rcases List.mem_cons.1 hx with rfl|hx
  ·rw [hp, hq]; simp; omega
  ·have ih := qbf9 (fun z hz => h z (List.mem_cons_of_mem _ hz)) ⟨x, hx, hq, hp⟩;have := h y (List.mem_cons_self ..);cases hpy : p y with
   | true => rw [this hpy]; simp; omega
   | false => simp; omega
section
variable {E : Nat → Nat → Prop} {n : Nat}
theorem qch9 {k m s : Nat} (h : RK E k s) (hm : k ≤ m) : RK E m s := by
 obtain ⟨d, rfl⟩ : ∃ d, m = k + d := ⟨m - k, by omega⟩;clear hm;induction d with
 | zero => exact h
 | succ d ih => exact .inl ih
theorem xby9 (hE : ∀ r s, E r s → s < n) (hn : 0 < n) : ∀ k s, RK E k s → s < n
 | 0, s, h => by
  have : s = 0 := h;omega
 | k + 1, s, h => by
  rcases h with h|⟨r, _, h⟩
  ·exact xby9 hE hn k s h
  ·exact hE r s h
theorem xax9 {j : Nat} (h : ∀ s, RK E (j + 1) s → RK E j s) : ∀ d s, RK E (j + d) s → RK E j s
 | 0, s, q => q
 | d + 1, s, q => by
  rcases q with q|⟨r, q, e⟩
  ·exact xax9 h d s q
  ·exact h s (.inr ⟨r, xax9 h d r q, e⟩)
open Classical in
theorem zcG9 (hE : ∀ r s, E r s → s < n) (hn : 0 < n) (k s : Nat) (h : RK E k s) : RK E (n - 1) s := by
 let c (k : Nat) : Nat := (List.range n).countP fun s => decide (RK E k s)
 have key : ∀ k, (∃ j, j < k ∧ ∀ s, RK E (j + 1) s → RK E j s) ∨ k + 1 ≤ c k := fun k => by
  induction k with
  | zero =>
   right
   have : 0 < c 0 := List.countP_pos_iff.2 ⟨0, List.mem_range.2 hn, by simp [RK]⟩;omega
  | succ k ih =>
   rcases ih with ⟨j, hj, hs⟩|ih
   ·exact .inl ⟨j, by omega, hs⟩
   ·rcases Decidable.em (∀ s, RK E (k + 1) s → RK E k s) with q|q
    ·exact .inl ⟨k, by omega, q⟩
    ·right
     obtain ⟨s, hs⟩ := Classical.not_forall.1 q;obtain ⟨h1, h2⟩ := Classical.not_imp.1 hs;have : c k + 1 ≤ c (k + 1) := qbf9 (fun x _ hx => by
      have := of_decide_eq_true hx;exact decide_eq_true (Or.inl this)) ⟨s, List.mem_range.2 (xby9 hE hn _ s h1), decide_eq_true h1, decide_eq_false h2⟩
     omega
 rcases key n with ⟨j, hj, hs⟩|hc
 ·have h1 : RK E j s := by
   rcases Nat.le_total k j with q|q
   ·exact qch9 h q
   ·obtain ⟨d, rfl⟩ : ∃ d, k = j + d := ⟨k - j, by omega⟩;exact xax9 hs d s h
  exact qch9 h1 (by omega)
 ·have : c n ≤ n := by
   have := List.countP_le_length (p := fun s => decide (RK E n s)) (l := List.range n);simpa using this
  omega
end
end Go.Proofs
