import Derived.Test.YtbgdagokjfmcbaaDoorE4
import Derived.Test.YtbgdagokjfmcbaaDoorD65
import Derived.Test.YtbgdagokjfmcbaaDoorE8
namespace Go.Proofs
open Go Go.V
set_option linter.unusedVariables false
set_option linter.unusedSimpArgs false
theorem vt0 {F : List Int} {j : Nat} (h : j < F.length) : F.getD j 0 ∈ F := by
 rw [List.getD_eq_getElem?_getD, List.getElem?_eq_getElem h]; exact List.getElem_mem _
theorem vbz9 {F : List Int} (hn : F.Nodup) {t u : Nat} (ht : t < F.length) (hu : u < F.length) (e : F.getD t 0 = F.getD u 0) : t = u := by
 rw [List.getD_eq_getElem?_getD, List.getElem?_eq_getElem ht, List.getD_eq_getElem?_getD, List.getElem?_eq_getElem hu] at e;exact (List.getElem_inj hn).1 e
theorem xbg9 {F : List Int} {n : Nat} (hl : F.length = n) (hn : F.Nodup) (hb : ∀ x ∈ F, 0 ≤ x ∧ x < n) (s : Nat) (hs : s < n) : ∃ t, t < n ∧ F.getD t 0 = s := by
 by_cases h : (s : Int) ∈ F
 ·obtain ⟨t, ht, e⟩ := List.getElem_of_mem h;refine ⟨t, by omega, ?_⟩;rw [List.getD_eq_getElem?_getD, List.getElem?_eq_getElem ht]; exact e
 ·exfalso;have := vK0 n (s :: F.map Int.toNat) ?_ ?_
  ·rw [List.length_cons, List.length_map] at this; omega
  ·rw [List.nodup_cons];refine ⟨fun q => ?_, ?_⟩
   ·obtain ⟨x, hx, e⟩ := List.mem_map.1 q;have := hb x hx;exact h (by rw [show (s : Int) = x by omega]; exact hx)
   ·rw [List.Nodup, List.pairwise_map];exact List.Pairwise.imp_of_mem (fun {x y} hx hy hne e => hne (by have := hb x hx; have := hb y hy; omega)) hn
  ·intro x hx;rcases List.mem_cons.1 hx with rfl|hx
   ·exact hs
   ·obtain ⟨y, hy, rfl⟩ := List.mem_map.1 hx;have := hb y hy; omega
def alW (F : List Int) (R : Rs) (c : Option Nat) : Nat → List (List AV)
 | 0 => List.replicate R.length [.sl 0 [] (some 0)]
 | k + 1 => (alW F R c k).set (F.getD k 0).toNat [.sl 2 (rowA (relE F (R.getD k []))) c]
def capR (c : Option Nat) (R : Rs) : List Row := R.map fun r => (r, c)
theorem kaQ9 (c : Option Nat) (R : Rs) : (capR c R).length = R.length := by simp [capR]
theorem kr0 (c : Option Nat) (R : Rs) : edgesOf (capR c R) = R := by simp [capR, edgesOf, Function.comp_def]
section
variable {F : List Int} {R : Rs} {c : Option Nat}
theorem vah9 : ∀ k, (alW F R c k).length = R.length
 | 0 => by simp [alW]
 | k + 1 => by rw [alW, List.length_set, vah9 k]
theorem qaR9 (p : Nat → Bool) : ∀ k, idsE p (alW F R c k) = true
 | 0 => by
  rw [alW, xq0];intro e he;obtain ⟨_, rfl⟩ := List.mem_replicate.1 he;simp [idsL, AV.ids, idsE]
 | k + 1 => by
  rw [alW, xq0];intro e he;rcases List.mem_or_eq_of_mem_set he with h|rfl
  ·exact (xq0 _).1 (qaR9 p k) e h
  ·simp [idsL, AV.ids, wj0]
theorem qck9 (hl : F.length = R.length) (hn : F.Nodup) (hb : ∀ x ∈ F, 0 ≤ x ∧ x < R.length) : ∀ k, ∀ t, k ≤ t → t < R.length → (alW F R c k).getD (F.getD t 0).toNat [] = [.sl 0 [] (some 0)]
 | 0, t, _, ht => by
  have := hb _ (vt0 (show t < F.length by omega));rw [alW, List.getD_eq_getElem?_getD, List.getElem?_replicate, if_pos (by omega)]; rfl
 | k + 1, t, hk, ht => by
  have h1 := hb _ (vt0 (show t < F.length by omega));have h2 := hb _ (vt0 (show k < F.length by omega));have hne : (F.getD k 0).toNat ≠ (F.getD t 0).toNat := fun e => by
   have := vbz9 hn (show k < F.length by omega) (show t < F.length by omega) (by omega);omega
  rw [alW, List.getD_eq_getElem?_getD, List.getElem?_set_ne hne, ← List.getD_eq_getElem?_getD];exact qck9 hl hn hb k t (by omega) ht
theorem vcN9 (hl : F.length = R.length) (hn : F.Nodup) (hb : ∀ x ∈ F, 0 ≤ x ∧ x < R.length) : ∀ k, k ≤ R.length → ∀ t, t < k → (alW F R c k).getD (F.getD t 0).toNat [] = [.sl 2 (rowA (relE F (R.getD t []))) c]
 | 0, _, t, ht => by omega
 | k + 1, hk, t, ht => by
  have h1 := hb _ (vt0 (show k < F.length by omega));rw [alW];rcases Nat.lt_or_ge t k with q|q
  ·have h2 := hb _ (vt0 (show t < F.length by omega));have hne : (F.getD k 0).toNat ≠ (F.getD t 0).toNat := fun e => by
    have := vbz9 hn (show k < F.length by omega) (show t < F.length by omega) (by omega);omega
   rw [List.getD_eq_getElem?_getD, List.getElem?_set_ne hne, ← List.getD_eq_getElem?_getD];exact vcN9 hl hn hb k (by omega) t q
  ·obtain rfl : t = k := by omega
   rw [List.getD_eq_getElem?_getD, List.getElem?_set_self (by rw [vah9]; omega)]; rfl
theorem zck9 (hl : F.length = R.length) (hn : F.Nodup) (hb : ∀ x ∈ F, 0 ≤ x ∧ x < R.length) : alW F R c R.length = xb0 (capR c (zh0 F R)) := by
 refine qab9 [] (by rw [vah9, wa0, kaQ9, zh0, ki0]) fun p hp => ?_;rw [vah9] at hp;obtain ⟨t, ht, e⟩ := xbg9 hl hn hb p hp;have h1 := vcN9 (c := c) hl hn hb R.length (Nat.le_refl _) t ht;have h2 := kL0 hl hn hb R.length (Nat.le_refl _) t ht;rw [e, Int.toNat_natCast] at h1 h2;rw [h1, xf0 _ _ (by rw [kaQ9, zh0, ki0]; exact hp), ← kd0, kr0, zh0, h2];have : ((capR c (zh0 F R)).getD p ([], none)).2 = c := by
  simp [capR, zh0, ki0, hp]
 rw [zh0] at this;rw [this]
end
theorem xck9 (la lb : List Row) (I : Nat) : ∀ (F k : Nat) (P : PP) (y : Int × Int), y ∈ P → y ∈ goP la lb I F k P
 | 0, _, _, _, h => h
 | F + 1, k, P, y, h => by
  rw [goP];split
  ·refine xck9 la lb I F (k + 1) _ y ?_;obtain ⟨l, hl⟩ := qq0 la lb (P.getD k (0, 0)) P I;rw [hl]; exact List.mem_append_left _ h
  ·exact h
theorem wck9 {na nb : Nat} {la lb : List Row} {I : Nat} (h : OkP na nb (pairsP la lb I)) (hb : 0 < nb) : (numsF nb (pairsP la lb I)).getD 0 0 = 0 := by
 have hm : ((0 : Int), (0 : Int)) ∈ pairsP la lb I := xck9 la lb I _ 0 _ _ (by simp);have h0 : vn0 (pairsP la lb I) 0 = 0 := kD0 h hm;have h1 : (zq0 nb (pairsP la lb I)).getD 0 0 = 0 := by
  have : num1 nb (pairsP la lb I) 0 = 0 := by rw [num1, show ((0 : Nat) : Int) = 0 from rfl, h0, if_neg (by omega)]
  simp [zq0, hb, this]
 rw [numsF, xac9 _ _ _ (by rw [vr0]; exact hb) (by rw [h1]; decide), h1]
theorem kah9 (l : List Row) (s : Int) (i : Nat) : toAt l s i = (((edgesOf l).getD s.toNat []).getD i (0, 0)).1 := by
 rw [kd0]; simp [toAt]
theorem vc0 (l : List Row) : (edgesOf l).length = l.length := by simp [edgesOf]
theorem vck9 {α : Type} (l r : List α) (k : Nat) (d : α) (h : k < l.length) : (l ++ r).getD k d = l.getD k d := by
 rw [List.getD_eq_getElem?_getD, List.getElem?_append_left h, List.getD_eq_getElem?_getD]
theorem vbM9 {α : Type} (l r : List α) (k : Nat) (d : α) : (l ++ r).getD (l.length + k) d = r.getD k d := by
 rw [List.getD_eq_getElem?_getD, List.getElem?_append_right (by omega), Nat.add_sub_cancel_left, List.getD_eq_getElem?_getD]
theorem qI0 (A B : Rs) (x : Nat) (h : x < A.length) : (xA0 A B).getD x [] = A.getD x [] := vck9 _ _ _ _ h
theorem vE0 (A B : Rs) (x : Nat) (h : x < B.length) : (xA0 A B).getD (A.length + x) [] = qM0 A.length (B.getD x []) := by
 rw [xA0, vbM9, List.getD_eq_getElem?_getD, List.getElem?_map, List.getElem?_eq_getElem h, List.getD_eq_getElem?_getD, List.getElem?_eq_getElem h]; rfl
theorem kck9 (n : Nat) (r : List (Int × Int)) (i : Nat) (h : i < r.length) : (qM0 n r).getD i (0, 0) = if 0 ≤ (r.getD i (0, 0)).1 then ((r.getD i (0, 0)).1 + n, (r.getD i (0, 0)).2) else r.getD i (0, 0) := by
 rw [qM0, List.getD_eq_getElem?_getD, List.getElem?_map, List.getElem?_eq_getElem h, List.getD_eq_getElem?_getD, List.getElem?_eq_getElem h]; rfl
theorem kt0 {I O : Nat} {l : List Row} (h : we0 I O l = 0) : zs0 I (edgesOf l) := fun s hs => by
 rw [vc0] at hs;have := (xe0 h).2.2.2.1 s hs;rw [kd0]; omega
theorem vac9 {I O : Nat} {l : List Row} (h : we0 I O l = 0) : FitR O l.length (edgesOf l) := fun r hr e he => by
 obtain ⟨x, hx, rfl⟩ := List.mem_map.1 hr;obtain ⟨k, hk, rfl⟩ := List.getElem_of_mem hx;have := (xe0 h).2.2.2.2 k hk;rw [List.getD_eq_getElem?_getD, List.getElem?_eq_getElem hk, Option.getD_some] at this;exact List.all_eq_true.1 this e he
theorem qdu9 {o n : Int} {e : Edg} (h : fitE o n e = true) : e.1 = -1 ∨ (0 ≤ e.1 ∧ e.1 < n) := by
 rcases (qP0 o n e).1 h with h|h
 ·exact .inl h.1
 ·exact .inr h.1.1
theorem wbr9 {o : Int} {n : Nat} {R : Rs} (h : FitR o n R) : FitS n R := fun s hs e he => by
 obtain ⟨r, hr, hm⟩ := wr0 he;exact qdu9 (h r hr e hm)
theorem vM0 {I O : Nat} {l : List Row} (h : we0 I O l = 0) : kal9 I l.length l := fun s i hs hi => by
 have hw := kt0 h s.toNat (by rw [vc0]; omega);rw [kah9];refine wbr9 (vac9 h) s hs _ ?_;rw [List.getD_eq_getElem?_getD (i := i), List.getElem?_eq_getElem (by omega)]; exact List.getElem_mem _
theorem qs0 {I O : Nat} {l : List Row} (h : we0 I O l = 0) : qaB9 I l.length l := fun s j hs hj => vM0 h s j (by omega) hj
theorem zH0 {I O : Nat} {l : List Row} (h : we0 I O l = 0) : ∀ s, s < l.length → (l.getD s ([], none)).1.length = I := fun s hs => by
 rw [← kd0]; exact kt0 h s (by rw [vc0]; exact hs)
theorem kac9 {I O O' : Nat} {la lb : List Row} (ha : we0 I O la = 0) (hb : we0 I O' lb = 0) : OkP la.length lb.length (pairsP la lb I) := by
 have h1 := (xe0 ha).2.2.1;have h2 := (xe0 hb).2.2.1;have key : ∀ (F k : Nat) (P : PP), OkP la.length lb.length P → OkP la.length lb.length (goP la lb I F k P) := fun F => by
  induction F with
  | zero => exact fun k P h => h
  | succ F ih =>
   intro k P h;rw [goP];split
   ·rename_i hk;exact ih _ _ (h.row rfl rfl (qs0 ha) (qs0 hb) (h.b _ (zv0 hk)) I (Nat.le_refl _))
   ·exact h
 exact key _ 0 _ ⟨fun x hx => by simp at hx; subst hx; dsimp only; omega, by simp⟩
theorem qcl9 {I n : Nat} {la : List Row} (hI : 0 < I) : ∀ s, s < n → ((pthM la I n (cntR I n)).2.getD s []).length ≤ n := by
 have key : ∀ k, k ≤ cntR I n → ∀ s, ((pthM la I n k).2.getD s []).length ≤ n := fun k => by
  induction k with
  | zero =>
   intro _ s;rw [pthM, List.getD_eq_getElem?_getD];cases hq : (List.replicate n ([] : List Nat))[s]? with
   | none => simp
   | some x =>
    obtain ⟨_, hx⟩ := List.getElem?_eq_some_iff.1 hq;rw [← hx]; simp
  | succ k ih =>
   intro hk s;rw [pthM];split
   ·by_cases q : (aftM la 0 (wrdI I k)).toNat = s
    ·by_cases hs : s < (pthM la I n k).2.length
     ·simp only [q, List.getD_eq_getElem?_getD];rw [List.getElem?_set_self hs, Option.getD_some, wrdI, List.length_reverse];have := (wax9 hI k n).2 (by omega);omega
     ·simp only [q];rw [List.set_eq_of_length_le (by omega)];exact ih (by omega) s
    ·simp only [List.getD_eq_getElem?_getD];rw [List.getElem?_set_ne q, ← List.getD_eq_getElem?_getD];exact ih (by omega) s
   ·exact ih (by omega) s
 exact fun s _ => key _ (Nat.le_refl _) s
def canR (I : Nat) (la : List Row) : Rs := vp0 (ordM la I la.length) (edgesOf la)
section
variable {I O : Nat} {la : List Row}
theorem qao9 (h : we0 I O la = 0) : xbf9 I la.length la (ordM la I la.length) := by
 have h1 := (xe0 h);exact (xcN9 (by omega) (by omega) (vM0 h)).1
theorem zay9 (h : we0 I O la = 0) : 1 ≤ (canR I la).length ∧ (canR I la).length ≤ la.length := by
 have hp := qao9 h;have h1 := List.length_pos_iff.2 hp.ne;have h2 := vK0 la.length ((ordM la I la.length).map Int.toNat) ?_ ?_
 ·rw [List.length_map] at h2;rw [canR, wp0]; omega
 ·rw [List.Nodup, List.pairwise_map];exact List.Pairwise.imp_of_mem (fun {x y} hx hy hne e => hne (by have := hp.b x hx; have := hp.b y hy; omega)) hp.nd
 ·intro x hx;obtain ⟨y, hy, rfl⟩ := List.mem_map.1 hx;have := hp.b y hy; omega
theorem kcN9 (h : we0 I O la = 0) : zs0 I (canR I la) ∧ FitR O (canR I la).length (canR I la) := by
 have hp := qao9 h;have := xcG9 (o := O) hp (fun s hs => kt0 h s.toNat (by rw [vc0]; omega)) (vac9 h) (vc0 la);exact ⟨this.1, by rw [canR, wp0]; exact this.2⟩
theorem zaR9 (h : we0 I O la = 0) (l : List Row) (hl : edgesOf l = canR I la) : we0 I O l = 0 := by
 have h1 := xe0 h;have h2 := zay9 h;obtain ⟨h3, h4⟩ := kcN9 h;have h5 : l.length = (canR I la).length := by rw [← hl, vc0]
 refine zA0 (by omega) (by omega) (by omega) (by rw [hl]; exact h3) ?_;rw [hl, h5]; exact h4
end
def byX (n b : Nat) : Nat × Nat := (1 + b % 16 % (n - 1), 1 + b / 16 % (n - 1))
def swN (R : Rs) (bs : List Nat) : Nat → Rs
 | 0 => R
 | k + 1 => swR (byX R.length (bs.getD k 0)).1 (byX R.length (bs.getD k 0)).2 (swN R bs k)
theorem zcl9 {n : Nat} (h : 2 < n) (b : Nat) : (1 ≤ (byX n b).1 ∧ (byX n b).1 < n) ∧ 1 ≤ (byX n b).2 ∧ (byX n b).2 < n := by
 have h1 := Nat.mod_lt (b % 16) (show 0 < n - 1 by omega);have h2 := Nat.mod_lt (b / 16) (show 0 < n - 1 by omega);unfold byX;dsimp only;omega
theorem xH0 (R : Rs) (bs : List Nat) : ∀ k, (swN R bs k).length = R.length
 | 0 => rfl
 | k + 1 => by rw [swN, kaP9, xH0 R bs k]
section
variable {R : Rs} {bs : List Nat}
theorem xcl9 (hf : FitS R.length R) (h2 : 2 < R.length) : ∀ k, ∃ σ, Ren R.length R (swN R bs k) σ
 | 0 => ⟨_, wcN9 rfl⟩
 | k + 1 => by
  obtain ⟨σ, h⟩ := xcl9 hf h2 k;obtain ⟨h3, h4⟩ := zcl9 h2 (bs.getD k 0);exact ⟨_, qcH9 hf h h3 h4⟩
theorem qcO9 {a b : Nat} {R : Rs} {r : List Edg} (h : r ∈ swR a b R) : ∃ s : Nat, s < R.length ∧ r = relS (swS a b) (R.getD (swS a b s).toNat []) := by
 obtain ⟨s, hs, rfl⟩ := List.mem_map.1 h;exact ⟨s, List.mem_range.1 hs, rfl⟩
theorem zdu9 {a b n : Nat} (ha : a < n) (hb : b < n) (s : Int) (h : 0 ≤ s ∧ s < n) : 0 ≤ swS a b s ∧ swS a b s < n := by
 unfold swS; split <;> (try split) <;> omega
theorem qdF9 {I a b : Nat} {o : Int} {R : Rs} (ha : a < R.length) (hb : b < R.length) (hw : zs0 I R) (hf : FitR o R.length R) : zs0 I (swR a b R) ∧ FitR o (swR a b R).length (swR a b R) := by
 refine ⟨van9 fun r hr => ?_, fun r hr e he => ?_⟩
 ·obtain ⟨s, hs, rfl⟩ := qcO9 hr;have := zdu9 ha hb (s : Int) (by omega);rw [relS, List.length_map];exact hw _ (by omega)
 ·obtain ⟨s, hs, rfl⟩ := qcO9 hr;obtain ⟨f, hf1, rfl⟩ := List.mem_map.1 he;obtain ⟨r, hr1, hf2⟩ := wr0 hf1;have h1 := hf r hr1 f hf2;rw [kaP9];split
  ·exact h1
  ·rename_i hne;rw [qP0] at h1 ⊢;rcases h1 with h1|h1
   ·exact absurd h1.1 hne
   ·have := zdu9 ha hb f.1 h1.1.1;exact .inr ⟨⟨this, h1.1.2⟩, h1.2⟩
theorem zcO9 {I : Nat} {o : Int} (hw : zs0 I R) (hf : FitR o R.length R) (h2 : 2 < R.length) : ∀ k, zs0 I (swN R bs k) ∧ FitR o (swN R bs k).length (swN R bs k)
 | 0 => ⟨hw, hf⟩
 | k + 1 => by
  obtain ⟨h3, h4⟩ := zcO9 hw hf h2 k;obtain ⟨h5, h6⟩ := zcl9 h2 (bs.getD k 0);exact qdF9 (by rw [xH0]; exact h5.2) (by rw [xH0]; exact h6.2) h3 h4
end
def swK (R : Rs) (bs : List Nat) : Nat := if 2 < R.length then min 6 bs.length else 0
section
variable {I O : Nat} {la : List Row} {bs : List Nat}
theorem wcl9 (h : we0 I O la = 0) {C D : List Row} (hC : edgesOf C = canR I la) {k : Nat} (hk : k ≤ swK (canR I la) bs) (hD : edgesOf D = swN (canR I la) bs k) : we0 I O D = 0 := by
 obtain ⟨h3, h4⟩ := kcN9 h;have h1 := xe0 h;have h2 := zay9 h;have h5 : D.length = (canR I la).length := by rw [← vc0, hD, xH0]
 have h6 : zs0 I (swN (canR I la) bs k) ∧ FitR O (swN (canR I la) bs k).length (swN (canR I la) bs k) := by
  by_cases q : 2 < (canR I la).length
  ·exact zcO9 h3 h4 q k
  ·have : k = 0 := by rw [swK, if_neg q] at hk; omega
   subst this; exact ⟨h3, h4⟩
 refine zA0 (by omega) (by omega) (by omega) (by rw [hD]; exact h6.1) ?_;have h7 := h6.2;rw [xH0] at h7;rw [hD, h5]; exact h7
theorem wdf9 (h : we0 I O la = 0) {C D : List Row} (hC : edgesOf C = canR I la) {k : Nat} (hk : k ≤ swK (canR I la) bs) (hD : edgesOf D = swN (canR I la) bs k) : zh0 (numsF D.length (pairsP C D I)) (edgesOf D) = edgesOf C := by
 have hmC := zaR9 h C hC;have hmD := wcl9 h hC hk hD;have hp := qao9 h;have hlC : C.length = (canR I la).length := by rw [← vc0, hC]
 have hlD : D.length = C.length := by rw [hlC, ← vc0, hD, xH0]
 have hn := zay9 h;have hfS : FitS C.length (edgesOf C) := wbr9 (vac9 hmC);have hwS : ∀ s : Int, (0 ≤ s ∧ s < C.length) → ((edgesOf C).getD s.toNat []).length = I := fun s hs => kt0 hmC s.toNat (by rw [vc0]; omega);have hR : ∃ σ, Ren C.length (edgesOf C) (edgesOf D) σ := by
  rw [hD, hC, hlC];by_cases q : 2 < (canR I la).length
  ·rw [hC, hlC] at hfS;exact xcl9 hfS q k
  ·have : k = 0 := by rw [swK, if_neg q] at hk; omega
   subst this; exact ⟨_, wcN9 rfl⟩
 obtain ⟨σ, hσ⟩ := hR;have hall : ∀ s : Int, (0 ≤ s ∧ s < C.length) → ReachS I C s := fun s hs => by
  have := zbM9 hp (fun s hs => kt0 h s.toNat (by rw [vc0]; omega)) hC s.toNat (by rw [hlC, canR, wp0] at hs; omega)
  rwa [Int.toNat_of_nonneg hs.1] at this
 have hok := kac9 hmC hmD;rw [hlD] at hok ⊢;exact qbM9 (wde9 hwS hfS hσ) (by omega) hlD rfl hall hσ.row hfS hok
end
set_option maxHeartbeats 0
set_option maxRecDepth 100000
theorem vdf9 (I O : Nat) (la : List Row) (c : Option Nat) (h : we0 I O la = 0) (hn : la.length ≤ 1000) : PC Tryd.prog G0 24 [mA I O la c] (mA I O (vj0 (canR I la)) none) := by
 have h1 := xe0 h;have hp := qao9 h;have hO := zay9 h;have hA := vM0 h;have hw := zH0 h;have h56 := zdf9 I O la c (by omega) (by omega) (by omega) hw hA (fun s hs => Nat.le_trans (qcl9 (by omega) s hs) (by omega));have h55 := xdt9 O la c (ordM la I la.length) 1 none I (.inr rfl) (by omega) (by rw [canR, wp0] at hO; omega) hp.nd hp.b hw (by omega)
 change PC _ _ 55 _ (mA I O (vj0 (canR I la)) none) at h55
 generalize canR I la = R at *;generalize ordM la I la.length = L at *;have hidR : ∀ p, idsE p (xb0 (vj0 R)) = true := fun p => ke0 _ _;unfold mA at *;refine wf0 1 7 [.cell 2 30] Tryd.func24 rfl rfl rfl (by simp) ?_;intro s ⟨a0, hz⟩;clear hz;repeat' (first|refine nv ?_|(with_reducible first|refine gG ?_ ?_|refine ⟨fun h => ?_, fun h => ?_⟩ <;> try omega|refine andG ?_)|refine cp_ h56 ?_|refine cp_ h55 ?_|simp (disch := try exact qa0) only [push_cast, simprocAttr, a0])
def vq0 (n : Nat) (f : Nat → Bool) : List (List AV) := (List.range n).map fun j => [.bool (f j)]
def matA (n : Nat) (mk : Nat → Nat → Bool) (c : Option Nat) : List (List AV) := (List.range n).map fun s => [.sl 1 (vq0 n (mk s)) c]
theorem qad9 (n : Nat) (f : Nat → Bool) : (vq0 n f).length = n := by simp [vq0]
theorem xaR9 (n : Nat) (mk : Nat → Nat → Bool) (c : Option Nat) : (matA n mk c).length = n := by simp [matA]
theorem zad9 (n : Nat) (f : Nat → Bool) (j : Nat) (h : j < n) : (vq0 n f).getD j [] = [.bool (f j)] := by simp [vq0, h]
theorem waR9 (n : Nat) (mk : Nat → Nat → Bool) (c : Option Nat) (j : Nat) (h : j < n) : (matA n mk c).getD j [] = [.sl 1 (vq0 n (mk j)) c] := by simp [matA, h]
theorem kbM9 {I : Nat} {R : Rs} {mk : Nat → Nat → Bool} {s t : Nat} (h : ∀ j, j < I → apX mk ((R.getD s []).getD j (0, 0)) ((R.getD t []).getD j (0, 0)) = false) : apartM I R mk s t = false := by
 rw [apartM, List.any_eq_false];intro i hi;rw [h i (List.mem_range.1 hi)]; decide
theorem vcl9 {I : Nat} {R : Rs} {mk : Nat → Nat → Bool} {s t j : Nat} (hj : j < I) (h : apX mk ((R.getD s []).getD j (0, 0)) ((R.getD t []).getD j (0, 0)) = true) : apartM I R mk s t = true := by
 rw [apartM, List.any_eq_true];exact ⟨j, List.mem_range.2 hj, h⟩
set_option maxRecDepth 100000 in
theorem kdf9 (I n : Nat) (o : Int) (l : List Row) (c : Option Nat) (mk : Nat → Nat → Bool) (c2 d : Option Nat) (u v : Nat) (hs : u < n) (ht : v < n) (hn : l.length = n) (hw : ∀ j, j < n → ((edgesOf l).getD j []).length = I)
  (hto : ∀ j i, j < n → i < I → (((edgesOf l).getD j []).getD i (0, 0)).1 < n) (hnb : n ≤ 1000) (hI : I ≤ 100) :
  PC Tryd.prog G0 80 [.agg [.int .i64 I, .int .i64 o, .sl 1 (xb0 l) c], .sl 1 (matA n mk c2) d, .int .i64 u, .int .i64 v] (.int .i64 (if apartM I (edgesOf l) mk u v = true then 1 else 0)) := by
 have hm := waR9 n mk c2;have hml := xaR9 n mk c2;have hbl := fun j => qad9 n (mk j);have hb := fun j => zad9 n (mk j);have es := xf0 l u (by omega);have et := xf0 l v (by omega);have hw1 := hw u hs;have hw2 := hw v ht;rw [kd0] at hw1 hw2;have es2 := fun i h => zg0 (l.getD u ([], none)).1 i h;have et2 := fun i h => zg0 (l.getD v ([], none)).1 i h;have hto1 := fun i => hto u i hs;have hto2 := fun i => hto v i ht;have hnone := kbM9 (I := I) (R := edgesOf l) (mk := mk) (s := u) (t := v);have hhit := fun j => vcl9 (I := I) (R := edgesOf l) (mk := mk) (s := u) (t := v) (j := j);simp only [kd0] at hto1 hto2 hnone hhit;generalize apartM I (edgesOf l) mk u v = ap at *;generalize (l.getD u ([], none)).2 = cs at *;generalize (l.getD v ([], none)).2 = ct at *;generalize (l.getD u ([], none)).1 = rs at *;generalize (l.getD v ([], none)).1 = rt at *;have hidM : ∀ p, idsE p (matA n mk c2) = true := fun p => zn0 _ _ fun x => by simp [idsL, AV.ids, vq0, zn0]
 have hidR : ∀ p, idsE p (xb0 l) = true := fun p => ke0 _ _;generalize matA n mk c2 = M at *;have hrl : (xb0 l).length = n := by rw [wa0, hn]
 generalize xb0 l = RA at *;clear hto hw;refine wf0 0 60 [.tmp 8] Tryd.func80 rfl rfl rfl (by simp) ?_;intro s ⟨a0, a1, a2, a3, hz⟩;simp only [Nat.zero_add, Nat.reduceAdd] at a1 a2 a3;clear hz;repeat' (first|(first|refine nav ?_|(refine g0_ ?_; first|refine dN (p := [0, 0, 0, 1, 0, 0, 1, 0, 1]) [(18, 4), (19, 18), (21, 19), (22, 21), (24, 22), (25, 24), (26, 4), (27, 26), (29, 27), (30, 29), (32, 30), (33, 32)] [(10, none), (11, none), (10, some 10)] [(17, 18)] ?_|refine goD ?_))|(with_reducible first|refine gG ?_ ?_|refine ⟨fun h => ?_, fun h => ?_⟩ <;> try omega|refine andG ?_)|simp (disch := try exact qa0) only [push_cast, simprocAttr, a0, a1, a2, a3])
 refine go_loop rfl (fun mz s' H' => ∃ q : Nat, q ≤ I ∧ mz = I - q ∧ H' = [.row 3 30 [[.int .i64 I, .int .i64 o, .sl 1 RA c]]] ∧ (∀ j, j < q → apX mk (rs.getD j (0, 0)) (rt.getD j (0, 0)) = false) ∧ s' 1 = .sl 1 M d ∧ s' 2 = .int .i64 u ∧ s' 3 = .int .i64 v ∧ s' 4 = .ptr 0 0 0 1 ∧ s' 9 = .int .i64 q) (m := I) (by first|exact wb0|fail) (Weak.refl _ _) ⟨0, by omega, by omega, rfl, fun j hj => by omega, ?_, ?_, ?_, ?_, ?_⟩ ?_
 ·simp (disch := try exact qa0) only [push_cast, simprocAttr, a0, a1, a2, a3]
 ·simp (disch := try exact qa0) only [push_cast, simprocAttr, a0, a1, a2, a3]
 ·simp (disch := try exact qa0) only [push_cast, simprocAttr, a0, a1, a2, a3]
 ·simp (disch := try exact qa0) only [push_cast, simprocAttr, a0, a1, a2, a3]
 ·simp (disch := try exact qa0) only [push_cast, simprocAttr, a0, a1, a2, a3]
 ·rintro mz s' H' ⟨q, hq, rfl, rfl, hok, b1, b2, b3, b4, b9⟩;rcases Nat.lt_or_ge q I with hlt|hge
  ·have e1 := es2 q (by omega);have e2 := et2 q (by omega);have x3 := hto1 q hlt;have y3 := hto2 q hlt;have hht := hhit q hlt;have hsn := zaN9 (P := fun j => apX mk (rs.getD j (0, 0)) (rt.getD j (0, 0)) = false) (k := q) hok;generalize rs.getD q (0, 0) = x at *;generalize rt.getD q (0, 0) = y at *;obtain ⟨x1, x2⟩ := x;obtain ⟨y1, y2⟩ := y;simp only [eA] at e1 e2;simp only [apX] at hht hsn;dsimp only at x3 y3;by_cases h2 : x2 = y2
   ·by_cases hx : 0 ≤ x1
    ·by_cases hy : 0 ≤ y1
     ·obtain ⟨p, rfl⟩ : ∃ p : Nat, x1 = p := ⟨x1.toNat, by omega⟩;obtain ⟨r, rfl⟩ : ∃ r : Nat, y1 = r := ⟨y1.toNat, by omega⟩;have e3 := hm p (by omega);have e4 := hb p r (by omega);have e5 := hbl p;generalize vq0 n (mk p) = BR at *;cases hmk : mk p r with
      | true =>
       rw [hmk] at e4;repeat' (first|(first|refine nav ?_|(refine g0_ ?_; first|refine dN (p := [0, 0, 0, 1, 0, 0, 1, 0, 1]) [(18, 4), (19, 18), (21, 19), (22, 21), (24, 22), (25, 24), (26, 4), (27, 26), (29, 27), (30, 29), (32, 30), (33, 32)] [(10, none), (11, none), (10, some 10)] [(17, 18)] ?_|refine goD ?_))|(with_reducible first|refine gG ?_ ?_|refine ⟨fun h => ?_, fun h => ?_⟩ <;> try omega|refine andG ?_)|simp (disch := try exact qa0) only [push_cast, simprocAttr, b1, b2, b3, b4, b9, e1, e2, es, et, hrl, hw1, hw2, hml, h2, hx, hy, e3, e4, e5])
       rw [hht (by simp [hmk])]; simp [xbj9]
      | false =>
       rw [hmk] at e4;repeat' (first|(first|refine nav ?_|(refine g0_ ?_; first|refine dN (p := [0, 0, 0, 1, 0, 0, 1, 0, 1]) [(18, 4), (19, 18), (21, 19), (22, 21), (24, 22), (25, 24), (26, 4), (27, 26), (29, 27), (30, 29), (32, 30), (33, 32)] [(10, none), (11, none), (10, some 10)] [(17, 18)] ?_|refine goD ?_))|(with_reducible first|refine gG ?_ ?_|refine ⟨fun h => ?_, fun h => ?_⟩ <;> try omega|refine andG ?_)|simp (disch := try exact qa0) only [push_cast, simprocAttr, b1, b2, b3, b4, b9, e1, e2, es, et, hrl, hw1, hw2, hml, h2, hx, hy, e3, e4, e5])
       refine va0 (I - (q + 1)) 1 (by omega) (by first|exact wb0|fail) (by omega) (by simp) (by simp [Blk.below, idsE, idsL, AV.ids, hidR]) ⟨q + 1, by omega, rfl, rfl, hsn (by simp [h2, hmk]), ?_, ?_, ?_, ?_, ?_⟩
       ·simp (disch := try exact qa0) only [push_cast, simprocAttr, b1, b2, b3, b4, b9, qe0, AV.ids, idsL, hidM, hidR]
       ·simp (disch := try exact qa0) only [push_cast, simprocAttr, b1, b2, b3, b4, b9, qe0, AV.ids, idsL, hidM, hidR]
       ·simp (disch := try exact qa0) only [push_cast, simprocAttr, b1, b2, b3, b4, b9, qe0, AV.ids, idsL, hidM, hidR]
       ·simp (disch := try exact qa0) only [push_cast, simprocAttr, b1, b2, b3, b4, b9, qe0, AV.ids, idsL, hidM, hidR]
       ·simp (disch := try exact qa0) only [push_cast, simprocAttr, b1, b2, b3, b4, b9, qe0, AV.ids, idsL, hidM, hidR]
     ·skip
      repeat' (first|(first|refine nav ?_|(refine g0_ ?_; first|refine dN (p := [0, 0, 0, 1, 0, 0, 1, 0, 1]) [(18, 4), (19, 18), (21, 19), (22, 21), (24, 22), (25, 24), (26, 4), (27, 26), (29, 27), (30, 29), (32, 30), (33, 32)] [(10, none), (11, none), (10, some 10)] [(17, 18)] ?_|refine goD ?_))|(with_reducible first|refine gG ?_ ?_|refine ⟨fun h => ?_, fun h => ?_⟩ <;> try omega|refine andG ?_)|simp (disch := try exact qa0) only [push_cast, simprocAttr, b1, b2, b3, b4, b9, e1, e2, es, et, hrl, hw1, hw2, hml, h2, hx, hy])
      refine va0 (I - (q + 1)) 1 (by omega) (by first|exact wb0|fail) (by omega) (by simp) (by simp [Blk.below, idsE, idsL, AV.ids, hidR]) ⟨q + 1, by omega, rfl, rfl, hsn (by simp [h2, hy]), ?_, ?_, ?_, ?_, ?_⟩
      ·simp (disch := try exact qa0) only [push_cast, simprocAttr, b1, b2, b3, b4, b9, qe0, AV.ids, idsL, hidM, hidR]
      ·simp (disch := try exact qa0) only [push_cast, simprocAttr, b1, b2, b3, b4, b9, qe0, AV.ids, idsL, hidM, hidR]
      ·simp (disch := try exact qa0) only [push_cast, simprocAttr, b1, b2, b3, b4, b9, qe0, AV.ids, idsL, hidM, hidR]
      ·simp (disch := try exact qa0) only [push_cast, simprocAttr, b1, b2, b3, b4, b9, qe0, AV.ids, idsL, hidM, hidR]
      ·simp (disch := try exact qa0) only [push_cast, simprocAttr, b1, b2, b3, b4, b9, qe0, AV.ids, idsL, hidM, hidR]
    ·skip
     repeat' (first|(first|refine nav ?_|(refine g0_ ?_; first|refine dN (p := [0, 0, 0, 1, 0, 0, 1, 0, 1]) [(18, 4), (19, 18), (21, 19), (22, 21), (24, 22), (25, 24), (26, 4), (27, 26), (29, 27), (30, 29), (32, 30), (33, 32)] [(10, none), (11, none), (10, some 10)] [(17, 18)] ?_|refine goD ?_))|(with_reducible first|refine gG ?_ ?_|refine ⟨fun h => ?_, fun h => ?_⟩ <;> try omega|refine andG ?_)|simp (disch := try exact qa0) only [push_cast, simprocAttr, b1, b2, b3, b4, b9, e1, e2, es, et, hrl, hw1, hw2, hml, h2, hx])
     refine va0 (I - (q + 1)) 1 (by omega) (by first|exact wb0|fail) (by omega) (by simp) (by simp [Blk.below, idsE, idsL, AV.ids, hidR]) ⟨q + 1, by omega, rfl, rfl, hsn (by simp [h2, hx]), ?_, ?_, ?_, ?_, ?_⟩
     ·simp (disch := try exact qa0) only [push_cast, simprocAttr, b1, b2, b3, b4, b9, qe0, AV.ids, idsL, hidM, hidR]
     ·simp (disch := try exact qa0) only [push_cast, simprocAttr, b1, b2, b3, b4, b9, qe0, AV.ids, idsL, hidM, hidR]
     ·simp (disch := try exact qa0) only [push_cast, simprocAttr, b1, b2, b3, b4, b9, qe0, AV.ids, idsL, hidM, hidR]
     ·simp (disch := try exact qa0) only [push_cast, simprocAttr, b1, b2, b3, b4, b9, qe0, AV.ids, idsL, hidM, hidR]
     ·simp (disch := try exact qa0) only [push_cast, simprocAttr, b1, b2, b3, b4, b9, qe0, AV.ids, idsL, hidM, hidR]
   ·skip
    repeat' (first|(first|refine nav ?_|(refine g0_ ?_; first|refine dN (p := [0, 0, 0, 1, 0, 0, 1, 0, 1]) [(18, 4), (19, 18), (21, 19), (22, 21), (24, 22), (25, 24), (26, 4), (27, 26), (29, 27), (30, 29), (32, 30), (33, 32)] [(10, none), (11, none), (10, some 10)] [(17, 18)] ?_|refine goD ?_))|(with_reducible first|refine gG ?_ ?_|refine ⟨fun h => ?_, fun h => ?_⟩ <;> try omega|refine andG ?_)|simp (disch := try exact qa0) only [push_cast, simprocAttr, b1, b2, b3, b4, b9, e1, e2, es, et, hrl, hw1, hw2, hml, h2, h2])
    rw [hht (by simp [h2])]; simp [xbj9]
  ·obtain rfl : q = I := by omega
   rw [hnone hok];repeat' (first|(first|refine nav ?_|(refine g0_ ?_; first|refine dN (p := [0, 0, 0, 1, 0, 0, 1, 0, 1]) [(18, 4), (19, 18), (21, 19), (22, 21), (24, 22), (25, 24), (26, 4), (27, 26), (29, 27), (30, 29), (32, 30), (33, 32)] [(10, none), (11, none), (10, some 10)] [(17, 18)] ?_|refine goD ?_))|(with_reducible first|refine gG ?_ ?_|refine ⟨fun h => ?_, fun h => ?_⟩ <;> try omega|refine andG ?_)|simp (disch := try exact qa0) only [push_cast, simprocAttr, b1, b2, b3, b4, b9])
end Go.Proofs
