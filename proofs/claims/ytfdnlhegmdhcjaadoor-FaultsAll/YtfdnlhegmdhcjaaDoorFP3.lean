/- Faults: what they are, all of them: plain. -/
namespace Go.Proofs
structure Flt where
 k : Int
 s : Int
 i : Int
 t : Int
 a : Int
 o : Int
 deriving DecidableEq
def edR (R : List (List (Int × Int))) (s i : Int) : Int × Int := (R.getD s.toNat []).getD i.toNat (0, 0)
def defR (R : List (List (Int × Int))) (I : Nat) (s i : Int) : Bool := decide (0 ≤ s) && (decide (s < R.length) && (decide (0 ≤ i) && (decide (i < I) && !decide ((edR R s i).1 = -1))))
def inN (x : Int) (n : Nat) : Bool := decide (0 ≤ x) && decide (x < n)
def isF (R : List (List (Int × Int))) (I O : Nat) (f : Flt) : Bool :=
 defR R I f.s f.i &&
 (if f.k = 0 then decide (f.t = 0) && (decide (f.a = 0) && (inN f.o O && !decide (f.o = (edR R f.s f.i).2)))
  else if f.k = 1 then decide (f.a = 0) && (decide (f.o = 0) && (inN f.t R.length && !decide (f.t = (edR R f.s f.i).1)))
  else if f.k = 2 then decide (f.t = 0) && (decide (f.a = 0) && decide (f.o = 0))
  else if f.k = 3 then decide (f.a = 0) && (decide (f.o = 0) && inN f.t R.length)
  else if f.k = 4 then decide (f.t = 0) && (defR R I (edR R f.s f.i).1 f.a && (inN f.o O && !decide (f.o = (edR R (edR R f.s f.i).1 f.a).2)))
  else false)
def ofF (R : List (List (Int × Int))) (I O : Nat) (k s i : Int) : List Flt :=
 if k = 0 then (List.range O).flatMap fun (o : Nat) => if (o : Int) = (edR R s i).2 then [] else [⟨k, s, i, 0, 0, o⟩]
 else if k = 1 then (List.range R.length).flatMap fun (t : Nat) => if (t : Int) = (edR R s i).1 then [] else [⟨k, s, i, t, 0, 0⟩]
 else if k = 2 then [⟨k, s, i, 0, 0, 0⟩]
 else if k = 3 then (List.range R.length).flatMap fun (t : Nat) => [⟨k, s, i, t, 0, 0⟩]
 else if k = 4 then (List.range I).flatMap fun (a : Nat) => (List.range O).flatMap fun (o : Nat) => if (edR R (edR R s i).1 a).1 = -1 ∨ (o : Int) = (edR R (edR R s i).1 a).2 then [] else [⟨k, s, i, 0, a, o⟩]
 else []
def edgF (R : List (List (Int × Int))) (I O : Nat) (k : Int) : List Flt :=
 (List.range R.length).flatMap fun (s : Nat) => (List.range I).flatMap fun (i : Nat) => if defR R I s i = true then ofF R I O k s i else []
def allF (R : List (List (Int × Int))) (I O : Nat) (ks : List Int) : List Flt := ks.flatMap (edgF R I O)
def isL (R : List (List (Int × Int))) (I O : Nat) (f : Flt) : List Flt := if isF R I O f = true then [f] else []
def refF (R : List (List (Int × Int))) (I O : Nat) (ks : List Int) : List Flt :=
 ks.flatMap fun k => (List.range R.length).flatMap fun (s : Nat) => (List.range I).flatMap fun (i : Nat) => (List.range R.length).flatMap fun (t : Nat) => (List.range I).flatMap fun (a : Nat) => (List.range O).flatMap fun (o : Nat) => isL R I O ⟨k, s, i, t, a, o⟩
theorem flat_congr {α β : Type} {f g : α → List β} : ∀ {l : List α}, (∀ x ∈ l, f x = g x) → l.flatMap f = l.flatMap g
 | [], _ => rfl
 | x :: r, h => by rw [List.flatMap_cons, List.flatMap_cons, h x List.mem_cons_self, flat_congr fun y hy => h y (List.mem_cons_of_mem _ hy)]
theorem flat_nil {α β : Type} {f : α → List β} : ∀ {l : List α}, (∀ x ∈ l, f x = []) → l.flatMap f = []
 | [], _ => rfl
 | x :: r, h => by rw [List.flatMap_cons, h x List.mem_cons_self, flat_nil fun y hy => h y (List.mem_cons_of_mem _ hy)]; rfl
theorem flat_first {β : Type} {f : Nat → List β} {n : Nat} (hn : 1 ≤ n) (h : ∀ x, 1 ≤ x → x < n → f x = []) : (List.range n).flatMap f = f 0 := by
 obtain ⟨m, rfl⟩ : ∃ m, n = m + 1 := ⟨n - 1, by omega⟩
 rw [List.range_succ_eq_map, List.flatMap_cons, flat_nil, List.append_nil]
 intro x hx
 rw [List.mem_map] at hx
 obtain ⟨y, hy, rfl⟩ := hx
 rw [List.mem_range] at hy
 exact h _ (by omega) (by omega)
structure OkM (R : List (List (Int × Int))) (I O : Nat) : Prop where
 n1 : 1 ≤ R.length
 i1 : 1 ≤ I
 o1 : 1 ≤ O
 row : ∀ r ∈ R, r.length = I
 ed : ∀ r ∈ R, ∀ e ∈ r, e = (-1, -1) ∨ (0 ≤ e.1 ∧ e.1 < R.length ∧ 0 ≤ e.2 ∧ e.2 < O)
theorem edR_mem {R : List (List (Int × Int))} {I O : Nat} (h : OkM R I O) {s i : Int} (h0 : 0 ≤ s) (h1 : s < R.length) (h2 : 0 ≤ i) (h3 : i < I) :
  edR R s i = (-1, -1) ∨ (0 ≤ (edR R s i).1 ∧ (edR R s i).1 < R.length ∧ 0 ≤ (edR R s i).2 ∧ (edR R s i).2 < O) := by
 have hs : s.toNat < R.length := by omega
 have hm : R.getD s.toNat [] ∈ R := by rw [List.getD_eq_getElem?_getD, List.getElem?_eq_getElem hs]; exact List.getElem_mem hs
 have hl := h.row _ hm
 have hi : i.toNat < (R.getD s.toNat []).length := by omega
 refine h.ed _ hm _ ?_
 unfold edR
 rw [List.getD_eq_getElem?_getD (l := R.getD s.toNat []), List.getElem?_eq_getElem hi]
 exact List.getElem_mem hi
theorem defR_iff {R : List (List (Int × Int))} {I : Nat} {s i : Int} : defR R I s i = true ↔ 0 ≤ s ∧ s < R.length ∧ 0 ≤ i ∧ i < I ∧ (edR R s i).1 ≠ -1 := by
 simp [defR]
theorem inN_nat {x n : Nat} (h : x < n) : inN (x : Int) n = true := by simp [inN]; omega
theorem refF_eq {R : List (List (Int × Int))} {I O : Nat} (h : OkM R I O) (ks : List Int) : refF R I O ks = allF R I O ks := by
 unfold refF allF edgF
 refine flat_congr fun k _ => flat_congr fun s hs => flat_congr fun i hi => ?_
 rw [List.mem_range] at hs hi
 have hm := edR_mem h (s := s) (i := i) (by omega) (by omega) (by omega) (by omega)
 by_cases hd : defR R I s i = true
 ·rw [if_pos hd]
  have hne := (defR_iff.1 hd).2.2.2.2
  unfold isL isF ofF
  simp only [hd, Bool.true_and]
  by_cases k0 : k = 0
  ·simp only [k0, if_true]
   rw [flat_first h.n1, flat_first h.i1]
   ·refine flat_congr fun o ho => ?_
    rw [List.mem_range] at ho
    simp only [inN_nat ho, Int.natCast_zero, decide_true, Bool.true_and]
    by_cases e : (o : Int) = (edR R s i).2 <;> simp [e]
   ·intro a h1 h2; refine flat_nil fun o _ => ?_
    have : ¬ a = 0 := by omega
    simp [this]
   ·intro t h1 h2; refine flat_nil fun a _ => flat_nil fun o _ => ?_
    have : ¬ t = 0 := by omega
    simp [this]
  ·by_cases k1 : k = 1
   ·subst k1
    simp only [if_true, Int.reduceEq, if_false]
    refine flat_congr fun t ht => ?_
    rw [List.mem_range] at ht
    rw [flat_first h.i1, flat_first h.o1]
    ·simp only [inN_nat ht, Int.natCast_zero, decide_true, Bool.true_and]
     by_cases e : (t : Int) = (edR R s i).1 <;> simp [e]
    ·intro o h1 h2
     have : ¬ o = 0 := by omega
     simp [this]
    ·intro a h1 h2; refine flat_nil fun o _ => ?_
     have : ¬ a = 0 := by omega
     simp [this]
   ·by_cases k2 : k = 2
    ·subst k2
     simp only [if_true, Int.reduceEq, if_false]
     rw [flat_first h.n1, flat_first h.i1, flat_first h.o1]
     ·simp
     ·intro o h1 h2
      have : ¬ o = 0 := by omega
      simp [this]
     ·intro a h1 h2; refine flat_nil fun o _ => ?_
      have : ¬ a = 0 := by omega
      simp [this]
     ·intro t h1 h2; refine flat_nil fun a _ => flat_nil fun o _ => ?_
      have : ¬ t = 0 := by omega
      simp [this]
    ·by_cases k3 : k = 3
     ·subst k3
      simp only [if_true, Int.reduceEq, if_false]
      refine flat_congr fun t ht => ?_
      rw [List.mem_range] at ht
      rw [flat_first h.i1, flat_first h.o1]
      ·simp [inN_nat ht]
      ·intro o h1 h2
       have : ¬ o = 0 := by omega
       simp [this]
      ·intro a h1 h2; refine flat_nil fun o _ => ?_
       have : ¬ a = 0 := by omega
       simp [this]
     ·by_cases k4 : k = 4
      ·subst k4
       simp only [if_true, Int.reduceEq, if_false]
       rw [flat_first h.n1]
       ·refine flat_congr fun a ha => flat_congr fun o ho => ?_
        rw [List.mem_range] at ha ho
        have hm2 := hm.resolve_left fun q => hne (by rw [q])
        have hdd : defR R I (edR R s i).1 a = !decide ((edR R (edR R s i).1 a).1 = -1) := by
         have : (a : Int) < I := by omega
         simp [defR, hm2.1, hm2.2.1, this]
        simp only [inN_nat ho, Int.natCast_zero, decide_true, Bool.true_and, hdd]
        by_cases e1 : (edR R (edR R s i).1 a).1 = -1 <;> by_cases e2 : (o : Int) = (edR R (edR R s i).1 a).2 <;> simp [e1, e2]
       ·intro t h1 h2; refine flat_nil fun a _ => flat_nil fun o _ => ?_
        have : ¬ t = 0 := by omega
        simp [this]
      ·simp only [k0, k1, k2, k3, k4, if_false]
       exact flat_nil fun t _ => flat_nil fun a _ => flat_nil fun o _ => by simp
 ·rw [if_neg hd]
  refine flat_nil fun t _ => flat_nil fun a _ => flat_nil fun o _ => ?_
  unfold isL isF
  simp only [hd, Bool.false_and, Bool.false_eq_true, if_false]
end Go.Proofs
namespace Go.Proofs
theorem range_flat {β : Type} (f : Nat → List β) : ∀ n, (List.range (n + 1)).flatMap f = (List.range n).flatMap f ++ f n := fun n => by
 rw [List.range_succ, List.flatMap_append, List.flatMap_cons, List.flatMap_nil, List.append_nil]
def cntRow (R : List (List (Int × Int))) (I : Nat) (s k : Nat) : Nat := ((List.range k).flatMap fun (i : Nat) => if defR R I s i = true then [()] else []).length
def cntE (R : List (List (Int × Int))) (I : Nat) (k : Nat) : Nat := ((List.range k).flatMap fun (s : Nat) => (List.range I).flatMap fun (i : Nat) => if defR R I s i = true then [()] else []).length
def ltF (f g : Flt) : Prop := f.k < g.k ∨ f.k = g.k ∧ (f.s < g.s ∨ f.s = g.s ∧ (f.i < g.i ∨ f.i = g.i ∧ (f.t < g.t ∨ f.t = g.t ∧ (f.a < g.a ∨ f.a = g.a ∧ f.o < g.o))))
theorem pw_range {β : Type} {P : β → β → Prop} {f : Nat → List β} : ∀ n : Nat, (∀ x, x < n → (f x).Pairwise P) → (∀ x y, x < y → y < n → ∀ u ∈ f x, ∀ v ∈ f y, P u v) → ((List.range n).flatMap f).Pairwise P
 | 0, _, _ => by simp
 | n + 1, h1, h2 => by
  rw [range_flat, List.pairwise_append]
  refine ⟨pw_range n (fun x hx => h1 x (by omega)) (fun x y h h' => h2 x y h (by omega)), h1 n (by omega), ?_⟩
  intro u hu v hv
  rw [List.mem_flatMap] at hu
  obtain ⟨x, hx, hu⟩ := hu
  rw [List.mem_range] at hx
  exact h2 x n hx (by omega) u hu v hv
theorem mem_isL {R : List (List (Int × Int))} {I O : Nat} {f g : Flt} (h : g ∈ isL R I O f) : g = f := by
 unfold isL at h
 split at h
 ·simpa using h
 ·cases h
def lv4 (R : List (List (Int × Int))) (I O : Nat) (k s i t : Int) : List Flt := (List.range I).flatMap fun (a : Nat) => (List.range O).flatMap fun (o : Nat) => isL R I O ⟨k, s, i, t, a, o⟩
def lv3 (R : List (List (Int × Int))) (I O : Nat) (k s i : Int) : List Flt := (List.range R.length).flatMap fun (t : Nat) => lv4 R I O k s i t
def lv2 (R : List (List (Int × Int))) (I O : Nat) (k s : Int) : List Flt := (List.range I).flatMap fun (i : Nat) => lv3 R I O k s i
def lv1 (R : List (List (Int × Int))) (I O : Nat) (k : Int) : List Flt := (List.range R.length).flatMap fun (s : Nat) => lv2 R I O k s
theorem mem_lv4 {R : List (List (Int × Int))} {I O : Nat} {k s i t : Int} {g : Flt} (h : g ∈ lv4 R I O k s i t) : g.k = k ∧ g.s = s ∧ g.i = i ∧ g.t = t := by
 unfold lv4 at h
 simp only [List.mem_flatMap, List.mem_range] at h
 obtain ⟨a, _, o, _, h⟩ := h
 rw [mem_isL h]; exact ⟨rfl, rfl, rfl, rfl⟩
theorem mem_lv3 {R : List (List (Int × Int))} {I O : Nat} {k s i : Int} {g : Flt} (h : g ∈ lv3 R I O k s i) : g.k = k ∧ g.s = s ∧ g.i = i := by
 unfold lv3 at h
 rw [List.mem_flatMap] at h
 obtain ⟨t, _, h⟩ := h
 have := mem_lv4 h; exact ⟨this.1, this.2.1, this.2.2.1⟩
theorem mem_lv2 {R : List (List (Int × Int))} {I O : Nat} {k s : Int} {g : Flt} (h : g ∈ lv2 R I O k s) : g.k = k ∧ g.s = s := by
 unfold lv2 at h
 rw [List.mem_flatMap] at h
 obtain ⟨t, _, h⟩ := h
 have := mem_lv3 h; exact ⟨this.1, this.2.1⟩
theorem mem_lv1 {R : List (List (Int × Int))} {I O : Nat} {k : Int} {g : Flt} (h : g ∈ lv1 R I O k) : g.k = k := by
 unfold lv1 at h
 rw [List.mem_flatMap] at h
 obtain ⟨t, _, h⟩ := h
 exact (mem_lv2 h).1
theorem refF_lv (R : List (List (Int × Int))) (I O : Nat) (ks : List Int) : refF R I O ks = ks.flatMap (lv1 R I O) := rfl
theorem refF_sorted (R : List (List (Int × Int))) (I O : Nat) : ∀ ks : List Int, ks.Pairwise (· < ·) → (refF R I O ks).Pairwise ltF
 | [], _ => by simp [refF]
 | k :: r, h => by
  rw [List.pairwise_cons] at h
  have ih := refF_sorted R I O r h.2
  rw [refF_lv] at ih ⊢
  rw [List.flatMap_cons, List.pairwise_append]
  refine ⟨?_, ih, ?_⟩
  ·unfold lv1
   refine pw_range _ (fun s _ => ?_) fun x y hxy _ u hu v hv => ?_
   ·unfold lv2
    refine pw_range _ (fun i _ => ?_) fun x y hxy _ u hu v hv => ?_
    ·unfold lv3
     refine pw_range _ (fun t _ => ?_) fun x y hxy _ u hu v hv => ?_
     ·unfold lv4
      refine pw_range _ (fun a _ => ?_) fun x y hxy _ u hu v hv => ?_
      ·refine pw_range _ (fun o _ => ?_) fun x y hxy _ u hu v hv => ?_
       ·unfold isL; split <;> simp
       ·rw [mem_isL hu, mem_isL hv]
        exact .inr ⟨rfl, .inr ⟨rfl, .inr ⟨rfl, .inr ⟨rfl, .inr ⟨rfl, (by omega : (x : Int) < y)⟩⟩⟩⟩⟩
      ·rw [List.mem_flatMap] at hu hv
       obtain ⟨o, _, hu⟩ := hu
       obtain ⟨o', _, hv⟩ := hv
       rw [mem_isL hu, mem_isL hv]
       exact .inr ⟨rfl, .inr ⟨rfl, .inr ⟨rfl, .inr ⟨rfl, .inl (by omega : (x : Int) < y)⟩⟩⟩⟩
     ·have a := mem_lv4 hu; have b := mem_lv4 hv
      simp only [ltF]; omega
    ·have a := mem_lv3 hu; have b := mem_lv3 hv
     simp only [ltF]; omega
   ·have a := mem_lv2 hu; have b := mem_lv2 hv
    simp only [ltF]; omega
  ·intro u hu v hv
   rw [List.mem_flatMap] at hv
   obtain ⟨k', hk', hv⟩ := hv
   have a := mem_lv1 hu; have b := mem_lv1 hv
   have := h.1 k' hk'
   simp only [ltF]; omega
def cmpI (a b : Int) : Int := if a < b then -1 else if b < a then 1 else 0
def cmpF (f g : Flt) : Int :=
 if cmpI f.k g.k ≠ 0 then cmpI f.k g.k else if cmpI f.s g.s ≠ 0 then cmpI f.s g.s else if cmpI f.i g.i ≠ 0 then cmpI f.i g.i
 else if cmpI f.t g.t ≠ 0 then cmpI f.t g.t else if cmpI f.a g.a ≠ 0 then cmpI f.a g.a else cmpI f.o g.o
theorem cmpF_lt {f g : Flt} (h : ltF f g) : cmpF f g = -1 := by
 have e : ∀ a b : Int, a < b → cmpI a b = -1 := fun a b h => by unfold cmpI; rw [if_pos h]
 have z : ∀ a : Int, cmpI a a = 0 := fun a => by unfold cmpI; simp
 unfold cmpF
 rcases h with h|⟨h0, h|⟨h1, h|⟨h2, h|⟨h3, h|⟨h4, h⟩⟩⟩⟩⟩
 ·simp [e _ _ h]
 ·simp [h0, z, e _ _ h]
 ·simp [h0, h1, z, e _ _ h]
 ·simp [h0, h1, h2, z, e _ _ h]
 ·simp [h0, h1, h2, h3, z, e _ _ h]
 ·simp [h0, h1, h2, h3, h4, z, e _ _ h]
theorem refF_step (R : List (List (Int × Int))) (I O : Nat) (ks : List Int) (h : ks.Pairwise (· < ·)) (j : Nat) (hj : j + 1 < (refF R I O ks).length) (d : Flt) : cmpF ((refF R I O ks).getD j d) ((refF R I O ks).getD (j + 1) d) = -1 := by
 have hp := refF_sorted R I O ks h
 rw [List.pairwise_iff_getElem] at hp
 have := hp j (j + 1) (by omega) hj (by omega)
 apply cmpF_lt
 simpa [hj, show j < (refF R I O ks).length by omega] using this
end Go.Proofs
namespace Go.Proofs
abbrev RR := List (List (Int × Int))
def newE (R : RR) (f : Flt) : Int × Int :=
 if f.k = 0 then ((edR R f.s f.i).1, f.o) else if f.k = 1 then (f.t, (edR R f.s f.i).2) else if f.k = 2 then (-1, -1) else ((R.length : Int), (edR R f.s f.i).2)
def newR (R : RR) (f : Flt) : RR :=
 if f.k = 3 then [R.getD f.t.toNat []]
 else if f.k = 4 then [(R.getD (edR R f.s f.i).1.toNat []).set f.a.toNat ((edR R (edR R f.s f.i).1 f.a).1, f.o)]
 else []
def setE (R : RR) (s i : Int) (e : Int × Int) : RR := R.set s.toNat ((R.getD s.toNat []).set i.toNat e)
def applyR (R : RR) (f : Flt) : RR := setE (R ++ newR R f) f.s f.i (newE R f)
theorem getD_set {α : Type} (l : List α) (j k : Nat) (x d : α) (h : j < l.length) : (l.set j x).getD k d = if k = j then x else l.getD k d := by
 by_cases e : k = j
 ·subst e; rw [if_pos rfl, List.getD_eq_getElem?_getD, List.getElem?_set_self h]; rfl
 ·rw [if_neg e, List.getD_eq_getElem?_getD, List.getElem?_set_ne (fun q => e q.symm), List.getD_eq_getElem?_getD]
theorem getD_left {α : Type} (l r : List α) (k : Nat) (d : α) (h : k < l.length) : (l ++ r).getD k d = l.getD k d := by
 rw [List.getD_eq_getElem?_getD, List.getElem?_append_left h, List.getD_eq_getElem?_getD]
theorem edR_nat (R : RR) (x j : Nat) : edR R x j = (R.getD x []).getD j (0, 0) := rfl
def apX (mk : Nat → Nat → Bool) (x y : Int × Int) : Bool := decide (x.2 ≠ y.2) || (decide (0 ≤ x.1) && (decide (0 ≤ y.1) && mk x.1.toNat y.1.toNat))
def apartM (I : Nat) (R : RR) (mk : Nat → Nat → Bool) (s t : Nat) : Bool := (List.range I).any fun i => apX mk ((R.getD s []).getD i (0, 0)) ((R.getD t []).getD i (0, 0))
def markM (I : Nat) (R : RR) : Nat → Nat → Nat → Bool
 | 0, _, _ => false
 | k + 1, s, t => markM I R k s t || apartM I R (markM I R k) s t
def shiftE (n : Nat) (r : List (Int × Int)) : List (Int × Int) := r.map fun e => if 0 ≤ e.1 then (e.1 + n, e.2) else e
def besideR (A B : RR) : RR := A ++ B.map (shiftE A.length)
theorem row_len {R : RR} {I O : Nat} (h : OkM R I O) {x : Nat} (hx : x < R.length) : (R.getD x []).length = I := by
 refine h.row _ ?_
 rw [List.getD_eq_getElem?_getD, List.getElem?_eq_getElem hx]; exact List.getElem_mem hx
theorem setE_len (R : RR) (s i : Int) (e : Int × Int) : (setE R s i e).length = R.length := by simp [setE]
end Go.Proofs
