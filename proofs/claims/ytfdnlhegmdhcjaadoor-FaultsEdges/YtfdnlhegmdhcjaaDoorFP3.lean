/- Faults: what they are, all of them: plain. -/
namespace Go.Proofs
structure Flt where
 k : Int
 s : Int
 i : Int
 t : Int
 a : Int
 o : Int
 deriving DecidableEq
def edR (R : List (List (Int × Int))) (s i : Int) : Int × Int := (R.getD s.toNat []).getD i.toNat (0, 0)
def defR (R : List (List (Int × Int))) (I : Nat) (s i : Int) : Bool := decide (0 ≤ s) && (decide (s < R.length) && (decide (0 ≤ i) && (decide (i < I) && !decide ((edR R s i).1 = -1))))
def inN (x : Int) (n : Nat) : Bool := decide (0 ≤ x) && decide (x < n)
def isF (R : List (List (Int × Int))) (I O : Nat) (f : Flt) : Bool :=
 defR R I f.s f.i &&
 (if f.k = 0 then decide (f.t = 0) && (decide (f.a = 0) && (inN f.o O && !decide (f.o = (edR R f.s f.i).2)))
  else if f.k = 1 then decide (f.a = 0) && (decide (f.o = 0) && (inN f.t R.length && !decide (f.t = (edR R f.s f.i).1)))
  else if f.k = 2 then decide (f.t = 0) && (decide (f.a = 0) && decide (f.o = 0))
  else if f.k = 3 then decide (f.a = 0) && (decide (f.o = 0) && inN f.t R.length)
  else if f.k = 4 then decide (f.t = 0) && (defR R I (edR R f.s f.i).1 f.a && (inN f.o O && !decide (f.o = (edR R (edR R f.s f.i).1 f.a).2)))
  else false)
def ofF (R : List (List (Int × Int))) (I O : Nat) (k s i : Int) : List Flt :=
 if k = 0 then (List.range O).flatMap fun (o : Nat) => if (o : Int) = (edR R s i).2 then [] else [⟨k, s, i, 0, 0, o⟩]
 else if k = 1 then (List.range R.length).flatMap fun (t : Nat) => if (t : Int) = (edR R s i).1 then [] else [⟨k, s, i, t, 0, 0⟩]
 else if k = 2 then [⟨k, s, i, 0, 0, 0⟩]
 else if k = 3 then (List.range R.length).flatMap fun (t : Nat) => [⟨k, s, i, t, 0, 0⟩]
 else if k = 4 then (List.range I).flatMap fun (a : Nat) => (List.range O).flatMap fun (o : Nat) => if (edR R (edR R s i).1 a).1 = -1 ∨ (o : Int) = (edR R (edR R s i).1 a).2 then [] else [⟨k, s, i, 0, a, o⟩]
 else []
def edgF (R : List (List (Int × Int))) (I O : Nat) (k : Int) : List Flt :=
 (List.range R.length).flatMap fun (s : Nat) => (List.range I).flatMap fun (i : Nat) => if defR R I s i = true then ofF R I O k s i else []
def allF (R : List (List (Int × Int))) (I O : Nat) (ks : List Int) : List Flt := ks.flatMap (edgF R I O)
def isL (R : List (List (Int × Int))) (I O : Nat) (f : Flt) : List Flt := if isF R I O f = true then [f] else []
def refF (R : List (List (Int × Int))) (I O : Nat) (ks : List Int) : List Flt :=
 ks.flatMap fun k => (List.range R.length).flatMap fun (s : Nat) => (List.range I).flatMap fun (i : Nat) => (List.range R.length).flatMap fun (t : Nat) => (List.range I).flatMap fun (a : Nat) => (List.range O).flatMap fun (o : Nat) => isL R I O ⟨k, s, i, t, a, o⟩
theorem flat_congr {α β : Type} {f g : α → List β} : ∀ {l : List α}, (∀ x ∈ l, f x = g x) → l.flatMap f = l.flatMap g
 | [], _ => rfl
 | x :: r, h => by rw [List.flatMap_cons, List.flatMap_cons, h x List.mem_cons_self, flat_congr fun y hy => h y (List.mem_cons_of_mem _ hy)]
theorem flat_nil {α β : Type} {f : α → List β} : ∀ {l : List α}, (∀ x ∈ l, f x = []) → l.flatMap f = []
 | [], _ => rfl
 | x :: r, h => by rw [List.flatMap_cons, h x List.mem_cons_self, flat_nil fun y hy => h y (List.mem_cons_of_mem _ hy)]; rfl
theorem flat_first {β : Type} {f : Nat → List β} {n : Nat} (hn : 1 ≤ n) (h : ∀ x, 1 ≤ x → x < n → f x = []) : (List.range n).flatMap f = f 0 := by
 obtain ⟨m, rfl⟩ : ∃ m, n = m + 1 := ⟨n - 1, by omega⟩
 rw [List.range_succ_eq_map, List.flatMap_cons, flat_nil, List.append_nil]
 intro x hx
 rw [List.mem_map] at hx
 obtain ⟨y, hy, rfl⟩ := hx
 rw [List.mem_range] at hy
 exact h _ (by omega) (by omega)
structure OkM (R : List (List (Int × Int))) (I O : Nat) : Prop where
 n1 : 1 ≤ R.length
 i1 : 1 ≤ I
 o1 : 1 ≤ O
 row : ∀ r ∈ R, r.length = I
 ed : ∀ r ∈ R, ∀ e ∈ r, e = (-1, -1) ∨ (0 ≤ e.1 ∧ e.1 < R.length ∧ 0 ≤ e.2 ∧ e.2 < O)
theorem edR_mem {R : List (List (Int × Int))} {I O : Nat} (h : OkM R I O) {s i : Int} (h0 : 0 ≤ s) (h1 : s < R.length) (h2 : 0 ≤ i) (h3 : i < I) :
  edR R s i = (-1, -1) ∨ (0 ≤ (edR R s i).1 ∧ (edR R s i).1 < R.length ∧ 0 ≤ (edR R s i).2 ∧ (edR R s i).2 < O) := by
 have hs : s.toNat < R.length := by omega
 have hm : R.getD s.toNat [] ∈ R := by rw [List.getD_eq_getElem?_getD, List.getElem?_eq_getElem hs]; exact List.getElem_mem hs
 have hl := h.row _ hm
 have hi : i.toNat < (R.getD s.toNat []).length := by omega
 refine h.ed _ hm _ ?_
 unfold edR
 rw [List.getD_eq_getElem?_getD (l := R.getD s.toNat []), List.getElem?_eq_getElem hi]
 exact List.getElem_mem hi
theorem defR_iff {R : List (List (Int × Int))} {I : Nat} {s i : Int} : defR R I s i = true ↔ 0 ≤ s ∧ s < R.length ∧ 0 ≤ i ∧ i < I ∧ (edR R s i).1 ≠ -1 := by
 simp [defR]
theorem inN_nat {x n : Nat} (h : x < n) : inN (x : Int) n = true := by simp [inN]; omega
theorem refF_eq {R : List (List (Int × Int))} {I O : Nat} (h : OkM R I O) (ks : List Int) : refF R I O ks = allF R I O ks := by
 unfold refF allF edgF
 refine flat_congr fun k _ => flat_congr fun s hs => flat_congr fun i hi => ?_
 rw [List.mem_range] at hs hi
 have hm := edR_mem h (s := s) (i := i) (by omega) (by omega) (by omega) (by omega)
 by_cases hd : defR R I s i = true
 ·rw [if_pos hd]
  have hne := (defR_iff.1 hd).2.2.2.2
  unfold isL isF ofF
  simp only [hd, Bool.true_and]
  by_cases k0 : k = 0
  ·simp only [k0, if_true]
   rw [flat_first h.n1, flat_first h.i1]
   ·refine flat_congr fun o ho => ?_
    rw [List.mem_range] at ho
    simp only [inN_nat ho, Int.natCast_zero, decide_true, Bool.true_and]
    by_cases e : (o : Int) = (edR R s i).2 <;> simp [e]
   ·intro a h1 h2; refine flat_nil fun o _ => ?_
    have : ¬ a = 0 := by omega
    simp [this]
   ·intro t h1 h2; refine flat_nil fun a _ => flat_nil fun o _ => ?_
    have : ¬ t = 0 := by omega
    simp [this]
  ·by_cases k1 : k = 1
   ·subst k1
    simp only [if_true, Int.reduceEq, if_false]
    refine flat_congr fun t ht => ?_
    rw [List.mem_range] at ht
    rw [flat_first h.i1, flat_first h.o1]
    ·simp only [inN_nat ht, Int.natCast_zero, decide_true, Bool.true_and]
     by_cases e : (t : Int) = (edR R s i).1 <;> simp [e]
    ·intro o h1 h2
     have : ¬ o = 0 := by omega
     simp [this]
    ·intro a h1 h2; refine flat_nil fun o _ => ?_
     have : ¬ a = 0 := by omega
     simp [this]
   ·by_cases k2 : k = 2
    ·subst k2
     simp only [if_true, Int.reduceEq, if_false]
     rw [flat_first h.n1, flat_first h.i1, flat_first h.o1]
     ·simp
     ·intro o h1 h2
      have : ¬ o = 0 := by omega
      simp [this]
     ·intro a h1 h2; refine flat_nil fun o _ => ?_
      have : ¬ a = 0 := by omega
      simp [this]
     ·intro t h1 h2; refine flat_nil fun a _ => flat_nil fun o _ => ?_
      have : ¬ t = 0 := by omega
      simp [this]
    ·by_cases k3 : k = 3
     ·subst k3
      simp only [if_true, Int.reduceEq, if_false]
      refine flat_congr fun t ht => ?_
      rw [List.mem_range] at ht
      rw [flat_first h.i1, flat_first h.o1]
      ·simp [inN_nat ht]
      ·intro o h1 h2
       have : ¬ o = 0 := by omega
       simp [this]
      ·intro a h1 h2; refine flat_nil fun o _ => ?_
       have : ¬ a = 0 := by omega
       simp [this]
     ·by_cases k4 : k = 4
      ·subst k4
       simp only [if_true, Int.reduceEq, if_false]
       rw [flat_first h.n1]
       ·refine flat_congr fun a ha => flat_congr fun o ho => ?_
        rw [List.mem_range] at ha ho
        have hm2 := hm.resolve_left fun q => hne (by rw [q])
        have hdd : defR R I (edR R s i).1 a = !decide ((edR R (edR R s i).1 a).1 = -1) := by
         have : (a : Int) < I := by omega
         simp [defR, hm2.1, hm2.2.1, this]
        simp only [inN_nat ho, Int.natCast_zero, decide_true, Bool.true_and, hdd]
        by_cases e1 : (edR R (edR R s i).1 a).1 = -1 <;> by_cases e2 : (o : Int) = (edR R (edR R s i).1 a).2 <;> simp [e1, e2]
       ·intro t h1 h2; refine flat_nil fun a _ => flat_nil fun o _ => ?_
        have : ¬ t = 0 := by omega
        simp [this]
      ·simp only [k0, k1, k2, k3, k4, if_false]
       exact flat_nil fun t _ => flat_nil fun a _ => flat_nil fun o _ => by simp
 ·rw [if_neg hd]
  refine flat_nil fun t _ => flat_nil fun a _ => flat_nil fun o _ => ?_
  unfold isL isF
  simp only [hd, Bool.false_and, Bool.false_eq_true, if_false]
end Go.Proofs
namespace Go.Proofs
theorem length_flat {β : Type} (f : Nat → List β) : ∀ n, ((List.range (n + 1)).flatMap f).length = ((List.range n).flatMap f).length + (f n).length := fun n => by
 rw [List.range_succ, List.flatMap_append, List.length_append, List.flatMap_cons, List.flatMap_nil, List.append_nil]
theorem range_flat {β : Type} (f : Nat → List β) : ∀ n, (List.range (n + 1)).flatMap f = (List.range n).flatMap f ++ f n := fun n => by
 rw [List.range_succ, List.flatMap_append, List.flatMap_cons, List.flatMap_nil, List.append_nil]
theorem length_all {β : Type} (f : Nat → List β) (m : Nat) : ∀ n, (∀ x, x < n → (f x).length = m) → ((List.range n).flatMap f).length = n * m
 | 0, _ => by simp
 | n + 1, h => by
  rw [length_flat, length_all f m n fun x hx => h x (by omega), h n (by omega), Nat.succ_mul]
theorem length_but {β : Type} (g : Nat → β) (c : Int) : ∀ n : Nat, ((List.range n).flatMap fun (o : Nat) => if (o : Int) = c then [] else [g o]).length = if 0 ≤ c ∧ c < n then n - 1 else n
 | 0 => by simp
 | n + 1 => by
  rw [length_flat, length_but g c n]
  by_cases e : (n : Int) = c
  ·rw [if_pos e, if_neg (by omega), if_pos (by omega)]; rfl
  ·rw [if_neg e]
   by_cases q : 0 ≤ c ∧ c < n
   ·rw [if_pos q, if_pos (by omega)]; simp only [List.length_cons, List.length_nil]; omega
   ·rw [if_neg q, if_neg (by omega)]; rfl
theorem ofF_len {R : List (List (Int × Int))} {I O : Nat} (h : OkM R I O) {s i : Nat} (hs : s < R.length) (hi : i < I) (hd : defR R I s i = true) (k : Int) :
  (ofF R I O k s i).length = if k = 0 then O - 1 else if k = 1 then R.length - 1 else if k = 2 then 1 else if k = 3 then R.length else (ofF R I O k s i).length := by
 have hm := edR_mem h (s := s) (i := i) (by omega) (by omega) (by omega) (by omega)
 have hm2 := hm.resolve_left fun q => (defR_iff.1 hd).2.2.2.2 (by rw [q])
 by_cases k0 : k = 0
 ·rw [if_pos k0]; unfold ofF; rw [if_pos k0, length_but, if_pos ⟨hm2.2.2.1, hm2.2.2.2⟩]
 ·rw [if_neg k0]
  by_cases k1 : k = 1
  ·rw [if_pos k1]; unfold ofF; rw [if_neg k0, if_pos k1, length_but, if_pos ⟨hm2.1, hm2.2.1⟩]
  ·rw [if_neg k1]
   by_cases k2 : k = 2
   ·rw [if_pos k2]; unfold ofF; rw [if_neg k0, if_neg k1, if_pos k2]; rfl
   ·rw [if_neg k2]
    by_cases k3 : k = 3
    ·rw [if_pos k3]; unfold ofF; rw [if_neg k0, if_neg k1, if_neg k2, if_pos k3, length_all _ 1 _ fun _ _ => rfl, Nat.mul_one]
    ·rw [if_neg k3]
def cntRow (R : List (List (Int × Int))) (I : Nat) (s k : Nat) : Nat := ((List.range k).flatMap fun (i : Nat) => if defR R I s i = true then [()] else []).length
def cntE (R : List (List (Int × Int))) (I : Nat) (k : Nat) : Nat := ((List.range k).flatMap fun (s : Nat) => (List.range I).flatMap fun (i : Nat) => if defR R I s i = true then [()] else []).length
theorem cntRow_succ (R : List (List (Int × Int))) (I s k : Nat) : cntRow R I s (k + 1) = cntRow R I s k + if defR R I s k = true then 1 else 0 := by
 unfold cntRow; rw [length_flat]; split <;> rfl
theorem cntE_succ (R : List (List (Int × Int))) (I k : Nat) : cntE R I (k + 1) = cntE R I k + cntRow R I k I := by
 unfold cntE cntRow; rw [length_flat]
theorem cntE_le (R : List (List (Int × Int))) (I : Nat) : ∀ k, cntE R I k ≤ k * I
 | 0 => by simp [cntE]
 | k + 1 => by
  have h2 : ∀ j, cntRow R I k j ≤ j := fun j => by
   induction j with
   | zero => simp [cntRow]
   | succ j ih => rw [cntRow_succ]; split <;> omega
  have := cntE_le R I k
  have := h2 I
  rw [cntE_succ, Nat.succ_mul]; omega
theorem edgF_len {R : List (List (Int × Int))} {I O : Nat} (k : Int) (m : Nat) (hm : ∀ s i : Nat, s < R.length → i < I → defR R I s i = true → (ofF R I O k s i).length = m) : (edgF R I O k).length = cntE R I R.length * m := by
 have key : ∀ n, n ≤ R.length → ((List.range n).flatMap fun (s : Nat) => (List.range I).flatMap fun (i : Nat) => if defR R I s i = true then ofF R I O k s i else []).length = cntE R I n * m := by
  intro n
  induction n with
  | zero => intro _; simp [cntE]
  | succ n ih =>
   intro hn
   rw [length_flat, ih (by omega), cntE_succ, Nat.add_mul]
   congr 1
   have row : ∀ j, j ≤ I → ((List.range j).flatMap fun (i : Nat) => if defR R I n i = true then ofF R I O k n i else []).length = cntRow R I n j * m := by
    intro j
    induction j with
    | zero => intro _; simp [cntRow]
    | succ j ihj =>
     intro hj
     rw [length_flat, ihj (by omega), cntRow_succ, Nat.add_mul]
     congr 1
     split
     ·rename_i q; rw [hm n j (by omega) (by omega) q, Nat.one_mul]
     ·simp
   exact row I (Nat.le_refl _)
 exact key _ (Nat.le_refl _)
theorem edgF_len0 {R : List (List (Int × Int))} {I O : Nat} (h : OkM R I O) : (edgF R I O 0).length = cntE R I R.length * (O - 1) := edgF_len 0 _ fun s i hs hi hd => by rw [ofF_len h hs hi hd]; rfl
theorem edgF_len1 {R : List (List (Int × Int))} {I O : Nat} (h : OkM R I O) : (edgF R I O 1).length = cntE R I R.length * (R.length - 1) := edgF_len 1 _ fun s i hs hi hd => by rw [ofF_len h hs hi hd]; rfl
theorem edgF_len2 {R : List (List (Int × Int))} {I O : Nat} (h : OkM R I O) : (edgF R I O 2).length = cntE R I R.length := by rw [edgF_len 2 1 fun s i hs hi hd => by rw [ofF_len h hs hi hd]; rfl, Nat.mul_one]
theorem edgF_len3 {R : List (List (Int × Int))} {I O : Nat} (h : OkM R I O) : (edgF R I O 3).length = cntE R I R.length * R.length := edgF_len 3 _ fun s i hs hi hd => by rw [ofF_len h hs hi hd]; rfl
theorem allF_0123 {R : List (List (Int × Int))} {I O : Nat} (h : OkM R I O) : (allF R I O [0, 1, 2, 3]).length = cntE R I R.length * (O - 1) + cntE R I R.length * (R.length - 1) + cntE R I R.length + cntE R I R.length * R.length := by
 simp only [allF, List.flatMap_cons, List.flatMap_nil, List.length_append, List.length_nil, edgF_len0 h, edgF_len1 h, edgF_len2 h, edgF_len3 h]; omega
def ltF (f g : Flt) : Prop := f.k < g.k ∨ f.k = g.k ∧ (f.s < g.s ∨ f.s = g.s ∧ (f.i < g.i ∨ f.i = g.i ∧ (f.t < g.t ∨ f.t = g.t ∧ (f.a < g.a ∨ f.a = g.a ∧ f.o < g.o))))
def lv4 (R : List (List (Int × Int))) (I O : Nat) (k s i t : Int) : List Flt := (List.range I).flatMap fun (a : Nat) => (List.range O).flatMap fun (o : Nat) => isL R I O ⟨k, s, i, t, a, o⟩
def lv3 (R : List (List (Int × Int))) (I O : Nat) (k s i : Int) : List Flt := (List.range R.length).flatMap fun (t : Nat) => lv4 R I O k s i t
def lv2 (R : List (List (Int × Int))) (I O : Nat) (k s : Int) : List Flt := (List.range I).flatMap fun (i : Nat) => lv3 R I O k s i
def lv1 (R : List (List (Int × Int))) (I O : Nat) (k : Int) : List Flt := (List.range R.length).flatMap fun (s : Nat) => lv2 R I O k s
def cmpI (a b : Int) : Int := if a < b then -1 else if b < a then 1 else 0
def cmpF (f g : Flt) : Int :=
 if cmpI f.k g.k ≠ 0 then cmpI f.k g.k else if cmpI f.s g.s ≠ 0 then cmpI f.s g.s else if cmpI f.i g.i ≠ 0 then cmpI f.i g.i
 else if cmpI f.t g.t ≠ 0 then cmpI f.t g.t else if cmpI f.a g.a ≠ 0 then cmpI f.a g.a else cmpI f.o g.o
end Go.Proofs
namespace Go.Proofs
set_option linter.unusedVariables false
abbrev RR := List (List (Int × Int))
def newE (R : RR) (f : Flt) : Int × Int :=
 if f.k = 0 then ((edR R f.s f.i).1, f.o) else if f.k = 1 then (f.t, (edR R f.s f.i).2) else if f.k = 2 then (-1, -1) else ((R.length : Int), (edR R f.s f.i).2)
def newR (R : RR) (f : Flt) : RR :=
 if f.k = 3 then [R.getD f.t.toNat []]
 else if f.k = 4 then [(R.getD (edR R f.s f.i).1.toNat []).set f.a.toNat ((edR R (edR R f.s f.i).1 f.a).1, f.o)]
 else []
def setE (R : RR) (s i : Int) (e : Int × Int) : RR := R.set s.toNat ((R.getD s.toNat []).set i.toNat e)
def applyR (R : RR) (f : Flt) : RR := setE (R ++ newR R f) f.s f.i (newE R f)
theorem getD_set {α : Type} (l : List α) (j k : Nat) (x d : α) (h : j < l.length) : (l.set j x).getD k d = if k = j then x else l.getD k d := by
 by_cases e : k = j
 ·subst e; rw [if_pos rfl, List.getD_eq_getElem?_getD, List.getElem?_set_self h]; rfl
 ·rw [if_neg e, List.getD_eq_getElem?_getD, List.getElem?_set_ne (fun q => e q.symm), List.getD_eq_getElem?_getD]
theorem getD_left {α : Type} (l r : List α) (k : Nat) (d : α) (h : k < l.length) : (l ++ r).getD k d = l.getD k d := by
 rw [List.getD_eq_getElem?_getD, List.getElem?_append_left h, List.getD_eq_getElem?_getD]
theorem getD_right {α : Type} (l r : List α) (k : Nat) (d : α) : (l ++ r).getD (l.length + k) d = r.getD k d := by
 rw [List.getD_eq_getElem?_getD, List.getElem?_append_right (by omega), Nat.add_sub_cancel_left, List.getD_eq_getElem?_getD]
theorem edR_nat (R : RR) (x j : Nat) : edR R x j = (R.getD x []).getD j (0, 0) := rfl
theorem edR_setE (R : RR) (s i : Nat) (e : Int × Int) (hs : s < R.length) (hi : i < (R.getD s []).length) (x j : Nat) : edR (setE R s i e) x j = if x = s ∧ j = i then e else edR R x j := by
 rw [edR_nat, edR_nat, setE]
 simp only [Int.toNat_natCast]
 rw [getD_set _ _ _ _ _ hs]
 by_cases h : x = s
 ·subst h
  rw [if_pos rfl, getD_set _ _ _ _ _ hi]
  by_cases h2 : j = i
  ·rw [if_pos h2, if_pos ⟨rfl, h2⟩]
  ·rw [if_neg h2, if_neg fun q => h2 q.2]
 ·rw [if_neg h, if_neg fun q => h q.1]
def apX (mk : Nat → Nat → Bool) (x y : Int × Int) : Bool := decide (x.2 ≠ y.2) || (decide (0 ≤ x.1) && (decide (0 ≤ y.1) && mk x.1.toNat y.1.toNat))
def apartM (I : Nat) (R : RR) (mk : Nat → Nat → Bool) (s t : Nat) : Bool := (List.range I).any fun i => apX mk ((R.getD s []).getD i (0, 0)) ((R.getD t []).getD i (0, 0))
def markM (I : Nat) (R : RR) : Nat → Nat → Nat → Bool
 | 0, _, _ => false
 | k + 1, s, t => markM I R k s t || apartM I R (markM I R k) s t
def shiftE (n : Nat) (r : List (Int × Int)) : List (Int × Int) := r.map fun e => if 0 ≤ e.1 then (e.1 + n, e.2) else e
def besideR (A B : RR) : RR := A ++ B.map (shiftE A.length)
theorem mark_rel {I : Nat} {R : RR} {E : Nat → Nat → Prop} (h : ∀ s t, E s t → ∀ i, i < I → ((R.getD s []).getD i (0, 0)).2 = ((R.getD t []).getD i (0, 0)).2 ∧
  (0 ≤ ((R.getD s []).getD i (0, 0)).1 → 0 ≤ ((R.getD t []).getD i (0, 0)).1 → E ((R.getD s []).getD i (0, 0)).1.toNat ((R.getD t []).getD i (0, 0)).1.toNat)) : ∀ k s t, E s t → markM I R k s t = false
 | 0, _, _, _ => rfl
 | k + 1, s, t, he => by
  have ih := mark_rel h k
  rw [markM, ih s t he, Bool.false_or, apartM, List.any_eq_false]
  intro i hi
  have hh := h s t he i (List.mem_range.1 hi)
  generalize (R.getD s []).getD i (0, 0) = x at *
  generalize (R.getD t []).getD i (0, 0) = y at *
  simp only [apX, hh.1, ne_eq, not_true_eq_false, decide_false, Bool.false_or, Bool.and_eq_true, decide_eq_true_eq, not_and]
  intro h1 h2
  rw [ih _ _ (hh.2 h1 h2)]; decide
theorem getD_beside_left (A B : RR) (x : Nat) (h : x < A.length) : (besideR A B).getD x [] = A.getD x [] := getD_left _ _ _ _ h
theorem getD_beside_right (A B : RR) (x : Nat) (h : x < B.length) : (besideR A B).getD (A.length + x) [] = shiftE A.length (B.getD x []) := by
 rw [besideR, getD_right, List.getD_eq_getElem?_getD, List.getElem?_map, List.getElem?_eq_getElem h, List.getD_eq_getElem?_getD, List.getElem?_eq_getElem h]; rfl
theorem shiftE_at (n : Nat) (r : List (Int × Int)) (i : Nat) (h : i < r.length) : (shiftE n r).getD i (0, 0) = if 0 ≤ (r.getD i (0, 0)).1 then ((r.getD i (0, 0)).1 + n, (r.getD i (0, 0)).2) else r.getD i (0, 0) := by
 rw [shiftE, List.getD_eq_getElem?_getD, List.getElem?_map, List.getElem?_eq_getElem h, List.getD_eq_getElem?_getD, List.getElem?_eq_getElem h]; rfl
theorem row_len {R : RR} {I O : Nat} (h : OkM R I O) {x : Nat} (hx : x < R.length) : (R.getD x []).length = I := by
 refine h.row _ ?_
 rw [List.getD_eq_getElem?_getD, List.getElem?_eq_getElem hx]; exact List.getElem_mem hx
theorem setE_len (R : RR) (s i : Int) (e : Int × Int) : (setE R s i e).length = R.length := by simp [setE]
theorem setE_row (R : RR) (s i : Nat) (e : Int × Int) (hs : s < R.length) (x : Nat) : ((setE R s i e).getD x []).length = (R.getD x []).length := by
 rw [setE, Int.toNat_natCast, getD_set _ _ _ _ _ hs]
 split
 ·rename_i q; rw [q, List.length_set]
 ·rfl
theorem extra_same {R : RR} {I O : Nat} (h : OkM R I O) {s i t : Nat} (hs : s < R.length) (hi : i < I) (ht : t < R.length) (hst : t ≠ s) (hd : (edR R s i).1 ≠ -1) (A : RR)
  (hA : A = setE R s i ((t : Int), (edR R s i).2)) (k : Nat) : markM I (besideR A (applyR R ⟨3, s, i, t, 0, 0⟩)) k 0 A.length = false := by
 have hT : applyR R ⟨3, s, i, t, 0, 0⟩ = setE (R ++ [R.getD t []]) s i ((R.length : Int), (edR R s i).2) := rfl
 rw [hT]
 have hAl : A.length = R.length := by rw [hA, setE_len]
 have hTl : (setE (R ++ [R.getD t []]) s i ((R.length : Int), (edR R s i).2)).length = R.length + 1 := by rw [setE_len]; simp
 have hsl : s < (R ++ [R.getD t []]).length := by simp; omega
 have e1 : ∀ x j : Nat, edR A x j = if x = s ∧ j = i then ((t : Int), (edR R s i).2) else edR R x j := fun x j => by
  rw [hA]; exact edR_setE R s i _ hs (by rw [row_len h hs]; exact hi) x j
 have e2 : ∀ x j : Nat, edR (setE (R ++ [R.getD t []]) s i ((R.length : Int), (edR R s i).2)) x j = if x = s ∧ j = i then ((R.length : Int), (edR R s i).2) else edR (R ++ [R.getD t []]) x j := fun x j =>
  edR_setE _ s i _ hsl (by rw [getD_left _ _ _ _ hs, row_len h hs]; exact hi) x j
 have e3 : ∀ x j : Nat, x < R.length → edR (R ++ [R.getD t []]) x j = edR R x j := fun x j hx => by rw [edR_nat, edR_nat, getD_left _ _ _ _ hx]
 have e4 : ∀ j : Nat, edR (R ++ [R.getD t []]) R.length j = edR R t j := fun j => by
  rw [edR_nat, edR_nat]
  have := getD_right R [R.getD t []] 0 []
  rw [Nat.add_zero] at this
  rw [this]; rfl
 have r1 : ∀ x, x < R.length + 1 → ((setE (R ++ [R.getD t []]) s i ((R.length : Int), (edR R s i).2)).getD x []).length = I := fun x hx => by
  rw [setE_row _ _ _ _ hsl]
  rcases Nat.lt_or_ge x R.length with q|q
  ·rw [getD_left _ _ _ _ q, row_len h q]
  ·obtain rfl : x = R.length := by omega
   have := getD_right R [R.getD t []] 0 []
   rw [Nat.add_zero] at this
   rw [this]; exact row_len h ht
 generalize setE (R ++ [R.getD t []]) s i ((R.length : Int), (edR R s i).2) = T at *
 refine mark_rel (E := fun x y => (x < R.length ∧ y = R.length + x) ∨ (x = t ∧ y = R.length + R.length)) ?_ k 0 A.length (.inl ⟨by omega, by omega⟩)
 have step : ∀ x z : Nat, x < R.length → z < R.length + 1 → ∀ j, j < I → (∀ p q : Int × Int, edR A x j = p → edR T z j = q → p.2 = q.2 ∧ (p.1 = -1 ∧ q.1 = -1 ∨ 0 ≤ p.1 ∧ p.1 < R.length ∧ 0 ≤ q.1 ∧ (q.1 = p.1 ∨ p.1 = t ∧ q.1 = R.length))) →
   (((besideR A T).getD x []).getD j (0, 0)).2 = (((besideR A T).getD (R.length + z) []).getD j (0, 0)).2 ∧
   (0 ≤ (((besideR A T).getD x []).getD j (0, 0)).1 → 0 ≤ (((besideR A T).getD (R.length + z) []).getD j (0, 0)).1 →
    ((((besideR A T).getD x []).getD j (0, 0)).1.toNat < R.length ∧ (((besideR A T).getD (R.length + z) []).getD j (0, 0)).1.toNat = R.length + (((besideR A T).getD x []).getD j (0, 0)).1.toNat) ∨
    ((((besideR A T).getD x []).getD j (0, 0)).1.toNat = t ∧ (((besideR A T).getD (R.length + z) []).getD j (0, 0)).1.toNat = R.length + R.length)) := by
  intro x z hx hz j hj hh
  have hh := hh _ _ rfl rfl
  rw [getD_beside_left _ _ _ (by omega), ← hAl, getD_beside_right _ _ _ (by omega), shiftE_at _ _ _ (by rw [r1 z hz]; exact hj), ← edR_nat, ← edR_nat]
  generalize edR A x j = p at *
  generalize edR T z j = q at *
  rcases hh.2 with q1|q1
  ·rw [if_neg (by omega)]
   refine ⟨hh.1, fun w => by omega⟩
  ·rw [if_pos q1.2.2.1]
   refine ⟨hh.1, fun _ _ => ?_⟩
   simp only
   omega
 have good : ∀ x j : Nat, x < R.length → j < I → edR R x j = (-1, -1) ∨ (0 ≤ (edR R x j).1 ∧ (edR R x j).1 < R.length) := fun x j hx hj => by
  rcases edR_mem h (s := x) (i := j) (by omega) (by omega) (by omega) (by omega) with q|q
  ·exact .inl q
  ·exact .inr ⟨q.1, q.2.1⟩
 rintro x y (⟨hx, rfl⟩|⟨rfl, rfl⟩) j hj
 ·refine step x x hx (by omega) j hj ?_
  intro p q hp hq
  rw [e1] at hp
  rw [e2, e3 x j hx] at hq
  by_cases c : x = s ∧ j = i
  ·rw [if_pos c] at hp hq
   subst hp; subst hq
   exact ⟨rfl, .inr ⟨(by omega : (0 : Int) ≤ (t : Int)), (by omega : (t : Int) < R.length), (by omega : (0 : Int) ≤ (R.length : Int)), .inr ⟨rfl, rfl⟩⟩⟩
  ·rw [if_neg c] at hp hq
   subst hp; subst hq
   rcases good x j hx hj with g|g
   ·rw [g]; simp
   ·exact ⟨rfl, .inr ⟨g.1, g.2, g.1, .inl rfl⟩⟩
 ·refine step x R.length ht (by omega) j hj ?_
  intro p q hp hq
  rw [e1, if_neg (by omega)] at hp
  rw [e2, if_neg (by omega), e4] at hq
  subst hp; subst hq
  rcases good x j ht hj with g|g
  ·rw [g]; simp
  ·exact ⟨rfl, .inr ⟨g.1, g.2, g.1, .inl rfl⟩⟩
theorem setE_self {R : RR} {I O : Nat} (h : OkM R I O) {s i : Nat} (hs : s < R.length) (hi : i < I) : setE R s i (edR R s i) = R := by
 rw [setE, edR_nat]
 simp only [Int.toNat_natCast]
 have hr : R.getD s [] = R[s] := by rw [List.getD_eq_getElem?_getD, List.getElem?_eq_getElem hs]; rfl
 have hl := row_len h hs
 have he : (R.getD s []).getD i (0, 0) = (R.getD s [])[i]'(by omega) := by rw [List.getD_eq_getElem?_getD, List.getElem?_eq_getElem (by omega)]; rfl
 rw [he, List.set_getElem_self, hr, List.set_getElem_self]
theorem extra_here {R : RR} {I O : Nat} (h : OkM R I O) {s i t : Nat} (hs : s < R.length) (hi : i < I) (ht : t < R.length) (hst : t ≠ s) (he : (edR R s i).1 = t) (k : Nat) : markM I (besideR R (applyR R ⟨3, s, i, t, 0, 0⟩)) k 0 R.length = false :=
 extra_same h hs hi ht hst (by omega) R (by rw [← he]; exact (setE_self h hs hi).symm) k
end Go.Proofs
