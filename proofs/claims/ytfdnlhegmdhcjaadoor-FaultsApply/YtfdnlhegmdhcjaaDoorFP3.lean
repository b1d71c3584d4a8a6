/- Faults: what they are, all of them: plain. -/
namespace Go.Proofs
structure Flt where
 k : Int
 s : Int
 i : Int
 t : Int
 a : Int
 o : Int
 deriving DecidableEq
def edR (R : List (List (Int × Int))) (s i : Int) : Int × Int := (R.getD s.toNat []).getD i.toNat (0, 0)
def defR (R : List (List (Int × Int))) (I : Nat) (s i : Int) : Bool := decide (0 ≤ s) && (decide (s < R.length) && (decide (0 ≤ i) && (decide (i < I) && !decide ((edR R s i).1 = -1))))
def inN (x : Int) (n : Nat) : Bool := decide (0 ≤ x) && decide (x < n)
def isF (R : List (List (Int × Int))) (I O : Nat) (f : Flt) : Bool :=
 defR R I f.s f.i &&
 (if f.k = 0 then decide (f.t = 0) && (decide (f.a = 0) && (inN f.o O && !decide (f.o = (edR R f.s f.i).2)))
  else if f.k = 1 then decide (f.a = 0) && (decide (f.o = 0) && (inN f.t R.length && !decide (f.t = (edR R f.s f.i).1)))
  else if f.k = 2 then decide (f.t = 0) && (decide (f.a = 0) && decide (f.o = 0))
  else if f.k = 3 then decide (f.a = 0) && (decide (f.o = 0) && inN f.t R.length)
  else if f.k = 4 then decide (f.t = 0) && (defR R I (edR R f.s f.i).1 f.a && (inN f.o O && !decide (f.o = (edR R (edR R f.s f.i).1 f.a).2)))
  else false)
def ofF (R : List (List (Int × Int))) (I O : Nat) (k s i : Int) : List Flt :=
 if k = 0 then (List.range O).flatMap fun (o : Nat) => if (o : Int) = (edR R s i).2 then [] else [⟨k, s, i, 0, 0, o⟩]
 else if k = 1 then (List.range R.length).flatMap fun (t : Nat) => if (t : Int) = (edR R s i).1 then [] else [⟨k, s, i, t, 0, 0⟩]
 else if k = 2 then [⟨k, s, i, 0, 0, 0⟩]
 else if k = 3 then (List.range R.length).flatMap fun (t : Nat) => [⟨k, s, i, t, 0, 0⟩]
 else if k = 4 then (List.range I).flatMap fun (a : Nat) => (List.range O).flatMap fun (o : Nat) => if (edR R (edR R s i).1 a).1 = -1 ∨ (o : Int) = (edR R (edR R s i).1 a).2 then [] else [⟨k, s, i, 0, a, o⟩]
 else []
def edgF (R : List (List (Int × Int))) (I O : Nat) (k : Int) : List Flt :=
 (List.range R.length).flatMap fun (s : Nat) => (List.range I).flatMap fun (i : Nat) => if defR R I s i = true then ofF R I O k s i else []
def allF (R : List (List (Int × Int))) (I O : Nat) (ks : List Int) : List Flt := ks.flatMap (edgF R I O)
def isL (R : List (List (Int × Int))) (I O : Nat) (f : Flt) : List Flt := if isF R I O f = true then [f] else []
def refF (R : List (List (Int × Int))) (I O : Nat) (ks : List Int) : List Flt :=
 ks.flatMap fun k => (List.range R.length).flatMap fun (s : Nat) => (List.range I).flatMap fun (i : Nat) => (List.range R.length).flatMap fun (t : Nat) => (List.range I).flatMap fun (a : Nat) => (List.range O).flatMap fun (o : Nat) => isL R I O ⟨k, s, i, t, a, o⟩
structure OkM (R : List (List (Int × Int))) (I O : Nat) : Prop where
 n1 : 1 ≤ R.length
 i1 : 1 ≤ I
 o1 : 1 ≤ O
 row : ∀ r ∈ R, r.length = I
 ed : ∀ r ∈ R, ∀ e ∈ r, e = (-1, -1) ∨ (0 ≤ e.1 ∧ e.1 < R.length ∧ 0 ≤ e.2 ∧ e.2 < O)
theorem edR_mem {R : List (List (Int × Int))} {I O : Nat} (h : OkM R I O) {s i : Int} (h0 : 0 ≤ s) (h1 : s < R.length) (h2 : 0 ≤ i) (h3 : i < I) :
  edR R s i = (-1, -1) ∨ (0 ≤ (edR R s i).1 ∧ (edR R s i).1 < R.length ∧ 0 ≤ (edR R s i).2 ∧ (edR R s i).2 < O) := by
 have hs : s.toNat < R.length := by omega
 have hm : R.getD s.toNat [] ∈ R := by rw [List.getD_eq_getElem?_getD, List.getElem?_eq_getElem hs]; exact List.getElem_mem hs
 have hl := h.row _ hm
 have hi : i.toNat < (R.getD s.toNat []).length := by omega
 refine h.ed _ hm _ ?_
 unfold edR
 rw [List.getD_eq_getElem?_getD (l := R.getD s.toNat []), List.getElem?_eq_getElem hi]
 exact List.getElem_mem hi
theorem defR_iff {R : List (List (Int × Int))} {I : Nat} {s i : Int} : defR R I s i = true ↔ 0 ≤ s ∧ s < R.length ∧ 0 ≤ i ∧ i < I ∧ (edR R s i).1 ≠ -1 := by
 simp [defR]
end Go.Proofs
namespace Go.Proofs
theorem range_flat {β : Type} (f : Nat → List β) : ∀ n, (List.range (n + 1)).flatMap f = (List.range n).flatMap f ++ f n := fun n => by
 rw [List.range_succ, List.flatMap_append, List.flatMap_cons, List.flatMap_nil, List.append_nil]
def cntRow (R : List (List (Int × Int))) (I : Nat) (s k : Nat) : Nat := ((List.range k).flatMap fun (i : Nat) => if defR R I s i = true then [()] else []).length
def cntE (R : List (List (Int × Int))) (I : Nat) (k : Nat) : Nat := ((List.range k).flatMap fun (s : Nat) => (List.range I).flatMap fun (i : Nat) => if defR R I s i = true then [()] else []).length
def ltF (f g : Flt) : Prop := f.k < g.k ∨ f.k = g.k ∧ (f.s < g.s ∨ f.s = g.s ∧ (f.i < g.i ∨ f.i = g.i ∧ (f.t < g.t ∨ f.t = g.t ∧ (f.a < g.a ∨ f.a = g.a ∧ f.o < g.o))))
def lv4 (R : List (List (Int × Int))) (I O : Nat) (k s i t : Int) : List Flt := (List.range I).flatMap fun (a : Nat) => (List.range O).flatMap fun (o : Nat) => isL R I O ⟨k, s, i, t, a, o⟩
def lv3 (R : List (List (Int × Int))) (I O : Nat) (k s i : Int) : List Flt := (List.range R.length).flatMap fun (t : Nat) => lv4 R I O k s i t
def lv2 (R : List (List (Int × Int))) (I O : Nat) (k s : Int) : List Flt := (List.range I).flatMap fun (i : Nat) => lv3 R I O k s i
def lv1 (R : List (List (Int × Int))) (I O : Nat) (k : Int) : List Flt := (List.range R.length).flatMap fun (s : Nat) => lv2 R I O k s
def cmpI (a b : Int) : Int := if a < b then -1 else if b < a then 1 else 0
def cmpF (f g : Flt) : Int :=
 if cmpI f.k g.k ≠ 0 then cmpI f.k g.k else if cmpI f.s g.s ≠ 0 then cmpI f.s g.s else if cmpI f.i g.i ≠ 0 then cmpI f.i g.i
 else if cmpI f.t g.t ≠ 0 then cmpI f.t g.t else if cmpI f.a g.a ≠ 0 then cmpI f.a g.a else cmpI f.o g.o
end Go.Proofs
namespace Go.Proofs
set_option linter.unusedVariables false
abbrev RR := List (List (Int × Int))
def newE (R : RR) (f : Flt) : Int × Int :=
 if f.k = 0 then ((edR R f.s f.i).1, f.o) else if f.k = 1 then (f.t, (edR R f.s f.i).2) else if f.k = 2 then (-1, -1) else ((R.length : Int), (edR R f.s f.i).2)
def newR (R : RR) (f : Flt) : RR :=
 if f.k = 3 then [R.getD f.t.toNat []]
 else if f.k = 4 then [(R.getD (edR R f.s f.i).1.toNat []).set f.a.toNat ((edR R (edR R f.s f.i).1 f.a).1, f.o)]
 else []
def setE (R : RR) (s i : Int) (e : Int × Int) : RR := R.set s.toNat ((R.getD s.toNat []).set i.toNat e)
def applyR (R : RR) (f : Flt) : RR := setE (R ++ newR R f) f.s f.i (newE R f)
theorem getD_set {α : Type} (l : List α) (j k : Nat) (x d : α) (h : j < l.length) : (l.set j x).getD k d = if k = j then x else l.getD k d := by
 by_cases e : k = j
 ·subst e; rw [if_pos rfl, List.getD_eq_getElem?_getD, List.getElem?_set_self h]; rfl
 ·rw [if_neg e, List.getD_eq_getElem?_getD, List.getElem?_set_ne (fun q => e q.symm), List.getD_eq_getElem?_getD]
theorem getD_left {α : Type} (l r : List α) (k : Nat) (d : α) (h : k < l.length) : (l ++ r).getD k d = l.getD k d := by
 rw [List.getD_eq_getElem?_getD, List.getElem?_append_left h, List.getD_eq_getElem?_getD]
theorem getD_right {α : Type} (l r : List α) (k : Nat) (d : α) : (l ++ r).getD (l.length + k) d = r.getD k d := by
 rw [List.getD_eq_getElem?_getD, List.getElem?_append_right (by omega), Nat.add_sub_cancel_left, List.getD_eq_getElem?_getD]
theorem edR_nat (R : RR) (x j : Nat) : edR R x j = (R.getD x []).getD j (0, 0) := rfl
def apX (mk : Nat → Nat → Bool) (x y : Int × Int) : Bool := decide (x.2 ≠ y.2) || (decide (0 ≤ x.1) && (decide (0 ≤ y.1) && mk x.1.toNat y.1.toNat))
def apartM (I : Nat) (R : RR) (mk : Nat → Nat → Bool) (s t : Nat) : Bool := (List.range I).any fun i => apX mk ((R.getD s []).getD i (0, 0)) ((R.getD t []).getD i (0, 0))
def markM (I : Nat) (R : RR) : Nat → Nat → Nat → Bool
 | 0, _, _ => false
 | k + 1, s, t => markM I R k s t || apartM I R (markM I R k) s t
def shiftE (n : Nat) (r : List (Int × Int)) : List (Int × Int) := r.map fun e => if 0 ≤ e.1 then (e.1 + n, e.2) else e
def besideR (A B : RR) : RR := A ++ B.map (shiftE A.length)
theorem row_len {R : RR} {I O : Nat} (h : OkM R I O) {x : Nat} (hx : x < R.length) : (R.getD x []).length = I := by
 refine h.row _ ?_
 rw [List.getD_eq_getElem?_getD, List.getElem?_eq_getElem hx]; exact List.getElem_mem hx
theorem setE_len (R : RR) (s i : Int) (e : Int × Int) : (setE R s i e).length = R.length := by simp [setE]
end Go.Proofs
