import Derived.Test.YtbgdagokjfmcbaaDoorD40
import Derived.Test.YtbgdagokjfmcbaaDoorD38
namespace Go.Proofs
open Go Go.V
set_option linter.unusedVariables false
set_option linter.unusedSimpArgs false
def SortE (ed : List Ed) : Prop := List.Pairwise (fun x y => behindM y x = true) ed
theorem behindM_trans {x y z : Ed} (h : behindM y x = true) (k : behindM z y = true) : behindM z x = true := by
 rw [behindM_iff] at *
 omega
theorem checkP_zero {p : Pt} (h : checkP p = 0) : headK p 2 = true ∧ ∀ k, k < p.ed.length → okAt p k = true := by
 unfold checkP at h
 split at h
 ·assumption
 ·omega
theorem okX_of {p : Pt} {b : Bool} {x y : Ed} (h : okX p b x y = true) : (0 ≤ x.s ∧ x.s < max p.s0 p.s1 ∧ 0 ≤ x.i ∧ x.i < p.inp ∧ x.old ≠ x.new) ∧ sideM x.s x.old p.s0 p.o0 = true ∧ sideM x.s x.new p.s1 p.o1 = true ∧ (b = false → behindM x y = true) := by
 simp only [okX, Bool.and_eq_true, Bool.not_eq_true', Bool.or_eq_false_iff, decide_eq_false_iff_not] at h
 obtain ⟨⟨⟨⟨⟨⟨⟨h1, h2⟩, h3⟩, h4⟩, h5⟩, h6⟩, h7⟩, h8⟩ := h
 refine ⟨⟨by omega, by split at h2 <;> omega, by omega, by omega, fun he => ?_⟩, h6, h7, fun hb => ?_⟩
 ·rw [he] at h5; simp at h5
 ·rw [hb, Bool.false_or] at h8; exact h8
theorem checkP_mem {p : Pt} (h : checkP p = 0) {x : Ed} (hx : x ∈ p.ed) : (0 ≤ x.s ∧ x.s < max p.s0 p.s1 ∧ 0 ≤ x.i ∧ x.i < p.inp ∧ x.old ≠ x.new) ∧ sideM x.s x.old p.s0 p.o0 = true ∧ sideM x.s x.new p.s1 p.o1 = true := by
 obtain ⟨k, hk, rfl⟩ := List.getElem_of_mem hx
 have h1 := (checkP_zero h).2 k hk
 rw [okAt, List.getD_eq_getElem?_getD, List.getElem?_eq_getElem hk] at h1
 have h2 := okX_of h1
 exact ⟨h2.1, h2.2.1, h2.2.2.1⟩
theorem checkP_sort {p : Pt} (h : checkP p = 0) : SortE p.ed := by
 have hs : ∀ k, k + 1 < p.ed.length → behindM (p.ed.getD (k + 1) xD) (p.ed.getD k xD) = true := fun k hk => by
  have h1 := (checkP_zero h).2 (k + 1) hk
  rw [okAt] at h1
  exact (okX_of h1).2.2.2 (decide_eq_false (by omega))
 have hl : ∀ d k, k + d + 1 < p.ed.length → behindM (p.ed.getD (k + d + 1) xD) (p.ed.getD k xD) = true := by
  intro d
  induction d with
  | zero => intro k hk; exact hs k hk
  | succ d ih => intro k hk; exact behindM_trans (ih k (by omega)) (hs (k + d + 1) hk)
 rw [SortE, List.pairwise_iff_getElem]
 intro i j hi hj hij
 have := hl (j - i - 1) i (by omega)
 rw [show i + (j - i - 1) + 1 = j by omega] at this
 simpa [hi, hj] using this
theorem isAt_iff (s i : Int) (x : Ed) : isAt s i x = true ↔ x.s = s ∧ x.i = i := by simp [isAt]
theorem find_self {ed : List Ed} (h : SortE ed) {x : Ed} (hx : x ∈ ed) : ed.find? (isAt x.s x.i) = some x := by
 induction ed with
 | nil => cases hx
 | cons y ed ih =>
  obtain ⟨h1, h2⟩ := List.pairwise_cons.1 h
  rw [List.find?_cons]
  rcases List.mem_cons.1 hx with rfl | q
  ·rw [(isAt_iff _ _ _).2 ⟨rfl, rfl⟩]
  ·have hb := (behindM_iff x y).1 (h1 x q)
   have : isAt x.s x.i y = false := by
    rw [Bool.eq_false_iff]; intro hh
    have := (isAt_iff _ _ _).1 hh
    omega
   rw [this]
   exact ih h2 q
theorem findM_find (l : List Ed) (s i : Int) : (l.find? (isAt s i) = none ∧ findM l s i = -1) ∨ ∃ k : Nat, k < l.length ∧ l.find? (isAt s i) = some (l.getD k eD) ∧ findM l s i = k := by
 unfold findM
 cases h : l.findIdx? (isAt s i) with
 | none =>
  refine .inl ⟨?_, rfl⟩
  rw [List.findIdx?_eq_none_iff] at h
  rw [List.find?_eq_none]
  intro x hx
  rw [h x hx]; simp
 | some k =>
  obtain ⟨h1, h2, h3⟩ := List.findIdx?_eq_some_iff_getElem.1 h
  refine .inr ⟨k, h1, ?_, rfl⟩
  rw [List.find?_eq_some_iff_getElem]
  rw [List.getD_eq_getElem?_getD, List.getElem?_eq_getElem h1]
  exact ⟨h2, k, h1, rfl, fun j hj => by simpa using h3 j hj⟩
def cellR (R : Rs) (s i : Nat) : Edg := (R.getD s []).getD i (0, 0)
theorem cellR_set {I : Nat} {R : Rs} (hw : WideR I R) {s i a b : Nat} (hs : s < R.length) (hi : i < I) (e : Edg) : cellR (R.set s ((R.getD s []).set i e)) a b = if a = s ∧ b = i then e else cellR R a b := by
 have hl := hw s hs
 unfold cellR
 rw [List.getD_eq_getElem?_getD (l := R.set s _), List.getElem?_set]
 by_cases has : s = a
 ·subst has
  rw [if_pos rfl, if_pos hs, Option.getD_some, List.getD_eq_getElem?_getD, List.getElem?_set]
  by_cases hib : i = b
  ·subst hib
   rw [if_pos rfl, if_pos (by omega), if_pos ⟨rfl, rfl⟩]; rfl
  ·rw [if_neg hib, if_neg (by omega), ← List.getD_eq_getElem?_getD]
 ·rw [if_neg has, if_neg (by omega), ← List.getD_eq_getElem?_getD]
def valL (R : Rs) (ed : List Ed) (s i : Nat) : Edg := match ed.find? (isAt s i) with | some x => x.new | none => cellR R s i
theorem goL_some {I : Nat} : ∀ (ed : List Ed) (R : Rs), WideR I R → SortE ed → (∀ x ∈ ed, 0 ≤ x.s ∧ x.s < R.length ∧ 0 ≤ x.i ∧ x.i < I) → (∀ x ∈ ed, cellR R x.s.toNat x.i.toNat = x.old) →
  ∃ T, goL R ed = some T ∧ T.length = R.length ∧ WideR I T ∧ ∀ s i, cellR T s i = valL R ed s i
 | [], R, hw, _, _, _ => ⟨R, rfl, rfl, hw, fun s i => rfl⟩
 | x :: ed, R, hw, hs, hr, ho => by
  obtain ⟨h1, h2⟩ := List.pairwise_cons.1 hs
  obtain ⟨r1, r2, r3, r4⟩ := hr x (List.mem_cons_self ..)
  have hst := stepA_yes (R := R) (x := x) (ho x (List.mem_cons_self ..))
  have hl := stepA_len hst
  have hw2 := stepA_wide hst hw
  have hc := fun a b => cellR_set (a := a) (b := b) hw (s := x.s.toNat) (i := x.i.toNat) (by omega) (by omega) x.new
  have hne : ∀ y ∈ ed, ¬ (y.s.toNat = x.s.toNat ∧ y.i.toNat = x.i.toNat) := fun y hy => by
   have hb := (behindM_iff y x).1 (h1 y hy)
   have := hr y (List.mem_cons_of_mem _ hy)
   omega
  generalize (R.set x.s.toNat ((R.getD x.s.toNat []).set x.i.toNat x.new)) = T at *
  obtain ⟨U, u1, u2, u3, u4⟩ := goL_some ed T hw2 h2 (fun y hy => by rw [hl]; exact hr y (List.mem_cons_of_mem _ hy)) (fun y hy => by
   rw [hc, if_neg (hne y hy)]; exact ho y (List.mem_cons_of_mem _ hy))
  refine ⟨U, by rw [goL, hst]; exact u1, by omega, u3, fun s i => ?_⟩
  rw [u4, valL, valL, List.find?_cons]
  cases hx : isAt s i x with
  | true =>
   have hx := (isAt_iff _ _ _).1 hx
   have : ed.find? (isAt s i) = none := by
    rw [List.find?_eq_none]
    intro y hy hh
    have hh := (isAt_iff _ _ _).1 hh
    exact hne y hy (by omega)
   rw [this]
   dsimp only
   rw [hc, if_pos (by omega)]
  | false =>
   cases hf : ed.find? (isAt s i) with
   | some y => rfl
   | none =>
    dsimp only
    rw [hc, if_neg]
    rintro ⟨rfl, rfl⟩
    rw [Bool.eq_false_iff] at hx
    exact hx ((isAt_iff _ _ _).2 (by omega))
theorem goL_none {I : Nat} : ∀ (ed : List Ed) (R : Rs), WideR I R → SortE ed → (∀ x ∈ ed, 0 ≤ x.s ∧ x.s < R.length ∧ 0 ≤ x.i ∧ x.i < I) → ∀ y ∈ ed, cellR R y.s.toNat y.i.toNat ≠ y.old → goL R ed = none
 | [], R, _, _, _, y, hy, _ => by cases hy
 | x :: ed, R, hw, hs, hr, y, hy, ho => by
  obtain ⟨h1, h2⟩ := List.pairwise_cons.1 hs
  obtain ⟨r1, r2, r3, r4⟩ := hr x (List.mem_cons_self ..)
  rw [goL]
  by_cases hx : cellR R x.s.toNat x.i.toNat = x.old
  ·have hst := stepA_yes (R := R) (x := x) hx
   have hl := stepA_len hst
   have hw2 := stepA_wide hst hw
   have hc := fun a b => cellR_set (a := a) (b := b) hw (s := x.s.toNat) (i := x.i.toNat) (by omega) (by omega) x.new
   rcases List.mem_cons.1 hy with rfl | q
   ·exact absurd hx ho
   have hb := (behindM_iff y x).1 (h1 y q)
   have := hr y hy
   rw [hst, Option.bind_some]
   refine goL_none ed _ hw2 h2 (fun y hy => by rw [hl]; exact hr y (List.mem_cons_of_mem _ hy)) y q ?_
   rw [hc, if_neg (by omega)]; exact ho
  ·have : stepA R x = none := if_neg hx
   rw [this]; rfl
theorem stepR_none {l : List Row} {p : Pt} {s i : Nat} (h : p.ed.find? (isAt s i) = none) : stepR l p s i = if sideM s (edgeM l s i) p.s1 p.o1 = true then some (edgeM l s i) else none := by
 unfold stepR
 rcases findM_find p.ed s i with ⟨h1, h2⟩ | ⟨k, h1, h2, h3⟩
 ·rw [h2]; rfl
 ·rw [h] at h2; cases h2
theorem stepR_some {l : List Row} {p : Pt} {s i : Nat} {x : Ed} (h : p.ed.find? (isAt s i) = some x) : stepR l p s i = if x.old = edgeM l s i then if sideM s x.new p.s1 p.o1 = true then some x.new else none else none := by
 unfold stepR
 rcases findM_find p.ed s i with ⟨h1, h2⟩ | ⟨k, h1, h2, h3⟩
 ·rw [h] at h1; cases h1
 ·rw [h] at h2
  injection h2 with h2
  rw [h3, if_pos (by omega), Int.toNat_natCast, ← h2]
theorem rowR_yes {l : List Row} {p : Pt} {s : Nat} {f : Nat → Edg} : ∀ n, (∀ i, i < n → stepR l p s i = some (f i)) → rowR l p s n = some ((List.range n).map f)
 | 0, _ => rfl
 | n + 1, h => by
  rw [rowR, rowR_yes n (fun i hi => h i (by omega)), Option.bind_some, h n (by omega), Option.map_some, List.range_succ, List.map_append]; rfl
theorem rowR_no {l : List Row} {p : Pt} {s i : Nat} (h : stepR l p s i = none) {n : Nat} (hn : i < n) : rowR l p s n = none := by
 refine rowR_none (i := i + 1) ?_ n hn
 rw [rowR, h]
 cases rowR l p s i <;> rfl
theorem refA_yes {l : List Row} {p : Pt} {I n1 : Nat} {f : Nat → Nat → Edg} (h1 : p.s1 = n1) : ∀ S, (∀ s i, s < S → i < I → stepR l p s i = some (f s i)) → refA l p I S = some ((List.range (min S n1)).map fun s => (List.range I).map (f s))
 | 0, _ => by simp [refA]
 | S + 1, h => by
  rw [refA, refA_yes h1 S (fun s i hs hi => h s i (by omega) hi), Option.bind_some, rowR_yes (f := f S) I (fun i hi => h S i (by omega) hi), Option.map_some]
  by_cases hlt : (S : Int) < p.s1
  ·rw [if_pos hlt, show min (S + 1) n1 = min S n1 + 1 by omega, List.range_succ, List.map_append]
   rw [show min S n1 = S by omega]; rfl
  ·rw [if_neg hlt, show min (S + 1) n1 = min S n1 by omega]
theorem refA_no {l : List Row} {p : Pt} {I s i : Nat} (h : stepR l p s i = none) (hi : i < I) {S : Nat} (hS : s < S) : refA l p I S = none := by
 refine refA_none (s := s + 1) ?_ S hS
 rw [refA, rowR_no h hi]
 cases refA l p I s <;> rfl
theorem cellR_rows0 {l : List Row} {I S s i : Nat} (hs : s < S) (hi : i < I) : cellR (rows0 l I S) s i = edgeM l s i := by simp [cellR, rows0, rowE, hs, hi]
theorem rows_ext {I : Nat} {R : Rs} (hw : WideR I R) {n : Nat} (hn : R.length = n) {f : Nat → Nat → Edg} (h : ∀ s i, s < n → i < I → cellR R s i = f s i) : R = (List.range n).map fun s => (List.range I).map (f s) := by
 refine List.ext_getElem (by simp [hn]) fun a h1 h2 => ?_
 have hla := hw a h1
 have ha : R.getD a [] = R[a] := by rw [List.getD_eq_getElem?_getD, List.getElem?_eq_getElem h1]; rfl
 rw [ha] at hla
 simp only [List.getElem_map, List.getElem_range]
 refine List.ext_getElem (by simp [hla]) fun b g1 g2 => ?_
 simp only [List.getElem_map, List.getElem_range]
 rw [← h a b (by omega) (by omega), cellR, ha, List.getD_eq_getElem?_getD, List.getElem?_eq_getElem g1]; rfl
theorem applyM_ref {I : Nat} {l : List Row} {p : Pt} (hc : checkP p = 0) (hI : p.inp = I) : applyM I l p = match refA l p I (max p.s0 p.s1).toNat with | some R => (R, 0) | none => ([], 18) := by
 have hh := (headK_iff p).1 (checkP_zero hc).1
 obtain ⟨S, hS⟩ : ∃ S : Nat, S = (max p.s0 p.s1).toNat := ⟨_, rfl⟩
 obtain ⟨n1, h1⟩ : ∃ n1 : Nat, p.s1 = n1 := ⟨p.s1.toNat, by omega⟩
 unfold applyM
 rw [goA_all, Int.toNat_natCast, ← hS]
 have hs := checkP_sort hc
 have hw := rows0_wide l I S
 have hr : ∀ x ∈ p.ed, 0 ≤ x.s ∧ x.s < (rows0 l I S).length ∧ 0 ≤ x.i ∧ x.i < I := fun x hx => by
  have := (checkP_mem hc hx).1
  rw [rows0_len]; omega
 have hat : ∀ x ∈ p.ed, cellR (rows0 l I S) x.s.toNat x.i.toNat = edgeM l x.s x.i := fun x hx => by
  have := hr x hx
  rw [rows0_len] at this
  rw [cellR_rows0 (by omega) (by omega), show ((x.s.toNat : Nat) : Int) = x.s by omega, show ((x.i.toNat : Nat) : Int) = x.i by omega]
 by_cases ho : ∀ x ∈ p.ed, cellR (rows0 l I S) x.s.toNat x.i.toNat = x.old
 ·obtain ⟨T, t1, t2, t3, t4⟩ := goL_some p.ed _ hw hs hr ho
  rw [rows0_len] at t2
  rw [t1]
  have hst : ∀ s i, s < S → i < I → stepR l p s i = if sideM s (cellR T s i) p.s1 p.o1 = true then some (cellR T s i) else none := fun s i hs hi => by
   rw [t4, valL]
   cases hf : p.ed.find? (isAt s i) with
   | none => rw [stepR_none hf, cellR_rows0 hs hi]
   | some x =>
    rw [stepR_some hf, if_pos]
    have hx := List.mem_of_find?_eq_some hf
    have hx2 := (isAt_iff _ _ _).1 (List.find?_some hf)
    rw [← ho x hx, hat x hx, hx2.1, hx2.2]
  by_cases hF : ∀ s i, s < S → i < I → sideM s (cellR T s i) p.s1 p.o1 = true
  ·have h2 : fitsAll T p = true := fitsAll_yes t3 fun s j hs hj => hF s j (by omega) hj
   rw [refA_yes (f := cellR T) h1 S fun s i hs hi => by rw [hst s i hs hi, if_pos (hF s i hs hi)]]
   dsimp only
   rw [applyT, if_pos h2, h1, Int.toNat_natCast]
   congr 1
   have hmin : min S n1 = n1 := by omega
   rw [hmin]
   refine rows_ext (fun s hs => ?_) (by rw [List.length_take]; omega) fun s i hs hi => ?_
   ·rw [List.length_take] at hs
    have := t3 s (by omega)
    rwa [List.getD_eq_getElem?_getD, List.getElem?_take_of_lt (by omega), ← List.getD_eq_getElem?_getD]
   ·rw [cellR, cellR, List.getD_eq_getElem?_getD (l := T.take n1), List.getElem?_take_of_lt (by omega), ← List.getD_eq_getElem?_getD]
  ·have ⟨s, hF⟩ := Classical.not_forall.1 hF
   have ⟨i, hF⟩ := Classical.not_forall.1 hF
   have ⟨h3, hF⟩ := Classical.not_forall.1 hF
   have ⟨h4, hF⟩ := Classical.not_forall.1 hF
   have h5 : fitsAll T p = false := fitsAll_no (s := s) (j := i) t3 (by omega) h4 (by simpa [cellR] using hF)
   rw [refA_no (s := s) (i := i) (by rw [hst s i h3 h4, if_neg hF]) h4 h3, applyT, if_neg (by rw [h5]; simp)]
 ·have ⟨x, ho⟩ := Classical.not_forall.1 ho
  have ⟨hx, ho⟩ := Classical.not_forall.1 ho
  rw [goL_none p.ed _ hw hs hr x hx ho]
  have hrx := hr x hx
  rw [rows0_len] at hrx
  have hf := find_self hs hx
  have e1 : ((x.s.toNat : Nat) : Int) = x.s := by omega
  have e2 : ((x.i.toNat : Nat) : Int) = x.i := by omega
  rw [refA_no (s := x.s.toNat) (i := x.i.toNat) ?_ (by omega) (by omega)]
  ·rfl
  ·rw [stepR_some (x := x) (by rw [e1, e2]; exact hf), e1, e2, if_neg]
   intro hh
   exact ho (by rw [hat x hx, hh])
end Go.Proofs
namespace Go.Proofs
open Go Go.V
set_option linter.unusedVariables false
set_option linter.unusedSimpArgs false
def stepT (A B : List Ed) (s i : Nat) : Option (List Ed) :=
 match A.find? (isAt s i), B.find? (isAt s i) with
 | none, none => some []
 | some x, none => some (keepE x)
 | none, some y => some (keepE y)
 | some x, some y => if x.new = y.old then some (keepE ⟨s, i, x.old, y.new⟩) else none
def foldT (f : Nat → Option (List Ed)) : List Nat → Option (List Ed)
 | [] => some []
 | p :: ps => (f p).bind fun a => (foldT f ps).map (a ++ ·)
def accF (A B : List Ed) (I : Nat) : Nat → Option (List Ed)
 | 0 => some []
 | k + 1 => (accF A B I k).bind fun L => (stepT A B (k / I) (k % I)).map (L ++ ·)
theorem foldT_snoc (f : Nat → Option (List Ed)) (q : Nat) : ∀ ps, foldT f (ps ++ [q]) = (foldT f ps).bind fun L => (f q).map (L ++ ·)
 | [] => by
  simp only [List.nil_append, foldT, Option.bind_some, Option.map_some, List.append_nil]
  cases f q <;> simp
 | p :: ps => by
  simp only [List.cons_append, foldT, foldT_snoc f q ps]
  cases f p with
  | none => rfl
  | some a =>
   cases foldT f ps with
   | none => rfl
   | some L => cases f q <;> simp
theorem accF_fold (A B : List Ed) (I : Nat) : ∀ k, accF A B I k = foldT (fun q => stepT A B (q / I) (q % I)) (List.range k)
 | 0 => rfl
 | k + 1 => by rw [accF, accF_fold A B I k, List.range_succ, foldT_snoc]
theorem accF_none {A B : List Ed} {I k : Nat} (h : accF A B I k = none) : ∀ m, k ≤ m → accF A B I m = none := by
 intro m hm
 obtain ⟨d, rfl⟩ : ∃ d, m = k + d := ⟨m - k, by omega⟩
 clear hm
 induction d with
 | zero => exact h
 | succ d ih => rw [← Nat.add_assoc, accF, ih]; rfl
theorem foldT_congr {f g : Nat → Option (List Ed)} : ∀ {ps : List Nat}, (∀ q ∈ ps, f q = g q) → foldT f ps = foldT g ps
 | [], _ => rfl
 | p :: ps, h => by rw [foldT, foldT, h p (List.mem_cons_self ..), foldT_congr fun q hq => h q (List.mem_cons_of_mem _ hq)]
def AtP (I q : Nat) (x : Ed) : Prop := x.s = (q / I : Nat) ∧ x.i = (q % I : Nat)
def InP (I : Nat) (ps : List Nat) (x : Ed) : Prop := ∃ q ∈ ps, AtP I q x
theorem behind_at {I p q : Nat} (hI : 1 ≤ I) {x y : Ed} (hx : AtP I p x) (hy : AtP I q y) : behindM x y = true ↔ q < p := by
 have e : behindM x y = behindM (posE (fun _ => (0, 0)) (fun _ => (0, 0)) I p) (posE (fun _ => (0, 0)) (fun _ => (0, 0)) I q) := by unfold behindM posE; dsimp only; rw [hx.1, hx.2, hy.1, hy.2]
 rw [e]
 constructor
 ·intro h
  rcases Nat.lt_or_ge q p with k | k
  ·exact k
  ·rw [not_behind_pos hI k] at h; cases h
 ·exact fun h => behind_pos hI h
theorem isAt_AtP {I q : Nat} {x : Ed} : isAt (q / I : Nat) (q % I : Nat) x = true ↔ AtP I q x := isAt_iff _ _ _
theorem AtP_inj {I p q : Nat} (hI : 1 ≤ I) {x : Ed} (hp : AtP I p x) (hq : AtP I q x) : p = q := by
 have h1 : p / I = q / I := Int.ofNat_inj.1 (hp.1.symm.trans hq.1)
 have h2 : p % I = q % I := Int.ofNat_inj.1 (hp.2.symm.trans hq.2)
 have := Nat.div_add_mod p I
 have := Nat.div_add_mod q I
 rw [h1, h2] at *
 omega
theorem head_cases {I q : Nat} (hI : 1 ≤ I) {ps : List Nat} (hp : List.Pairwise (· < ·) (q :: ps)) {A : List Ed} (hs : SortE A) (hA : ∀ x ∈ A, InP I (q :: ps) x) :
  (A.find? (isAt (q / I : Nat) (q % I : Nat)) = none ∧ ∀ x ∈ A, InP I ps x) ∨ ∃ x A', A = x :: A' ∧ AtP I q x ∧ SortE A' ∧ ∀ y ∈ A', InP I ps y := by
 obtain ⟨hp1, hp2⟩ := List.pairwise_cons.1 hp
 cases A with
 | nil => exact .inl ⟨rfl, fun x hx => by cases hx⟩
 | cons x A =>
  obtain ⟨hs1, hs2⟩ := List.pairwise_cons.1 hs
  obtain ⟨q0, hq0, hx⟩ := hA x (List.mem_cons_self ..)
  rcases List.mem_cons.1 hq0 with rfl | hq00
  ·refine .inr ⟨x, A, rfl, hx, hs2, fun y hy => ?_⟩
   obtain ⟨q1, hq1, hy1⟩ := hA y (List.mem_cons_of_mem _ hy)
   have := (behind_at hI hy1 hx).1 (hs1 y hy)
   rcases List.mem_cons.1 hq1 with rfl | hq1
   ·omega
   ·exact ⟨q1, hq1, hy1⟩
  ·have hall : ∀ y ∈ x :: A, InP I ps y := fun y hy => by
    obtain ⟨q1, hq1, hy1⟩ := hA y hy
    rcases List.mem_cons.1 hq1 with rfl | hq1
    ·have h0 := hp1 q0 hq00
     rcases List.mem_cons.1 hy with rfl | hy
     ·have := AtP_inj hI hx hy1; omega
     ·have := (behind_at hI hy1 hx).1 (hs1 y hy); omega
    ·exact ⟨q1, hq1, hy1⟩
   refine .inl ⟨?_, hall⟩
   rw [List.find?_eq_none]
   intro y hy hh
   obtain ⟨q1, hq1, hy1⟩ := hall y hy
   have := AtP_inj hI hy1 (isAt_AtP.1 hh)
   have := hp1 q1 hq1
   omega
theorem find_skip {I q q' : Nat} (hI : 1 ≤ I) {x : Ed} {A : List Ed} (hx : AtP I q x) (h : q < q') : (x :: A).find? (isAt (q' / I : Nat) (q' % I : Nat)) = A.find? (isAt (q' / I : Nat) (q' % I : Nat)) := by
 rw [List.find?_cons]
 have : isAt (q' / I : Nat) (q' % I : Nat) x = false := by
  rw [Bool.eq_false_iff]; intro hh
  have := AtP_inj hI hx (isAt_AtP.1 hh); omega
 rw [this]
theorem find_head {I q : Nat} {x : Ed} {A : List Ed} (hx : AtP I q x) : (x :: A).find? (isAt (q / I : Nat) (q % I : Nat)) = some x := by
 rw [List.find?_cons, isAt_AtP.2 hx]
theorem thenL_clash {x y : Ed} {A B : List Ed} (h1 : behindM y x = false) (h2 : behindM x y = false) (h3 : ¬ x.new = y.old) : thenL (x :: A) (y :: B) = none := by
 simp only [thenL, List.length_cons]
 rw [show A.length + 1 + (B.length + 1) = (A.length + B.length + 1) + 1 by omega, thenE, if_neg (by simp [h1]), if_neg (by simp [h2]), if_neg]
 rintro ⟨h4, h5⟩
 exact h3 (Prod.ext h4 h5)
theorem thenL_fold {I : Nat} (hI : 1 ≤ I) : ∀ (ps : List Nat) (A B : List Ed), List.Pairwise (· < ·) ps → SortE A → SortE B → (∀ x ∈ A, InP I ps x) → (∀ x ∈ B, InP I ps x) → thenL A B = foldT (fun q => stepT A B (q / I) (q % I)) ps
 | [], A, B, _, _, _, hA, hB => by
  obtain rfl : A = [] := List.eq_nil_iff_forall_not_mem.2 fun x hx => by obtain ⟨q, hq, _⟩ := hA x hx; cases hq
  obtain rfl : B = [] := List.eq_nil_iff_forall_not_mem.2 fun x hx => by obtain ⟨q, hq, _⟩ := hB x hx; cases hq
  simp [thenL, thenE, foldT]
 | q :: ps, A, B, hp, sA, sB, hA, hB => by
  obtain ⟨hp1, hp2⟩ := List.pairwise_cons.1 hp
  rw [foldT]
  rcases head_cases hI hp sA hA with ⟨fA, iA⟩ | ⟨x, A', rfl, hx, sA', iA⟩
  ·rcases head_cases hI hp sB hB with ⟨fB, iB⟩ | ⟨y, B', rfl, hy, sB', iB⟩
   ·have e : stepT A B (q / I) (q % I) = some [] := by rw [stepT, fA, fB]
    rw [e, thenL_fold hI ps A B hp2 sA sB iA iB]
    simp
   ·have e : stepT A (y :: B') (q / I) (q % I) = some (keepE y) := by rw [stepT, fA, find_head hy]
    have e2 : foldT (fun q => stepT A (y :: B') (q / I) (q % I)) ps = foldT (fun q => stepT A B' (q / I) (q % I)) ps := foldT_congr fun q' hq' => by
     rw [stepT, stepT, find_skip hI hy (hp1 q' hq')]
    rw [e, e2, thenL_right, thenL_fold hI ps A B' hp2 sA sB' iA iB, Option.bind_some]
    intro x hx
    obtain ⟨q1, hq1, hx1⟩ := iA x hx
    have h0 := hp1 q1 hq1
    refine ⟨(behind_at hI hx1 hy).2 h0, ?_⟩
    rw [Bool.eq_false_iff]; intro hh
    have := (behind_at hI hy hx1).1 hh; omega
  ·rcases head_cases hI hp sB hB with ⟨fB, iB⟩ | ⟨y, B', rfl, hy, sB', iB⟩
   ·have e : stepT (x :: A') B (q / I) (q % I) = some (keepE x) := by rw [stepT, fB, find_head hx]
    have e2 : foldT (fun q => stepT (x :: A') B (q / I) (q % I)) ps = foldT (fun q => stepT A' B (q / I) (q % I)) ps := foldT_congr fun q' hq' => by
     rw [stepT, stepT, find_skip hI hx (hp1 q' hq')]
    rw [e, e2, thenL_left, thenL_fold hI ps A' B hp2 sA' sB iA iB, Option.bind_some]
    intro y hy
    obtain ⟨q1, hq1, hy1⟩ := iB y hy
    exact (behind_at hI hy1 hx).2 (hp1 q1 hq1)
   ·have b1 : behindM y x = false := by
     rw [Bool.eq_false_iff]; intro hh
     have := (behind_at hI hy hx).1 hh; omega
    have b2 : behindM x y = false := by
     rw [Bool.eq_false_iff]; intro hh
     have := (behind_at hI hx hy).1 hh; omega
    have e : stepT (x :: A') (y :: B') (q / I) (q % I) = if x.new = y.old then some (keepE ⟨(q / I : Nat), (q % I : Nat), x.old, y.new⟩) else none := by rw [stepT, find_head hx, find_head hy]
    have e2 : foldT (fun q => stepT (x :: A') (y :: B') (q / I) (q % I)) ps = foldT (fun q => stepT A' B' (q / I) (q % I)) ps := foldT_congr fun q' hq' => by
     rw [stepT, stepT, find_skip hI hx (hp1 q' hq'), find_skip hI hy (hp1 q' hq')]
    rw [e, e2]
    by_cases h : x.new = y.old
    ·rw [if_pos h, thenL_both b1 b2 h, thenL_fold hI ps A' B' hp2 sA' sB' iA iB, Option.bind_some, hx.1, hx.2]
    ·rw [if_neg h, thenL_clash b1 b2 h]; rfl
theorem inP_range {I N : Nat} (hI : 1 ≤ I) {x : Ed} (h1 : 0 ≤ x.s ∧ x.s < N) (h2 : 0 ≤ x.i ∧ x.i < I) : InP I (List.range (N * I)) x := by
 have hb : x.i.toNat < I := by omega
 refine ⟨x.s.toNat * I + x.i.toNat, List.mem_range.2 (place_lt (by omega) hb), ?_, ?_⟩
 ·rw [Nat.mul_comm, Nat.mul_add_div (by omega), Nat.div_eq_of_lt hb]; omega
 ·rw [Nat.mul_comm, Nat.mul_add_mod, Nat.mod_eq_of_lt hb]; omega
theorem checkP_in {p : Pt} {I N : Nat} (h : checkP p = 0) (hI : p.inp = I) (hN : 64 ≤ N) : ∀ x ∈ p.ed, InP I (List.range (N * I)) x := fun x hx => by
 have hh := (headK_iff p).1 (checkP_zero h).1
 have := (checkP_mem h hx).1
 exact inP_range (by omega) (by omega) (by omega)
theorem thenL_acc {p q : Pt} {I N : Nat} (hp : checkP p = 0) (hq : checkP q = 0) (h1 : p.inp = I) (h2 : q.inp = I) (hN : 64 ≤ N) : thenL p.ed q.ed = accF p.ed q.ed I (N * I) := by
 have hh := (headK_iff p).1 (checkP_zero hp).1
 rw [accF_fold]
 exact thenL_fold (by omega) _ _ _ List.pairwise_lt_range (checkP_sort hp) (checkP_sort hq) (checkP_in hp h1 hN) (checkP_in hq h2 hN)
theorem stepT_at {A B : List Ed} {I q : Nat} {L : List Ed} (h : stepT A B (q / I) (q % I) = some L) : ∀ x ∈ L, AtP I q x := by
 have hk : ∀ (z : Ed), AtP I q z → ∀ x ∈ keepE z, AtP I q x := fun z hz x hx => by
  rw [keepE_eq] at hx
  split at hx
  ·obtain rfl := List.mem_singleton.1 hx; exact hz
  ·cases hx
 unfold stepT at h
 cases hA : A.find? (isAt (q / I : Nat) (q % I : Nat)) with
 | none =>
  cases hB : B.find? (isAt (q / I : Nat) (q % I : Nat)) with
  | none => rw [hA, hB] at h; injection h with h; subst h; intro x hx; cases hx
  | some y => rw [hA, hB] at h; injection h with h; subst h; exact hk y (isAt_AtP.1 (List.find?_some hB))
 | some x =>
  cases hB : B.find? (isAt (q / I : Nat) (q % I : Nat)) with
  | none => rw [hA, hB] at h; injection h with h; subst h; exact hk x (isAt_AtP.1 (List.find?_some hA))
  | some y =>
   rw [hA, hB] at h
   dsimp only at h
   split at h
   ·injection h with h; subst h; exact hk _ ⟨rfl, rfl⟩
   ·cases h
theorem foldT_find {I : Nat} (hI : 1 ≤ I) {f : Nat → Option (List Ed)} : ∀ (ps : List Nat) (L : List Ed), List.Pairwise (· < ·) ps → (∀ q ∈ ps, ∀ L0, f q = some L0 → ∀ x ∈ L0, AtP I q x) → foldT f ps = some L → ∀ q0 ∈ ps, ∃ L0, f q0 = some L0 ∧ L.find? (isAt (q0 / I : Nat) (q0 % I : Nat)) = L0.find? (isAt (q0 / I : Nat) (q0 % I : Nat))
 | [], L, _, _, _, q0, h0 => by cases h0
 | q :: ps, L, hp, hf, h, q0, h0 => by
  obtain ⟨hp1, hp2⟩ := List.pairwise_cons.1 hp
  rw [foldT] at h
  cases hq : f q with
  | none => rw [hq] at h; cases h
  | some a =>
   rw [hq, Option.bind_some] at h
   cases hr : foldT f ps with
   | none => rw [hr] at h; cases h
   | some R =>
    rw [hr, Option.map_some] at h
    injection h with h
    have hno : ∀ (q1 : Nat) (M : List Ed), (∀ x ∈ M, InP I [q1] x) → q1 ≠ q0 → M.find? (isAt (q0 / I : Nat) (q0 % I : Nat)) = none := fun q1 M hM hne => by
     rw [List.find?_eq_none]
     intro x hx hh
     obtain ⟨q2, h2, h3⟩ := hM x hx
     obtain rfl := List.mem_singleton.1 h2
     exact hne (AtP_inj hI h3 (isAt_AtP.1 hh))
    rcases List.mem_cons.1 h0 with rfl | h0
    ·refine ⟨a, hq, ?_⟩
     rw [← h, List.find?_append]
     have hR : R.find? (isAt (q0 / I : Nat) (q0 % I : Nat)) = none := by
      rw [List.find?_eq_none]
      intro x hx hh
      have hx' := isAt_AtP.1 hh
      have hmem : ∀ (ps : List Nat) (R : List Ed), (∀ q ∈ ps, ∀ L0, f q = some L0 → ∀ x ∈ L0, AtP I q x) → foldT f ps = some R → ∀ x ∈ R, InP I ps x := by
       intro ps
       induction ps with
       | nil => intro R _ hR x hx; rw [foldT] at hR; injection hR with hR; subst hR; cases hx
       | cons p ps ih =>
        intro R hf hR x hx
        rw [foldT] at hR
        cases h1 : f p with
        | none => rw [h1] at hR; cases hR
        | some b =>
         rw [h1, Option.bind_some] at hR
         cases h2 : foldT f ps with
         | none => rw [h2] at hR; cases hR
         | some R2 =>
          rw [h2, Option.map_some] at hR
          injection hR with hR; subst hR
          rcases List.mem_append.1 hx with k | k
          ·exact ⟨p, List.mem_cons_self .., hf p (List.mem_cons_self ..) b h1 x k⟩
          ·obtain ⟨q, k1, k2⟩ := ih R2 (fun q hq => hf q (List.mem_cons_of_mem _ hq)) h2 x k
           exact ⟨q, List.mem_cons_of_mem _ k1, k2⟩
      obtain ⟨q1, k1, k2⟩ := hmem ps R (fun q hq => hf q (List.mem_cons_of_mem _ hq)) hr x hx
      have := AtP_inj hI k2 hx'
      have := hp1 q1 k1
      omega
     rw [hR]
     cases a.find? (isAt (q0 / I : Nat) (q0 % I : Nat)) <;> rfl
    ·obtain ⟨L0, g1, g2⟩ := foldT_find hI ps R hp2 (fun q hq => hf q (List.mem_cons_of_mem _ hq)) hr q0 h0
     refine ⟨L0, g1, ?_⟩
     have := hp1 q0 h0
     rw [← h, List.find?_append, hno q a (fun x hx => ⟨q, List.mem_singleton.2 rfl, hf q (List.mem_cons_self ..) a hq x hx⟩) (by omega), ← g2]; rfl
theorem thenL_find {p q : Pt} {I : Nat} {L : List Ed} (hp : checkP p = 0) (hq : checkP q = 0) (h1 : p.inp = I) (h2 : q.inp = I) (h : thenL p.ed q.ed = some L) (s i : Nat) (hi : i < I) :
  ∃ L0, stepT p.ed q.ed s i = some L0 ∧ L.find? (isAt s i) = L0.find? (isAt s i) := by
 rw [thenL_acc (N := max 64 (s + 1)) hp hq h1 h2 (by omega), accF_fold] at h
 have hq0 : s * I + i ∈ List.range (max 64 (s + 1) * I) := List.mem_range.2 (place_lt (by omega) hi)
 obtain ⟨L0, g1, g2⟩ := foldT_find (I := I) (by omega) _ _ List.pairwise_lt_range (fun q _ L0 hL => stepT_at hL) h _ hq0
 have e1 : (s * I + i) / I = s := by rw [Nat.mul_comm, Nat.mul_add_div (by omega), Nat.div_eq_of_lt hi, Nat.add_zero]
 have e2 : (s * I + i) % I = i := by rw [Nat.mul_comm, Nat.mul_add_mod, Nat.mod_eq_of_lt hi]
 rw [e1, e2] at g1 g2
 exact ⟨L0, g1, g2⟩
def Turns (p : Pt) (I : Nat) (l r : List Row) : Prop := ∀ s i : Nat, i < I → (∀ x, p.ed.find? (isAt s i) = some x → x.old = edgeM l s i ∧ x.new = edgeM r s i) ∧ (p.ed.find? (isAt s i) = none → edgeM r s i = edgeM l s i)
theorem edgeM_out {l : List Row} {s i : Nat} (h : l.length ≤ s) : edgeM l s i = (-1, -1) := if_pos (by omega)
theorem side_out {s st ou : Int} {e : Edg} (h : sideM s e st ou = true) (hs : st ≤ s) : e = (-1, -1) := by
 simp only [sideM, Bool.or_eq_true, Bool.and_eq_true, decide_eq_true_eq] at h
 rcases h with h | h
 ·exact h
 ·omega
theorem stepR_side {l : List Row} {p : Pt} {s i : Nat} {e : Edg} (h : stepR l p s i = some e) : sideM s e p.s1 p.o1 = true := by
 cases hf : p.ed.find? (isAt s i) with
 | none =>
  rw [stepR_none hf] at h
  split at h
  ·injection h with h; subst h; assumption
  ·cases h
 | some x =>
  rw [stepR_some hf] at h
  split at h
  ·split at h
   ·injection h with h; subst h; assumption
   ·cases h
  ·cases h
theorem edgeM_rowsI {T : Rs} {I c s i : Nat} (hs : s < T.length) : edgeM (rowsI T c) s i = cellR T s i := by
 unfold edgeM cellR
 rw [if_neg (by rw [length_rowsI]; omega), Int.toNat_natCast, Int.toNat_natCast, ← getD_edgesOf, edgesOf_rowsI]
theorem refA_some {l : List Row} {p : Pt} {I n1 S : Nat} {R : Rs} (h1 : p.s1 = n1) (h : refA l p I S = some R) : (∀ s i, s < S → i < I → ∃ e, stepR l p s i = some e) ∧ R = (List.range (min S n1)).map fun s => (List.range I).map fun i => (stepR l p s i).getD (0, 0) := by
 have h2 : ∀ s i, s < S → i < I → ∃ e, stepR l p s i = some e := fun s i hs hi => by
  cases hst : stepR l p s i with
  | none => rw [refA_no hst hi hs] at h; cases h
  | some e => exact ⟨e, rfl⟩
 refine ⟨h2, ?_⟩
 rw [refA_yes (f := fun s i => (stepR l p s i).getD (0, 0)) h1 S fun s i hs hi => by obtain ⟨e, he⟩ := h2 s i hs hi; rw [he]; rfl] at h
 injection h with h
 exact h.symm
theorem fitsM_zero {a o n : Int} {p : Pt} (h : fitsM a o n p = 0) : p.inp = a ∧ p.o0 = o ∧ p.s0 = n := by
 unfold fitsM at h
 split at h
 ·omega
 ·split at h
  ·omega
  ·omega
theorem fitsM_of {a o n : Int} {p : Pt} (h1 : p.inp = a) (h2 : p.o0 = o) (h3 : p.s0 = n) : fitsM a o n p = 0 := by
 rw [fitsM, if_neg (by omega), if_neg (by omega)]
theorem applyM_turns {I : Nat} {o : Int} {l : List Row} {p : Pt} {R : Rs} (hc : checkP p = 0) (hf : fitsM I o l.length p = 0) (h : applyM I l p = (R, 0)) : Turns p I l (rowsI R I) ∧ (R.length : Int) = p.s1 ∧ machOk I p.o1 (rowsI R I) = 0 := by
 have hh := (headK_iff p).1 (checkP_zero hc).1
 obtain ⟨f1, f2, f3⟩ := fitsM_zero hf
 obtain ⟨S, hS⟩ : ∃ S : Nat, S = (max p.s0 p.s1).toNat := ⟨_, rfl⟩
 obtain ⟨n1, h1⟩ : ∃ n1 : Nat, p.s1 = n1 := ⟨p.s1.toNat, by omega⟩
 rw [applyM_ref hc f1, ← hS] at h
 cases hr : refA l p I S with
 | none => rw [hr] at h; injection h with _ h; omega
 | some T =>
  rw [hr] at h
  injection h with h _
  subst h
  obtain ⟨g1, g2⟩ := refA_some h1 hr
  rw [show min S n1 = n1 by omega] at g2
  have hlen : T.length = n1 := by rw [g2]; simp
  have hcell : ∀ s i, s < n1 → i < I → stepR l p s i = some (cellR T s i) := fun s i hs hi => by
   obtain ⟨e, he⟩ := g1 s i (by omega) hi
   rw [he, g2]; simp [cellR, hs, hi, he]
  have hst : ∀ s i, s < S → i < I → stepR l p s i = some (edgeM (rowsI T I) s i) := fun s i hs hi => by
   rcases Nat.lt_or_ge s n1 with k | k
   ·rw [hcell s i k hi, edgeM_rowsI (I := I) (by omega)]
   ·obtain ⟨e, he⟩ := g1 s i hs hi
    rw [he, side_out (stepR_side he) (by omega), edgeM_out (by rw [length_rowsI]; omega)]
  have hw : WideR I T := fun s hs => by rw [g2]; rw [hlen] at hs; simp [hs]
  refine ⟨fun s i hi => ?_, by omega, ?_⟩
  ·rcases Nat.lt_or_ge s S with k | k
   ·have := hst s i k hi
    refine ⟨fun x hx => ?_, fun hx => ?_⟩
    ·rw [stepR_some hx] at this
     split at this
     ·rename_i h
      split at this
      ·injection this with this; exact ⟨h, this⟩
      ·cases this
     ·cases this
    ·rw [stepR_none hx] at this
     split at this
     ·injection this with this; exact this.symm
     ·cases this
   ·refine ⟨fun x hx => ?_, fun hx => by rw [edgeM_out (by rw [length_rowsI]; omega), edgeM_out (by omega)]⟩
    have h2 := (checkP_mem hc (List.mem_of_find?_eq_some hx)).1
    have h3 := (isAt_iff _ _ _).1 (List.find?_some hx)
    omega
  ·obtain ⟨o1, ho1⟩ : ∃ o1 : Nat, p.o1 = o1 := ⟨p.o1.toNat, by omega⟩
   rw [ho1]
   refine machOk_rows (by omega) (by omega) (by rw [length_rowsI]; omega) (by rw [edgesOf_rowsI]; exact hw) ?_
   rw [edgesOf_rowsI, length_rowsI]
   intro r hr e he
   obtain ⟨s, hs, rfl⟩ := List.getElem_of_mem hr
   obtain ⟨i, hi, rfl⟩ := List.getElem_of_mem he
   have hr2 : T.getD s [] = T[s] := by rw [List.getD_eq_getElem?_getD, List.getElem?_eq_getElem hs]; rfl
   have hwi := hw s hs
   rw [hr2] at hwi
   have h2 := stepR_side (hcell s i (by omega) (by omega))
   have h3 : cellR T s i = T[s][i] := by rw [cellR, hr2, List.getD_eq_getElem?_getD, List.getElem?_eq_getElem hi]; rfl
   rw [h3] at h2
   rw [fitE_iff]
   simp only [sideM, Bool.or_eq_true, Bool.and_eq_true, decide_eq_true_eq] at h2
   rcases h2 with h2 | h2
   ·rw [h2]; exact .inl ⟨rfl, rfl⟩
   ·exact .inr (by omega)
theorem turns_applyM {I : Nat} {o o' : Int} {l r : List Row} {p : Pt} (hc : checkP p = 0) (hf : fitsM I o l.length p = 0) (ho : p.o1 = o') (hs : p.s1 = r.length) (hr : machOk I o' r = 0) (h : Turns p I l r) : applyM I l p = (edgesOf r, 0) := by
 have hh := (headK_iff p).1 (checkP_zero hc).1
 obtain ⟨f1, f2, f3⟩ := fitsM_zero hf
 obtain ⟨g1, g2, g3, g4, g5⟩ := machOk_zero hr
 rw [applyM_ref hc f1]
 rw [refA_yes (f := fun s i => edgeM r s i) (n1 := r.length) hs]
 ·dsimp only
  congr 1
  rw [show min (max p.s0 p.s1).toNat r.length = r.length by omega]
  have := rows0_eq I rfl g4 r.length (Nat.le_refl _)
  rw [List.take_of_length_le (by simp [edgesOf])] at this
  rw [← this]; rfl
 ·intro s i _ hi
  have hsd : sideM s (edgeM r s i) p.s1 p.o1 = true := by rw [hs, ho]; exact edgeM_side hr s i (by omega)
  obtain ⟨t1, t2⟩ := h s i hi
  cases hx : p.ed.find? (isAt s i) with
  | none => rw [stepR_none hx, ← t2 hx, if_pos hsd]
  | some x =>
   obtain ⟨u1, u2⟩ := t1 x hx
   rw [stepR_some hx, if_pos u1, u2, if_pos hsd]
theorem turns_then {p q : Pt} {I : Nat} {L : List Ed} {l m r : List Row} (hp : checkP p = 0) (hq : checkP q = 0) (h1 : p.inp = I) (h2 : q.inp = I) (h : thenL p.ed q.ed = some L) (hl : Turns p I l m) (hr : Turns q I m r) (t : Pt) (ht : t.ed = L) : Turns t I l r := fun s i hi => by
 obtain ⟨L0, e1, e2⟩ := thenL_find hp hq h1 h2 h s i hi
 obtain ⟨a1, a2⟩ := hl s i hi
 obtain ⟨b1, b2⟩ := hr s i hi
 rw [ht, e2]
 clear e2 ht
 unfold stepT at e1
 have hk : ∀ z : Ed, isAt s i z = true → z.old = edgeM l s i → z.new = edgeM r s i → (∀ x, (keepE z).find? (isAt s i) = some x → x.old = edgeM l s i ∧ x.new = edgeM r s i) ∧ ((keepE z).find? (isAt s i) = none → edgeM r s i = edgeM l s i) := fun z hz c1 c2 => by
  rw [keepE_eq]
  by_cases hd : z.old = z.new
  ·rw [if_neg (by simpa using hd)]
   exact ⟨fun x hx => (by cases hx), fun _ => by rw [← c1, ← c2, hd]⟩
  ·rw [if_pos hd, List.find?_cons, hz]
   exact ⟨fun x hx => (by injection hx with hx; subst hx; exact ⟨c1, c2⟩), fun hx => by cases hx⟩
 cases hA : p.ed.find? (isAt s i) with
 | none =>
  have a2 := a2 hA
  cases hB : q.ed.find? (isAt s i) with
  | none =>
   rw [hA, hB] at e1; injection e1 with e1; subst e1
   exact ⟨fun x hx => (by cases hx), fun _ => by rw [b2 hB, a2]⟩
  | some y =>
   rw [hA, hB] at e1; injection e1 with e1; subst e1
   obtain ⟨c1, c2⟩ := b1 y hB
   exact hk y (List.find?_some hB) (by rw [c1, a2]) c2
 | some x =>
  obtain ⟨d1, d2⟩ := a1 x hA
  cases hB : q.ed.find? (isAt s i) with
  | none =>
   rw [hA, hB] at e1; injection e1 with e1; subst e1
   exact hk x (List.find?_some hA) d1 (by rw [d2, b2 hB])
  | some y =>
   obtain ⟨c1, c2⟩ := b1 y hB
   rw [hA, hB] at e1
   dsimp only at e1
   split at e1
   ·injection e1 with e1; subst e1
    exact hk _ ((isAt_iff _ _ _).2 ⟨rfl, rfl⟩) d1 c2
   ·cases e1
theorem then_apply {p q : Pt} {I : Nat} {o : Int} {l : List Row} {R1 R2 : Rs} {t : Pt} (hp : checkP p = 0) (hq : checkP q = 0) (hf : fitsM I o l.length p = 0) (h1 : applyM I l p = (R1, 0)) (hg : fitsM I p.o1 (rowsI R1 I).length q = 0) (h2 : applyM I (rowsI R1 I) q = (R2, 0)) (ht : thenM p q = (t, 0)) :
  checkP t = 0 ∧ fitsM I o l.length t = 0 ∧ t.o1 = q.o1 ∧ applyM I l t = (R2, 0) := by
 obtain ⟨f1, f2, f3⟩ := fitsM_zero hf
 obtain ⟨g1, g2, g3⟩ := fitsM_zero hg
 obtain ⟨a1, a2, a3⟩ := applyM_turns hp hf h1
 obtain ⟨b1, b2, b3⟩ := applyM_turns hq hg h2
 rw [thenM, if_neg (by rw [hp]; simp), if_neg (by rw [hq]; simp)] at ht
 split at ht
 ·injection ht with _ ht; omega
 split at ht
 ·injection ht with _ ht; omega
 cases hL : thenL p.ed q.ed with
 | none => rw [hL] at ht; injection ht with _ ht; omega
 | some L =>
  rw [hL] at ht
  dsimp only at ht
  by_cases hc : checkP (thenHead p q L) = 0
  ·rw [if_neg (by rw [hc]; simp)] at ht
   injection ht with ht _
   subst ht
   have hf2 : fitsM I o l.length (thenHead p q L) = 0 := fitsM_of f1 f2 f3
   refine ⟨hc, hf2, rfl, ?_⟩
   have := turns_applyM (o' := q.o1) (r := rowsI R2 I) hc hf2 rfl (by rw [length_rowsI]; exact b2.symm) b3 (turns_then hp hq f1 g1 hL a1 b1 _ rfl)
   rw [this, edgesOf_rowsI]
  ·rw [if_pos hc] at ht
   injection ht with _ ht; omega
end Go.Proofs
