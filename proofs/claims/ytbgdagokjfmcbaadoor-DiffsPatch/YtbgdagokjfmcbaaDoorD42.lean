import Derived.Test.YtbgdagokjfmcbaaDoorD40
import Derived.Test.YtbgdagokjfmcbaaDoorD38
/- Diffs: any valid patch, applied: plain. -/
namespace Go.Proofs
open Go Go.V
set_option linter.unusedVariables false
set_option linter.unusedSimpArgs false
def SortE (ed : List Ed) : Prop := List.Pairwise (fun x y => behindM y x = true) ed
theorem behindM_trans {x y z : Ed} (h : behindM y x = true) (k : behindM z y = true) : behindM z x = true := by
  rw [behindM_iff] at *
  omega
theorem checkP_zero {p : Pt} (h : checkP p = 0) : headK p 2 = true ∧ ∀ k, k < p.ed.length → okAt p k = true := by
  unfold checkP at h
  split at h
  · assumption
  · omega
theorem okX_of {p : Pt} {b : Bool} {x y : Ed} (h : okX p b x y = true) : (0 ≤ x.s ∧ x.s < max p.s0 p.s1 ∧ 0 ≤ x.i ∧ x.i < p.inp ∧ x.old ≠ x.new) ∧ sideM x.s x.old p.s0 p.o0 = true ∧ sideM x.s x.new p.s1 p.o1 = true ∧ (b = false → behindM x y = true) := by
  simp only [okX, Bool.and_eq_true, Bool.not_eq_true', Bool.or_eq_false_iff, decide_eq_false_iff_not] at h
  obtain ⟨⟨⟨⟨⟨⟨⟨h1, h2⟩, h3⟩, h4⟩, h5⟩, h6⟩, h7⟩, h8⟩ := h
  refine ⟨⟨by omega, by split at h2 <;> omega, by omega, by omega, fun he => ?_⟩, h6, h7, fun hb => ?_⟩
  · rw [he] at h5; simp at h5
  · rw [hb, Bool.false_or] at h8; exact h8
theorem checkP_mem {p : Pt} (h : checkP p = 0) {x : Ed} (hx : x ∈ p.ed) : (0 ≤ x.s ∧ x.s < max p.s0 p.s1 ∧ 0 ≤ x.i ∧ x.i < p.inp ∧ x.old ≠ x.new) ∧ sideM x.s x.old p.s0 p.o0 = true ∧ sideM x.s x.new p.s1 p.o1 = true := by
  obtain ⟨k, hk, rfl⟩ := List.getElem_of_mem hx
  have h1 := (checkP_zero h).2 k hk
  rw [okAt, List.getD_eq_getElem?_getD, List.getElem?_eq_getElem hk] at h1
  have h2 := okX_of h1
  exact ⟨h2.1, h2.2.1, h2.2.2.1⟩
theorem checkP_sort {p : Pt} (h : checkP p = 0) : SortE p.ed := by
  have hs : ∀ k, k + 1 < p.ed.length → behindM (p.ed.getD (k + 1) xD) (p.ed.getD k xD) = true := fun k hk => by
    have h1 := (checkP_zero h).2 (k + 1) hk
    rw [okAt] at h1
    exact (okX_of h1).2.2.2 (decide_eq_false (by omega))
  have hl : ∀ d k, k + d + 1 < p.ed.length → behindM (p.ed.getD (k + d + 1) xD) (p.ed.getD k xD) = true := by
    intro d
    induction d with
    | zero => intro k hk; exact hs k hk
    | succ d ih => intro k hk; exact behindM_trans (ih k (by omega)) (hs (k + d + 1) hk)
  rw [SortE, List.pairwise_iff_getElem]
  intro i j hi hj hij
  have := hl (j - i - 1) i (by omega)
  rw [show i + (j - i - 1) + 1 = j by omega] at this
  simpa [hi, hj] using this
theorem isAt_iff (s i : Int) (x : Ed) : isAt s i x = true ↔ x.s = s ∧ x.i = i := by simp [isAt]
theorem find_self {ed : List Ed} (h : SortE ed) {x : Ed} (hx : x ∈ ed) : ed.find? (isAt x.s x.i) = some x := by
  induction ed with
  | nil => cases hx
  | cons y ed ih =>
    obtain ⟨h1, h2⟩ := List.pairwise_cons.1 h
    rw [List.find?_cons]
    rcases List.mem_cons.1 hx with rfl | q
    · rw [(isAt_iff _ _ _).2 ⟨rfl, rfl⟩]
    · have hb := (behindM_iff x y).1 (h1 x q)
      have : isAt x.s x.i y = false := by
        rw [Bool.eq_false_iff]; intro hh
        have := (isAt_iff _ _ _).1 hh
        omega
      rw [this]
      exact ih h2 q
theorem findM_find (l : List Ed) (s i : Int) : (l.find? (isAt s i) = none ∧ findM l s i = -1) ∨ ∃ k : Nat, k < l.length ∧ l.find? (isAt s i) = some (l.getD k eD) ∧ findM l s i = k := by
  unfold findM
  cases h : l.findIdx? (isAt s i) with
  | none =>
    refine .inl ⟨?_, rfl⟩
    rw [List.findIdx?_eq_none_iff] at h
    rw [List.find?_eq_none]
    intro x hx
    rw [h x hx]; simp
  | some k =>
    obtain ⟨h1, h2, h3⟩ := List.findIdx?_eq_some_iff_getElem.1 h
    refine .inr ⟨k, h1, ?_, rfl⟩
    rw [List.find?_eq_some_iff_getElem]
    rw [List.getD_eq_getElem?_getD, List.getElem?_eq_getElem h1]
    exact ⟨h2, k, h1, rfl, fun j hj => by simpa using h3 j hj⟩
/-- The place (s, i) of rows. -/
def cellR (R : Rs) (s i : Nat) : Edg := (R.getD s []).getD i (0, 0)
theorem cellR_set {I : Nat} {R : Rs} (hw : WideR I R) {s i a b : Nat} (hs : s < R.length) (hi : i < I) (e : Edg) : cellR (R.set s ((R.getD s []).set i e)) a b = if a = s ∧ b = i then e else cellR R a b := by
  have hl := hw s hs
  unfold cellR
  rw [List.getD_eq_getElem?_getD (l := R.set s _), List.getElem?_set]
  by_cases has : s = a
  · subst has
    rw [if_pos rfl, if_pos hs, Option.getD_some, List.getD_eq_getElem?_getD, List.getElem?_set]
    by_cases hib : i = b
    · subst hib
      rw [if_pos rfl, if_pos (by omega), if_pos ⟨rfl, rfl⟩]; rfl
    · rw [if_neg hib, if_neg (by omega), ← List.getD_eq_getElem?_getD]
  · rw [if_neg has, if_neg (by omega), ← List.getD_eq_getElem?_getD]
/-- The place (s, i) of rows, after the edits. -/
def valL (R : Rs) (ed : List Ed) (s i : Nat) : Edg := match ed.find? (isAt s i) with | some x => x.new | none => cellR R s i
theorem goL_some {I : Nat} : ∀ (ed : List Ed) (R : Rs), WideR I R → SortE ed → (∀ x ∈ ed, 0 ≤ x.s ∧ x.s < R.length ∧ 0 ≤ x.i ∧ x.i < I) → (∀ x ∈ ed, cellR R x.s.toNat x.i.toNat = x.old) →
    ∃ T, goL R ed = some T ∧ T.length = R.length ∧ WideR I T ∧ ∀ s i, cellR T s i = valL R ed s i
  | [], R, hw, _, _, _ => ⟨R, rfl, rfl, hw, fun s i => rfl⟩
  | x :: ed, R, hw, hs, hr, ho => by
    obtain ⟨h1, h2⟩ := List.pairwise_cons.1 hs
    obtain ⟨r1, r2, r3, r4⟩ := hr x (List.mem_cons_self ..)
    have hst := stepA_yes (R := R) (x := x) (ho x (List.mem_cons_self ..))
    have hl := stepA_len hst
    have hw2 := stepA_wide hst hw
    have hc := fun a b => cellR_set (a := a) (b := b) hw (s := x.s.toNat) (i := x.i.toNat) (by omega) (by omega) x.new
    have hne : ∀ y ∈ ed, ¬ (y.s.toNat = x.s.toNat ∧ y.i.toNat = x.i.toNat) := fun y hy => by
      have hb := (behindM_iff y x).1 (h1 y hy)
      have := hr y (List.mem_cons_of_mem _ hy)
      omega
    generalize (R.set x.s.toNat ((R.getD x.s.toNat []).set x.i.toNat x.new)) = T at *
    obtain ⟨U, u1, u2, u3, u4⟩ := goL_some ed T hw2 h2 (fun y hy => by rw [hl]; exact hr y (List.mem_cons_of_mem _ hy)) (fun y hy => by
      rw [hc, if_neg (hne y hy)]; exact ho y (List.mem_cons_of_mem _ hy))
    refine ⟨U, by rw [goL, hst]; exact u1, by omega, u3, fun s i => ?_⟩
    rw [u4, valL, valL, List.find?_cons]
    cases hx : isAt s i x with
    | true =>
      have hx := (isAt_iff _ _ _).1 hx
      have : ed.find? (isAt s i) = none := by
        rw [List.find?_eq_none]
        intro y hy hh
        have hh := (isAt_iff _ _ _).1 hh
        exact hne y hy (by omega)
      rw [this]
      dsimp only
      rw [hc, if_pos (by omega)]
    | false =>
      cases hf : ed.find? (isAt s i) with
      | some y => rfl
      | none =>
        dsimp only
        rw [hc, if_neg]
        rintro ⟨rfl, rfl⟩
        rw [Bool.eq_false_iff] at hx
        exact hx ((isAt_iff _ _ _).2 (by omega))
theorem goL_none {I : Nat} : ∀ (ed : List Ed) (R : Rs), WideR I R → SortE ed → (∀ x ∈ ed, 0 ≤ x.s ∧ x.s < R.length ∧ 0 ≤ x.i ∧ x.i < I) → ∀ y ∈ ed, cellR R y.s.toNat y.i.toNat ≠ y.old → goL R ed = none
  | [], R, _, _, _, y, hy, _ => by cases hy
  | x :: ed, R, hw, hs, hr, y, hy, ho => by
    obtain ⟨h1, h2⟩ := List.pairwise_cons.1 hs
    obtain ⟨r1, r2, r3, r4⟩ := hr x (List.mem_cons_self ..)
    rw [goL]
    by_cases hx : cellR R x.s.toNat x.i.toNat = x.old
    · have hst := stepA_yes (R := R) (x := x) hx
      have hl := stepA_len hst
      have hw2 := stepA_wide hst hw
      have hc := fun a b => cellR_set (a := a) (b := b) hw (s := x.s.toNat) (i := x.i.toNat) (by omega) (by omega) x.new
      rcases List.mem_cons.1 hy with rfl | q
      · exact absurd hx ho
      have hb := (behindM_iff y x).1 (h1 y q)
      have := hr y hy
      rw [hst, Option.bind_some]
      refine goL_none ed _ hw2 h2 (fun y hy => by rw [hl]; exact hr y (List.mem_cons_of_mem _ hy)) y q ?_
      rw [hc, if_neg (by omega)]; exact ho
    · have : stepA R x = none := if_neg hx
      rw [this]; rfl
theorem stepR_none {l : List Row} {p : Pt} {s i : Nat} (h : p.ed.find? (isAt s i) = none) : stepR l p s i = if sideM s (edgeM l s i) p.s1 p.o1 = true then some (edgeM l s i) else none := by
  unfold stepR
  rcases findM_find p.ed s i with ⟨h1, h2⟩ | ⟨k, h1, h2, h3⟩
  · rw [h2]; rfl
  · rw [h] at h2; cases h2
theorem stepR_some {l : List Row} {p : Pt} {s i : Nat} {x : Ed} (h : p.ed.find? (isAt s i) = some x) : stepR l p s i = if x.old = edgeM l s i then if sideM s x.new p.s1 p.o1 = true then some x.new else none else none := by
  unfold stepR
  rcases findM_find p.ed s i with ⟨h1, h2⟩ | ⟨k, h1, h2, h3⟩
  · rw [h] at h1; cases h1
  · rw [h] at h2
    injection h2 with h2
    rw [h3, if_pos (by omega), Int.toNat_natCast, ← h2]
theorem rowR_yes {l : List Row} {p : Pt} {s : Nat} {f : Nat → Edg} : ∀ n, (∀ i, i < n → stepR l p s i = some (f i)) → rowR l p s n = some ((List.range n).map f)
  | 0, _ => rfl
  | n + 1, h => by
    rw [rowR, rowR_yes n (fun i hi => h i (by omega)), Option.bind_some, h n (by omega), Option.map_some, List.range_succ, List.map_append]; rfl
theorem rowR_no {l : List Row} {p : Pt} {s i : Nat} (h : stepR l p s i = none) {n : Nat} (hn : i < n) : rowR l p s n = none := by
  refine rowR_none (i := i + 1) ?_ n hn
  rw [rowR, h]
  cases rowR l p s i <;> rfl
theorem refA_yes {l : List Row} {p : Pt} {I n1 : Nat} {f : Nat → Nat → Edg} (h1 : p.s1 = n1) : ∀ S, (∀ s i, s < S → i < I → stepR l p s i = some (f s i)) → refA l p I S = some ((List.range (min S n1)).map fun s => (List.range I).map (f s))
  | 0, _ => by simp [refA]
  | S + 1, h => by
    rw [refA, refA_yes h1 S (fun s i hs hi => h s i (by omega) hi), Option.bind_some, rowR_yes (f := f S) I (fun i hi => h S i (by omega) hi), Option.map_some]
    by_cases hlt : (S : Int) < p.s1
    · rw [if_pos hlt, show min (S + 1) n1 = min S n1 + 1 by omega, List.range_succ, List.map_append]
      rw [show min S n1 = S by omega]; rfl
    · rw [if_neg hlt, show min (S + 1) n1 = min S n1 by omega]
theorem refA_no {l : List Row} {p : Pt} {I s i : Nat} (h : stepR l p s i = none) (hi : i < I) {S : Nat} (hS : s < S) : refA l p I S = none := by
  refine refA_none (s := s + 1) ?_ S hS
  rw [refA, rowR_no h hi]
  cases refA l p I s <;> rfl
theorem cellR_rows0 {l : List Row} {I S s i : Nat} (hs : s < S) (hi : i < I) : cellR (rows0 l I S) s i = edgeM l s i := by simp [cellR, rows0, rowE, hs, hi]
theorem rows_ext {I : Nat} {R : Rs} (hw : WideR I R) {n : Nat} (hn : R.length = n) {f : Nat → Nat → Edg} (h : ∀ s i, s < n → i < I → cellR R s i = f s i) : R = (List.range n).map fun s => (List.range I).map (f s) := by
  refine List.ext_getElem (by simp [hn]) fun a h1 h2 => ?_
  have hla := hw a h1
  have ha : R.getD a [] = R[a] := by rw [List.getD_eq_getElem?_getD, List.getElem?_eq_getElem h1]; rfl
  rw [ha] at hla
  simp only [List.getElem_map, List.getElem_range]
  refine List.ext_getElem (by simp [hla]) fun b g1 g2 => ?_
  simp only [List.getElem_map, List.getElem_range]
  rw [← h a b (by omega) (by omega), cellR, ha, List.getD_eq_getElem?_getD, List.getElem?_eq_getElem g1]; rfl
/-- What the document says of a patch that fits is what Apply answers. -/
theorem applyM_ref {I : Nat} {l : List Row} {p : Pt} (hc : checkP p = 0) (hI : p.inp = I) : applyM I l p = match refA l p I (max p.s0 p.s1).toNat with | some R => (R, 0) | none => ([], 18) := by
  have hh := (headK_iff p).1 (checkP_zero hc).1
  obtain ⟨S, hS⟩ : ∃ S : Nat, S = (max p.s0 p.s1).toNat := ⟨_, rfl⟩
  obtain ⟨n1, h1⟩ : ∃ n1 : Nat, p.s1 = n1 := ⟨p.s1.toNat, by omega⟩
  unfold applyM
  rw [goA_all, Int.toNat_natCast, ← hS]
  have hs := checkP_sort hc
  have hw := rows0_wide l I S
  have hr : ∀ x ∈ p.ed, 0 ≤ x.s ∧ x.s < (rows0 l I S).length ∧ 0 ≤ x.i ∧ x.i < I := fun x hx => by
    have := (checkP_mem hc hx).1
    rw [rows0_len]; omega
  have hat : ∀ x ∈ p.ed, cellR (rows0 l I S) x.s.toNat x.i.toNat = edgeM l x.s x.i := fun x hx => by
    have := hr x hx
    rw [rows0_len] at this
    rw [cellR_rows0 (by omega) (by omega), show ((x.s.toNat : Nat) : Int) = x.s by omega, show ((x.i.toNat : Nat) : Int) = x.i by omega]
  by_cases ho : ∀ x ∈ p.ed, cellR (rows0 l I S) x.s.toNat x.i.toNat = x.old
  · obtain ⟨T, t1, t2, t3, t4⟩ := goL_some p.ed _ hw hs hr ho
    rw [rows0_len] at t2
    rw [t1]
    have hst : ∀ s i, s < S → i < I → stepR l p s i = if sideM s (cellR T s i) p.s1 p.o1 = true then some (cellR T s i) else none := fun s i hs hi => by
      rw [t4, valL]
      cases hf : p.ed.find? (isAt s i) with
      | none => rw [stepR_none hf, cellR_rows0 hs hi]
      | some x =>
        rw [stepR_some hf, if_pos]
        have hx := List.mem_of_find?_eq_some hf
        have hx2 := (isAt_iff _ _ _).1 (List.find?_some hf)
        rw [← ho x hx, hat x hx, hx2.1, hx2.2]
    by_cases hF : ∀ s i, s < S → i < I → sideM s (cellR T s i) p.s1 p.o1 = true
    · have h2 : fitsAll T p = true := fitsAll_yes t3 fun s j hs hj => hF s j (by omega) hj
      rw [refA_yes (f := cellR T) h1 S fun s i hs hi => by rw [hst s i hs hi, if_pos (hF s i hs hi)]]
      dsimp only
      rw [applyT, if_pos h2, h1, Int.toNat_natCast]
      congr 1
      have hmin : min S n1 = n1 := by omega
      rw [hmin]
      refine rows_ext (fun s hs => ?_) (by rw [List.length_take]; omega) fun s i hs hi => ?_
      · rw [List.length_take] at hs
        have := t3 s (by omega)
        rwa [List.getD_eq_getElem?_getD, List.getElem?_take_of_lt (by omega), ← List.getD_eq_getElem?_getD]
      · rw [cellR, cellR, List.getD_eq_getElem?_getD (l := T.take n1), List.getElem?_take_of_lt (by omega), ← List.getD_eq_getElem?_getD]
    · have ⟨s, hF⟩ := Classical.not_forall.1 hF
      have ⟨i, hF⟩ := Classical.not_forall.1 hF
      have ⟨h3, hF⟩ := Classical.not_forall.1 hF
      have ⟨h4, hF⟩ := Classical.not_forall.1 hF
      have h5 : fitsAll T p = false := fitsAll_no (s := s) (j := i) t3 (by omega) h4 (by simpa [cellR] using hF)
      rw [refA_no (s := s) (i := i) (by rw [hst s i h3 h4, if_neg hF]) h4 h3, applyT, if_neg (by rw [h5]; simp)]
  · have ⟨x, ho⟩ := Classical.not_forall.1 ho
    have ⟨hx, ho⟩ := Classical.not_forall.1 ho
    rw [goL_none p.ed _ hw hs hr x hx ho]
    have hrx := hr x hx
    rw [rows0_len] at hrx
    have hf := find_self hs hx
    have e1 : ((x.s.toNat : Nat) : Int) = x.s := by omega
    have e2 : ((x.i.toNat : Nat) : Int) = x.i := by omega
    rw [refA_no (s := x.s.toNat) (i := x.i.toNat) ?_ (by omega) (by omega)]
    · rfl
    · rw [stepR_some (x := x) (by rw [e1, e2]; exact hf), e1, e2, if_neg]
      intro hh
      exact ho (by rw [hat x hx, hh])
end Go.Proofs
/- Diffs: any two patches, one behind the other: plain. -/
namespace Go.Proofs
open Go Go.V
set_option linter.unusedVariables false
set_option linter.unusedSimpArgs false
/-- What stands at a place of two patches, one behind the other. -/
def stepT (A B : List Ed) (s i : Nat) : Option (List Ed) :=
  match A.find? (isAt s i), B.find? (isAt s i) with
  | none, none => some []
  | some x, none => some (keepE x)
  | none, some y => some (keepE y)
  | some x, some y => if x.new = y.old then some (keepE ⟨s, i, x.old, y.new⟩) else none
def foldT (f : Nat → Option (List Ed)) : List Nat → Option (List Ed)
  | [] => some []
  | p :: ps => (f p).bind fun a => (foldT f ps).map (a ++ ·)
def accF (A B : List Ed) (I : Nat) : Nat → Option (List Ed)
  | 0 => some []
  | k + 1 => (accF A B I k).bind fun L => (stepT A B (k / I) (k % I)).map (L ++ ·)
def AtP (I q : Nat) (x : Ed) : Prop := x.s = (q / I : Nat) ∧ x.i = (q % I : Nat)
def InP (I : Nat) (ps : List Nat) (x : Ed) : Prop := ∃ q ∈ ps, AtP I q x
/-- The patch p turns the edges of l into those of r. -/
def Turns (p : Pt) (I : Nat) (l r : List Row) : Prop := ∀ s i : Nat, i < I → (∀ x, p.ed.find? (isAt s i) = some x → x.old = edgeM l s i ∧ x.new = edgeM r s i) ∧ (p.ed.find? (isAt s i) = none → edgeM r s i = edgeM l s i)
theorem refA_some {l : List Row} {p : Pt} {I n1 S : Nat} {R : Rs} (h1 : p.s1 = n1) (h : refA l p I S = some R) : (∀ s i, s < S → i < I → ∃ e, stepR l p s i = some e) ∧ R = (List.range (min S n1)).map fun s => (List.range I).map fun i => (stepR l p s i).getD (0, 0) := by
  have h2 : ∀ s i, s < S → i < I → ∃ e, stepR l p s i = some e := fun s i hs hi => by
    cases hst : stepR l p s i with
    | none => rw [refA_no hst hi hs] at h; cases h
    | some e => exact ⟨e, rfl⟩
  refine ⟨h2, ?_⟩
  rw [refA_yes (f := fun s i => (stepR l p s i).getD (0, 0)) h1 S fun s i hs hi => by obtain ⟨e, he⟩ := h2 s i hs hi; rw [he]; rfl] at h
  injection h with h
  exact h.symm
theorem fitsM_zero {a o n : Int} {p : Pt} (h : fitsM a o n p = 0) : p.inp = a ∧ p.o0 = o ∧ p.s0 = n := by
  unfold fitsM at h
  split at h
  · omega
  · split at h
    · omega
    · omega
end Go.Proofs
