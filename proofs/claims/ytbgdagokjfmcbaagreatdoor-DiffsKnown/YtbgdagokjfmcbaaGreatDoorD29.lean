import Derived.Test.YtbgdagokjfmcbaaGreatDoorD28
import Derived.Test.YtbgdagokjfmcbaaGreatDoorD13
namespace Go.Proofs
open Go Go.V
set_option linter.unusedVariables false
set_option linter.unusedSimpArgs false
def FitR (o n : Int) (R : Rs) : Prop := ∀ r ∈ R, ∀ e ∈ r, fitE o n e = true
theorem fitE_iff (o n : Int) (e : Edg) : fitE o n e = true ↔ (e.1 = -1 ∧ e.2 = -1) ∨ ((0 ≤ e.1 ∧ e.1 < n) ∧ 0 ≤ e.2) ∧ e.2 < o := by
 simp only [fitE, Bool.or_eq_true, Bool.and_eq_true, decide_eq_true_eq]
theorem behindM_iff (x y : Ed) : behindM x y = true ↔ y.s < x.s ∨ (x.s = y.s ∧ y.i < x.i) := by
 simp only [behindM, Bool.or_eq_true, Bool.and_eq_true, decide_eq_true_eq]
theorem headK_iff (p : Pt) : headK p 2 = true ↔ ((1 ≤ p.inp ∧ p.inp ≤ 16) ∧ (((1 ≤ p.o0 ∧ p.o0 ≤ 16) ∧ 1 ≤ p.s0) ∧ p.s0 ≤ 64)) ∧ ((1 ≤ p.o1 ∧ p.o1 ≤ 16) ∧ 1 ≤ p.s1) ∧ p.s1 ≤ 64 := by
 simp only [headK, Bool.or_eq_true, Bool.and_eq_true, decide_eq_true_eq]
 simp
theorem okX_iff (p : Pt) (x y : Ed) : okX p true x y = true ↔ ((0 ≤ x.s ∧ ¬ (if p.s0 < p.s1 then p.s1 else p.s0) ≤ x.s) ∧ 0 ≤ x.i ∧ x.i < p.inp ∧ ¬ (x.old.1 = x.new.1 ∧ x.old.2 = x.new.2)) ∧ sideM x.s x.old p.s0 p.o0 = true ∧ sideM x.s x.new p.s1 p.o1 = true := by
 simp only [okX, Bool.true_or, Bool.and_true, Bool.and_eq_true, Bool.not_eq_true', Bool.or_eq_false_iff, Bool.and_eq_false_iff, decide_eq_false_iff_not]
 constructor
 ·rintro ⟨⟨⟨⟨⟨⟨h1, h2⟩, h3⟩, h4⟩, h5⟩, h6⟩, h7⟩
  exact ⟨⟨⟨by omega, h2⟩, by omega, by omega, by omega⟩, h6, h7⟩
 ·rintro ⟨⟨⟨h1, h2⟩, h3, h4, h5⟩, h6, h7⟩
  exact ⟨⟨⟨⟨⟨⟨by omega, h2⟩, by omega⟩, by omega⟩, by omega⟩, h6⟩, h7⟩
theorem edM_fit (pa : Bool) (n O v : Nat) (hn : 1 ≤ n) (hO : 1 ≤ O) : fitE O n (edM pa n O v) = true := by
 have h1 := Nat.mod_lt (v / 4) hn
 have h2 := Nat.mod_lt (v / 4 / n) hO
 rw [fitE_iff]
 unfold edM
 generalize v / 4 % n = a at *
 generalize v / 4 / n % O = b at *
 split
 ·left; simp
 ·right
  exact ⟨⟨⟨Int.natCast_nonneg a, Int.ofNat_lt.2 h1⟩, Int.natCast_nonneg b⟩, Int.ofNat_lt.2 h2⟩
theorem MD.fit (x : MD) : FitR x.O x.n (edgesOf (x.rows x.n)) := by
 rw [x.edges]
 intro r hr e he
 obtain ⟨s, _, rfl⟩ := List.mem_map.1 hr
 obtain ⟨i, _, rfl⟩ := List.mem_map.1 he
 exact edM_fit _ _ _ _ (by unfold MD.n; omega) (by unfold MD.O; omega)
theorem wideR_of {I : Nat} {R : Rs} (h : ∀ r ∈ R, r.length = I) : WideR I R := fun s hs => h _ (by
 rw [List.getD_eq_getElem?_getD, List.getElem?_eq_getElem hs]; exact List.getElem_mem hs)
theorem MD.wide (x : MD) : WideR x.I (edgesOf (x.rows x.n)) := by
 rw [x.edges]
 refine wideR_of fun r hr => ?_
 obtain ⟨s, _, rfl⟩ := List.mem_map.1 hr
 exact x.row_len s x.I
theorem mem_getD_row {R : Rs} {s : Nat} {e : Edg} (h : e ∈ R.getD s []) : ∃ r ∈ R, e ∈ r := by
 rw [List.getD_eq_getElem?_getD] at h
 cases hs : R[s]? with
 | none => rw [hs] at h; simp at h
 | some r => rw [hs] at h; exact ⟨r, List.mem_of_getElem? hs, h⟩
theorem machOk_rows {I O : Nat} {l : List Row} (hI : 1 ≤ I ∧ I ≤ 16) (hO : 1 ≤ O ∧ O ≤ 16) (hl : 1 ≤ l.length ∧ l.length ≤ 64) (hw : WideR I (edgesOf l)) (hf : FitR O l.length (edgesOf l)) : machOk I O l = 0 := by
 refine machOk_of (by omega) (by omega) hl (fun s hs => ?_) fun j hj => ?_
 ·rw [← getD_edgesOf, hw s (by simpa [edgesOf] using hs)]
 ·rw [← getD_edgesOf, List.all_eq_true]
  intro e he
  obtain ⟨r, hr, he'⟩ := mem_getD_row he
  exact hf r hr e he'
theorem MD.bI (x : MD) : 1 ≤ x.I ∧ x.I ≤ 3 := by unfold MD.I; omega
theorem MD.bO (x : MD) : 1 ≤ x.O ∧ x.O ≤ 3 := by unfold MD.O; omega
theorem MD.bn (x : MD) : 1 ≤ x.n ∧ x.n ≤ 6 := by unfold MD.n; omega
theorem MD.ok (x : MD) : machOk x.I x.O (x.rows x.n) = 0 := by
 have := x.bI; have := x.bO; have := x.bn
 refine machOk_rows (by omega) (by omega) (by rw [MD.rows_len]; omega) x.wide ?_
 rw [MD.rows_len]; exact x.fit
theorem edgeM_side {i o : Int} {l : List Row} (h : machOk i o l = 0) (s k : Nat) (hk : (k : Int) < i) : sideM s (edgeM l s k) l.length o = true := by
 obtain ⟨h1, h2, h3, h4, h5⟩ := machOk_zero h
 unfold edgeM
 split
 ·simp [sideM]
 ·have hs : s < l.length := by omega
  have hr := h5 s hs
  have hw := h4 s hs
  rw [Int.toNat_natCast, Int.toNat_natCast]
  generalize (l.getD s ([], none)).1 = r at *
  have := List.all_eq_true.1 hr (r.getD k (0, 0)) (by
   have hk' : k < r.length := by omega
   simp [hk'])
  simp only [fitE, sideM, Bool.or_eq_true, Bool.and_eq_true, decide_eq_true_eq] at *
  rcases this with q|q
  ·left; exact Prod.ext q.1 q.2
  ·right; omega
theorem seqE_pair (l r : List Row) (I q : Nat) (hI : 1 ≤ I) : List.Pairwise (fun x y => behindM y x = true) (seqE l r I q) := by
 refine List.Pairwise.filter _ ?_
 rw [List.pairwise_map]
 refine List.Pairwise.imp ?_ List.pairwise_lt_range
 intro a b hab
 have h1 : a / I ≤ b / I := Nat.div_le_div_right (Nat.le_of_lt hab)
 have h2 := Nat.div_add_mod a I
 have h3 := Nat.div_add_mod b I
 rw [behindM_iff]
 unfold seqAt diffAt
 rcases Nat.lt_or_ge (a / I) (b / I) with q|q
 ·left; exact Int.ofNat_lt.2 q
 ·right
  have e : a / I = b / I := by omega
  rw [e] at h2
  exact ⟨by rw [e], Int.ofNat_lt.2 (by omega)⟩
theorem checkP_of {p : Pt} (h1 : headK p 2 = true) (h2 : ∀ x ∈ p.ed, okX p true x x = true) (h3 : List.Pairwise (fun x y => behindM y x = true) p.ed) : checkP p = 0 := by
 rw [checkP, if_pos]
 refine ⟨h1, fun k hk => ?_⟩
 have e1 : p.ed.getD k xD = p.ed[k] := by simp [hk]
 have h4 := h2 p.ed[k] (List.getElem_mem hk)
 rw [okAt, e1]
 simp only [okX, Bool.true_or, Bool.and_true] at h4
 simp only [okX, h4, Bool.true_and]
 rcases Nat.eq_zero_or_pos k with rfl|hp
 ·simp
 ·have e2 : p.ed.getD (k - 1) xD = p.ed[k - 1] := by simp [show k - 1 < p.ed.length by omega]
  rw [e2, List.pairwise_iff_getElem.1 h3 (k - 1) k (by omega) hk (by omega)]
  simp
theorem diffM_ok {i o : Int} {l : List Row} {o' : Int} {r : List Row} (hl : machOk i o l = 0) (hr : machOk i o' r = 0) : checkP (diffM i o l o' r) = 0 := by
 obtain ⟨a1, a2, a3, a4, a5⟩ := machOk_zero hl
 obtain ⟨b1, b2, b3, b4, b5⟩ := machOk_zero hr
 have he : (diffM i o l o' r).ed = seqE l r i.toNat (max l.length r.length * i.toNat) := (seqE_all _ _ _ _).symm
 refine checkP_of ?_ ?_ ?_
 ·rw [headK_iff]; unfold diffM; dsimp only; omega
 ·rw [he]
  intro x hx
  obtain ⟨hx, hd⟩ := List.mem_filter.1 hx
  obtain ⟨q, hq, rfl⟩ := List.mem_map.1 hx
  have hq := List.mem_range.1 hq
  have hI : 0 < i.toNat := by omega
  have d1 : q / i.toNat < max l.length r.length := Nat.div_lt_of_lt_mul (by rw [Nat.mul_comm]; exact hq)
  have d2 := Nat.mod_lt q hI
  unfold seqAt at *
  generalize q / i.toNat = s at *
  generalize q % i.toNat = k at *
  have s1 := edgeM_side hl s k (by omega)
  have s2 := edgeM_side hr s k (by omega)
  simp only [differs] at hd
  have hmax : ¬ (if (l.length : Int) < r.length then (r.length : Int) else l.length) ≤ (s : Int) := by split <;> omega
  rw [okX_iff]
  unfold diffM diffAt at *
  dsimp only at *
  refine ⟨⟨⟨by omega, hmax⟩, by omega, by omega, ?_⟩, s1, s2⟩
  rintro ⟨a, b⟩
  simp [a, b] at hd
 ·rw [he]; exact seqE_pair _ _ _ _ (by omega)
theorem pairErr_zero {i o : Int} {l : List Row} {o' : Int} {r : List Row} (hl : machOk i o l = 0) (hr : machOk i o' r = 0) : pairErr i o l i o' r = 0 := by
 rw [pairErr, if_neg (by omega), if_neg (by omega), if_neg (by omega)]
theorem diffEds_len {l r : List Row} {I : Nat} (hI : I ≤ 16) (hl : l.length ≤ 64) (hr : r.length ≤ 64) : (diffEds l r (max l.length r.length) I).length ≤ 1024 := by
 have h1 := length_diffEds l r (max l.length r.length) I
 have h2 : max l.length r.length * I ≤ 64 * 16 := Nat.mul_le_mul (by omega) hI
 omega
end Go.Proofs
