import Derived.Test.YtbgdagokjfmcbaaDoorD28
import Derived.Test.YtbgdagokjfmcbaaDoorD13
namespace Go.Proofs
open Go Go.V
set_option linter.unusedVariables false
set_option linter.unusedSimpArgs false
def FitR (o n : Int) (R : Rs) : Prop := ∀ r ∈ R, ∀ e ∈ r, fitE o n e = true
theorem fitE_iff (o n : Int) (e : Edg) : fitE o n e = true ↔ (e.1 = -1 ∧ e.2 = -1) ∨ ((0 ≤ e.1 ∧ e.1 < n) ∧ 0 ≤ e.2) ∧ e.2 < o := by
 simp only [fitE, Bool.or_eq_true, Bool.and_eq_true, decide_eq_true_eq]
theorem behindM_iff (x y : Ed) : behindM x y = true ↔ y.s < x.s ∨ (x.s = y.s ∧ y.i < x.i) := by
 simp only [behindM, Bool.or_eq_true, Bool.and_eq_true, decide_eq_true_eq]
theorem headK_iff (p : Pt) : headK p 2 = true ↔ ((1 ≤ p.inp ∧ p.inp ≤ 16) ∧ (((1 ≤ p.o0 ∧ p.o0 ≤ 16) ∧ 1 ≤ p.s0) ∧ p.s0 ≤ 64)) ∧ ((1 ≤ p.o1 ∧ p.o1 ≤ 16) ∧ 1 ≤ p.s1) ∧ p.s1 ≤ 64 := by
 simp only [headK, Bool.or_eq_true, Bool.and_eq_true, decide_eq_true_eq]
 simp
theorem edM_fit (pa : Bool) (n O v : Nat) (hn : 1 ≤ n) (hO : 1 ≤ O) : fitE O n (edM pa n O v) = true := by
 have h1 := Nat.mod_lt (v / 4) hn
 have h2 := Nat.mod_lt (v / 4 / n) hO
 rw [fitE_iff]
 unfold edM
 generalize v / 4 % n = a at *
 generalize v / 4 / n % O = b at *
 split
 ·left; simp
 ·right
  exact ⟨⟨⟨Int.natCast_nonneg a, Int.ofNat_lt.2 h1⟩, Int.natCast_nonneg b⟩, Int.ofNat_lt.2 h2⟩
theorem MD.fit (x : MD) : FitR x.O x.n (edgesOf (x.rows x.n)) := by
 rw [x.edges]
 intro r hr e he
 obtain ⟨s, _, rfl⟩ := List.mem_map.1 hr
 obtain ⟨i, _, rfl⟩ := List.mem_map.1 he
 exact edM_fit _ _ _ _ (by unfold MD.n; omega) (by unfold MD.O; omega)
theorem wideR_of {I : Nat} {R : Rs} (h : ∀ r ∈ R, r.length = I) : WideR I R := fun s hs => h _ (by
 rw [List.getD_eq_getElem?_getD, List.getElem?_eq_getElem hs]; exact List.getElem_mem hs)
theorem MD.wide (x : MD) : WideR x.I (edgesOf (x.rows x.n)) := by
 rw [x.edges]
 refine wideR_of fun r hr => ?_
 obtain ⟨s, _, rfl⟩ := List.mem_map.1 hr
 exact x.row_len s x.I
theorem mem_getD_row {R : Rs} {s : Nat} {e : Edg} (h : e ∈ R.getD s []) : ∃ r ∈ R, e ∈ r := by
 rw [List.getD_eq_getElem?_getD] at h
 cases hs : R[s]? with
 | none => rw [hs] at h; simp at h
 | some r => rw [hs] at h; exact ⟨r, List.mem_of_getElem? hs, h⟩
theorem machOk_rows {I O : Nat} {l : List Row} (hI : 1 ≤ I ∧ I ≤ 16) (hO : 1 ≤ O ∧ O ≤ 16) (hl : 1 ≤ l.length ∧ l.length ≤ 64) (hw : WideR I (edgesOf l)) (hf : FitR O l.length (edgesOf l)) : machOk I O l = 0 := by
 refine machOk_of (by omega) (by omega) hl (fun s hs => ?_) fun j hj => ?_
 ·rw [← getD_edgesOf, hw s (by simpa [edgesOf] using hs)]
 ·rw [← getD_edgesOf, List.all_eq_true]
  intro e he
  obtain ⟨r, hr, he'⟩ := mem_getD_row he
  exact hf r hr e he'
theorem MD.bI (x : MD) : 1 ≤ x.I ∧ x.I ≤ 3 := by unfold MD.I; omega
theorem MD.bO (x : MD) : 1 ≤ x.O ∧ x.O ≤ 3 := by unfold MD.O; omega
theorem MD.bn (x : MD) : 1 ≤ x.n ∧ x.n ≤ 6 := by unfold MD.n; omega
theorem MD.ok (x : MD) : machOk x.I x.O (x.rows x.n) = 0 := by
 have := x.bI; have := x.bO; have := x.bn
 refine machOk_rows (by omega) (by omega) (by rw [MD.rows_len]; omega) x.wide ?_
 rw [MD.rows_len]; exact x.fit
theorem edgeM_side {i o : Int} {l : List Row} (h : machOk i o l = 0) (s k : Nat) (hk : (k : Int) < i) : sideM s (edgeM l s k) l.length o = true := by
 obtain ⟨h1, h2, h3, h4, h5⟩ := machOk_zero h
 unfold edgeM
 split
 ·simp [sideM]
 ·have hs : s < l.length := by omega
  have hr := h5 s hs
  have hw := h4 s hs
  rw [Int.toNat_natCast, Int.toNat_natCast]
  generalize (l.getD s ([], none)).1 = r at *
  have := List.all_eq_true.1 hr (r.getD k (0, 0)) (by
   have hk' : k < r.length := by omega
   simp [hk'])
  simp only [fitE, sideM, Bool.or_eq_true, Bool.and_eq_true, decide_eq_true_eq] at *
  rcases this with q | q
  ·left; exact Prod.ext q.1 q.2
  ·right; omega
end Go.Proofs
