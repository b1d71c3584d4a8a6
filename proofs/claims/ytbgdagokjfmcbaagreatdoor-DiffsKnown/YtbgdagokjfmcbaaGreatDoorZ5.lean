import Derived.Test.YtbgdagokjfmcbaaGreatDoorZ4
import Derived.Test.YtbgdagokjfmcbaaGreatDoorD30
namespace Go.Proofs
open Go Go.V
set_option linter.unusedVariables false
set_option linter.unusedSimpArgs false
set_option maxHeartbeats 0
theorem sideM_wide {s st ou : Int} {e : Edg} (h : sideM s e st ou = true) (h1 : st ≤ 64) (h2 : ou ≤ 64) : wideE e := by
 unfold wideE
 simp only [sideM, Bool.or_eq_true, Bool.and_eq_true, decide_eq_true_eq] at h
 rcases h with h|h
 ·exact .inl h
 ·exact .inr ⟨by omega, by omega⟩
theorem check_wide {p : Pt} (hc : checkP p = 0) : (∀ x ∈ nums p, 0 ≤ x ∧ x ≤ 999) ∧ ∀ x ∈ p.ed, wideX x := by
 obtain ⟨hh, hk⟩ := checkP_spec hc
 refine ⟨fun x hx => ?_, fun x hx => ?_⟩
 ·obtain ⟨k, hk2, rfl⟩ := List.getElem_of_mem hx
  have := nums_bd hh k
  rw [List.getD_eq_getElem?_getD, List.getElem?_eq_getElem hk2, Option.getD_some] at this
  omega
 ·obtain ⟨k, hk2, rfl⟩ := List.getElem_of_mem hx
  have h := hk k hk2
  have e : p.ed.getD k xD = p.ed[k] := by simp [hk2]
  obtain ⟨b1, b2, _, _⟩ := okAt_bd hh h
  simp only [headK, Bool.and_eq_true, Bool.or_eq_true, decide_eq_true_eq] at hh
  simp only [okAt, okX, Bool.and_eq_true, Bool.not_eq_true', Bool.or_eq_false_iff, decide_eq_false_iff_not] at h
  obtain ⟨⟨⟨⟨⟨⟨⟨h1, h2⟩, h3⟩, h4⟩, h5⟩, h6⟩, h7⟩, h8⟩ := h
  rw [e] at *
  exact ⟨by omega, by omega, sideM_wide h6 (by omega) (by omega), sideM_wide h7 (by omega) (by omega)⟩
theorem textE_len9 {e : Edg} (h : wideE e) : (textE e).length ≤ 7 := by
 unfold textE
 rcases h with rfl|⟨h1, h2⟩
 ·decide
 ·rw [if_neg (by intro q; rw [q] at h1; omega)]
  have l1 := itoa_len3 h1.1 h1.2
  have l2 := itoa_len3 h2.1 h2.2
  simp; omega
theorem lineE_len28 {x : Ed} (h : wideX x) : (lineE x).length ≤ 30 := by
 obtain ⟨h1, h2, h3, h4⟩ := h
 have l1 := itoa_len3 h1.1 h1.2
 have l2 := itoa_len3 h2.1 h2.2
 have l3 := textE_len9 h3
 have l4 := textE_len9 h4
 simp [lineE]; omega
theorem flat_len : ∀ (l : List Ed), (∀ x ∈ l, wideX x) → (l.flatMap lineE).length ≤ 30 * l.length
 | [], _ => by simp
 | x :: l, h => by
  have h1 := lineE_len28 (h x (List.mem_cons_self ..))
  have h2 := flat_len l fun y hy => h y (List.mem_cons_of_mem _ hy)
  simp only [List.flatMap_cons, List.length_append, List.length_cons]; omega
theorem text_len {p : Pt} (hc : checkP p = 0) (hl : p.ed.length ≤ 1024) : (textP p).length ≤ 65536 := by
 obtain ⟨hn, hx⟩ := check_wide hc
 have h1 := flat_len p.ed hx
 have h2 : ∀ x ∈ nums p, (numT x).length ≤ 4 := fun x hx => by
  have := hn x hx
  have := itoa_len3 this.1 this.2
  simp [numT]; omega
 have a1 := h2 p.inp (by simp [nums])
 have a2 := h2 p.o0 (by simp [nums])
 have a3 := h2 p.o1 (by simp [nums])
 have a4 := h2 p.s0 (by simp [nums])
 have a5 := h2 p.s1 (by simp [nums])
 simp only [textP, headP, List.length_append, List.length_cons, List.length_nil]; omega
theorem text_read {p : Pt} (hc : checkP p = 0) (hl : p.ed.length ≤ 1024) : parseD (textP p) = (p, 0, 0) :=
 text_parseD hc (check_wide hc).1 (check_wide hc).2 (text_len hc hl)
end Go.Proofs
