import Derived.Test.YtbgdagokjfmcbaaDoorD29
import Derived.Test.YtbgdagokjfmcbaaDoorD14
namespace Go.Proofs
open Go Go.V
set_option linter.unusedVariables false
set_option linter.unusedSimpArgs false
def posE (f g : Nat → Edg) (I q : Nat) : Ed := ⟨(q / I : Nat), (q % I : Nat), f q, g q⟩
def DE (f g : Nat → Edg) (I : Nat) (ps : List Nat) : List Ed := (ps.map (posE f g I)).filter differs
theorem differs_iff (x : Ed) : differs x = true ↔ x.old ≠ x.new := by
 simp only [differs, Bool.not_eq_true', Bool.and_eq_false_iff, decide_eq_false_iff_not, ne_eq, Prod.ext_iff]
 omega
theorem behind_pos {f g f' g' : Nat → Edg} {I p q : Nat} (hI : 1 ≤ I) (h : p < q) : behindM (posE f g I q) (posE f' g' I p) = true := by
 rw [behindM_iff]
 unfold posE
 dsimp only
 have h1 : p / I ≤ q / I := Nat.div_le_div_right (Nat.le_of_lt h)
 have h2 := Nat.div_add_mod p I
 have h3 := Nat.div_add_mod q I
 rcases Nat.lt_or_ge (p / I) (q / I) with r | r
 ·exact .inl (Int.ofNat_lt.2 r)
 ·have e : p / I = q / I := by omega
  rw [e] at h2
  exact .inr ⟨by rw [e], Int.ofNat_lt.2 (by omega)⟩
theorem not_behind_pos {f g f' g' : Nat → Edg} {I p q : Nat} (hI : 1 ≤ I) (h : p ≤ q) : behindM (posE f g I p) (posE f' g' I q) = false := by
 cases hb : behindM (posE f g I p) (posE f' g' I q) with
 | false => rfl
 | true =>
  rw [behindM_iff] at hb
  unfold posE at hb
  dsimp only at hb
  have h1 : p / I ≤ q / I := Nat.div_le_div_right h
  have h2 := Nat.div_add_mod p I
  have h3 := Nat.div_add_mod q I
  rcases hb with r | ⟨r1, r2⟩
  ·have := Int.ofNat_lt.1 r; omega
  ·have e : p / I = q / I := Int.ofNat_inj.1 r1
   have := Int.ofNat_lt.1 r2
   rw [e] at h2; omega
theorem keepE_eq (x : Ed) : keepE x = if x.old ≠ x.new then [x] else [] := by
 rw [keepE]
 by_cases h : x.old = x.new
 ·have : differs x = false := by
   cases q : differs x with
   | false => rfl
   | true => exact absurd h ((differs_iff x).1 q)
  rw [this, if_neg (by simpa using h)]; rfl
 ·rw [(differs_iff x).2 h, if_pos h]; rfl
theorem thenL_left {x : Ed} {A B : List Ed} (h : ∀ y ∈ B, behindM y x = true) : thenL (x :: A) B = (thenL A B).map (keepE x ++ ·) := by
 cases B with
 | nil =>
  simp only [thenL, List.length_cons, List.length_nil]
  rw [show A.length + 1 + 0 = (A.length + 0) + 1 by omega, thenE]
  rfl
 | cons y B =>
  simp only [thenL, List.length_cons]
  rw [show A.length + 1 + (B.length + 1) = (A.length + (B.length + 1)) + 1 by omega, thenE, if_pos (h y (List.mem_cons_self ..))]
theorem thenL_right {y : Ed} {A B : List Ed} (h : ∀ x ∈ A, behindM x y = true ∧ behindM y x = false) : thenL A (y :: B) = (thenL A B).map (keepE y ++ ·) := by
 cases A with
 | nil =>
  simp only [thenL, List.length_cons, List.length_nil]
  rw [show 0 + (B.length + 1) = (0 + B.length) + 1 by omega, thenE]
 | cons x A =>
  obtain ⟨h1, h2⟩ := h x (List.mem_cons_self ..)
  simp only [thenL, List.length_cons]
  rw [show A.length + 1 + (B.length + 1) = (A.length + 1 + B.length) + 1 by omega, thenE, if_neg (by simp [h2]), if_pos h1]
theorem thenL_both {x y : Ed} {A B : List Ed} (h1 : behindM y x = false) (h2 : behindM x y = false) (h3 : x.new = y.old) : thenL (x :: A) (y :: B) = (thenL A B).map (keepE ⟨x.s, x.i, x.old, y.new⟩ ++ ·) := by
 simp only [thenL, List.length_cons]
 rw [show A.length + 1 + (B.length + 1) = (A.length + B.length + 1) + 1 by omega, thenE, if_neg (by simp [h1]), if_neg (by simp [h2]), if_pos ⟨by rw [h3], by rw [h3]⟩, thenE_ge (A.length + B.length + 1) (A.length + B.length) A B (by omega) (by omega)]
def edgeAt (l : List Row) (I q : Nat) : Edg := edgeM l (q / I : Nat) (q % I : Nat)
end Go.Proofs
