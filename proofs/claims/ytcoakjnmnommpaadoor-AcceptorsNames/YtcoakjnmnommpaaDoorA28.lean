import Derived.Test.YtcoakjnmnommpaaDoorA27
import Derived.Test.YtcoakjnmnommpaaDoorAR3
namespace Go.Proofs
open Go Go.V
set_option linter.unusedVariables false
set_option linter.unusedSimpArgs false
set_option maxHeartbeats 0
def b2i (b : Bool) : Int := if b = true then 1 else 0
def setT (T : Nat → Nat → Bool) (s t : Nat) : Nat → Nat → Bool := fun s' t' => if s' = s ∧ t' = t then true else T s' t'
def cntT (n : Nat) (T : Nat → Nat → Bool) : Nat := (List.range (n * n)).countP fun i => !T (i / n) (i % n)
theorem cntT_set (n : Nat) (T : Nat → Nat → Bool) (s t : Nat) (hs : s < n) (ht : t < n) (h : T s t = false) : cntT n (setT T s t) < cntT n T := by
 have hi : s * n + t < n * n := by
  have := Nat.mul_le_mul_right n (show s + 1 ≤ n from hs)
  rw [Nat.add_mul, Nat.one_mul] at this; omega
 have e1 : (s * n + t) / n = s := by rw [Nat.mul_comm, Nat.mul_add_div (by omega), Nat.div_eq_of_lt ht]; rfl
 have e2 : (s * n + t) % n = t := by rw [Nat.mul_comm, Nat.mul_add_mod, Nat.mod_eq_of_lt ht]
 have key : ∀ m, (List.range m).countP (fun i => !setT T s t (i / n) (i % n)) + (if s * n + t < m then 1 else 0) ≤ (List.range m).countP fun i => !T (i / n) (i % n) := by
  intro m
  induction m with
  | zero => simp
  | succ m ih =>
   rw [List.range_succ, List.countP_append, List.countP_append]
   simp only [List.countP_cons, List.countP_nil]
   by_cases e : m = s * n + t
   ·subst e
    rw [e1, e2, h]
    have : setT T s t s t = true := by simp [setT]
    rw [this]
    simp only [Nat.lt_irrefl, if_false, Nat.lt_succ_self, if_true, Bool.not_true, Bool.not_false, Bool.false_eq_true] at ih ⊢
    omega
   ·have h1 : setT T s t (m / n) (m % n) = false → T (m / n) (m % n) = false := fun q => by
     unfold setT at q
     split at q
     ·cases q
     ·exact q
    have h2 : (s * n + t < m + 1) ↔ (s * n + t < m) := by omega
    simp only [h2]
    cases q : setT T s t (m / n) (m % n) with
    | false => rw [h1 q]; simp; omega
    | true =>
     have hz : (if (!true) = true then 1 else 0) = 0 := rfl
     cases T (m / n) (m % n) <;> simp <;> omega
 have := key (n * n)
 rw [if_pos hi] at this
 unfold cntT; omega
structure ApI (δ : Nat → Nat → Nat) (acc : Nat → Bool) (A n : Nat) (T : Nat → Nat → Bool) : Prop where
 sound : ∀ s t, s < n → t < n → T s t = true → ∃ u, InA A u ∧ acc (runX δ s u) ≠ acc (runX δ t u)
 base : ∀ s t, s < n → t < n → T s t = false → acc s = acc t
def PassI (δ : Nat → Nat → Nat) (A n : Nat) (T0 T : Nat → Nat → Bool) (more : Int) (done : Nat → Nat → Prop) : Prop :=
 (more = 1 ∧ cntT n T < cntT n T0) ∨ (more = 0 ∧ T = T0 ∧ ∀ s t, done s t → T s t = false → ∀ a, a < A → T (δ s a) (δ t a) = false)
section
variable {δ : Nat → Nat → Nat} {acc : Nat → Bool} {A n : Nat} {T T0 : Nat → Nat → Bool} {more : Int}
theorem ApI.set (h : ApI δ acc A n T) {s t a : Nat} (ha : a < A) (hs : δ s a < n) (ht : δ t a < n) (h1 : T (δ s a) (δ t a) = true) : ApI δ acc A n (setT T s t) := by
 refine ⟨fun s' t' hs' ht' q => ?_, fun s' t' hs' ht' q => ?_⟩
 ·unfold setT at q
  split at q
  ·rename_i e
   obtain ⟨rfl, rfl⟩ := e
   obtain ⟨u, hu, hne⟩ := h.sound _ _ hs ht h1
   refine ⟨a :: u, fun b hb => ?_, hne⟩
   rcases List.mem_cons.1 hb with rfl|q
   ·exact ha
   ·exact hu b q
  ·exact h.sound s' t' hs' ht' q
 ·unfold setT at q
  split at q
  ·cases q
  ·exact h.base s' t' hs' ht' q
theorem PassI.set {done : Nat → Nat → Prop} (h : PassI δ A n T0 T more done) {s t : Nat} (hs : s < n) (ht : t < n) (h0 : T s t = false) (done' : Nat → Nat → Prop) : PassI δ A n T0 (setT T s t) 1 done' := by
 have := cntT_set n T s t hs ht h0
 rcases h with ⟨_, h⟩|⟨_, h, _⟩
 ·exact .inl ⟨rfl, by omega⟩
 ·subst h; exact .inl ⟨rfl, this⟩
theorem PassI.mono {done done' : Nat → Nat → Prop} (h : PassI δ A n T0 T more done) (hd : ∀ s t, done' s t → done s t ∨ (T s t = false → ∀ a, a < A → T (δ s a) (δ t a) = false)) : PassI δ A n T0 T more done' := by
 rcases h with h|⟨h1, h2, h3⟩
 ·exact .inl h
 ·exact .inr ⟨h1, h2, fun s t q => (hd s t q).elim (h3 s t) id⟩
end
def rowT (T : Nat → Nat → Bool) (n s : Nat) : List (List AV) := intF (fun t => b2i (T s t)) n
def firstT (acc : Nat → Bool) : Nat → Nat → Bool := fun s t => acc s != acc t
def partT (acc : Nat → Bool) (s u : Nat) : Nat → Int := fun t => if t < u ∧ (acc s != acc t) = true then 1 else 0
open Classical in
noncomputable def apL (δ : Nat → Nat → Nat) (acc : Nat → Bool) (A n : Nat) : List LC := (List.range n).map fun s => ((List.range n).map fun t => b2i (!eqW δ acc A s t), some n)
end Go.Proofs
