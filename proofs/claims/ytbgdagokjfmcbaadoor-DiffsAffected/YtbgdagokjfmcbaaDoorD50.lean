import Derived.Test.YtbgdagokjfmcbaaDoorD22
namespace Go.Proofs
open Go Go.V
set_option linter.unusedVariables false
set_option linter.unusedSimpArgs false
theorem lexI_range : ∀ (xs ys : List Int), lexI xs ys = -1 ∨ lexI xs ys = 0 ∨ lexI xs ys = 1
 | [], _ => by simp [lexI]
 | _ :: _, [] => by simp [lexI]
 | x :: xs, y :: ys => by
  have ih := lexI_range xs ys
  rw [lexI]; split
  ·simp
  ·split
   ·simp
   ·exact ih
theorem cmpM_range (xs ys : List Int) : cmpM xs ys = -1 ∨ cmpM xs ys = 0 ∨ cmpM xs ys = 1 := by
 rw [cmpM]; split
 ·simp
 ·split
  ·simp
  ·exact lexI_range xs ys
theorem lexI_anti : ∀ (xs ys : List Int), lexI ys xs = -lexI xs ys
 | [], [] => rfl
 | [], _ :: _ => rfl
 | _ :: _, [] => rfl
 | x :: xs, y :: ys => by
  have ih := lexI_anti xs ys
  rw [lexI, lexI]
  by_cases h1 : x < y
  ·rw [if_pos h1, if_neg (by omega), if_pos h1]; rfl
  ·by_cases h2 : y < x
   ·simp [h1, h2]
   ·rw [if_neg h1, if_neg h2, if_neg h2, if_neg h1, ih]
theorem cmpM_anti (xs ys : List Int) : cmpM ys xs = -cmpM xs ys := by
 rw [cmpM, cmpM]
 by_cases h1 : xs.length < ys.length
 ·rw [if_pos h1, if_neg (by omega), if_pos h1]; rfl
 ·by_cases h2 : ys.length < xs.length
  ·simp [h1, h2]
  ·rw [if_neg h1, if_neg h2, if_neg h2, if_neg h1, lexI_anti]
theorem lexI_trans : ∀ (xs ys zs : List Int), xs.length = ys.length → ys.length = zs.length → lexI xs ys ≤ 0 → lexI ys zs ≤ 0 → lexI xs zs ≤ 0
 | [], _, _, _, _, _, _ => by simp [lexI]
 | x :: xs, [], _, h, _, _, _ => by simp at h
 | x :: xs, y :: ys, [], _, h, _, _ => by simp at h
 | x :: xs, y :: ys, z :: zs, h1, h2, e1, e2 => by
  have ih := lexI_trans xs ys zs (by simpa using h1) (by simpa using h2)
  rw [lexI] at e1 e2
  by_cases a1 : x < y
  ·by_cases a2 : y < z
   ·rw [lexI, if_pos (by omega)]; omega
   ·rw [if_neg a2] at e2
    by_cases a3 : z < y
    ·rw [if_pos a3] at e2; omega
    ·rw [lexI, if_pos (by omega)]; omega
  ·rw [if_neg a1] at e1
   by_cases a2 : y < x
   ·rw [if_pos a2] at e1; omega
   ·rw [if_neg a2] at e1
    by_cases a3 : y < z
    ·rw [lexI, if_pos (by omega)]; omega
    ·rw [if_neg a3] at e2
     by_cases a4 : z < y
     ·rw [if_pos a4] at e2; omega
     ·rw [if_neg a4] at e2
      rw [lexI, if_neg (by omega), if_neg (by omega)]
      exact ih e1 e2
theorem cmpM_trans (xs ys zs : List Int) (e1 : cmpM xs ys ≤ 0) (e2 : cmpM ys zs ≤ 0) : cmpM xs zs ≤ 0 := by
 rw [cmpM] at *
 by_cases a : xs.length < zs.length
 ·rw [if_pos a]; omega
 ·rw [if_neg a]
  by_cases b : xs.length < ys.length
  ·rw [if_neg (by omega), if_pos (by omega)] at e2; omega
  ·rw [if_neg b] at e1
   by_cases c : ys.length < xs.length
   ·rw [if_pos c] at e1; omega
   ·rw [if_neg c] at e1
    by_cases d : zs.length < ys.length
    ·rw [if_neg (by omega), if_pos d] at e2; omega
    ·rw [if_neg (by omega), if_neg d] at e2
     rw [if_neg (by omega)]
     exact lexI_trans xs ys zs (by omega) (by omega) e1 e2
theorem cmpM_lt_le {xs ys zs : List Int} (h : cmpM xs ys < 0) (k : cmpM ys zs ≤ 0) : cmpM xs zs < 0 := by
 have h1 := cmpM_trans xs ys zs (by omega) k
 rcases Int.lt_or_eq_of_le h1 with h2 | h2
 ·exact h2
 ·rw [cmpM_zero] at h2
  subst h2
  rw [cmpM_anti ys xs] at h; omega
abbrev Wds := List (List Int)
def bsM (l : Wds) (w : List Int) : Nat → Nat → Nat → Nat
 | 0, low, _ => low
 | n + 1, low, high => if low < high then (if cmpM (l.getD ((low + high) / 2) []) w < 0 then bsM l w n ((low + high) / 2 + 1) high else bsM l w n low ((low + high) / 2)) else low
def putM (l : Wds) (w : List Int) : Wds := if bsM l w (l.length + 1) 0 l.length < l.length ∧ cmpM (l.getD (bsM l w (l.length + 1) 0 l.length) []) w = 0 then l else l.take (bsM l w (l.length + 1) 0 l.length) ++ w :: l.drop (bsM l w (l.length + 1) 0 l.length)
def sortM (l : Wds) : Wds := l.foldl putM []
def SortW (l : Wds) : Prop := List.Pairwise (fun x y => cmpM x y < 0) l
theorem bsM_spec {l : Wds} (hs : SortW l) (w : List Int) : ∀ n low high, high - low < n → low ≤ high → high ≤ l.length → (∀ j, j < low → cmpM (l.getD j []) w < 0) → (∀ j, high ≤ j → j < l.length → 0 ≤ cmpM (l.getD j []) w) →
  bsM l w n low high ≤ l.length ∧ (∀ j, j < bsM l w n low high → cmpM (l.getD j []) w < 0) ∧ ∀ j, bsM l w n low high ≤ j → j < l.length → 0 ≤ cmpM (l.getD j []) w
 | 0, low, high, h, _, _, _, _ => by omega
 | n + 1, low, high, h, h1, h2, h3, h4 => by
  have hlt : ∀ i j, i < j → j < l.length → cmpM (l.getD i []) (l.getD j []) < 0 := fun i j hij hj => by
   have := List.pairwise_iff_getElem.1 hs i j (by omega) hj hij
   simpa [show i < l.length by omega, hj] using this
  rw [bsM]
  by_cases hlh : low < high
  ·rw [if_pos hlh]
   by_cases hc : cmpM (l.getD ((low + high) / 2) []) w < 0
   ·rw [if_pos hc]
    refine bsM_spec hs w n _ _ (by omega) (by omega) h2 (fun j hj => ?_) h4
    rcases Nat.lt_or_ge j ((low + high) / 2) with k | k
    ·exact cmpM_lt_le (hlt j _ k (by omega)) (by omega)
    ·obtain rfl : j = (low + high) / 2 := by omega
     exact hc
   ·rw [if_neg hc]
    refine bsM_spec hs w n _ _ (by omega) (by omega) (by omega) h3 fun j hj hj2 => ?_
    rcases Nat.lt_or_ge ((low + high) / 2) j with k | k
    ·have := hlt _ j k hj2
     rcases Int.lt_or_le (cmpM (l.getD j []) w) 0 with q | q
     ·exact absurd (cmpM_lt_le this (by omega)) hc
     ·exact q
    ·obtain rfl : j = (low + high) / 2 := by omega
     omega
  ·rw [if_neg hlh]
   exact ⟨by omega, h3, fun j hj hj2 => h4 j (by omega) hj2⟩
theorem putM_spec {l : Wds} (hs : SortW l) (w : List Int) : SortW (putM l w) ∧ (∀ x, x ∈ putM l w ↔ x = w ∨ x ∈ l) ∧ (putM l w).length ≤ l.length + 1 := by
 obtain ⟨h1, h2, h3⟩ := bsM_spec hs w (l.length + 1) 0 l.length (by omega) (by omega) (Nat.le_refl _) (fun j hj => by omega) (fun j hj hj2 => by omega)
 unfold putM
 generalize bsM l w (l.length + 1) 0 l.length = b at *
 by_cases hc : b < l.length ∧ cmpM (l.getD b []) w = 0
 ·rw [if_pos hc]
  refine ⟨hs, fun x => ⟨.inr, fun h => ?_⟩, by omega⟩
  rcases h with rfl | h
  ·have := (cmpM_zero _ _).1 hc.2
   rw [← this, List.getD_eq_getElem?_getD, List.getElem?_eq_getElem hc.1]; exact List.getElem_mem _
  ·exact h
 ·rw [if_neg hc]
  refine ⟨?_, fun x => ?_, ?_⟩
  ·have hl := h2
   have hr : ∀ j, b ≤ j → j < l.length → 0 < cmpM (l.getD j []) w := fun j hj hj2 => by
    have := h3 j hj hj2
    rcases Int.lt_or_eq_of_le this with q | q
    ·exact q
    ·exfalso
     rcases Nat.lt_or_ge b j with k | k
     ·have hlt := List.pairwise_iff_getElem.1 hs b j (by omega) hj2 k
      have e1 : l.getD b [] = l[b]'(by omega) := by rw [List.getD_eq_getElem?_getD, List.getElem?_eq_getElem (by omega)]; rfl
      have e2 : l.getD j [] = l[j] := by rw [List.getD_eq_getElem?_getD, List.getElem?_eq_getElem hj2]; rfl
      rw [← e1, ← e2, (cmpM_zero _ _).1 q.symm] at hlt
      have := h3 b (Nat.le_refl _) (by omega)
      omega
     ·obtain rfl : j = b := by omega
      exact hc ⟨hj2, q.symm⟩
   refine List.pairwise_append.2 ⟨hs.sublist (List.take_sublist _ _), List.pairwise_cons.2 ⟨fun y hy => ?_, hs.sublist (List.drop_sublist _ _)⟩, fun x hx y hy => ?_⟩
   ·obtain ⟨j, hj, rfl⟩ := List.getElem_of_mem hy
    rw [List.length_drop] at hj
    have := hr (b + j) (by omega) (by omega)
    rw [List.getD_eq_getElem?_getD, List.getElem?_eq_getElem (by omega), Option.getD_some] at this
    rw [List.getElem_drop, cmpM_anti]; omega
   ·obtain ⟨i, hi, rfl⟩ := List.getElem_of_mem hx
    rw [List.length_take] at hi
    have h5 := hl i (by omega)
    rw [List.getD_eq_getElem?_getD, List.getElem?_eq_getElem (by omega), Option.getD_some] at h5
    rw [List.getElem_take]
    rcases List.mem_cons.1 hy with rfl | hy
    ·exact h5
    ·obtain ⟨j, hj, rfl⟩ := List.getElem_of_mem hy
     rw [List.length_drop] at hj
     rw [List.getElem_drop]
     exact List.pairwise_iff_getElem.1 hs i (b + j) (by omega) (by omega) (by omega)
  ·have : x ∈ l ↔ x ∈ l.take b ∨ x ∈ l.drop b := by rw [← List.mem_append, List.take_append_drop]
   rw [List.mem_append, List.mem_cons, this]
   constructor
   ·rintro (h | h | h)
    ·exact .inr (.inl h)
    ·exact .inl h
    ·exact .inr (.inr h)
   ·rintro (h | h | h)
    ·exact .inr (.inl h)
    ·exact .inl h
    ·exact .inr (.inr h)
  ·simp; omega
theorem sortM_go : ∀ (l acc : Wds), SortW acc → SortW (l.foldl putM acc) ∧ (∀ x, x ∈ l.foldl putM acc ↔ x ∈ l ∨ x ∈ acc) ∧ (l.foldl putM acc).length ≤ l.length + acc.length
 | [], acc, h => ⟨h, fun x => by simp, by simp⟩
 | w :: l, acc, h => by
  obtain ⟨h1, h2, h3⟩ := putM_spec h w
  obtain ⟨k1, k2, k3⟩ := sortM_go l (putM acc w) h1
  refine ⟨k1, fun x => ?_, by simp only [List.foldl_cons, List.length_cons]; omega⟩
  rw [List.foldl_cons, k2, h2, List.mem_cons]
  constructor
  ·rintro (h | h | h)
   ·exact .inl (.inr h)
   ·exact .inl (.inl h)
   ·exact .inr h
  ·rintro ((h | h) | h)
   ·exact .inr (.inl h)
   ·exact .inl h
   ·exact .inr (.inr h)
theorem sortM_spec (l : Wds) : SortW (sortM l) ∧ (∀ x, x ∈ sortM l ↔ x ∈ l) ∧ (sortM l).length ≤ l.length := by
 obtain ⟨h1, h2, h3⟩ := sortM_go l [] List.Pairwise.nil
 exact ⟨h1, fun x => by rw [sortM, h2]; simp, by rw [sortM]; simpa using h3⟩
end Go.Proofs
