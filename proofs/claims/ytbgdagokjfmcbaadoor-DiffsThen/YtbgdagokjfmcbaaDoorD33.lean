import Derived.Test.YtbgdagokjfmcbaaDoorD29
import Derived.Test.YtbgdagokjfmcbaaDoorD14
/- Diffs: two steps, one behind the other: plain. -/
namespace Go.Proofs
open Go Go.V
set_option linter.unusedVariables false
set_option linter.unusedSimpArgs false
def posE (f g : Nat → Edg) (I q : Nat) : Ed := ⟨(q / I : Nat), (q % I : Nat), f q, g q⟩
def DE (f g : Nat → Edg) (I : Nat) (ps : List Nat) : List Ed := (ps.map (posE f g I)).filter differs
theorem differs_iff (x : Ed) : differs x = true ↔ x.old ≠ x.new := by
  simp only [differs, Bool.not_eq_true', Bool.and_eq_false_iff, decide_eq_false_iff_not, ne_eq, Prod.ext_iff]
  omega
theorem DE_cons (f g : Nat → Edg) (I p : Nat) (ps : List Nat) : DE f g I (p :: ps) = if f p ≠ g p then posE f g I p :: DE f g I ps else DE f g I ps := by
  rw [DE, List.map_cons, List.filter_cons]
  by_cases h : f p = g p
  · have : ¬ differs (posE f g I p) = true := by rw [differs_iff]; simpa [posE] using h
    rw [if_neg this, if_neg (by simpa using h)]; rfl
  · have : differs (posE f g I p) = true := by rw [differs_iff]; simpa [posE] using h
    rw [if_pos this, if_pos h]; rfl
theorem behind_pos {f g f' g' : Nat → Edg} {I p q : Nat} (hI : 1 ≤ I) (h : p < q) : behindM (posE f g I q) (posE f' g' I p) = true := by
  rw [behindM_iff]
  unfold posE
  dsimp only
  have h1 : p / I ≤ q / I := Nat.div_le_div_right (Nat.le_of_lt h)
  have h2 := Nat.div_add_mod p I
  have h3 := Nat.div_add_mod q I
  rcases Nat.lt_or_ge (p / I) (q / I) with r | r
  · exact .inl (Int.ofNat_lt.2 r)
  · have e : p / I = q / I := by omega
    rw [e] at h2
    exact .inr ⟨by rw [e], Int.ofNat_lt.2 (by omega)⟩
theorem not_behind_pos {f g f' g' : Nat → Edg} {I p q : Nat} (hI : 1 ≤ I) (h : p ≤ q) : behindM (posE f g I p) (posE f' g' I q) = false := by
  cases hb : behindM (posE f g I p) (posE f' g' I q) with
  | false => rfl
  | true =>
    rw [behindM_iff] at hb
    unfold posE at hb
    dsimp only at hb
    have h1 : p / I ≤ q / I := Nat.div_le_div_right h
    have h2 := Nat.div_add_mod p I
    have h3 := Nat.div_add_mod q I
    rcases hb with r | ⟨r1, r2⟩
    · have := Int.ofNat_lt.1 r; omega
    · have e : p / I = q / I := Int.ofNat_inj.1 r1
      have := Int.ofNat_lt.1 r2
      rw [e] at h2; omega
theorem DE_mem {f g : Nat → Edg} {I : Nat} {ps : List Nat} {x : Ed} (h : x ∈ DE f g I ps) : ∃ q ∈ ps, x = posE f g I q := by
  obtain ⟨h, _⟩ := List.mem_filter.1 h
  obtain ⟨q, hq, rfl⟩ := List.mem_map.1 h
  exact ⟨q, hq, rfl⟩
theorem keepE_eq (x : Ed) : keepE x = if x.old ≠ x.new then [x] else [] := by
  rw [keepE]
  by_cases h : x.old = x.new
  · have : differs x = false := by
      cases q : differs x with
      | false => rfl
      | true => exact absurd h ((differs_iff x).1 q)
    rw [this, if_neg (by simpa using h)]; rfl
  · rw [(differs_iff x).2 h, if_pos h]; rfl
/-- A first edit that stands ahead of all of the other list. -/
theorem thenL_left {x : Ed} {A B : List Ed} (h : ∀ y ∈ B, behindM y x = true) : thenL (x :: A) B = (thenL A B).map (keepE x ++ ·) := by
  cases B with
  | nil =>
    simp only [thenL, List.length_cons, List.length_nil]
    rw [show A.length + 1 + 0 = (A.length + 0) + 1 by omega, thenE]
    rfl
  | cons y B =>
    simp only [thenL, List.length_cons]
    rw [show A.length + 1 + (B.length + 1) = (A.length + (B.length + 1)) + 1 by omega, thenE, if_pos (h y (List.mem_cons_self ..))]
theorem thenL_right {y : Ed} {A B : List Ed} (h : ∀ x ∈ A, behindM x y = true ∧ behindM y x = false) : thenL A (y :: B) = (thenL A B).map (keepE y ++ ·) := by
  cases A with
  | nil =>
    simp only [thenL, List.length_cons, List.length_nil]
    rw [show 0 + (B.length + 1) = (0 + B.length) + 1 by omega, thenE]
  | cons x A =>
    obtain ⟨h1, h2⟩ := h x (List.mem_cons_self ..)
    simp only [thenL, List.length_cons]
    rw [show A.length + 1 + (B.length + 1) = (A.length + 1 + B.length) + 1 by omega, thenE, if_neg (by simp [h2]), if_pos h1]
theorem thenL_both {x y : Ed} {A B : List Ed} (h1 : behindM y x = false) (h2 : behindM x y = false) (h3 : x.new = y.old) : thenL (x :: A) (y :: B) = (thenL A B).map (keepE ⟨x.s, x.i, x.old, y.new⟩ ++ ·) := by
  simp only [thenL, List.length_cons]
  rw [show A.length + 1 + (B.length + 1) = (A.length + B.length + 1) + 1 by omega, thenE, if_neg (by simp [h1]), if_neg (by simp [h2]), if_pos ⟨by rw [h3], by rw [h3]⟩, thenE_ge (A.length + B.length + 1) (A.length + B.length) A B (by omega) (by omega)]
theorem thenL_DE {a b c : Nat → Edg} {I : Nat} (hI : 1 ≤ I) : ∀ (ps : List Nat), List.Pairwise (· < ·) ps → thenL (DE a b I ps) (DE b c I ps) = some (DE a c I ps)
  | [], _ => by simp [DE, thenL, thenE]
  | p :: ps, h => by
    obtain ⟨hp, hps⟩ := List.pairwise_cons.1 h
    have ih := thenL_DE (a := a) (b := b) (c := c) hI ps hps
    rw [DE_cons a b, DE_cons b c, DE_cons a c]
    by_cases h1 : a p = b p
    · by_cases h2 : b p = c p
      · rw [if_neg (by simpa using h1), if_neg (by simpa using h2), if_neg (by simpa using h1.trans h2)]; exact ih
      · rw [if_neg (by simpa using h1), if_pos h2, if_pos (by rw [h1]; exact h2), thenL_right, ih, keepE_eq, if_pos (show (posE b c I p).old ≠ (posE b c I p).new from h2)]
        · have : posE b c I p = posE a c I p := by simp [posE, h1]
          rw [this]; rfl
        · intro x hx
          obtain ⟨q, hq, rfl⟩ := DE_mem hx
          exact ⟨behind_pos hI (hp q hq), not_behind_pos hI (Nat.le_of_lt (hp q hq))⟩
    · by_cases h2 : b p = c p
      · rw [if_pos h1, if_neg (by simpa using h2), if_pos (by rw [← h2]; exact h1), thenL_left, ih, keepE_eq, if_pos (show (posE a b I p).old ≠ (posE a b I p).new from h1)]
        · have : posE a b I p = posE a c I p := by simp [posE, h2]
          rw [this]; rfl
        · intro y hy
          obtain ⟨q, hq, rfl⟩ := DE_mem hy
          exact behind_pos hI (hp q hq)
      · rw [if_pos h1, if_pos h2, thenL_both (not_behind_pos hI (Nat.le_refl _)) (not_behind_pos hI (Nat.le_refl _)) rfl, ih, keepE_eq]
        show some (_ ++ _) = _
        have e : (⟨(posE a b I p).s, (posE a b I p).i, (posE a b I p).old, (posE b c I p).new⟩ : Ed) = posE a c I p := rfl
        rw [e]
        by_cases h3 : a p = c p
        · rw [if_neg (show ¬ (posE a c I p).old ≠ (posE a c I p).new by simpa [posE] using h3), if_neg (by simpa using h3)]; rfl
        · rw [if_pos (show (posE a c I p).old ≠ (posE a c I p).new from h3), if_pos h3]; rfl
/-- The edge at place q, where all edges of a machine stand one behind the other. -/
def edgeAt (l : List Row) (I q : Nat) : Edg := edgeM l (q / I : Nat) (q % I : Nat)
theorem seqE_DE (l r : List Row) (I q : Nat) : seqE l r I q = DE (edgeAt l I) (edgeAt r I) I (List.range q) := rfl
theorem diffRow_out {l r : List Row} {I s : Nat} (h1 : l.length ≤ s) (h2 : r.length ≤ s) : diffRow l r I s = [] := by
  rw [diffRow, List.filter_eq_nil_iff]
  intro x hx
  obtain ⟨i, _, rfl⟩ := List.mem_map.1 hx
  rw [differs_iff]
  unfold diffAt edgeM
  dsimp only
  rw [if_pos (by omega), if_pos (by omega)]
  simp
theorem diffEds_more {l r : List Row} {I : Nat} : ∀ (k : Nat), diffEds l r (max l.length r.length + k) I = diffEds l r (max l.length r.length) I
  | 0 => rfl
  | k + 1 => by rw [← Nat.add_assoc, diffEds_succ, diffEds_more k, diffRow_out (by omega) (by omega), List.append_nil]
theorem diffEds_DE {l r : List Row} {I S : Nat} (h : max l.length r.length ≤ S) : diffEds l r (max l.length r.length) I = DE (edgeAt l I) (edgeAt r I) I (List.range (S * I)) := by
  have := diffEds_more (l := l) (r := r) (I := I) (S - max l.length r.length)
  rw [show max l.length r.length + (S - max l.length r.length) = S by omega] at this
  rw [← this, ← seqE_all, seqE_DE]
theorem thenL_diff {l m r : List Row} {I : Nat} (hI : 1 ≤ I) : thenL (diffEds l m (max l.length m.length) I) (diffEds m r (max m.length r.length) I) = some (diffEds l r (max l.length r.length) I) := by
  rw [diffEds_DE (S := max l.length (max m.length r.length)) (by omega), diffEds_DE (S := max l.length (max m.length r.length)) (by omega), diffEds_DE (S := max l.length (max m.length r.length)) (by omega)]
  exact thenL_DE hI _ List.pairwise_lt_range
theorem thenM_diff {i o1 o2 o3 : Int} {l m r : List Row} (hl : machOk i o1 l = 0) (hm : machOk i o2 m = 0) (hr : machOk i o3 r = 0) : thenM (diffM i o1 l o2 m) (diffM i o2 m o3 r) = (diffM i o1 l o3 r, 0) := by
  obtain ⟨h1, _⟩ := machOk_zero hl
  have e1 := diffM_ok hl hm
  have e2 := diffM_ok hm hr
  have e3 := diffM_ok hl hr
  have e4 : thenL (diffM i o1 l o2 m).ed (diffM i o2 m o3 r).ed = some (diffM i o1 l o3 r).ed := thenL_diff (by omega)
  have e5 : thenHead (diffM i o1 l o2 m) (diffM i o2 m o3 r) (diffM i o1 l o3 r).ed = diffM i o1 l o3 r := rfl
  rw [thenM, if_neg (by rw [e1]; simp), if_neg (by rw [e2]; simp), if_neg (by simp [diffM]), if_neg (by simp [diffM]), e4]
  dsimp only
  rw [e5, if_neg (by rw [e3]; simp)]
end Go.Proofs
