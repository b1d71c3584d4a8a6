import Derived.Test.YtcpenghfjghecaaDoorLP3
/- Lexemes: what the walks meet: plain. -/
namespace Go.Proofs
set_option linter.unusedVariables false
set_option linter.unusedSimpArgs false
theorem c10_count (s : Bs) : c10 s = s.count 10 := by
  induction s with
  | nil => rfl
  | cons b r ih => rw [c10_cons, List.count_cons, ih]; by_cases h : b = 10 <;> simp [h]; omega
theorem posT_no : ∀ (s : Bs) (l c : Int), (∀ j : Nat, s[j]? ≠ some (10 : UInt8)) → posT l c s = (l, c + s.length)
  | [], l, c, _ => by simp [posT]
  | b :: r, l, c, h => by
    have h0 := h 0
    simp only [List.getElem?_cons_zero, ne_eq, Option.some.injEq] at h0
    rw [posT, if_neg h0, posT_no r l (c + 1) fun j => by have := h (j + 1); rwa [List.getElem?_cons_succ] at this]
    simp only [List.length_cons, Int.natCast_add, Int.natCast_one, Prod.mk.injEq, true_and]; omega
theorem posT_at : ∀ (s : Bs) (l c : Int) (k : Nat), s[k]? = some 10 → (∀ j : Nat, k < j → s[j]? ≠ some (10 : UInt8)) → posT l c s = (l + ((s.count 10 : Nat) : Int), 1 + (((s.drop (k + 1)).length : Nat) : Int))
  | [], l, c, k, h, _ => by simp at h
  | b :: r, l, c, 0, h, hl => by
    simp only [List.getElem?_cons_zero, Option.some.injEq] at h
    subst h
    have hn : ∀ j : Nat, r[j]? ≠ some (10 : UInt8) := fun j => by have := hl (j + 1) (by omega); rwa [List.getElem?_cons_succ] at this
    rw [posT, if_pos rfl, posT_no r _ _ hn, List.count_cons_self, List.drop_succ_cons, List.drop_zero]
    have : r.count 10 = 0 := List.count_eq_zero.mpr fun q => by
      obtain ⟨j, hj, e⟩ := List.getElem_of_mem q
      exact hn j (by rw [List.getElem?_eq_getElem hj, e])
    rw [this]; simp
  | b :: r, l, c, k + 1, h, hl => by
    rw [List.getElem?_cons_succ] at h
    have ih := fun l c => posT_at r l c k h fun j hj => by have := hl (j + 1) (by omega); rwa [List.getElem?_cons_succ] at this
    rw [posT, List.drop_succ_cons, List.count_cons]
    split
    · rename_i e; rw [ih, e]; simp only [beq_self_eq_true, if_true, Prod.mk.injEq, and_true]; omega
    · rename_i e; rw [ih]; simp [e]
theorem gap_none : ∀ (s : Bs), (∀ j : Nat, s[j]? ≠ some (10 : UInt8)) → gapS true s = s.length
  | [], _ => rfl
  | b :: r, h => by
    have h0 := h 0
    simp only [List.getElem?_cons_zero, ne_eq, Option.some.injEq] at h0
    rw [gapS, if_neg h0, gap_none r fun j => by have := h (j + 1); rwa [List.getElem?_cons_succ] at this]
    simp only [List.length_cons]; omega
theorem gap_some : ∀ (s : Bs) (k : Nat), s[k]? = some 10 → (∀ j : Nat, j < k → s[j]? ≠ some (10 : UInt8)) → gapS true s = k + gapS false (s.drop k)
  | [], k, h, _ => by simp at h
  | b :: r, 0, h, _ => by
    simp only [List.getElem?_cons_zero, Option.some.injEq] at h
    subst h
    rw [gapS, if_pos rfl, List.drop_zero, gapS]; simp
  | b :: r, k + 1, h, hl => by
    have h0 := hl 0 (by omega)
    simp only [List.getElem?_cons_zero, ne_eq, Option.some.injEq] at h0
    rw [List.getElem?_cons_succ] at h
    rw [gapS, if_neg h0, List.drop_succ_cons, gap_some r k h fun j hj => by have := hl (j + 1) (by omega); rwa [List.getElem?_cons_succ] at this]
    omega
theorem gap_hash (r : Bs) : gapS false (35 :: r) = gapS true (35 :: r) := by
  rw [gapS, gapS]
  have : ¬ (blkB 35 = true ∨ (35 : UInt8) = 10) := by decide
  rw [if_neg this, if_pos rfl, if_neg (by decide)]
/-- A loop that counts the gap stands behind `n` bytes of it. -/
theorem gap_blank (s : Bs) (n : Nat) (b : UInt8) (hn : s[n]? = some b) (hb : blkB b = true ∨ b = 10) (h : gapS false s = n + gapS false (s.drop n)) : gapS false s = (n + 1) + gapS false (s.drop (n + 1)) := by
  have hlt : n < s.length := by
    rcases Nat.lt_or_ge n s.length with q | q
    · exact q
    · rw [List.getElem?_eq_none q] at hn; cases hn
  have e : s.drop n = b :: s.drop (n + 1) := by
    rw [List.drop_eq_getElem_cons hlt]
    rw [List.getElem?_eq_getElem hlt] at hn
    rw [Option.some.inj hn]
  rw [e, gapS, if_pos hb] at h
  omega
theorem gap_rem (s : Bs) (n : Nat) (hn : s[n]? = some 35) (h : gapS false s = n + gapS false (s.drop n)) :
    ((∀ j : Nat, (s.drop n)[j]? ≠ some (10 : UInt8)) → gapS false s = s.length) ∧
    (∀ k, (s.drop n)[k]? = some 10 → (∀ j : Nat, j < k → (s.drop n)[j]? ≠ some (10 : UInt8)) → gapS false s = (n + k) + gapS false (s.drop (n + k))) := by
  have hlt : n < s.length := by
    rcases Nat.lt_or_ge n s.length with q | q
    · exact q
    · rw [List.getElem?_eq_none q] at hn; cases hn
  have e : s.drop n = 35 :: s.drop (n + 1) := by
    rw [List.drop_eq_getElem_cons hlt]
    rw [List.getElem?_eq_getElem hlt] at hn
    rw [Option.some.inj hn]
  have hg : gapS false (s.drop n) = gapS true (s.drop n) := by rw [e]; exact gap_hash _
  rw [hg] at h
  refine ⟨fun hj => ?_, fun k hk hj => ?_⟩
  · rw [h, gap_none _ hj, List.length_drop]; omega
  · rw [h, gap_some _ k hk hj, List.drop_drop]; omega
theorem gap_stop (s : Bs) (n : Nat) (b : UInt8) (hn : s[n]? = some b) (h1 : ¬ blkB b = true) (h2 : ¬ b = 10) (h3 : ¬ b = 35) (h : gapS false s = n + gapS false (s.drop n)) : gapS false s = n := by
  have hlt : n < s.length := by
    rcases Nat.lt_or_ge n s.length with q | q
    · exact q
    · rw [List.getElem?_eq_none q] at hn; cases hn
  have e : s.drop n = b :: s.drop (n + 1) := by
    rw [List.drop_eq_getElem_cons hlt]
    rw [List.getElem?_eq_getElem hlt] at hn
    rw [Option.some.inj hn]
  rw [e, gapS, if_neg (by simp [h1, h2]), if_neg h3] at h
  omega
/-! ### What a word is -/
theorem kindW_letter (w : Bs) (h : letB (w.headD 0) = true) : kindW w = if w.length ≤ 16 then (1, 0) else (0, 10) := by
  unfold kindW; rw [if_pos h]
theorem kindW_zero : kindW [48] = (2, 0) := by decide
theorem kindW_bad (w : Bs) (h : ¬ letB (w.headD 0) = true) (h2 : ¬ w = [48]) (h3 : w ≠ []) (hb : w.headD 0 = 48 ∨ 9 < w.length ∨ ¬ w.all digB = true) : kindW w = (0, 4) := by
  unfold kindW
  rw [if_neg h, if_neg]
  rintro ⟨q1, q2, q3⟩
  rcases hb with q | q | q
  · match w, h3 with
    | [a], _ => simp only [List.headD_cons] at q; subst q; exact h2 rfl
    | a :: b :: r, _ => exact q3 ⟨by simp, q⟩
  · omega
  · exact q q1
theorem kindW_num (w : Bs) (h : ¬ letB (w.headD 0) = true) (h0 : ¬ w.headD 0 = 48) (h1 : w.length ≤ 9) (h2 : w.all digB = true) : kindW w = (2, 0) := by
  unfold kindW
  rw [if_neg h, if_pos ⟨h2, h1, fun q => h0 q.2⟩]
/-- The reference's way to say it. -/
theorem kindW_ref (w : Bs) (h : ¬ letB (w.headD 0) = true) : kindW w = if w.all digB = true then (if 9 < w.length ∨ (1 < w.length ∧ w.headD 0 = 48) then (0, 4) else (2, 0)) else (0, 4) := by
  unfold kindW
  rw [if_neg h]
  by_cases a : w.all digB = true
  · rw [if_pos a]
    by_cases b : 9 < w.length ∨ (1 < w.length ∧ w.headD 0 = 48)
    · rw [if_pos b, if_neg]
      rintro ⟨_, q2, q3⟩
      rcases b with b | b
      · omega
      · exact q3 b
    · rw [if_neg b, if_pos ⟨a, by omega, fun q => b (.inr q)⟩]
  · rw [if_neg a, if_neg fun q => a q.1]
theorem wordS_at (s : Bs) (n : Nat) (h : n < (wordS s).length) : ∃ b, s[n]? = some b ∧ wrdB b = true := by
  have e := wordS_take s
  have hl : (wordS s).length ≤ s.length := by have := congrArg List.length e; rw [List.length_take] at this; omega
  refine ⟨s[n]'(by omega), List.getElem?_eq_getElem _, ?_⟩
  apply wordS_all s
  have : (wordS s)[n]'h = s[n]'(by omega) := by
    have h2 : n < (s.take (wordS s).length).length := by rw [List.length_take]; omega
    have : (s.take (wordS s).length)[n]'h2 = s[n]'(by omega) := List.getElem_take
    rw [← this]; congr 1; exact e.symm
  rw [← this]; exact List.getElem_mem h
theorem wordS_end : ∀ (s : Bs), s[(wordS s).length]? = none ∨ ∃ b, s[(wordS s).length]? = some b ∧ wrdB b = false
  | [] => .inl rfl
  | a :: r => by
    unfold wordS
    rw [List.takeWhile_cons]
    split
    · rw [List.length_cons, List.getElem?_cons_succ]; exact wordS_end r
    · rename_i h; right; exact ⟨a, rfl, by simpa using h⟩
theorem wordS_le (s : Bs) : (wordS s).length ≤ s.length := by
  have := congrArg List.length (wordS_take s); rw [List.length_take] at this; omega
theorem wordS_nil (s : Bs) : wordS s = [] ↔ wrdB (s.headD 0) = false := by
  cases s with
  | nil => exact ⟨fun _ => by decide, fun _ => rfl⟩
  | cons a r =>
    unfold wordS
    rw [List.takeWhile_cons, List.headD_cons]
    split
    · rename_i h; simp [h]
    · rename_i h; simpa using h
theorem tokS_word (s : Bs) (h : wordS s ≠ []) : tokS s = ((kindW (wordS s)).1, (wordS s).length, (kindW (wordS s)).2) := by
  have : wrdB (s.headD 0) = true := by
    cases q : wrdB (s.headD 0)
    · exact absurd ((wordS_nil s).2 q) h
    · rfl
  unfold tokS; rw [if_pos this]
theorem tokS_mark (s : Bs) (h : wordS s = []) : tokS s = if markN s = 0 then (0, 0, 4) else (3, markN s, 0) := by
  unfold tokS; rw [if_neg (by rw [(wordS_nil s).1 h]; decide)]
/-- The error of a token that is none. -/
theorem tokS_kinds (s : Bs) : (tokS s).2.2 = 0 ∧ ((tokS s).1 = 1 ∨ (tokS s).1 = 2 ∨ (tokS s).1 = 3) ∨ (tokS s).1 = 0 ∧ ((tokS s).2.2 = 4 ∨ (tokS s).2.2 = 10) := by
  unfold tokS
  split
  · simp only [kindW]
    split
    · split <;> simp
    · split <;> simp
  · split <;> simp
end Go.Proofs
