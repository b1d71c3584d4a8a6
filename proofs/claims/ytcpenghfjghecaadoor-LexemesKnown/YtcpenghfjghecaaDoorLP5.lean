import Derived.Test.YtcpenghfjghecaaDoorLP4
/- Lexemes: tokens written with blanks between them, and divided again: plain. -/
namespace Go.Proofs
set_option linter.unusedVariables false
set_option linter.unusedSimpArgs false
def jn : List Bs → Bs
  | [] => []
  | [p] => p
  | p :: q :: r => p ++ 32 :: jn (q :: r)
theorem jn_snoc (x : Bs) : ∀ (l : List Bs), l ≠ [] → jn (l ++ [x]) = jn l ++ 32 :: x
  | [], h => absurd rfl h
  | [p], _ => rfl
  | p :: q :: r, _ => by
    rw [List.cons_append, List.cons_append, jn, jn, ← List.cons_append, jn_snoc x (q :: r) (by simp)]
    simp
theorem jn_len : ∀ (l : List Bs) (m : Nat), (∀ x ∈ l, x.length ≤ m) → (jn l).length ≤ l.length * (m + 1)
  | [], _, _ => by simp [jn]
  | [p], m, h => by have := h p List.mem_cons_self; simp [jn]; omega
  | p :: q :: r, m, h => by
    have h1 := h p List.mem_cons_self
    have h2 := jn_len (q :: r) m fun x hx => h x (List.mem_cons_of_mem _ hx)
    simp only [List.length_cons] at h2
    rw [jn, List.length_append, List.length_cons, List.length_cons, List.length_cons]
    have : (r.length + 1 + 1) * (m + 1) = (r.length + 1) * (m + 1) + (m + 1) := by rw [Nat.succ_mul]
    omega
def kts (l : List Tk) : List (Int × Bs) := l.map fun t => (t.k, t.t)
theorem lex_join : ∀ (ws : List (Int × Bs)), (∀ x ∈ ws, ValidT x.1 x.2) → ∀ l c, ∃ ts, lexR (jn (ws.map (·.2))) l c = .ok ts ∧ kts ts = ws
  | [], _, l, c => ⟨[], rfl, rfl⟩
  | [x], h, l, c => ⟨[⟨x.1, x.2, l, c⟩], lex_valid (h x List.mem_cons_self) l c, rfl⟩
  | x :: y :: r, h, l, c => by
    obtain ⟨ts, h1, h2⟩ := lex_join (y :: r) (fun z hz => h z (List.mem_cons_of_mem _ hz)) l (c + x.2.length + 1)
    refine ⟨⟨x.1, x.2, l, c⟩ :: ts, ?_, ?_⟩
    · have : jn ((x :: y :: r).map (·.2)) = x.2 ++ 32 :: jn ((y :: r).map (·.2)) := rfl
      rw [this, lex_blank _ (h x List.mem_cons_self), h1]; rfl
    · show (x.1, x.2) :: kts ts = _
      rw [h2]
theorem valid_num {w : Bs} (h : ValidT 2 w) : w.all digB = true ∧ w.length ≤ 9 ∧ ¬ (1 < w.length ∧ w.headD 0 = 48) := by
  by_cases e : wordS w = []
  · have := h.1
    rw [tokS_mark w e] at this
    split at this <;> simp at this
  · have hk := h.1
    rw [tokS_word w e] at hk
    simp only [Prod.mk.injEq] at hk
    have hw : wordS w = w := by have := wordS_take w; rw [hk.2.1, List.take_length] at this; exact this.symm
    rw [hw] at hk
    by_cases a : letB (w.headD 0) = true
    · have := hk.1; rw [kindW_letter w a] at this; split at this <;> simp at this
    · have := hk.1
      unfold kindW at this
      rw [if_neg a] at this
      split at this
      · assumption
      · simp at this
/-- The error of `Check`, of a token's kind and text. -/
def chkT (k : Int) (w : Bs) : Int := if tokS w = (k, w.length, 0) ∧ w ≠ [] then 0 else 1
theorem chkT_zero (k : Int) (w : Bs) : chkT k w = 0 ↔ ValidT k w := by
  unfold chkT ValidT
  split
  · rename_i h; exact ⟨fun _ => h, fun _ => rfl⟩
  · rename_i h; exact ⟨fun q => absurd q (by decide), fun q => absurd q h⟩
theorem chkT_prog (k : Int) (w : Bs) (h : (tokS w).2.2 ≠ 0 ∨ w.take (tokS w).2.1 ≠ w ∨ (tokS w).1 ≠ k) : chkT k w = 1 := by
  unfold chkT
  rw [if_neg]
  rintro ⟨q, _⟩
  rw [q] at h
  simp only [ne_eq, not_true_eq_false, List.take_length, or_self] at h
theorem chkT_ok (k : Int) (w : Bs) (hw : w ≠ []) (h1 : (tokS w).2.2 = 0) (h2 : w.take (tokS w).2.1 = w) (h3 : (tokS w).1 = k) : chkT k w = 0 := by
  unfold chkT
  rw [if_pos]
  refine ⟨?_, hw⟩
  have hl := congrArg List.length h2
  rw [List.length_take] at hl
  have := tokS_le w
  have e : (tokS w).2.1 = w.length := by omega
  rw [← h3, ← h1, ← e]
theorem chkT_nil (k : Int) : chkT k [] = 1 := by unfold chkT; rw [if_neg]; simp
/-! ### Long texts -/
theorem lex_nls : ∀ (n : Nat) (l : Int) (s : Bs), lexR (List.replicate n 10 ++ s) l 1 = lexR s (l + n) 1
  | 0, l, s => by simp
  | n + 1, l, s => by
    rw [List.replicate_succ, List.cons_append, lexR_cons, if_pos rfl, lex_nls n (l + 1) s]
    congr 1; omega
theorem lex_long : lexR (List.replicate 65535 10 ++ [36]) 1 1 = .ok [⟨3, [36], 65536, 1⟩] := by
  rw [lex_nls, lex_valid (k := 3) (w := [36]) ⟨by decide, by simp⟩]
  congr 1
end Go.Proofs
