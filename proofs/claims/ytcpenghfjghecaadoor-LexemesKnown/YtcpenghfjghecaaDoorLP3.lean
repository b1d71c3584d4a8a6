import Derived.Test.YtcpenghfjghecaaDoorLP2
/- Lexemes: two texts, one behind the other; tokens with blanks between them: plain. -/
namespace Go.Proofs
set_option linter.unusedVariables false
set_option linter.unusedSimpArgs false
def c10 (s : Bs) : Nat := (s.filter fun b => decide (b = 10)).length
theorem c10_cons (b : UInt8) (r : Bs) : c10 (b :: r) = (if b = 10 then 1 else 0) + c10 r := by
  unfold c10
  by_cases h : b = 10
  · rw [List.filter_cons_of_pos (by simp [h]), List.length_cons, if_pos h]; omega
  · rw [List.filter_cons_of_neg (by simp [h]), if_neg h]; omega
theorem c10_app (s t : Bs) : c10 (s ++ t) = c10 s + c10 t := by unfold c10; rw [List.filter_append, List.length_append]
theorem c10_toNl (s : Bs) : c10 (toNl s) = c10 s := by
  unfold toNl
  induction s with
  | nil => rfl
  | cons b r ih =>
    rw [List.dropWhile_cons]
    split
    · rename_i h
      have : ¬ b = 10 := by simpa using h
      rw [ih, c10_cons, if_neg this]; omega
    · rfl
theorem c10_flat : ∀ (w : Bs), (∀ b ∈ w, ¬ b = 10 ∧ ¬ b = 35) → c10 w = 0
  | [], _ => rfl
  | b :: r, h => by rw [c10_cons, if_neg (h b List.mem_cons_self).1, c10_flat r fun x hx => h x (List.mem_cons_of_mem _ hx)]
theorem c10_tok (s : Bs) : c10 (s.drop (tokS s).2.1) = c10 s := by
  have h := c10_app (s.take (tokS s).2.1) (s.drop (tokS s).2.1)
  rw [List.take_append_drop, c10_flat _ (tokS_bytes s)] at h
  omega
def glueR : LexR → LexR → LexR
  | .ok a, r => r.app a
  | .err l c e, _ => .err l c e
theorem glue_cons (t : Tk) (a r : LexR) : glueR (a.cons t) r = (glueR a r).cons t := by cases a <;> cases r <;> rfl
structure Tail (u t : Bs) : Prop where
  at1 : ∀ l c, lexR u l c = lexR t (l + 1) 1
  at2 : ∀ l c, lexR (toNl u) l c = lexR t (l + 1) 1
  wrd : wrdB (u.headD 0) = false
  mrk : ∀ b, pairB b (u.headD 0) = false
  pos : u ≠ []
theorem wordS_tail {u t : Bs} (h : Tail u t) : ∀ r : Bs, wordS (r ++ u) = wordS r
  | [] => by
    match u, h.pos, h.wrd with
    | x :: u', _, hw =>
      simp only [List.headD_cons] at hw
      simp [wordS, hw]
  | a :: r => by
    have := wordS_tail h r
    simp only [wordS, List.cons_append, List.takeWhile_cons] at *
    rw [this]
theorem markN_tail {u t : Bs} (h : Tail u t) (b : UInt8) (r : Bs) : markN (b :: r ++ u) = markN (b :: r) := by
  match r with
  | d :: r => rfl
  | [] =>
    match u, h.pos, h.mrk with
    | x :: u', _, hm =>
      have := hm b
      simp only [List.headD_cons] at this
      simp [markN, pairH, this]
theorem tokS_tail {u t : Bs} (h : Tail u t) (b : UInt8) (r : Bs) : tokS (b :: r ++ u) = tokS (b :: r) := by
  have e1 : wordS (b :: r ++ u) = wordS (b :: r) := wordS_tail h _
  have e2 := markN_tail h b r
  unfold tokS
  rw [e1, e2]; rfl
theorem toNl_app (r u : Bs) : (toNl (r ++ u) = toNl r ++ u) ∨ (toNl r = [] ∧ toNl (r ++ u) = toNl u) := by
  induction r with
  | nil => right; exact ⟨rfl, rfl⟩
  | cons b r ih =>
    unfold toNl at *
    rw [List.cons_append, List.dropWhile_cons, List.dropWhile_cons]
    split
    · exact ih
    · left; rfl
theorem lex_tail {u t : Bs} (h : Tail u t) : ∀ (n : Nat) (s : Bs), s.length < n → ∀ l c, lexR (s ++ u) l c = glueR (lexR s l c) (lexR t (l + c10 s + 1) 1)
  | 0, _, hn, _, _ => by omega
  | n + 1, [], _, l, c => by
    rw [List.nil_append, h.at1, lexR_nil]
    have : c10 [] = 0 := rfl
    rw [glueR, this, LexR.app_nil]; simp
  | n + 1, b :: r, hn, l, c => by
    simp only [List.length_cons] at hn
    have ht := tokS_tail h b r
    rw [List.cons_append] at ht
    rw [List.cons_append, lexR_cons, lexR_cons b r, ht]
    by_cases e1 : b = 10
    · rw [if_pos e1, if_pos e1, lex_tail h n r (by omega), c10_cons, if_pos e1]
      congr 2; simp; omega
    · rw [if_neg e1, if_neg e1]
      by_cases e2 : blkB b = true
      · rw [if_pos e2, if_pos e2, lex_tail h n r (by omega), c10_cons, if_neg e1]
        congr 2; simp
      · rw [if_neg e2, if_neg e2]
        by_cases e3 : b = 35
        · rw [if_pos e3, if_pos e3, c10_cons, if_neg e1]
          rcases toNl_app r u with q | ⟨q1, q2⟩
          · rw [q, lex_tail h n (toNl r) (by have := toNl_len r; omega), c10_toNl]
            congr 2; simp
          · rw [q1, q2, h.at2, lexR_nil, glueR, LexR.app_nil, ← c10_toNl r, q1]
            congr 1; simp [c10]
        · rw [if_neg e3, if_neg e3]
          by_cases e4 : (tokS (b :: r)).2.2 = 0
          · rw [if_neg (by simp [e4]), if_neg (by simp [e4]), glue_cons]
            have hp := tokS_pos e4
            have hl := tokS_le (b :: r)
            have hd : (b :: (r ++ u)).drop (tokS (b :: r)).2.1 = (b :: r).drop (tokS (b :: r)).2.1 ++ u := by
              rw [← List.cons_append, List.drop_append_of_le_length hl]
            have hk : (b :: (r ++ u)).take (tokS (b :: r)).2.1 = (b :: r).take (tokS (b :: r)).2.1 := by
              rw [← List.cons_append, List.take_append_of_le_length hl]
            rw [hd, hk, lex_tail h n _ (by rw [List.length_drop, List.length_cons]; simp only [List.length_cons] at hl; omega), c10_tok]
          · rw [if_pos e4, if_pos e4]; rfl
theorem tail_nl (t : Bs) : Tail (10 :: t) t := by
  refine ⟨fun l c => ?_, fun l c => ?_, rfl, fun b => ?_, by simp⟩
  · rw [lexR_cons, if_pos rfl]
  · have : toNl (10 :: t) = 10 :: t := rfl
    rw [this, lexR_cons, if_pos rfl]
  · simp [pairB]
theorem tail_rem (m t : Bs) (hm : ∀ b ∈ m, ¬ b = 10) : Tail (32 :: 35 :: (m ++ 10 :: t)) t := by
  have hd : toNl (m ++ 10 :: t) = 10 :: t := by
    unfold toNl
    rw [List.dropWhile_append_of_pos (by intro b hb; simp [hm b hb])]; rfl
  refine ⟨fun l c => ?_, fun l c => ?_, rfl, fun b => ?_, by simp⟩
  · rw [lexR_cons, if_neg (by decide), if_pos (by decide), lexR_cons, if_neg (by decide), if_neg (by decide), if_pos rfl, hd, lexR_cons, if_pos rfl]
  · have : toNl (32 :: 35 :: (m ++ 10 :: t)) = toNl (m ++ 10 :: t) := rfl
    rw [this, hd, lexR_cons, if_pos rfl]
  · simp [pairB]
theorem lex_nl (s t : Bs) : lexR (s ++ 10 :: t) 1 1 = glueR (lexR s 1 1) (lexR t (1 + c10 s + 1) 1) := lex_tail (tail_nl t) _ s (Nat.lt_succ_self _) 1 1
theorem lex_rem (s m t : Bs) (hm : ∀ b ∈ m, ¬ b = 10) : lexR (s ++ 32 :: 35 :: (m ++ 10 :: t)) 1 1 = lexR (s ++ 10 :: t) 1 1 := by
  rw [lex_nl, lex_tail (tail_rem m t hm) _ s (Nat.lt_succ_self _) 1 1]
/-! ### Lines that follow -/
def downT (d : Int) (t : Tk) : Tk := ⟨t.k, t.t, t.l + d, t.c⟩
def downR (d : Int) : LexR → LexR
  | .ok l => .ok (l.map (downT d))
  | .err l c e => .err (l + d) c e
theorem down_cons (d : Int) (t : Tk) (r : LexR) : downR d (r.cons t) = (downR d r).cons (downT d t) := by cases r <;> rfl
theorem lex_down (d : Int) : ∀ (n : Nat) (s : Bs), s.length < n → ∀ l c, lexR s (l + d) c = downR d (lexR s l c)
  | 0, _, hn, _, _ => by omega
  | n + 1, [], _, l, c => rfl
  | n + 1, b :: r, hn, l, c => by
    simp only [List.length_cons] at hn
    rw [lexR_cons, lexR_cons b r]
    by_cases e1 : b = 10
    · rw [if_pos e1, if_pos e1, ← lex_down d n r (by omega)]; congr 1; omega
    · rw [if_neg e1, if_neg e1]
      by_cases e2 : blkB b = true
      · rw [if_pos e2, if_pos e2, ← lex_down d n r (by omega)]
      · rw [if_neg e2, if_neg e2]
        by_cases e3 : b = 35
        · rw [if_pos e3, if_pos e3, ← lex_down d n (toNl r) (by have := toNl_len r; omega)]
        · rw [if_neg e3, if_neg e3]
          by_cases e4 : (tokS (b :: r)).2.2 = 0
          · rw [if_neg (by simp [e4]), if_neg (by simp [e4]), down_cons]
            have hp := tokS_pos e4
            have hl := tokS_le (b :: r)
            simp only [List.length_cons] at hl
            rw [← lex_down d n _ (by rw [List.length_drop, List.length_cons]; omega)]; rfl
          · rw [if_pos e4, if_pos e4]; rfl
theorem lex_line (s : Bs) (d : Int) : lexR s (1 + d) 1 = downR d (lexR s 1 1) := lex_down d _ s (Nat.lt_succ_self _) 1 1
/-! ### Tokens by themselves -/
def ValidT (k : Int) (w : Bs) : Prop := tokS w = (k, w.length, 0) ∧ w ≠ []
theorem valid_head {k : Int} {b : UInt8} {r : Bs} (h : ValidT k (b :: r)) : ¬ blkB b = true ∧ ¬ b = 10 ∧ ¬ b = 35 := by
  have he : (tokS (b :: r)).2.2 = 0 := by rw [h.1]
  have hb := tokS_bytes (b :: r) b
  rw [h.1, List.take_length] at hb
  have := hb List.mem_cons_self
  refine ⟨fun q => ?_, this.1, this.2⟩
  have hc : b = 32 ∨ b = 9 ∨ b = 13 := by simpa [blkB, or_assoc] using q
  have hm : wrdB b = false ∧ sngB b = false ∧ (∀ d, pairB b d = false) := by
    rcases hc with rfl | rfl | rfl <;> exact ⟨by decide, by decide, fun d => by simp [pairB]⟩
  have hp : pairH (b :: r) = false := by cases r <;> simp [pairH, hm.2.2]
  simp [tokS, hm.1, markN, hp, hm.2.1] at he
theorem lex_valid {k : Int} {w : Bs} (h : ValidT k w) (l c : Int) : lexR w l c = .ok [⟨k, w, l, c⟩] := by
  match w, h with
  | [], h => exact absurd rfl h.2
  | b :: r, h =>
    have hh := valid_head h
    rw [lexR_cons, if_neg hh.2.1, if_neg hh.1, if_neg hh.2.2, h.1]
    simp [lexR_nil, LexR.cons]
theorem lex_blank (t : Bs) {k : Int} {w : Bs} (h : ValidT k w) (l c : Int) : lexR (w ++ 32 :: t) l c = (lexR t l (c + w.length + 1)).cons ⟨k, w, l, c⟩ := by
  match w, h with
  | [], h => exact absurd rfl h.2
  | b :: r, h =>
    have hh := valid_head h
    have hT : Tail (32 :: (10 :: t)) t := by
      refine ⟨fun l c => ?_, fun l c => ?_, rfl, fun b => ?_, by simp⟩
      · rw [lexR_cons, if_neg (by decide), if_pos (by decide), lexR_cons, if_pos rfl]
      · have : toNl (32 :: 10 :: t) = 10 :: t := rfl
        rw [this, lexR_cons, if_pos rfl]
      · simp [pairB]
    have ht : tokS (b :: r ++ 32 :: t) = tokS (b :: r) := by
      have e1 : wordS (b :: r ++ 32 :: t) = wordS (b :: r) := by
        have e : ∀ r : Bs, wordS (r ++ 32 :: t) = wordS r := by
          intro r
          induction r with
          | nil => have : wrdB 32 = false := by decide
                   simp [wordS, this]
          | cons a r ih => simp only [wordS, List.cons_append, List.takeWhile_cons] at *; rw [ih]
        exact e _
      have e2 : markN (b :: r ++ 32 :: t) = markN (b :: r) := by
        match r with
        | d :: r => rfl
        | [] => simp [markN, pairH, pairB]
      unfold tokS
      rw [e1, e2]; rfl
    rw [List.cons_append] at ht
    rw [List.cons_append, lexR_cons, if_neg hh.2.1, if_neg hh.1, if_neg hh.2.2, ht, h.1]
    simp only [ne_eq, not_true_eq_false, if_false]
    rw [← List.cons_append, List.drop_left, List.take_left, lexR_cons, if_neg (by decide), if_pos (by decide)]
theorem valid_iff (k : Int) (w : Bs) (hw : w ≠ []) : (∃ l c, lexR w 1 1 = .ok [⟨k, w, l, c⟩]) ↔ ValidT k w := by
  constructor
  · rintro ⟨l, c, h⟩
    refine ⟨?_, hw⟩
    rcases gap_end w false 1 1 with ⟨_, h2⟩ | ⟨b, r, hd, _, h2, h1, h3, hl⟩
    · have : lexX false w 1 1 = .ok [⟨k, w, l, c⟩] := h
      rw [this] at h2; cases h2
    · have hx : lexX false w 1 1 = .ok [⟨k, w, l, c⟩] := h
      rw [hx] at hl
      have ht := tok_place b r _ _ h2 h1 h3 _ _ hl.symm
      have e := ht.2.1
      simp only [Tk.mk.injEq] at e
      have hlen := congrArg List.length e.2.1
      have hdl := congrArg List.length hd
      rw [List.length_drop] at hdl
      rw [List.length_take] at hlen
      have hp := tokS_pos ht.1
      have hle := tokS_le (b :: r)
      have h0 : gapS false w = 0 := by
        have hwp : 0 < w.length := List.length_pos_iff.mpr hw
        omega
      rw [h0, List.drop_zero] at hd
      have e1 := e.1
      have hwl : w.length = (b :: r).length := congrArg List.length hd
      have : (tokS (b :: r)).2.1 = (b :: r).length := by omega
      rw [hd, ← this, e1, ← ht.1]
  · intro h
    exact ⟨1, 1, lex_valid h 1 1⟩
end Go.Proofs
