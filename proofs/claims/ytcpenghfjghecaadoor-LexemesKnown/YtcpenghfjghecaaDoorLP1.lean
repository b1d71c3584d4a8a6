import Derived.Test.YtcpenghfjghecaaDoorSPL
/- Lexemes: bytes, words, marks; how a text is divided: plain. -/
namespace Go.Proofs
set_option linter.unusedVariables false
set_option linter.unusedSimpArgs false
def letB (c : UInt8) : Bool := (decide (97 ≤ c.toNat) && decide (c.toNat ≤ 122)) || (decide (65 ≤ c.toNat) && decide (c.toNat ≤ 90))
def digB (c : UInt8) : Bool := decide (48 ≤ c.toNat) && decide (c.toNat ≤ 57)
def wrdB (c : UInt8) : Bool := letB c || digB c || decide (c.toNat = 95)
def sngs : Bs := [33, 36, 37, 38, 40, 41, 42, 43, 44, 45, 46, 47, 58, 59, 60, 61, 62, 63, 64, 91, 93, 94, 123, 124, 125, 126]
def sngB (c : UInt8) : Bool := sngs.contains c
def pairB (c d : UInt8) : Bool := (decide (c = 45) && decide (d = 62)) || ((decide (c = 60) || decide (c = 62) || decide (c = 33) || decide (c = 58)) && decide (d = 61))
def pairH : Bs → Bool
  | c :: d :: _ => pairB c d
  | _ => false
/-- How long the mark is with which a text begins. -/
def markN (s : Bs) : Nat := if pairH s = true then 2 else match s with | [] => 0 | c :: _ => if sngB c = true then 1 else 0
/-- What a word is, or the error. -/
def kindW (w : Bs) : Int × Int :=
  if letB (w.headD 0) = true then (if w.length ≤ 16 then (1, 0) else (0, 10))
  else if w.all digB = true ∧ w.length ≤ 9 ∧ ¬ (1 < w.length ∧ w.headD 0 = 48) then (2, 0) else (0, 4)
structure Tk where
  k : Int
  t : Bs
  l : Int
  c : Int
  deriving DecidableEq
inductive LexR where
  | ok (l : List Tk)
  | err (l c e : Int)
  deriving DecidableEq
def LexR.cons (t : Tk) : LexR → LexR
  | .ok l => .ok (t :: l)
  | .err l c e => .err l c e
def LexR.app (ts : List Tk) : LexR → LexR
  | .ok l => .ok (ts ++ l)
  | .err l c e => .err l c e
theorem LexR.app_nil (r : LexR) : r.app [] = r := by cases r <;> rfl
theorem LexR.app_app (a b : List Tk) (r : LexR) : (r.app b).app a = r.app (a ++ b) := by cases r <;> simp [LexR.app]
theorem LexR.app_snoc (a : List Tk) (t : Tk) (r : LexR) : (r.cons t).app a = r.app (a ++ [t]) := by cases r <;> simp [LexR.app, LexR.cons]
def blkB (b : UInt8) : Bool := decide (b = 32) || decide (b = 9) || decide (b = 13)
def toNl (s : Bs) : Bs := s.dropWhile fun b => !decide (b = 10)
def wordS (s : Bs) : Bs := s.takeWhile wrdB
/-- The token with which a text begins, which does not begin with a blank or a remark: kind, length, error. -/
def tokS (s : Bs) : Int × Nat × Int :=
  if wrdB (s.headD 0) = true then ((kindW (wordS s)).1, (wordS s).length, (kindW (wordS s)).2)
  else if markN s = 0 then (0, 0, 4) else (3, markN s, 0)
def lexG : Nat → Bs → Int → Int → LexR
  | 0, _, _, _ => .ok []
  | _ + 1, [], _, _ => .ok []
  | f + 1, b :: r, l, c =>
    if b = 10 then lexG f r (l + 1) 1
    else if blkB b = true then lexG f r l (c + 1)
    else if b = 35 then lexG f (toNl r) l c
    else if (tokS (b :: r)).2.2 ≠ 0 then .err l c (tokS (b :: r)).2.2
    else (lexG f ((b :: r).drop (tokS (b :: r)).2.1) l (c + (tokS (b :: r)).2.1)).cons ⟨(tokS (b :: r)).1, (b :: r).take (tokS (b :: r)).2.1, l, c⟩
theorem toNl_len (s : Bs) : (toNl s).length ≤ s.length := by
  unfold toNl
  induction s with
  | nil => simp
  | cons b r ih =>
    rw [List.dropWhile_cons]
    split
    · simp only [List.length_cons]; omega
    · exact Nat.le_refl _
theorem wordS_pos {b : UInt8} {r : Bs} (h : wrdB b = true) : 1 ≤ (wordS (b :: r)).length := by
  simp [wordS, List.takeWhile_cons, h]
theorem tokS_pos {b : UInt8} {r : Bs} (h : (tokS (b :: r)).2.2 = 0) : 1 ≤ (tokS (b :: r)).2.1 := by
  unfold tokS at *
  split
  · rename_i q; exact wordS_pos q
  · rename_i q
    rw [if_neg q] at h
    split at h
    · cases h
    · rename_i q2; rw [if_neg q2]; simp only; omega
theorem lexG_fuel : ∀ (f g : Nat) (s : Bs) (l c : Int), s.length < f → s.length < g → lexG f s l c = lexG g s l c
  | 0, g, s, l, c, h, _ => by omega
  | f + 1, 0, s, l, c, _, h => by omega
  | f + 1, g + 1, [], l, c, _, _ => rfl
  | f + 1, g + 1, b :: r, l, c, h1, h2 => by
    simp only [List.length_cons] at h1 h2
    rw [lexG, lexG]
    have ht := toNl_len r
    rw [lexG_fuel f g r _ _ (by omega) (by omega), lexG_fuel f g r _ _ (by omega) (by omega), lexG_fuel f g (toNl r) _ _ (by omega) (by omega)]
    by_cases he : (tokS (b :: r)).2.2 = 0
    · have hp := tokS_pos he
      have hl : ((b :: r).drop (tokS (b :: r)).2.1).length ≤ r.length := by rw [List.length_drop, List.length_cons]; omega
      rw [lexG_fuel f g _ _ _ (by omega) (by omega)]
    · simp only [he, ne_eq, not_false_eq_true, if_true]
def lexR (s : Bs) (l c : Int) : LexR := lexG (s.length + 1) s l c
theorem lexR_nil (l c : Int) : lexR [] l c = .ok [] := rfl
theorem lexR_cons (b : UInt8) (r : Bs) (l c : Int) : lexR (b :: r) l c =
    if b = 10 then lexR r (l + 1) 1
    else if blkB b = true then lexR r l (c + 1)
    else if b = 35 then lexR (toNl r) l c
    else if (tokS (b :: r)).2.2 ≠ 0 then .err l c (tokS (b :: r)).2.2
    else (lexR ((b :: r).drop (tokS (b :: r)).2.1) l (c + (tokS (b :: r)).2.1)).cons ⟨(tokS (b :: r)).1, (b :: r).take (tokS (b :: r)).2.1, l, c⟩ := by
  have ht := toNl_len r
  unfold lexR
  rw [lexG]
  simp only [List.length_cons]
  rw [lexG_fuel (r.length + 1) ((toNl r).length + 1) (toNl r) _ _ (by omega) (by omega)]
  by_cases he : (tokS (b :: r)).2.2 = 0
  · have hp := tokS_pos he
    have hl : ((b :: r).drop (tokS (b :: r)).2.1).length ≤ r.length := by rw [List.length_drop, List.length_cons]; omega
    rw [lexG_fuel (r.length + 1) (((b :: r).drop (tokS (b :: r)).2.1).length + 1) ((b :: r).drop (tokS (b :: r)).2.1) _ _ (by omega) (by omega)]
  · simp only [he, ne_eq, not_false_eq_true, if_true]
/-! ### What stands between tokens -/
def gapS : Bool → Bs → Nat
  | _, [] => 0
  | false, b :: r => if blkB b = true ∨ b = 10 then 1 + gapS false r else if b = 35 then 1 + gapS true r else 0
  | true, b :: r => if b = 10 then 1 + gapS false r else 1 + gapS true r
theorem gapS_le : ∀ (x : Bool) (s : Bs), gapS x s ≤ s.length
  | x, [] => by cases x <;> exact Nat.le_refl _
  | false, b :: r => by
    rw [gapS]
    have h1 := gapS_le false r
    have h2 := gapS_le true r
    simp only [List.length_cons]
    split
    · omega
    · split <;> omega
  | true, b :: r => by
    rw [gapS]
    have h1 := gapS_le false r
    have h2 := gapS_le true r
    simp only [List.length_cons]
    split <;> omega
/-- Line and column behind a text. -/
def posT (l c : Int) : Bs → Int × Int
  | [] => (l, c)
  | b :: r => if b = 10 then posT (l + 1) 1 r else posT l (c + 1) r
theorem posT_app (s t : Bs) : ∀ l c, posT l c (s ++ t) = posT (posT l c s).1 (posT l c s).2 t := by
  induction s with
  | nil => intro l c; rfl
  | cons b r ih =>
    intro l c
    rw [List.cons_append, posT, posT]
    split
    · exact ih _ _
    · exact ih _ _
theorem lex_gap : ∀ (s : Bs) (l c c' : Int),
    (s.drop (gapS false s) = [] → lexR s l c = .ok []) ∧ (s.drop (gapS false s) ≠ [] → lexR s l c = lexR (s.drop (gapS false s)) (posT l c (s.take (gapS false s))).1 (posT l c (s.take (gapS false s))).2) ∧
    (s.drop (gapS true s) = [] → lexR (toNl s) l c = .ok []) ∧ (s.drop (gapS true s) ≠ [] → lexR (toNl s) l c = lexR (s.drop (gapS true s)) (posT l c' (s.take (gapS true s))).1 (posT l c' (s.take (gapS true s))).2)
  | [], l, c, c' => by simp [gapS, lexR_nil, toNl]
  | b :: r, l, c, c' => by
    have hA := lex_gap r (l + 1) 1 1
    have hB := lex_gap r l (c + 1) (c + 1)
    have hC := lex_gap r l c (c' + 1)
    have hD := lex_gap r l c (c + 1)
    have e10 : blkB 10 = false := by decide
    have d1 : ∀ n, (b :: r).drop (1 + n) = r.drop n := fun n => by rw [Nat.add_comm, List.drop_succ_cons]
    have d2 : ∀ n, (b :: r).take (1 + n) = b :: r.take n := fun n => by rw [Nat.add_comm, List.take_succ_cons]
    refine ⟨?_, ?_, ?_, ?_⟩
    · rw [gapS]
      split
      · rename_i h
        rw [d1, lexR_cons]
        intro hh
        by_cases e : b = 10
        · rw [if_pos e]; exact hA.1 hh
        · rw [if_neg e, if_pos (h.resolve_right e)]; exact hB.1 hh
      · rename_i h
        have h1 : ¬ b = 10 := fun e => h (.inr e)
        have h2 : ¬ blkB b = true := fun e => h (.inl e)
        split
        · rename_i e
          rw [d1, lexR_cons, if_neg h1, if_neg h2, if_pos e]
          intro hh; exact hD.2.2.1 hh
        · intro hh; simp at hh
    · rw [gapS]
      split
      · rename_i h
        rw [d1, d2, lexR_cons, posT]
        intro hh
        by_cases e : b = 10
        · rw [if_pos e, if_pos e]; exact hA.2.1 hh
        · rw [if_neg e, if_neg e, if_pos (h.resolve_right e)]; exact hB.2.1 hh
      · rename_i h
        have h1 : ¬ b = 10 := fun e => h (.inr e)
        have h2 : ¬ blkB b = true := fun e => h (.inl e)
        split
        · rename_i e
          rw [d1, d2, lexR_cons, posT, if_neg h1, if_neg h2, if_pos e, if_neg h1]
          intro hh; exact hD.2.2.2 hh
        · intro hh
          rfl
    · rw [gapS, toNl, List.dropWhile_cons]
      split
      · rename_i h
        rw [d1, if_neg (by simp [h]), lexR_cons, if_pos h]
        intro hh; exact hA.1 hh
      · rename_i h
        rw [d1, if_pos (by simp [h])]
        intro hh; exact hC.2.2.1 hh
    · rw [gapS, toNl, List.dropWhile_cons]
      split
      · rename_i h
        rw [d1, d2, if_neg (by simp [h]), lexR_cons, if_pos h, posT, if_pos h]
        intro hh; exact hA.2.1 hh
      · rename_i h
        rw [d1, d2, if_pos (by simp [h]), posT, if_neg h]
        intro hh; exact hC.2.2.2 hh
end Go.Proofs
