import Derived.Test.YtjoldnonnjleoaaDoorW25
import Derived.Test.YtjoldnonnjleoaaDoorW18
import Derived.Lib.AtoiTie
/- Words: numerals as they must be. -/
namespace Go.Proofs
open Go Go.V
set_option linter.unusedVariables false
set_option linter.unusedSimpArgs false
set_option maxHeartbeats 0
set_option maxRecDepth 100000
/-- The number behind the digits. -/
def numF (a : Int) : List UInt8 → Int
  | [] => a
  | c :: cs => numF (10 * a + ((c.toNat : Int) - 48)) cs
def digs (p : List UInt8) : Prop := ∀ c ∈ p, 48 ≤ c.toNat ∧ c.toNat ≤ 57
def canonD (p : List UInt8) : Prop := p ≠ [] ∧ digs p ∧ (1 < p.length → p.head? ≠ some 48)
theorem numF_append : ∀ (xs : List UInt8) (a : Int) (ys : List UInt8), numF a (xs ++ ys) = numF (numF a xs) ys
  | [], _, _ => rfl
  | c :: cs, a, ys => by rw [List.cons_append, numF, numF, numF_append cs]
theorem numF_ge : ∀ (xs : List UInt8) (a : Int), 0 ≤ a → digs xs → a ≤ numF a xs
  | [], a, _, _ => Int.le_refl _
  | c :: cs, a, h, hd => by
    have hc := hd c (List.mem_cons_self ..)
    rw [numF]
    exact Int.le_trans (by omega) (numF_ge cs _ (by omega) fun x hx => hd x (List.mem_cons_of_mem _ hx))
theorem head_digit {c : UInt8} (h : c ≠ 48) (h1 : 48 ≤ c.toNat) : 49 ≤ c.toNat := by
  rcases Nat.lt_or_ge c.toNat 49 with q | q
  · exact absurd (UInt8.toNat_inj.1 (by show c.toNat = 48; omega)) h
  · exact q
theorem ofNat_digit (c : UInt8) (h : 48 ≤ c.toNat) (h2 : c.toNat ≤ 57) : UInt8.ofNat (48 + (((c.toNat : Int) - 48).toNat)) = c := by
  apply UInt8.toNat_inj.1
  rw [UInt8.toNat_ofNat']
  have : c.toNat < 256 := by omega
  have e : 48 + ((c.toNat : Int) - 48).toNat = c.toNat := by omega
  rw [e, Nat.mod_eq_of_lt (by simpa using this)]
theorem itoa_numF : ∀ (k : Nat) (p : List UInt8), p.length ≤ k → canonD p → Lib.itoa (numF 0 p) = p
  | 0, p, h, hc => absurd (List.eq_nil_of_length_eq_zero (by omega)) hc.1
  | k + 1, p, h, hc => by
    rcases List.eq_nil_or_concat p with e | ⟨q, c, e⟩
    · exact absurd e hc.1
    · rw [List.concat_eq_append] at e
      subst e
      have hcd := hc.2.1 c (by simp)
      by_cases hq : q = []
      · subst hq
        simp only [List.nil_append, numF]
        rw [itoa_small _ (by omega) (by omega)]
        rw [show 10 * (0 : Int) + ((c.toNat : Int) - 48) = (c.toNat : Int) - 48 by omega, ofNat_digit c hcd.1 hcd.2]
      · obtain ⟨d, t, rfl⟩ : ∃ d t, q = d :: t := by cases q with | nil => exact absurd rfl hq | cons d t => exact ⟨d, t, rfl⟩
        have hh : d ≠ 48 := by
          have := hc.2.2 (by simp)
          simpa using this
        have hdq : digs (d :: t) := fun x hx => hc.2.1 x (List.mem_append_left _ hx)
        have hd := hdq d (List.mem_cons_self ..)
        have h1 : 1 ≤ numF 0 (d :: t) := by
          rw [numF]
          exact Int.le_trans (by have := head_digit hh hd.1; omega) (numF_ge t _ (by omega) fun x hx => hdq x (List.mem_cons_of_mem _ hx))
        have ih := itoa_numF k (d :: t) (by simp at h ⊢; omega) ⟨by simp, hdq, fun _ => by simpa using hh⟩
        rw [numF_append]
        generalize numF 0 (d :: t) = Q at *
        simp only [numF]
        rw [itoa_big _ (by omega), show (10 * Q + ((c.toNat : Int) - 48)) / 10 = Q by omega, show (10 * Q + ((c.toNat : Int) - 48)) % 10 = (c.toNat : Int) - 48 by omega, ih, itoa_small _ (by omega) (by omega), ofNat_digit c hcd.1 hcd.2]
theorem digit_of (v : Int) (h0 : 0 ≤ v) (h1 : v < 10) : (UInt8.ofNat (48 + v.toNat)).toNat = 48 + v.toNat := by
  rw [UInt8.toNat_ofNat']
  exact Nat.mod_eq_of_lt (by omega)
theorem canon_itoa : ∀ (k : Nat) (v : Int), 0 ≤ v → v ≤ k → canonD (Lib.itoa v) ∧ numF 0 (Lib.itoa v) = v ∧ (1 ≤ v → (Lib.itoa v).head? ≠ some 48)
  | 0, v, h0, h1 => by
    have : v = 0 := by omega
    subst this
    have e : Lib.itoa 0 = [48] := by rw [itoa_small 0 (by omega) (by omega)]; rfl
    rw [e]
    exact ⟨⟨by simp, fun x hx => by simp at hx; subst hx; decide, by simp⟩, by decide, by omega⟩
  | k + 1, v, h0, h1 => by
    by_cases hv : v < 10
    · have hd := digit_of v h0 hv
      rw [itoa_small v h0 hv]
      generalize UInt8.ofNat (48 + v.toNat) = c at *
      refine ⟨⟨by simp, fun x hx => by simp at hx; subst hx; omega, by simp⟩, by simp only [numF]; omega, fun hv1 q => ?_⟩
      simp at q; subst q
      have : (48 : UInt8).toNat = 48 := rfl
      omega
    · obtain ⟨i1, i2, i3⟩ := canon_itoa k (v / 10) (by omega) (by omega)
      have hd := digit_of (v % 10) (by omega) (by omega)
      have i3 := i3 (by omega)
      rw [itoa_big v (by omega), itoa_small (v % 10) (by omega) (by omega)]
      generalize UInt8.ofNat (48 + (v % 10).toNat) = c at *
      generalize Lib.itoa (v / 10) = q at *
      have hne := i1.1
      have hh : (q ++ [c]).head? ≠ some 48 := by
        cases q with
        | nil => exact absurd rfl hne
        | cons d t => simpa using i3
      refine ⟨⟨by simp, fun x hx => ?_, fun _ => hh⟩, by rw [numF_append, i2]; simp only [numF]; omega, fun _ => hh⟩
      rcases List.mem_append.1 hx with h | h
      · exact i1.2.1 x h
      · simp at h; subst h; omega
theorem decFrom_numF : ∀ (p : List UInt8) (a : Nat), digs p → ∃ m : Nat, Lib.decFrom a p = some m ∧ (m : Int) = numF a p
  | [], a, _ => ⟨a, rfl, rfl⟩
  | c :: cs, a, h => by
    have hc := h c (List.mem_cons_self ..)
    obtain ⟨m, h1, h2⟩ := decFrom_numF cs (a * 10 + (c.toNat - 48)) fun x hx => h x (List.mem_cons_of_mem _ hx)
    refine ⟨m, ?_, ?_⟩
    · rw [Lib.decFrom, Lib.digitVal, if_pos hc]; exact h1
    · rw [h2, numF]; congr 1; omega
theorem atoiM_canon (p : List UInt8) (h : canonD p) (hl : p.length ≤ 9) : atoiM p = (numF 0 p, true) := by
  obtain ⟨m, h1, h2⟩ := decFrom_numF p 0 h.2.1
  have e : Lib.atoi p = some (numF 0 p) := by
    cases p with
    | nil => exact absurd rfl h.1
    | cons c cs =>
      have hc := h.2.1 c (List.mem_cons_self ..)
      have n1 : (c == 45) = false := by
        rw [beq_eq_false_iff_ne]; intro q; subst q; have : (45 : UInt8).toNat = 45 := rfl; omega
      have n2 : (c == 43) = false := by
        rw [beq_eq_false_iff_ne]; intro q; subst q; have : (43 : UInt8).toNat = 43 := rfl; omega
      rw [Lib.atoi, n1, n2]
      simp only [Bool.false_eq_true, if_false, Lib.decNat, List.isEmpty_cons, h1, Option.map_some, h2]
      rfl
  rw [atoiM, Lib.atoiAll_short p (by omega), e]
  rfl
/-- A piece is a numeral as it must be. -/
theorem pieceM_canon (p : List UInt8) (h : canonD p) (hl : p.length ≤ 9) : pieceM p = some (numF 0 p) := by
  have h0 := numF_ge p 0 (by omega) h.2.1
  rw [pieceM, atoiM_canon p h hl, if_neg]
  intro q
  rcases q with q | q | q | q
  · cases q
  · simp only at q; omega
  · omega
  · exact q (itoa_numF p.length p (Nat.le_refl _) h)
theorem pieceM_other (p : List UInt8) (h : ¬ (canonD p ∧ p.length ≤ 9)) : pieceM p = none := by
  rw [pieceM]
  split
  · rfl
  · rename_i q
    exfalso
    simp only [not_or, Decidable.not_not] at q
    obtain ⟨q1, q2, q3, q4⟩ := q
    refine h ⟨?_, by omega⟩
    have := canon_itoa (atoiM p).1.toNat (atoiM p).1 (by omega) (by omega)
    rw [q4] at this
    exact this.1
end Go.Proofs
/- Words: the reference's Parse. -/
namespace Go.Proofs
open Go Go.V
set_option linter.unusedVariables false
set_option linter.unusedSimpArgs false
set_option maxHeartbeats 0
set_option maxRecDepth 100000
def isD (c : UInt8) : Bool := decide (48 ≤ c.toNat) && decide (c.toNat ≤ 57)
/-- How many digits stand ahead, at most so many. -/
def dlen : Nat → List UInt8 → Nat
  | 0, _ => 0
  | _ + 1, [] => 0
  | f + 1, c :: t => if isD c then dlen f t + 1 else 0
theorem dlen_le : ∀ (f : Nat) (t : List UInt8), dlen f t ≤ f ∧ dlen f t ≤ t.length
  | 0, _ => by simp [dlen]
  | _ + 1, [] => by simp [dlen]
  | f + 1, c :: t => by
    have := dlen_le f t
    rw [dlen]; split <;> simp <;> omega
theorem dlen_digs : ∀ (f : Nat) (t : List UInt8), digs (t.take (dlen f t))
  | 0, _ => by simp [dlen, digs]
  | _ + 1, [] => by simp [dlen, digs]
  | f + 1, c :: t => by
    rw [dlen]; split
    · rename_i h
      simp only [isD, Bool.and_eq_true, decide_eq_true_eq] at h
      intro x hx
      rw [List.take_succ_cons] at hx
      rcases List.mem_cons.1 hx with rfl | hx
      · exact h
      · exact dlen_digs f t x hx
    · simp [digs]
/-- At the end of the run: the place is the last allowed one, or the text's end, or no digit. -/
theorem dlen_stop : ∀ (f : Nat) (t : List UInt8), dlen f t = f ∨ dlen f t = t.length ∨ isD (t.getD (dlen f t) 0) = false
  | 0, _ => by simp [dlen]
  | _ + 1, [] => by simp [dlen]
  | f + 1, c :: t => by
    have := dlen_stop f t
    rw [dlen]; split
    · simpa using this
    · rename_i h
      right; right
      simpa using h
/-- The run goes on. -/
theorem dlen_more : ∀ (f : Nat) (t : List UInt8) (j : Nat), j < dlen f t → j < t.length ∧ isD (t.getD j 0) = true
  | 0, _, j, h => by simp [dlen] at h
  | _ + 1, [], j, h => by simp [dlen] at h
  | f + 1, c :: t, j, h => by
    rw [dlen] at h; split at h
    · rename_i hc
      cases j with
      | zero => simpa using hc
      | succ j =>
        have := dlen_more f t j (by omega)
        simpa using this
    · omega
/-- All digits of a piece are run over. -/
theorem dlen_piece : ∀ (f : Nat) (p r : List UInt8), digs p → p.length < f → (r = [] ∨ isD (r.getD 0 0) = false) → dlen f (p ++ r) = p.length
  | 0, p, r, _, h, _ => by omega
  | f + 1, [], r, _, _, hr => by
    cases r with
    | nil => rfl
    | cons c r =>
      rcases hr with hr | hr
      · cases hr
      · have : isD c = false := by simpa using hr
        simp [dlen, this]
  | f + 1, c :: p, r, hd, h, hr => by
    have hc := hd c (List.mem_cons_self ..)
    have hi : isD c = true := by simp [isD, hc]
    rw [List.cons_append, dlen, if_pos hi, dlen_piece f p r (fun x hx => hd x (List.mem_cons_of_mem _ hx)) (by simp at h; omega) hr]
    rfl
/-- The first piece and the rest. -/
theorem split1_cases : ∀ t : List UInt8, ∃ p r, (∀ x ∈ p, x ≠ 32) ∧ ((t = p ∧ split1 32 t = [p]) ∨ (t = p ++ 32 :: r ∧ split1 32 t = p :: split1 32 r))
  | [] => ⟨[], [], by simp, .inl ⟨rfl, rfl⟩⟩
  | c :: t => by
    by_cases hc : c = 32
    · subst hc
      exact ⟨[], t, by simp, .inr ⟨rfl, by simp [split1]⟩⟩
    · obtain ⟨p, r, h1, h2 | h2⟩ := split1_cases t
      · refine ⟨c :: p, r, fun x hx => ?_, .inl ⟨by rw [h2.1], ?_⟩⟩
        · rcases List.mem_cons.1 hx with rfl | hx
          · exact hc
          · exact h1 x hx
        · rw [split1, if_neg hc, h2.2]
      · refine ⟨c :: p, r, fun x hx => ?_, .inr ⟨by rw [h2.1]; rfl, ?_⟩⟩
        · rcases List.mem_cons.1 hx with rfl | hx
          · exact hc
          · exact h1 x hx
        · rw [split1, if_neg hc, h2.2]
end Go.Proofs
/- Words: a step of the reference's Parse. -/
namespace Go.Proofs
open Go Go.V
set_option linter.unusedVariables false
set_option linter.unusedSimpArgs false
set_option maxHeartbeats 0
set_option maxRecDepth 100000
/-- The reference refuses the text from here on. -/
def failP (t : List UInt8) : Prop := dlen 10 t = 0 ∨ 9 < dlen 10 t ∨ (1 < dlen 10 t ∧ t.getD 0 0 = 48) ∨ (dlen 10 t < t.length ∧ t.getD (dlen 10 t) 0 ≠ 32)
theorem isD_32 : isD 32 = false := by decide
theorem getD_mem {t : List UInt8} {j : Nat} (h : j < t.length) : t.getD j 0 ∈ t := by
  rw [List.getD_eq_getElem?_getD, List.getElem?_eq_getElem h]; exact List.getElem_mem _
theorem getD_app_left (p q : List UInt8) (j : Nat) (h : j < p.length) : (p ++ q).getD j 0 = p.getD j 0 := by
  rw [List.getD_eq_getElem?_getD, List.getD_eq_getElem?_getD, List.getElem?_append_left h]
theorem getD_app_len (p : List UInt8) (c : UInt8) (q : List UInt8) : (p ++ c :: q).getD p.length 0 = c := by
  rw [List.getD_eq_getElem?_getD, List.getElem?_append_right (Nat.le_refl _)]; simp
theorem head_getD (t : List UInt8) (h : t ≠ []) : t.head? = some (t.getD 0 0) := by
  cases t with
  | nil => exact absurd rfl h
  | cons c t => rfl
theorem canon_take {t : List UInt8} (h : ¬ failP t) : canonD (t.take (dlen 10 t)) ∧ (t.take (dlen 10 t)).length = dlen 10 t ∧ dlen 10 t ≤ 9 := by
  have hl := dlen_le 10 t
  have hd := dlen_digs 10 t
  simp only [failP, not_or, not_and] at h
  obtain ⟨h1, h2, h3, h4⟩ := h
  have hlen : (t.take (dlen 10 t)).length = dlen 10 t := by rw [List.length_take]; omega
  have hne : t.take (dlen 10 t) ≠ [] := by intro q; rw [q] at hlen; simp at hlen; omega
  refine ⟨⟨hne, hd, fun q => ?_⟩, hlen, by omega⟩
  rw [hlen] at q
  have := h3 q
  cases t with
  | nil => simp at hl; omega
  | cons c t =>
    intro e
    obtain ⟨j, hj⟩ : ∃ j, dlen 10 (c :: t) = j + 1 := ⟨dlen 10 (c :: t) - 1, by omega⟩
    rw [hj, List.take_succ_cons] at e
    simp at e
    exact this (by simpa using e)
theorem ok_step (t : List UInt8) (h : ¬ failP t) : (dlen 10 t = t.length ∧ piecesM (split1 32 t) = some [numF 0 (t.take (dlen 10 t))]) ∨
    (dlen 10 t < t.length ∧ piecesM (split1 32 t) = (piecesM (split1 32 (t.drop (dlen 10 t + 1)))).map (numF 0 (t.take (dlen 10 t)) :: ·)) := by
  have hl := dlen_le 10 t
  obtain ⟨hc, hlen, h9⟩ := canon_take h
  have hp := pieceM_canon _ hc (by omega)
  simp only [failP, not_or, not_and] at h
  obtain ⟨h1, h2, h3, h4⟩ := h
  obtain ⟨p, r, hno, ⟨e1, e2⟩ | ⟨e1, e2⟩⟩ := split1_cases t
  · have hj : dlen 10 t = t.length := by
      rcases Nat.lt_or_ge (dlen 10 t) t.length with q | q
      · have q1 := h4 q
        have q2 := hno (t.getD (dlen 10 t) 0) (e1 ▸ getD_mem q)
        exact absurd q1 (fun x => x q2)
      · omega
    left
    refine ⟨hj, ?_⟩
    rw [hj, List.take_of_length_le (Nat.le_refl _)] at hp ⊢
    rw [e2, ← e1, piecesM, hp]; rfl
  · have hlt : t.length = p.length + 1 + r.length := by rw [e1]; simp; omega
    have hj : dlen 10 t = p.length := by
      rcases Nat.lt_trichotomy (dlen 10 t) p.length with q | q | q
      · have q1 := h4 (by omega)
        have q2 : t.getD (dlen 10 t) 0 ∈ p := by
          have : t.getD (dlen 10 t) 0 = p.getD (dlen 10 t) 0 := by
            conv => lhs; arg 1; rw [e1]
            exact getD_app_left p _ _ q
          rw [this]; exact getD_mem q
        exact absurd q1 (fun x => x (hno _ q2))
      · exact q
      · have q1 := (dlen_more 10 t p.length q).2
        have : t.getD p.length 0 = 32 := by
          conv => lhs; arg 1; rw [e1]
          exact getD_app_len p 32 r
        rw [this, isD_32] at q1; cases q1
    right
    have ht : t.take p.length = p := by rw [e1]; simp
    have hd : t.drop (p.length + 1) = r := by rw [e1, List.drop_append]; simp
    rw [hj] at hp ⊢
    refine ⟨by omega, ?_⟩
    rw [e2, piecesM, hd]
    rw [ht] at hp ⊢
    rw [hp]
theorem fail_step (t : List UInt8) (h : failP t) : piecesM (split1 32 t) = none := by
  obtain ⟨p, r, hno, hcase⟩ := split1_cases t
  have hnone : pieceM p = none := by
    refine pieceM_other p fun ⟨hc, h9⟩ => ?_
    have hpos : 0 < p.length := List.length_pos_iff.2 hc.1
    have hj : dlen 10 t = p.length ∧ t.getD 0 0 = p.getD 0 0 ∧ (p.length < t.length → t.getD p.length 0 = 32) := by
      rcases hcase with ⟨e1, e2⟩ | ⟨e1, e2⟩
      · have := dlen_piece 10 p [] hc.2.1 (by omega) (.inl rfl)
        rw [List.append_nil] at this
        rw [e1]
        exact ⟨this, rfl, fun q => by omega⟩
      · have := dlen_piece 10 p (32 :: r) hc.2.1 (by omega) (.inr isD_32)
        rw [e1]
        exact ⟨this, getD_app_left p _ 0 hpos, fun _ => getD_app_len p 32 r⟩
    obtain ⟨j1, j2, j3⟩ := hj
    rw [failP, j1] at h
    rcases h with h | h | h | h
    · omega
    · omega
    · have := hc.2.2 h.1
      rw [head_getD p hc.1, ← j2] at this
      exact this (by rw [h.2])
    · exact h.2 (j3 h.1)
  rcases hcase with ⟨e1, e2⟩ | ⟨e1, e2⟩
  · rw [e2, piecesM, hnone]
  · rw [e2, piecesM, hnone]
end Go.Proofs
/- Words: the walk of the reference's Parse. -/
namespace Go.Proofs
open Go Go.V
set_option linter.unusedVariables false
set_option linter.unusedSimpArgs false
set_option maxHeartbeats 0
set_option maxRecDepth 100000
def okNum (n : Int) : Prop := 0 ≤ n ∧ n < 10000000000000
theorem getD_drop (s : List UInt8) (a j : Nat) : (s.drop a).getD j 0 = s.getD (a + j) 0 := by simp [List.getD_eq_getElem?_getD]
theorem refParse_some (s0 : List UInt8) (w : List Int) (hs : s0.length ≤ 1000000) (hne : s0 ≠ [45]) (hw : piecesM (split1 32 s0) = some w) : PC Tryd.prog G0 29 [.str s0] (.tup [.sl 1 (ints w) none, .int .i64 1]) := by
  refine pc_go 1 87 [.tmp 2, .tmp 3] Tryd.func29 rfl rfl rfl (by simp) ?_
  intro s ⟨a0, hz⟩
  clear hz
  repeat' (first | (first | (refine acc_id ?_; first | refine acc_pure rfl rfl ?_ | refine acc_end rfl ?_ | refine acc_eff rfl rfl ?_ | refine acc_call rfl ?_ | refine acc_gp rfl rfl rfl ?_ | refine acc_gc rfl rfl ?_) | (refine go_id ?_; first | refine go_seq rfl ?_ | refine go_region rfl rfl ?_ | refine go_draw (dr := allQ) rfl rfl mixed (by kernel_rfl) ?_ | refine go_cond rfl ?_ | refine go_block rfl ?_ | refine go_skip rfl ?_ | refine go_ret rfl ?_ | refine go_exit rfl ?_) | (refine out_id ?_; first | refine out_then ?_ | refine out_then_ret ?_ | refine out_then_exit ?_ | refine out_block_ret ?_ | refine out_block ?_ | refine out_block_exit rfl ?_ | refine out_block_exit' rfl ?_ | refine out_thenS_ret ?_ | refine out_thenS_exit ?_ | refine out_ret ?_ | refine out_normal ?_ | refine out_retH ?_ | refine out_normalH ?_ | refine out_end ?_)) | refine at_go ?_ | (with_reducible refine And.intro (at_go ?_) (at_go ?_)) | ((with_reducible refine And.intro (fun h => ?_) (fun h => ?_)) <;> try (exfalso; omega)) | (with_reducible refine And.intro (by omega) ?_) | (first | (refine ⟨_, _, pc_lift (fail) (by (simp [idsL, idsE, AV.ids, idsE_ints])) _, ?_⟩) | (refine ⟨_, pc_lift (fail) (by (simp [idsL, idsE, AV.ids, idsE_ints])) _, ?_⟩) | (refine ⟨_, fun _ => pc_lift (fail) (by (simp [idsL, idsE, AV.ids, idsE_ints])) _, ?_⟩)) | simp (disch := first | omega | (simp only [length_ints, List.length_set, List.length_reverse, List.length_replicate, List.length_append, List.length_cons, List.length_nil, List.length_map]; omega)) only [push_cast, ↓reduceIte, reduceIte, reduceCtorEq, Nat.reduceAdd, Nat.reduceLT, Nat.reduceEqDiff, Nat.reduceLeDiff, Int.reduceAdd, Int.reduceLT, Int.reduceLE, Nat.reduceMul, ti3, ti5, ti9, ti22, a0, wrap64, hne])
  refine go_loop rfl (fun m s H => ∃ (a : Nat) (xs : List Int), a ≤ s0.length ∧ xs.length ≤ a ∧ m = s0.length - a ∧ H = [.row 1 3 (ints xs)] ∧ s 0 = .str s0 ∧ s 4 = .own 0 xs.length xs.length none ∧ s 5 = .int .i64 (a : Int) ∧ some w = (piecesM (split1 32 (s0.drop a))).map (xs ++ ·)) trivial (weak_nil (t := 4) (sz := 1) (ty := 3) (z := 0) ?_) ⟨0, [], by omega, by simp, rfl, rfl, ?_⟩ ?_
  · (simp (disch := first | omega | (simp only [length_ints, List.length_set, List.length_reverse, List.length_replicate, List.length_append, List.length_cons, List.length_nil, List.length_map]; omega)) only [push_cast, ↓reduceIte, reduceIte, reduceCtorEq, Nat.reduceAdd, Nat.reduceLT, Nat.reduceEqDiff, Nat.reduceLeDiff, Int.reduceAdd, Int.reduceLT, Int.reduceLE, Nat.reduceMul, ti3, ti5, ti9, ti22, a0, wrap64, hne]) <;> (first | rfl | exact ⟨rfl, rfl⟩ | omega | (congr 1; omega) | (simp; done) | ((repeat' apply And.intro) <;> first | rfl | omega | (congr 1; omega)))
  · simp (disch := first | omega | (simp only [length_ints, List.length_set, List.length_reverse, List.length_replicate, List.length_append, List.length_cons, List.length_nil, List.length_map]; omega)) only [push_cast, ↓reduceIte, reduceIte, reduceCtorEq, Nat.reduceAdd, Nat.reduceLT, Nat.reduceEqDiff, Nat.reduceLeDiff, Int.reduceAdd, Int.reduceLT, Int.reduceLE, Nat.reduceMul, ti3, ti5, ti9, ti22, a0, wrap64, hne]
    rw [hw]; simp
  · rintro m s H ⟨a, xs, ha, hxa, rfl, rfl, a0, a4, a5, hm⟩
    obtain ⟨t, ht⟩ : ∃ t, t = s0.drop a := ⟨_, rfl⟩
    have htl : t.length = s0.length - a := by rw [ht]; simp
    rw [← ht] at hm
    have hf : ¬ failP t := fun q => by rw [fail_step t q] at hm; cases hm
    have hl := dlen_le 10 t
    repeat' (first | (first | (refine acc_id ?_; first | refine acc_pure rfl rfl ?_ | refine acc_end rfl ?_ | refine acc_eff rfl rfl ?_ | refine acc_call rfl ?_ | refine acc_gp rfl rfl rfl ?_ | refine acc_gc rfl rfl ?_) | (refine go_id ?_; first | refine go_seq rfl ?_ | refine go_region rfl rfl ?_ | refine go_draw (dr := allQ) rfl rfl mixed (by kernel_rfl) ?_ | refine go_cond rfl ?_ | refine go_block rfl ?_ | refine go_skip rfl ?_ | refine go_ret rfl ?_ | refine go_exit rfl ?_) | (refine out_id ?_; first | refine out_then ?_ | refine out_then_ret ?_ | refine out_then_exit ?_ | refine out_block_ret ?_ | refine out_block ?_ | refine out_block_exit rfl ?_ | refine out_block_exit' rfl ?_ | refine out_thenS_ret ?_ | refine out_thenS_exit ?_ | refine out_ret ?_ | refine out_normal ?_ | refine out_retH ?_ | refine out_normalH ?_ | refine out_end ?_)) | refine at_go ?_ | (with_reducible refine And.intro (at_go ?_) (at_go ?_)) | ((with_reducible refine And.intro (fun h => ?_) (fun h => ?_)) <;> try (exfalso; omega)) | (with_reducible refine And.intro (by omega) ?_) | (first | (refine ⟨_, _, pc_lift (fail) (by (simp [idsL, idsE, AV.ids, idsE_ints])) _, ?_⟩) | (refine ⟨_, pc_lift (fail) (by (simp [idsL, idsE, AV.ids, idsE_ints])) _, ?_⟩) | (refine ⟨_, fun _ => pc_lift (fail) (by (simp [idsL, idsE, AV.ids, idsE_ints])) _, ?_⟩)) | simp (disch := first | omega | (simp only [length_ints, List.length_set, List.length_reverse, List.length_replicate, List.length_append, List.length_cons, List.length_nil, List.length_map]; omega)) only [push_cast, ↓reduceIte, reduceIte, reduceCtorEq, Nat.reduceAdd, Nat.reduceLT, Nat.reduceEqDiff, Nat.reduceLeDiff, Int.reduceAdd, Int.reduceLT, Int.reduceLE, Nat.reduceMul, ti3, ti5, ti9, ti22, a0, a4, a5, wrap64])
    refine go_loop rfl (fun m s H => ∃ (j : Nat), j ≤ dlen 10 t ∧ m = 10 - j ∧ H = [.row 1 3 (ints xs)] ∧ s 0 = .str s0 ∧ s 4 = .own 0 xs.length xs.length none ∧ s 5 = .int .i64 (a : Int) ∧ s 7 = .int .i64 ((a + j : Nat) : Int) ∧ s 6 = .int .i64 (numF 0 (t.take j)) ∧ 0 ≤ numF 0 (t.take j) ∧ numF 0 (t.take j) < ((10 ^ j : Nat) : Int)) trivial (Weak.refl _ _) ⟨0, by omega, rfl, rfl, ?_⟩ ?_
    · simp (disch := first | omega | (simp only [length_ints, List.length_set, List.length_reverse, List.length_replicate, List.length_append, List.length_cons, List.length_nil, List.length_map]; omega)) only [push_cast, ↓reduceIte, reduceIte, reduceCtorEq, Nat.reduceAdd, Nat.reduceLT, Nat.reduceEqDiff, Nat.reduceLeDiff, Int.reduceAdd, Int.reduceLT, Int.reduceLE, Nat.reduceMul, ti3, ti5, ti9, ti22, a0, a4, a5, wrap64]
      simp [numF]
    · rintro m s H ⟨j, hj, rfl, rfl, a0, a4, a5, a7, a6, n0, n1⟩
      by_cases hlt : j < dlen 10 t
      · obtain ⟨hjl, hjd⟩ := dlen_more 10 t j hlt
        have hc : s0.getD (a + j) 0 = t.getD j 0 := by rw [ht, getD_drop]
        have hsucc : t.take (j + 1) = t.take j ++ [t.getD j 0] := by rw [List.take_succ_eq_append_getElem hjl]; simp [hjl]
        have hnum : numF 0 (t.take (j + 1)) = 10 * numF 0 (t.take j) + (((t.getD j 0).toNat : Int) - 48) := by rw [hsucc, numF_append]; rfl
        simp only [isD, Bool.and_eq_true, decide_eq_true_eq] at hjd
        have hpow : 10 ^ j ≤ 10 ^ 10 := Nat.pow_le_pow_right (by decide) (by omega)
        have hpow2 : 10 ^ (j + 1) = 10 ^ j * 10 := Nat.pow_succ ..
        have hpow3 : (10 : Int) ^ (j + 1) = ((10 ^ j * 10 : Nat) : Int) := by rw [← Nat.pow_succ]; simp
        have h10 : (10 : Nat) ^ 10 = 10000000000 := by decide
        generalize t.getD j 0 = c at *
        generalize numF 0 (t.take j) = n at *
        generalize 10 ^ j = P at *
        have eN : ((a : Int) + (j : Int)).toNat = a + j := by omega
        have w8 : IntKind.u8.wrap ((c.toNat : Int) - 48) = (c.toNat : Int) - 48 := by rw [IntKind.wrap_u8]; omega
        repeat' (first | (first | (refine acc_id ?_; first | refine acc_pure rfl rfl ?_ | refine acc_end rfl ?_ | refine acc_eff rfl rfl ?_ | refine acc_call rfl ?_ | refine acc_gp rfl rfl rfl ?_ | refine acc_gc rfl rfl ?_) | (refine go_id ?_; first | refine go_seq rfl ?_ | refine go_region rfl rfl ?_ | refine go_draw (dr := allQ) rfl rfl mixed (by kernel_rfl) ?_ | refine go_cond rfl ?_ | refine go_block rfl ?_ | refine go_skip rfl ?_ | refine go_ret rfl ?_ | refine go_exit rfl ?_) | (refine out_id ?_; first | refine out_then ?_ | refine out_then_ret ?_ | refine out_then_exit ?_ | refine out_block_ret ?_ | refine out_block ?_ | refine out_block_exit rfl ?_ | refine out_block_exit' rfl ?_ | refine out_thenS_ret ?_ | refine out_thenS_exit ?_ | refine out_ret ?_ | refine out_normal ?_ | refine out_retH ?_ | refine out_normalH ?_ | refine out_end ?_)) | refine at_go ?_ | (with_reducible refine And.intro (at_go ?_) (at_go ?_)) | ((with_reducible refine And.intro (fun h => ?_) (fun h => ?_)) <;> try (exfalso; omega)) | (with_reducible refine And.intro (by omega) ?_) | (first | (refine ⟨_, _, pc_lift (fail) (by (simp [idsL, idsE, AV.ids, idsE_ints])) _, ?_⟩) | (refine ⟨_, pc_lift (fail) (by (simp [idsL, idsE, AV.ids, idsE_ints])) _, ?_⟩) | (refine ⟨_, fun _ => pc_lift (fail) (by (simp [idsL, idsE, AV.ids, idsE_ints])) _, ?_⟩)) | simp (disch := first | omega | (simp only [length_ints, List.length_set, List.length_reverse, List.length_replicate, List.length_append, List.length_cons, List.length_nil, List.length_map]; omega)) only [push_cast, ↓reduceIte, reduceIte, reduceCtorEq, Nat.reduceAdd, Nat.reduceLT, Nat.reduceEqDiff, Nat.reduceLeDiff, Int.reduceAdd, Int.reduceLT, Int.reduceLE, Nat.reduceMul, ti3, ti5, ti9, ti22, a0, a4, a5, a6, a7, wrap64, hc, eN, w8])
        refine out_round (10 - (j + 1)) (by omega) ⟨by omega, by omega⟩ ⟨j + 1, by omega, rfl, rfl, ?_⟩
        rw [hnum]
        first | rw [hpow2] | rw [hpow3]
        (simp (disch := first | omega | (simp only [length_ints, List.length_set, List.length_reverse, List.length_replicate, List.length_append, List.length_cons, List.length_nil, List.length_map]; omega)) only [push_cast, ↓reduceIte, reduceIte, reduceCtorEq, Nat.reduceAdd, Nat.reduceLT, Nat.reduceEqDiff, Nat.reduceLeDiff, Int.reduceAdd, Int.reduceLT, Int.reduceLE, Nat.reduceMul, ti3, ti5, ti9, ti22, a0, a4, a5, a6, a7, wrap64, hc, eN, w8]) <;> (first | rfl | exact ⟨rfl, rfl⟩ | omega | (congr 1; omega) | (simp; done) | ((repeat' apply And.intro) <;> first | rfl | omega | (congr 1; omega)))
      · have hj' : j = dlen 10 t := by omega
        have hK := hf
        simp only [failP, not_or, not_and] at hK
        obtain ⟨k1, k2, k3, k4⟩ := hK
        have hstep := ok_step t hf
        rw [← hj'] at k1 k2 k3 k4 hstep hl
        have hc0 : s0.getD a 0 = t.getD 0 0 := by rw [ht, getD_drop, Nat.add_zero]
        have k3' : 1 < j → (t.getD 0 0).toNat ≠ 48 := fun q e => k3 q (UInt8.toNat_inj.1 e)
        have eN : ((a : Int) + (j : Int)).toNat = a + j := by omega
        have hpow : 10 ^ j ≤ 10 ^ 9 := Nat.pow_le_pow_right (by decide) (by omega)
        have h10 : (10 : Nat) ^ 9 = 1000000000 := by decide
        have hcK : s0.getD (a + j) 0 = t.getD j 0 := by rw [ht, getD_drop]
        generalize hn : numF 0 (t.take j) = n at *
        generalize 10 ^ j = P at *
        generalize t.getD 0 0 = c0 at *
        have hB1 : xs.length + 1 ≤ maxLen := by simp only [maxLen]; omega
        rcases hstep with ⟨hje, hp⟩ | ⟨hje, hp⟩
        · have hw' : w = xs ++ [n] := by rw [hp] at hm; injection hm
          repeat' (first | (first | (refine acc_id ?_; first | refine acc_pure rfl rfl ?_ | refine acc_end rfl ?_ | refine acc_eff rfl rfl ?_ | refine acc_call rfl ?_ | refine acc_gp rfl rfl rfl ?_ | refine acc_gc rfl rfl ?_) | (refine go_id ?_; first | refine go_seq rfl ?_ | refine go_region rfl rfl ?_ | refine go_draw (dr := allQ) rfl rfl mixed (by kernel_rfl) ?_ | refine go_cond rfl ?_ | refine go_block rfl ?_ | refine go_skip rfl ?_ | refine go_ret rfl ?_ | refine go_exit rfl ?_) | (refine out_id ?_; first | refine out_then ?_ | refine out_then_ret ?_ | refine out_then_exit ?_ | refine out_block_ret ?_ | refine out_block ?_ | refine out_block_exit rfl ?_ | refine out_block_exit' rfl ?_ | refine out_thenS_ret ?_ | refine out_thenS_exit ?_ | refine out_ret ?_ | refine out_normal ?_ | refine out_retH ?_ | refine out_normalH ?_ | refine out_end ?_)) | refine at_go ?_ | (with_reducible refine And.intro (at_go ?_) (at_go ?_)) | ((with_reducible refine And.intro (fun h => ?_) (fun h => ?_)) <;> try (exfalso; omega)) | (with_reducible refine And.intro (by omega) ?_) | (first | (refine ⟨_, _, pc_lift (fail) (by (simp [idsL, idsE, AV.ids, idsE_ints])) _, ?_⟩) | (refine ⟨_, pc_lift (fail) (by (simp [idsL, idsE, AV.ids, idsE_ints])) _, ?_⟩) | (refine ⟨_, fun _ => pc_lift (fail) (by (simp [idsL, idsE, AV.ids, idsE_ints])) _, ?_⟩)) | simp (disch := first | omega | (simp only [length_ints, List.length_set, List.length_reverse, List.length_replicate, List.length_append, List.length_cons, List.length_nil, List.length_map]; omega)) only [push_cast, ↓reduceIte, reduceIte, reduceCtorEq, Nat.reduceAdd, Nat.reduceLT, Nat.reduceEqDiff, Nat.reduceLeDiff, Int.reduceAdd, Int.reduceLT, Int.reduceLE, Nat.reduceMul, ti3, ti5, ti9, ti22, a0, a4, a5, a6, a7, wrap64, hc0, eN, ints_snoc, length_ints])
          exact ⟨all_ints _, by rw [hw']⟩
        · have h32 : t.getD j 0 = 32 := by
            have := k4 hje
            exact Decidable.not_not.1 this
          rw [h32] at hcK
          have e32 : (32 : UInt8).toNat = 32 := rfl
          repeat' (first | (first | (refine acc_id ?_; first | refine acc_pure rfl rfl ?_ | refine acc_end rfl ?_ | refine acc_eff rfl rfl ?_ | refine acc_call rfl ?_ | refine acc_gp rfl rfl rfl ?_ | refine acc_gc rfl rfl ?_) | (refine go_id ?_; first | refine go_seq rfl ?_ | refine go_region rfl rfl ?_ | refine go_draw (dr := allQ) rfl rfl mixed (by kernel_rfl) ?_ | refine go_cond rfl ?_ | refine go_block rfl ?_ | refine go_skip rfl ?_ | refine go_ret rfl ?_ | refine go_exit rfl ?_) | (refine out_id ?_; first | refine out_then ?_ | refine out_then_ret ?_ | refine out_then_exit ?_ | refine out_block_ret ?_ | refine out_block ?_ | refine out_block_exit rfl ?_ | refine out_block_exit' rfl ?_ | refine out_thenS_ret ?_ | refine out_thenS_exit ?_ | refine out_ret ?_ | refine out_normal ?_ | refine out_retH ?_ | refine out_normalH ?_ | refine out_end ?_)) | refine at_go ?_ | (with_reducible refine And.intro (at_go ?_) (at_go ?_)) | ((with_reducible refine And.intro (fun h => ?_) (fun h => ?_)) <;> try (exfalso; omega)) | (with_reducible refine And.intro (by omega) ?_) | (first | (refine ⟨_, _, pc_lift (fail) (by (simp [idsL, idsE, AV.ids, idsE_ints])) _, ?_⟩) | (refine ⟨_, pc_lift (fail) (by (simp [idsL, idsE, AV.ids, idsE_ints])) _, ?_⟩) | (refine ⟨_, fun _ => pc_lift (fail) (by (simp [idsL, idsE, AV.ids, idsE_ints])) _, ?_⟩)) | simp (disch := first | omega | (simp only [length_ints, List.length_set, List.length_reverse, List.length_replicate, List.length_append, List.length_cons, List.length_nil, List.length_map]; omega)) only [push_cast, ↓reduceIte, reduceIte, reduceCtorEq, Nat.reduceAdd, Nat.reduceLT, Nat.reduceEqDiff, Nat.reduceLeDiff, Int.reduceAdd, Int.reduceLT, Int.reduceLE, Nat.reduceMul, ti3, ti5, ti9, ti22, a0, a4, a5, a6, a7, wrap64, hc0, eN, ints_snoc, hcK, e32, length_ints])
          have hdd : t.drop (j + 1) = s0.drop (a + j + 1) := by rw [ht, List.drop_drop]; congr 1
          have hnext : some w = (piecesM (split1 32 (s0.drop (a + j + 1)))).map ((xs ++ [n]) ++ ·) := by
            rw [hm, hp, hdd]
            cases piecesM (split1 32 (s0.drop (a + j + 1))) <;> simp
          refine out_round (s0.length - (a + j + 1)) (by omega) trivial ⟨a + j + 1, xs ++ [n], by omega, by simp; omega, rfl, rfl, ?_⟩
          rw [← hnext]
          (simp (disch := first | omega | (simp only [length_ints, List.length_set, List.length_reverse, List.length_replicate, List.length_append, List.length_cons, List.length_nil, List.length_map]; omega)) only [push_cast, ↓reduceIte, reduceIte, reduceCtorEq, Nat.reduceAdd, Nat.reduceLT, Nat.reduceEqDiff, Nat.reduceLeDiff, Int.reduceAdd, Int.reduceLT, Int.reduceLE, Nat.reduceMul, ti3, ti5, ti9, ti22, a0, a4, a5, a6, a7, wrap64, hc0, eN, ints_snoc, hcK, e32, length_ints]) <;> (first | rfl | exact ⟨rfl, rfl⟩ | omega | (congr 1; omega) | (simp; done) | ((repeat' apply And.intro) <;> first | rfl | omega | (congr 1; omega)))
theorem refParse_dash : PC Tryd.prog G0 29 [.str [45]] (.tup [.sl 1 [] (some 0), .int .i64 1]) := by
  refine pc_go 1 87 [.tmp 2, .tmp 3] Tryd.func29 rfl rfl rfl (by simp) ?_
  intro s ⟨a0, hz⟩
  clear hz
  repeat' (first | (first | (refine acc_id ?_; first | refine acc_pure rfl rfl ?_ | refine acc_end rfl ?_ | refine acc_eff rfl rfl ?_ | refine acc_call rfl ?_ | refine acc_gp rfl rfl rfl ?_ | refine acc_gc rfl rfl ?_) | (refine go_id ?_; first | refine go_seq rfl ?_ | refine go_region rfl rfl ?_ | refine go_draw (dr := allQ) rfl rfl mixed (by kernel_rfl) ?_ | refine go_cond rfl ?_ | refine go_block rfl ?_ | refine go_skip rfl ?_ | refine go_ret rfl ?_ | refine go_exit rfl ?_) | (refine out_id ?_; first | refine out_then ?_ | refine out_then_ret ?_ | refine out_then_exit ?_ | refine out_block_ret ?_ | refine out_block ?_ | refine out_block_exit rfl ?_ | refine out_block_exit' rfl ?_ | refine out_thenS_ret ?_ | refine out_thenS_exit ?_ | refine out_ret ?_ | refine out_normal ?_ | refine out_retH ?_ | refine out_normalH ?_ | refine out_end ?_)) | refine at_go ?_ | (with_reducible refine And.intro (at_go ?_) (at_go ?_)) | ((with_reducible refine And.intro (fun h => ?_) (fun h => ?_)) <;> try (exfalso; omega)) | (with_reducible refine And.intro (by omega) ?_) | (first | (refine ⟨_, _, pc_lift (fail) (by (simp [idsL, idsE, AV.ids, idsE_ints])) _, ?_⟩) | (refine ⟨_, pc_lift (fail) (by (simp [idsL, idsE, AV.ids, idsE_ints])) _, ?_⟩) | (refine ⟨_, fun _ => pc_lift (fail) (by (simp [idsL, idsE, AV.ids, idsE_ints])) _, ?_⟩)) | simp (disch := first | omega | (simp only [length_ints, List.length_set, List.length_reverse, List.length_replicate, List.length_append, List.length_cons, List.length_nil, List.length_map]; omega)) only [push_cast, ↓reduceIte, reduceIte, reduceCtorEq, Nat.reduceAdd, Nat.reduceLT, Nat.reduceEqDiff, Nat.reduceLeDiff, Int.reduceAdd, Int.reduceLT, Int.reduceLE, Nat.reduceMul, ti3, ti5, ti9, ti22, a0])
end Go.Proofs
