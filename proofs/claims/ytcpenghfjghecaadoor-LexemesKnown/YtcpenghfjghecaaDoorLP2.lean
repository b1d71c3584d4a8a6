import Derived.Test.YtcpenghfjghecaaDoorLP1
/- Lexemes: where the tokens of a text stand: plain. -/
namespace Go.Proofs
set_option linter.unusedVariables false
set_option linter.unusedSimpArgs false
def remB : Bool → Bs → Bool
  | x, [] => x
  | x, b :: r => remB (!decide (b = 10) && (x || decide (b = 35))) r
theorem remB_app : ∀ (s t : Bs) (x : Bool), remB x (s ++ t) = remB (remB x s) t
  | [], _, _ => rfl
  | b :: r, t, x => by rw [List.cons_append, remB, remB]; exact remB_app r t _
/-- The tokens of a text of which the place is in a remark or not. -/
def lexX (x : Bool) (s : Bs) (l c : Int) : LexR := if x = true then lexR (toNl s) l c else lexR s l c
theorem toNl_col (s : Bs) (l c d : Int) : lexR (toNl s) l c = lexR (toNl s) l d := by
  unfold toNl
  induction s with
  | nil => rfl
  | cons b r ih =>
    rw [List.dropWhile_cons]
    split
    · exact ih
    · rename_i h
      have : b = 10 := by simpa using h
      rw [lexR_cons, lexR_cons, if_pos this, if_pos this]
theorem gapS_cons (x : Bool) (b : UInt8) (r : Bs) (h : 0 < gapS x (b :: r)) : gapS x (b :: r) = 1 + gapS (remB x [b]) r ∧ (remB x [b] = true ∨ blkB b = true ∨ b = 10) := by
  cases x
  · rw [gapS] at h ⊢
    simp only [remB, Bool.false_or]
    by_cases e1 : blkB b = true ∨ b = 10
    · have e2 : ¬ b = 35 := by
        rintro rfl
        revert e1; decide
      rw [if_pos e1]
      simp only [e2, decide_false, Bool.and_false]
      exact ⟨trivial, .inr e1⟩
    · rw [if_neg e1] at h ⊢
      by_cases e2 : b = 35
      · rw [if_pos e2]
        subst e2
        exact ⟨rfl, .inl (by decide)⟩
      · rw [if_neg e2] at h
        exact absurd h (by omega)
  · rw [gapS]
    simp only [remB, Bool.true_or, Bool.and_true]
    by_cases e : b = 10
    · subst e; exact ⟨rfl, .inr (.inr rfl)⟩
    · rw [if_neg e]
      simp only [e, decide_false, Bool.not_false]
      exact ⟨trivial, .inl trivial⟩
theorem gapS_zero (x : Bool) (b : UInt8) (r : Bs) (h : gapS x (b :: r) = 0) : x = false ∧ ¬ blkB b = true ∧ ¬ b = 10 ∧ ¬ b = 35 := by
  cases x
  · rw [gapS] at h
    refine ⟨rfl, ?_⟩
    split at h
    · omega
    · rename_i e
      split at h
      · omega
      · rename_i e2
        exact ⟨fun q => e (.inl q), fun q => e (.inr q), e2⟩
  · rw [gapS] at h
    split at h <;> omega
theorem lexX_cons (x : Bool) (b : UInt8) (r : Bs) (l c : Int) (h : 0 < gapS x (b :: r)) :
    lexX x (b :: r) l c = lexX (remB x [b]) r (posT l c [b]).1 (posT l c [b]).2 := by
  have e10 : blkB 10 = false := by decide
  have e35 : blkB 35 = false := by decide
  cases x
  · rw [gapS] at h
    simp only [lexX, remB, Bool.false_or, posT, Bool.false_eq_true, if_false]
    rw [lexR_cons]
    by_cases e1 : b = 10
    · subst e1; rfl
    · rw [if_neg e1, if_neg e1]
      by_cases e2 : blkB b = true
      · have e3 : ¬ b = 35 := by rintro rfl; rw [e35] at e2; cases e2
        rw [if_pos e2]
        simp only [e3, decide_false, Bool.and_false, Bool.false_eq_true, if_false]
      · rw [if_neg e2]
        by_cases e3 : b = 35
        · subst e3
          exact toNl_col _ _ _ _
        · rw [if_neg (by simp [e1, e2]), if_neg e3] at h
          exact absurd h (by omega)
  · simp only [lexX, remB, Bool.true_or, posT, if_true, Bool.and_true]
    by_cases e1 : b = 10
    · subst e1
      simp only [toNl, List.dropWhile_cons, decide_true, Bool.not_true, Bool.false_eq_true, if_false, if_true]
      rw [lexR_cons]; rfl
    · rw [if_neg e1]
      simp only [e1, toNl, List.dropWhile_cons, decide_false, Bool.not_false, if_true]
      exact toNl_col _ _ _ _
/-- Behind `k` bytes of what stands between tokens. -/
theorem gap_at : ∀ (s : Bs) (x : Bool) (l c : Int) (k : Nat), k ≤ gapS x s →
    gapS (remB x (s.take k)) (s.drop k) = gapS x s - k ∧ lexX (remB x (s.take k)) (s.drop k) (posT l c (s.take k)).1 (posT l c (s.take k)).2 = lexX x s l c
  | s, x, l, c, 0, _ => by simp [remB, posT]
  | [], x, l, c, k + 1, h => by cases x <;> simp [gapS] at h
  | b :: r, x, l, c, k + 1, h => by
    have hp : 0 < gapS x (b :: r) := by omega
    have hc := gapS_cons x b r hp
    have hl := lexX_cons x b r l c hp
    have ih := gap_at r (remB x [b]) (posT l c [b]).1 (posT l c [b]).2 k (by omega)
    rw [List.take_succ_cons, List.drop_succ_cons]
    have e1 : remB x (b :: r.take k) = remB (remB x [b]) (r.take k) := remB_app [b] _ x
    have e2 : posT l c (b :: r.take k) = posT (posT l c [b]).1 (posT l c [b]).2 (r.take k) := posT_app [b] _ l c
    rw [e1, e2, hl]
    exact ⟨by rw [ih.1, hc.1]; omega, ih.2⟩
theorem posT_mono : ∀ (s : Bs) (l c : Int), l < (posT l c s).1 ∨ (l = (posT l c s).1 ∧ c + s.length = (posT l c s).2)
  | [], l, c => by right; simp [posT]
  | b :: r, l, c => by
    rw [posT]
    split
    · have := posT_mono r (l + 1) 1; left; omega
    · have := posT_mono r l (c + 1); simp only [List.length_cons, Int.natCast_add, Int.natCast_one] at *; omega
theorem tok_place (b : UInt8) (r : Bs) (l c : Int) (h2 : ¬ blkB b = true) (h1 : ¬ b = 10) (h3 : ¬ b = 35) (t : Tk) (ts : List Tk) (h : lexR (b :: r) l c = .ok (t :: ts)) :
    (tokS (b :: r)).2.2 = 0 ∧ t = ⟨(tokS (b :: r)).1, (b :: r).take (tokS (b :: r)).2.1, l, c⟩ ∧ lexR ((b :: r).drop (tokS (b :: r)).2.1) l (c + (tokS (b :: r)).2.1) = .ok ts := by
  rw [lexR_cons, if_neg h1, if_neg h2, if_neg h3] at h
  split at h
  · cases h
  · rename_i e
    have e' : (tokS (b :: r)).2.2 = 0 := by simpa using e
    refine ⟨e', ?_⟩
    cases q : lexR ((b :: r).drop (tokS (b :: r)).2.1) l (c + (tokS (b :: r)).2.1) with
    | ok m => rw [q] at h; simp only [LexR.cons, LexR.ok.injEq, List.cons.injEq] at h; exact ⟨h.1.symm, by rw [h.2]⟩
    | err => rw [q] at h; cases h
theorem tok_none (b : UInt8) (r : Bs) (l c : Int) (h2 : ¬ blkB b = true) (h1 : ¬ b = 10) (h3 : ¬ b = 35) : lexR (b :: r) l c ≠ .ok [] := by
  intro h
  rw [lexR_cons, if_neg h1, if_neg h2, if_neg h3] at h
  split at h
  · cases h
  · cases q : lexR ((b :: r).drop (tokS (b :: r)).2.1) l (c + (tokS (b :: r)).2.1) with
    | ok m => rw [q] at h; cases h
    | err => rw [q] at h; cases h
/-- At the gap's end. -/
theorem gap_end (s : Bs) (x : Bool) (l c : Int) :
    (s.drop (gapS x s) = [] ∧ lexX x s l c = .ok []) ∨
    (∃ b r, s.drop (gapS x s) = b :: r ∧ remB x (s.take (gapS x s)) = false ∧ ¬ blkB b = true ∧ ¬ b = 10 ∧ ¬ b = 35 ∧ lexX x s l c = lexR (b :: r) (posT l c (s.take (gapS x s))).1 (posT l c (s.take (gapS x s))).2) := by
  have h := gap_at s x l c (gapS x s) (Nat.le_refl _)
  cases q : s.drop (gapS x s) with
  | nil =>
    left
    rw [q] at h
    refine ⟨rfl, ?_⟩
    rw [← h.2, lexX]; split <;> rfl
  | cons b r =>
    right
    rw [q, Nat.sub_self] at h
    have z := gapS_zero _ b r h.1
    refine ⟨b, r, rfl, z.1, z.2.1, z.2.2.1, z.2.2.2, ?_⟩
    rw [← h.2, z.1]; rfl
/-- Before the gap's end no token has its place here. -/
theorem gap_off (s : Bs) (x : Bool) (l c : Int) (t : Tk) (ts : List Tk) (h : lexX x s l c = .ok (t :: ts)) (hp : 0 < gapS x s) : ¬ (l = t.l ∧ c = t.c) := by
  rcases gap_end s x l c with ⟨_, h2⟩ | ⟨b, r, hd, _, h2, h1, h3, hl⟩
  · rw [h] at h2; cases h2
  · rw [h] at hl
    have := tok_place b r _ _ h2 h1 h3 t ts hl.symm
    rw [this.2.1]
    simp only
    have hm := posT_mono (s.take (gapS x s)) l c
    have hl2 : (s.take (gapS x s)).length = gapS x s := by rw [List.length_take]; have := gapS_le x s; omega
    rw [hl2] at hm
    omega
theorem wrd_no (b : UInt8) (h : wrdB b = true) : ¬ b = 10 := by rintro rfl; revert h; decide
theorem sng_no (b : UInt8) (h : sngB b = true) : ¬ b = 10 := by rintro rfl; revert h; decide
theorem pair_no (b c : UInt8) (h : pairB b c = true) : ¬ b = 10 ∧ ¬ c = 10 ∧ ¬ b = 35 ∧ ¬ c = 35 := by
  simp only [pairB, Bool.or_eq_true, Bool.and_eq_true, decide_eq_true_eq] at h
  refine ⟨?_, ?_, ?_, ?_⟩ <;> rintro rfl <;> revert h <;> (intro h; rcases h with ⟨_, h⟩ | ⟨h, h'⟩) <;> simp_all
theorem wordS_all (s : Bs) : ∀ b ∈ wordS s, wrdB b = true := by
  intro b hb
  induction s with
  | nil => simp [wordS] at hb
  | cons a r ih =>
    simp only [wordS, List.takeWhile_cons] at hb ih
    split at hb
    · rename_i h
      rcases List.mem_cons.mp hb with e | e
      · rw [e]; exact h
      · exact ih e
    · cases hb
theorem wordS_take (s : Bs) : s.take (wordS s).length = wordS s := by
  induction s with
  | nil => rfl
  | cons a r ih =>
    simp only [wordS, List.takeWhile_cons] at *
    split
    · rw [List.length_cons, List.take_succ_cons, ih]
    · rfl
theorem markN_le (s : Bs) : markN s ≤ s.length := by
  unfold markN
  split
  · rename_i h
    match s, h with
    | c :: d :: r, _ => simp
    | [], h => cases h
    | [c], h => cases h
  · cases s with
    | nil => simp
    | cons c r => simp only [List.length_cons]; split <;> omega
/-- The bytes of a token: no newline, no remark. -/
theorem tokS_bytes (s : Bs) : ∀ b ∈ s.take (tokS s).2.1, ¬ b = 10 ∧ ¬ b = 35 := by
  have w35 : wrdB 35 = false := by decide
  have s35 : sngB 35 = false := by decide
  have w10 : wrdB 10 = false := by decide
  have s10 : sngB 10 = false := by decide
  intro b hb
  unfold tokS at hb
  split at hb
  · simp only at hb
    rw [wordS_take] at hb
    have := wordS_all s b hb
    constructor <;> rintro rfl
    · rw [w10] at this; cases this
    · rw [w35] at this; cases this
  · split at hb
    · simp at hb
    · simp only at hb
      unfold markN at hb
      split at hb
      · rename_i h
        match s, h with
        | c :: d :: r, h =>
          simp only [pairH] at h
          have := pair_no c d h
          simp only [List.take_succ_cons, List.take_zero, List.mem_cons, List.not_mem_nil, or_false] at hb
          rcases hb with rfl | rfl
          · exact ⟨this.1, this.2.2.1⟩
          · exact ⟨this.2.1, this.2.2.2⟩
        | [], h => cases h
        | [c], h => cases h
      · cases s with
        | nil => simp at hb
        | cons c r =>
          simp only at hb
          split at hb
          · rename_i h
            simp only [List.take_succ_cons, List.take_zero, List.mem_cons, List.not_mem_nil, or_false] at hb
            subst hb
            constructor <;> rintro rfl
            · rw [s10] at h; cases h
            · rw [s35] at h; cases h
          · simp at hb
theorem tokS_le (s : Bs) : (tokS s).2.1 ≤ s.length := by
  unfold tokS
  split
  · simp only
    have := congrArg List.length (wordS_take s)
    rw [List.length_take] at this
    omega
  · split
    · exact Nat.zero_le _
    · exact markN_le s
theorem posT_flat : ∀ (w : Bs) (l c : Int), (∀ b ∈ w, ¬ b = 10 ∧ ¬ b = 35) → posT l c w = (l, c + w.length)
  | [], l, c, _ => by simp [posT]
  | b :: r, l, c, h => by
    rw [posT, if_neg (h b List.mem_cons_self).1, posT_flat r l (c + 1) fun x hx => h x (List.mem_cons_of_mem _ hx)]
    simp only [List.length_cons, Int.natCast_add, Int.natCast_one, Prod.mk.injEq, true_and]; omega
theorem remB_flat : ∀ (w : Bs), (∀ b ∈ w, ¬ b = 10 ∧ ¬ b = 35) → remB false w = false
  | [], _ => rfl
  | b :: r, h => by
    have := h b List.mem_cons_self
    rw [remB, Bool.false_or]
    simp only [this.2, decide_false, Bool.and_false]
    exact remB_flat r fun x hx => h x (List.mem_cons_of_mem _ hx)
/-- A token is a token by itself. -/
theorem takeWhile_take {α} (p : α → Bool) : ∀ s : List α, (s.takeWhile p).takeWhile p = s.takeWhile p
  | [] => rfl
  | a :: r => by
    rw [List.takeWhile_cons]
    split
    · rename_i h; rw [List.takeWhile_cons, if_pos h, takeWhile_take p r]
    · rfl
theorem tokS_self (b : UInt8) (r : Bs) (he : (tokS (b :: r)).2.2 = 0) : tokS ((b :: r).take (tokS (b :: r)).2.1) = tokS (b :: r) := by
  unfold tokS at *
  by_cases h : wrdB b = true
  · simp only [List.headD_cons, h, if_true] at he ⊢
    rw [wordS_take]
    have hw : wordS (wordS (b :: r)) = wordS (b :: r) := takeWhile_take wrdB _
    have hh : (wordS (b :: r)).headD 0 = b := by
      unfold wordS
      rw [List.takeWhile_cons, if_pos h]; rfl
    rw [hh, hw, if_pos h]
  · simp only [List.headD_cons, h, if_false, Bool.false_eq_true] at he ⊢
    by_cases hm : markN (b :: r) = 0
    · simp [hm] at he
    · simp only [hm, if_false]
      have hb : ((b :: r).take (markN (b :: r))).headD 0 = b := by
        obtain ⟨n, hn⟩ : ∃ n, markN (b :: r) = n + 1 := ⟨markN (b :: r) - 1, by omega⟩
        rw [hn]; rfl
      rw [hb]
      simp only [h, if_false, Bool.false_eq_true]
      have hk : markN ((b :: r).take (markN (b :: r))) = markN (b :: r) := by
        have hm' := hm
        unfold markN at hm' ⊢
        by_cases hp : pairH (b :: r) = true
        · rw [if_pos hp]
          match r, hp with
          | d :: r, hp => exact if_pos hp
          | [], hp => cases hp
        · rw [if_neg hp] at hm' ⊢
          simp only at hm' ⊢
          by_cases hs : sngB b = true
          · rw [if_pos hs]; simp [pairH, hs]
          · rw [if_neg hs] at hm'; exact absurd rfl hm'
      rw [hk]; simp only [hm, if_false]
/-- Where the tokens end. -/
def eG (s : Bs) (ts : List Tk) : Nat → Nat
  | 0 => 0
  | i + 1 => eG s ts i + gapS false (s.drop (eG s ts i)) + ((ts.drop i).headD ⟨0, [], 0, 0⟩).t.length
structure PlaceAt (s : Bs) (ts : List Tk) (i : Nat) : Prop where
  le : eG s ts i ≤ s.length
  lex : lexR (s.drop (eG s ts i)) (posT 1 1 (s.take (eG s ts i))).1 (posT 1 1 (s.take (eG s ts i))).2 = .ok (ts.drop i)
  rem : remB false (s.take (eG s ts i)) = false
theorem take_drop_add (s : Bs) (e k : Nat) : s.take (e + k) = s.take e ++ (s.drop e).take k := List.take_add
theorem place_step (s : Bs) (ts : List Tk) (i : Nat) (hi : i < ts.length) (h : PlaceAt s ts i) :
    PlaceAt s ts (i + 1) ∧ eG s ts i + gapS false (s.drop (eG s ts i)) + (ts[i]'hi).t.length ≤ s.length ∧ 0 < (ts[i]'hi).t.length ∧
    (s.drop (eG s ts i + gapS false (s.drop (eG s ts i)))).take (ts[i]'hi).t.length = (ts[i]'hi).t ∧
    (posT 1 1 (s.take (eG s ts i + gapS false (s.drop (eG s ts i))))) = ((ts[i]'hi).l, (ts[i]'hi).c) ∧
    remB false (s.take (eG s ts i + gapS false (s.drop (eG s ts i)))) = false ∧
    (tokS (ts[i]'hi).t) = ((ts[i]'hi).k, (ts[i]'hi).t.length, 0) := by
  obtain ⟨hle, hl, hr⟩ := h
  have hd : ts.drop i = ts[i] :: ts.drop (i + 1) := List.drop_eq_getElem_cons hi
  rw [hd] at hl
  have hg : gapS false (s.drop (eG s ts i)) ≤ s.length - eG s ts i := by have := gapS_le false (s.drop (eG s ts i)); rwa [List.length_drop] at this
  have hs : eG s ts (i + 1) = eG s ts i + gapS false (s.drop (eG s ts i)) + (ts[i]'hi).t.length := by rw [eG, hd, List.headD_cons]
  generalize ts[i] = t at *
  generalize hg' : gapS false (s.drop (eG s ts i)) = g at *
  generalize eG s ts i = e at *
  rcases gap_end (s.drop e) false (posT 1 1 (s.take e)).1 (posT 1 1 (s.take e)).2 with ⟨_, h2⟩ | ⟨b, r, hd2, hr2, h2, h1, h3, hl2⟩
  · have : lexX false (s.drop e) (posT 1 1 (s.take e)).1 (posT 1 1 (s.take e)).2 = .ok (t :: ts.drop (i + 1)) := hl
    rw [this] at h2; cases h2
  · rw [hg'] at hd2 hr2 hl2
    have hx : lexX false (s.drop e) (posT 1 1 (s.take e)).1 (posT 1 1 (s.take e)).2 = .ok (t :: ts.drop (i + 1)) := hl
    rw [hx] at hl2
    rw [← posT_app, ← take_drop_add] at hl2
    rw [List.drop_drop] at hd2
    have ht := tok_place b r _ _ h2 h1 h3 t _ hl2.symm
    have hb := tokS_bytes (b :: r)
    have hlen := tokS_le (b :: r)
    have hrl : (b :: r).length = s.length - (e + g) := by rw [← hd2, List.length_drop]
    have htl : t.t.length = (tokS (b :: r)).2.1 := by rw [ht.2.1]; simp only [List.length_take]; omega
    have htt : t.t = (b :: r).take (tokS (b :: r)).2.1 := by rw [ht.2.1]
    have hbt : (b :: r).take t.t.length = t.t := by rw [htl, ← htt]
    have hrr : remB false (s.take (e + g)) = false := by rw [take_drop_add, remB_app, hr]; exact hr2
    refine ⟨⟨?_, ?_, ?_⟩, ?_, ?_, ?_, ?_, hrr, ?_⟩
    · rw [hs]; omega
    · rw [hs, take_drop_add s (e + g), posT_app, ← List.drop_drop, hd2, hbt, posT_flat t.t _ _ (by rw [htt]; exact hb)]
      rw [htl] ; exact ht.2.2
    · rw [hs, take_drop_add s (e + g), remB_app, hrr, hd2, hbt]
      exact remB_flat _ (by rw [htt]; exact hb)
    · omega
    · rw [htl]; exact tokS_pos ht.1
    · rw [hd2]; exact hbt
    · rw [ht.2.1]
    · rw [htt, tokS_self b r ht.1, List.length_take, Nat.min_eq_left hlen]
      rw [ht.2.1]; simp only
      rw [← ht.1]
theorem place_at (s : Bs) (ts : List Tk) (h : lexR s 1 1 = .ok ts) : ∀ i, i ≤ ts.length → PlaceAt s ts i
  | 0, _ => ⟨Nat.zero_le _, by simpa [eG, posT] using h, by simp [eG, remB]⟩
  | i + 1, hi => (place_step s ts i (by omega) (place_at s ts h i (by omega))).1
/-- In the gap ahead of the token `i`. -/
theorem place_gap (s : Bs) (ts : List Tk) (i : Nat) (h : PlaceAt s ts i) (k : Nat) (hk : k < gapS false (s.drop (eG s ts i))) :
    (∀ (hi : i < ts.length), ¬ ((posT 1 1 (s.take (eG s ts i + k))).1 = (ts[i]'hi).l ∧ (posT 1 1 (s.take (eG s ts i + k))).2 = (ts[i]'hi).c)) ∧
    (∃ hb : eG s ts i + k < s.length, (remB (remB false (s.take (eG s ts i + k))) [s[eG s ts i + k]'hb] = true ∨ blkB (s[eG s ts i + k]'hb) = true ∨ s[eG s ts i + k]'hb = 10)) := by
  obtain ⟨hle, hl, hr⟩ := h
  have ga := gap_at (s.drop (eG s ts i)) false (posT 1 1 (s.take (eG s ts i))).1 (posT 1 1 (s.take (eG s ts i))).2 k (by omega)
  have hg : gapS false (s.drop (eG s ts i)) ≤ s.length - eG s ts i := by have := gapS_le false (s.drop (eG s ts i)); rwa [List.length_drop] at this
  have e1 : remB false (s.take (eG s ts i + k)) = remB false ((s.drop (eG s ts i)).take k) := by rw [take_drop_add, remB_app, hr]
  have e2 : posT 1 1 (s.take (eG s ts i + k)) = posT (posT 1 1 (s.take (eG s ts i))).1 (posT 1 1 (s.take (eG s ts i))).2 ((s.drop (eG s ts i)).take k) := by rw [take_drop_add, posT_app]
  rw [List.drop_drop, ← e1, ← e2] at ga
  refine ⟨?_, ?_⟩
  · intro hi
    have hx : lexX false (s.drop (eG s ts i)) (posT 1 1 (s.take (eG s ts i))).1 (posT 1 1 (s.take (eG s ts i))).2 = .ok (ts[i] :: ts.drop (i + 1)) := by
      rw [← List.drop_eq_getElem_cons hi]; exact hl
    rw [hx] at ga
    exact gap_off _ _ _ _ _ _ ga.2 (by omega)
  · have hb : eG s ts i + k < s.length := by omega
    refine ⟨hb, ?_⟩
    have := ga.1
    rw [List.drop_eq_getElem_cons hb] at this
    exact (gapS_cons _ _ _ (by rw [this]; omega)).2
theorem place_last (s : Bs) (ts : List Tk) (h : PlaceAt s ts ts.length) : eG s ts ts.length + gapS false (s.drop (eG s ts ts.length)) = s.length := by
  obtain ⟨hle, hl, hr⟩ := h
  have hg : gapS false (s.drop (eG s ts ts.length)) ≤ s.length - eG s ts ts.length := by have := gapS_le false (s.drop (eG s ts ts.length)); rwa [List.length_drop] at this
  rcases gap_end (s.drop (eG s ts ts.length)) false (posT 1 1 (s.take (eG s ts ts.length))).1 (posT 1 1 (s.take (eG s ts ts.length))).2 with ⟨h2, _⟩ | ⟨b, r, _, _, h2, h1, h3, hl2⟩
  · rw [List.drop_drop] at h2
    have := congrArg List.length h2
    rw [List.length_drop, List.length_nil] at this
    omega
  · have hx : lexX false (s.drop (eG s ts ts.length)) (posT 1 1 (s.take (eG s ts ts.length))).1 (posT 1 1 (s.take (eG s ts ts.length))).2 = .ok [] := by rw [List.drop_length] at hl; exact hl
    rw [hx] at hl2
    exact absurd hl2.symm (tok_none b r _ _ h2 h1 h3)
end Go.Proofs
