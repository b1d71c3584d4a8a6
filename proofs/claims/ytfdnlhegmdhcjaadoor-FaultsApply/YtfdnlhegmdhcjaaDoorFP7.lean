import Derived.Test.YtfdnlhegmdhcjaaDoorFP3
import Derived.Test.YtfdnlhegmdhcjaaDoorNUM
namespace Go.Proofs
open Go Go.V
def nameF (k : Int) : Bs :=
 if k = 0 then [111, 117, 116, 112, 117, 116] else if k = 1 then [116, 114, 97, 110, 115, 102, 101, 114] else if k = 2 then [109, 105, 115, 115, 105, 110, 103]
 else if k = 3 then [101, 120, 116, 114, 97] else [100, 101, 101, 112]
def hasT (k : Int) : Bool := decide (k = 1) || decide (k = 3)
def hasA (k : Int) : Bool := decide (k = 4)
def hasO (k : Int) : Bool := decide (k = 0) || decide (k = 4)
def plainF (f : Flt) : Bool := decide (0 ≤ f.k) && (decide (f.k ≤ 4) && ((hasT f.k || decide (f.t = 0)) && ((hasA f.k || decide (f.a = 0)) && (hasO f.k || decide (f.o = 0)))))
def in3 (n : Int) : Bool := decide (0 ≤ n) && decide (n ≤ 999)
def fldF (f : Flt) : List Int := [f.s, f.i] ++ ((if hasT f.k = true then [f.t] else []) ++ ((if hasA f.k = true then [f.a] else []) ++ (if hasO f.k = true then [f.o] else [])))
def numsB (l : List Int) : Bs := l.flatMap fun n => 32 :: Lib.itoa n
def okF (f : Flt) : Bool := plainF f && (in3 f.s && (in3 f.i && (in3 f.t && (in3 f.a && in3 f.o))))
def textF (f : Flt) : Option Bs := if okF f = true then some (nameF f.k ++ numsB (fldF f)) else none
theorem join_nums (p : Bs) (l : List Int) : Lib.join (p :: l.map Lib.itoa) [32] = p ++ numsB l := by
 induction l generalizing p with
 | nil => simp [join_one, numsB]
 | cons n r ih =>
  rw [List.map_cons, join_cons2, ih]
  simp [numsB]
def isD (c : UInt8) : Bool := decide (48 ≤ c.toNat) && decide (c.toNat ≤ 57)
def numS (s : Bs) : Option (Int × Bs) :=
 match s with
 | [] => none
 | b :: r =>
  if b = 32 ∧ ((r.take 3).takeWhile isD) ≠ [] ∧ ¬ (1 < ((r.take 3).takeWhile isD).length ∧ r.headD 0 = 48) then some (numF 0 ((r.take 3).takeWhile isD), r.drop ((r.take 3).takeWhile isD).length) else none
def numOf (has : Bool) (s : Bs) : Option (Int × Bs) := if has = true then numS s else some (0, s)
def parseK (k : Int) (rest : Bs) : Option Flt := do
 let (s, r) ← numS rest
 let (i, r) ← numS r
 let (t, r) ← numOf (hasT k) r
 let (a, r) ← numOf (hasA k) r
 let (o, r) ← numOf (hasO k) r
 if r = [] then some ⟨k, s, i, t, a, o⟩ else none
def kindOf (s : Bs) : Option Int := (([0, 1, 2, 3, 4] : List Int).find? fun k => (nameF k).isPrefixOf s)
def parseF (s : Bs) : Option Flt := match kindOf s with|none => none|some k => parseK k (s.drop (nameF k).length)
theorem takeW_app (p r : Bs) (hp : ∀ c ∈ p, isD c = true) (hr : r = [] ∨ ∃ c t, r = c :: t ∧ isD c = false) (h3 : p.length ≤ 3) : ((p ++ r).take 3).takeWhile isD = p := by
 rw [List.take_append, List.take_of_length_le h3, List.takeWhile_append_of_pos hp]
 rcases hr with rfl|⟨c, t, rfl, hc⟩
 ·simp
 ·match 3 - p.length with
  | 0 => simp
  | n + 1 => rw [List.take_succ_cons, List.takeWhile_cons, hc]; simp
theorem digs_isD {p : Bs} (h : digs p) : ∀ c ∈ p, isD c = true := fun c hc => by have := h c hc; simp [isD, this.1, this.2]
theorem numS_some (n : Int) (h0 : 0 ≤ n) (h1 : n ≤ 999) (r : Bs) (hr : r = [] ∨ ∃ c t, r = c :: t ∧ isD c = false) : numS (32 :: (Lib.itoa n ++ r)) = some (n, r) := by
 obtain ⟨c1, c2, _⟩ := canon_itoa n.toNat n h0 (by omega)
 have h3 := itoa_len3 h0 h1
 have ht := takeW_app (Lib.itoa n) r (digs_isD c1.2.1) hr h3
 simp only [numS, ht]
 rw [if_pos, c2, List.drop_left]
 refine ⟨trivial, c1.1, ?_⟩
 rintro ⟨q1, q2⟩
 have := c1.2.2 q1
 obtain ⟨d, t, e⟩ : ∃ d t, Lib.itoa n = d :: t := List.exists_cons_of_ne_nil c1.1
 rw [e] at this q2
 simp at this q2; exact this q2
theorem numS_back {s : Bs} {n : Int} {r : Bs} (h : numS s = some (n, r)) : s = 32 :: (Lib.itoa n ++ r) ∧ 0 ≤ n ∧ n ≤ 999 := by
 match s, h with
 | b :: t, h =>
  simp only [numS] at h
  split at h
  ·rename_i q
   simp only [Option.some.injEq, Prod.mk.injEq] at h
   have hp : (t.take 3).takeWhile isD = t.take ((t.take 3).takeWhile isD).length := by
    have h1 : (t.take 3).takeWhile isD <+: t.take 3 := List.takeWhile_prefix _
    have h2 := h1.trans (List.take_prefix 3 t)
    exact (List.prefix_iff_eq_take.1 h2)
   have hl3 : ((t.take 3).takeWhile isD).length ≤ 3 := by
    have h1 : (t.take 3).takeWhile isD <+: t.take 3 := List.takeWhile_prefix _
    have := h1.length_le
    rw [List.length_take] at this; omega
   have hd : digs ((t.take 3).takeWhile isD) := fun c hc => by
    have : isD c = true := by
     have hall : ((t.take 3).takeWhile isD).all isD = true := List.all_takeWhile
     exact List.all_eq_true.1 hall c hc
    simpa [isD] using this
   have hhead : ((t.take 3).takeWhile isD) ≠ [] → ((t.take 3).takeWhile isD).head? = some (t.headD 0) := fun hne => by
    match t with
    | [] => simp at hne
    | c :: t' =>
     rw [List.take_succ_cons, List.takeWhile_cons] at hne ⊢
     split at hne
     ·rename_i e; rw [if_pos e]; rfl
     ·exact absurd rfl hne
   generalize (t.take 3).takeWhile isD = p at *
   have hc : canonD p := ⟨q.2.1, hd, fun hl => by rw [hhead q.2.1]; intro e; exact q.2.2 ⟨hl, Option.some.inj e⟩⟩
   have hi := itoa_numF p.length p (Nat.le_refl _) hc
   have h9 := numV_itoa (f := p) (x := numF 0 p) (by unfold numV; rw [if_pos ⟨hc, hl3⟩])
   refine ⟨?_, ?_, ?_⟩
   ·rw [← h.1, ← h.2, hi, q.1, hp, List.length_take]
    have : min p.length t.length = p.length := by have := congrArg List.length hp; rw [List.length_take] at this; omega
    rw [this, List.take_append_drop]
   ·rw [← h.1]; exact h9.2
   ·rw [← h.1]
    have key : ∀ (xs : Bs) (a : Int) (m : Nat), 0 ≤ a → a < 10 ^ m → digs xs → numF a xs < 10 ^ (m + xs.length) := by
     intro xs
     induction xs with
     | nil => intro a m _ h _; simpa [numF] using h
     | cons c cs ih =>
      intro a m h0 h1 hd
      have hc := hd c List.mem_cons_self
      rw [numF]
      have := ih (10 * a + ((c.toNat : Int) - 48)) (m + 1) (by omega) (by rw [Int.pow_succ]; omega) fun x hx => hd x (List.mem_cons_of_mem _ hx)
      rw [List.length_cons, show m + (cs.length + 1) = m + 1 + cs.length by omega]; exact this
    have := key p 0 0 (by omega) (by decide) hd
    rw [Nat.zero_add] at this
    have h10 : (10 : Int) ^ p.length ≤ 1000 := by
     match p.length, hl3 with
     | 0, _ => decide
     | 1, _ => decide
     | 2, _ => decide
     | 3, _ => decide
    omega
  ·cases h
theorem tail_no (l : List Int) : numsB l = [] ∨ ∃ c t, numsB l = c :: t ∧ isD c = false := by
 cases l with
 | nil => exact .inl rfl
 | cons n r => exact .inr ⟨32, _, rfl, by decide⟩
theorem numS_cons (n : Int) (h0 : 0 ≤ n) (h1 : n ≤ 999) (l : List Int) : numS (numsB (n :: l)) = some (n, numsB l) := by
 have := numS_some n h0 h1 (numsB l) (tail_no l)
 simpa [numsB] using this
theorem in3_iff {n : Int} : in3 n = true ↔ 0 ≤ n ∧ n ≤ 999 := by simp [in3]
theorem parseK_text (f : Flt) (h : okF f = true) : parseK f.k (numsB (fldF f)) = some f := by
 obtain ⟨k, s, i, t, a, o⟩ := f
 simp only [okF, plainF, Bool.and_eq_true, in3_iff, decide_eq_true_eq, Bool.or_eq_true] at h
 obtain ⟨⟨_, _, ht, ha, ho⟩, hs, hi, ht2, ha2, ho2⟩ := h
 have e1 := fun l => numS_cons s hs.1 hs.2 l
 have e2 := fun l => numS_cons i hi.1 hi.2 l
 have e3 := fun l => numS_cons t ht2.1 ht2.2 l
 have e4 := fun l => numS_cons a ha2.1 ha2.2 l
 have e5 := fun l => numS_cons o ho2.1 ho2.2 l
 have z : numsB [] = [] := rfl
 unfold parseK fldF
 simp only [List.cons_append, List.nil_append, e1, e2, Option.bind_eq_bind, Option.bind_some]
 cases qt : hasT k <;> cases qa : hasA k <;> cases qo : hasO k <;>
  simp_all [numOf]
theorem numOf_back {has : Bool} {s : Bs} {n : Int} {r : Bs} (h : numOf has s = some (n, r)) : s = numsB (if has = true then [n] else []) ++ r ∧ 0 ≤ n ∧ n ≤ 999 ∧ (has = true ∨ n = 0) := by
 unfold numOf at h
 split at h
 ·rename_i q
  have := numS_back h
  rw [if_pos q]
  exact ⟨by rw [this.1]; simp [numsB], this.2.1, this.2.2, .inl q⟩
 ·rename_i q
  simp only [Option.some.injEq, Prod.mk.injEq] at h
  rw [if_neg q, ← h.1, ← h.2]
  exact ⟨rfl, by omega, by omega, .inr rfl⟩
theorem numsB_app (a b : List Int) : numsB (a ++ b) = numsB a ++ numsB b := by simp [numsB]
theorem parseK_back {k : Int} {rest : Bs} {f : Flt} (hk : 0 ≤ k ∧ k ≤ 4) (h : parseK k rest = some f) : f.k = k ∧ okF f = true ∧ rest = numsB (fldF f) := by
 unfold parseK at h
 simp only [Option.bind_eq_bind, Option.bind_eq_some_iff] at h
 obtain ⟨⟨s, r1⟩, h1, ⟨i, r2⟩, h2, ⟨t, r3⟩, h3, ⟨a, r4⟩, h4, ⟨o, r5⟩, h5, h6⟩ := h
 simp only at h2 h3 h4 h5 h6
 split at h6
 ·rename_i q
  subst q
  simp only [Option.some.injEq] at h6
  subst h6
  have b1 := numS_back h1
  have b2 := numS_back h2
  have b3 := numOf_back h3
  have b4 := numOf_back h4
  have b5 := numOf_back h5
  refine ⟨rfl, ?_, ?_⟩
  ·simp only [okF, plainF, Bool.and_eq_true, in3_iff, decide_eq_true_eq, Bool.or_eq_true]
   exact ⟨⟨hk.1, hk.2, b3.2.2.2, b4.2.2.2, b5.2.2.2⟩, b1.2, b2.2, ⟨b3.2.1, b3.2.2.1⟩, ⟨b4.2.1, b4.2.2.1⟩, ⟨b5.2.1, b5.2.2.1⟩⟩
  ·rw [b1.1, b2.1, b3.1, b4.1, b5.1, fldF, numsB_app, numsB_app, numsB_app]
   simp [numsB]
 ·cases h6
theorem pre_drop {p s : Bs} (h : p.isPrefixOf s = true) : s = p ++ s.drop p.length := by
 obtain ⟨t, rfl⟩ := List.isPrefixOf_iff_prefix.1 h
 rw [List.drop_left]
theorem pre_both : ∀ (p q s : Bs), p.isPrefixOf s = true → q.isPrefixOf s = true → p.isPrefixOf q = true ∨ q.isPrefixOf p = true := by
 intro p q s h1 h2
 have a := List.isPrefixOf_iff_prefix.1 h1
 have b := List.isPrefixOf_iff_prefix.1 h2
 rcases Nat.le_total p.length q.length with q1|q1
 ·exact .inl (List.isPrefixOf_iff_prefix.2 (List.prefix_of_prefix_length_le a b q1))
 ·exact .inr (List.isPrefixOf_iff_prefix.2 (List.prefix_of_prefix_length_le b a q1))
theorem kindOf_text (k : Int) (hk : 0 ≤ k ∧ k ≤ 4) (r : Bs) : kindOf (nameF k ++ r) = some k := by
 have hp : (nameF k).isPrefixOf (nameF k ++ r) = true := List.isPrefixOf_iff_prefix.2 (List.prefix_append _ _)
 have no : ∀ j : Int, (nameF j).isPrefixOf (nameF k) = false → (nameF k).isPrefixOf (nameF j) = false → (nameF j).isPrefixOf (nameF k ++ r) = false := fun j h1 h2 => by
  cases q : (nameF j).isPrefixOf (nameF k ++ r)
  ·rfl
  ·rcases pre_both _ _ _ q hp with w|w
   ·rw [h1] at w; cases w
   ·rw [h2] at w; cases w
 have hc : k = 0 ∨ k = 1 ∨ k = 2 ∨ k = 3 ∨ k = 4 := by omega
 unfold kindOf
 rcases hc with rfl|rfl|rfl|rfl|rfl
 ·simp only [List.find?, hp]
 ·have n0 := no 0 (by decide) (by decide)
  simp only [List.find?, n0, hp]
 ·have n0 := no 0 (by decide) (by decide)
  have n1 := no 1 (by decide) (by decide)
  simp only [List.find?, n0, n1, hp]
 ·have n0 := no 0 (by decide) (by decide)
  have n1 := no 1 (by decide) (by decide)
  have n2 := no 2 (by decide) (by decide)
  simp only [List.find?, n0, n1, n2, hp]
 ·have n0 := no 0 (by decide) (by decide)
  have n1 := no 1 (by decide) (by decide)
  have n2 := no 2 (by decide) (by decide)
  have n3 := no 3 (by decide) (by decide)
  simp only [List.find?, n0, n1, n2, n3, hp]
theorem parse_textF {f : Flt} {s : Bs} (h : textF f = some s) : parseF s = some f := by
 unfold textF at h
 split at h
 ·rename_i q
  simp only [Option.some.injEq] at h
  have hk : 0 ≤ f.k ∧ f.k ≤ 4 := by
   simp only [okF, plainF, Bool.and_eq_true, decide_eq_true_eq] at q
   exact ⟨q.1.1, q.1.2.1⟩
  rw [parseF, ← h, kindOf_text f.k hk]
  simp only [List.drop_left]
  exact parseK_text f q
 ·cases h
theorem text_parseF {f : Flt} {s : Bs} (h : parseF s = some f) : textF f = some s := by
 unfold parseF at h
 split at h
 ·cases h
 ·rename_i k q
  have hm := List.mem_of_find?_eq_some q
  have hp := List.find?_some q
  have hk : 0 ≤ k ∧ k ≤ 4 := by simp at hm; omega
  have hb := parseK_back hk h
  rw [textF, if_pos hb.2.1, hb.1, ← hb.2.2, ← pre_drop hp]
end Go.Proofs
namespace Go.Proofs
open Go Go.V
theorem name_no (k : Int) : ¬ (32 : UInt8) ∈ nameF k := by unfold nameF; split <;> (try split) <;> (try split) <;> (try split) <;> decide
theorem fld_pos {f : Flt} (h : okF f = true) : ∀ n ∈ fldF f, 0 ≤ n ∧ n ≤ 999 := by
 intro n hn
 simp only [okF, Bool.and_eq_true, in3_iff] at h
 unfold fldF at hn
 simp only [List.mem_append, List.mem_cons, List.not_mem_nil, or_false] at hn
 rcases hn with (rfl|rfl)|hn|hn|hn
 ·exact h.2.1
 ·exact h.2.2.1
 ·split at hn
  ·simp only [List.mem_cons, List.not_mem_nil, or_false] at hn; subst hn; exact h.2.2.2.1
  ·cases hn
 ·split at hn
  ·simp only [List.mem_cons, List.not_mem_nil, or_false] at hn; subst hn; exact h.2.2.2.2.1
  ·cases hn
 ·split at hn
  ·simp only [List.mem_cons, List.not_mem_nil, or_false] at hn; subst hn; exact h.2.2.2.2.2
  ·cases hn
theorem split_textF {f : Flt} {s : Bs} (h : textF f = some s) : splitM s [32] = nameF f.k :: (fldF f).map Lib.itoa := by
 unfold textF at h
 split at h
 ·rename_i q
  simp only [Option.some.injEq] at h
  rw [← h, ← join_nums]
  refine split_join (q := 0) (c := 32) ⟨rfl, fun k h => by omega⟩ _ (by simp) ?_
  intro p hp
  rcases List.mem_cons.1 hp with rfl|hp
  ·exact name_no _
  ·rw [List.mem_map] at hp
   obtain ⟨n, hn, rfl⟩ := hp
   exact digs_not (itoa_digs (fld_pos q n hn).1) (by decide)
 ·cases h
def takeF (k : Int) (ws : List Int) : Flt :=
 let s := ws.headD 0
 let r := ws.drop 1
 let i := r.headD 0
 let r := r.drop 1
 let t := if hasT k = true then r.headD 0 else 0
 let r := if hasT k = true then r.drop 1 else r
 let a := if hasA k = true then r.headD 0 else 0
 let r := if hasA k = true then r.drop 1 else r
 let o := if hasO k = true then r.headD 0 else 0
 ⟨k, s, i, t, a, o⟩
theorem takeF_fld {f : Flt} (h : okF f = true) : takeF f.k (fldF f) = f := by
 obtain ⟨k, s, i, t, a, o⟩ := f
 simp only [okF, plainF, Bool.and_eq_true, decide_eq_true_eq, Bool.or_eq_true] at h
 obtain ⟨⟨_, _, ht, ha, ho⟩, _⟩ := h
 unfold takeF fldF
 cases qt : hasT k <;> cases qa : hasA k <;> cases qo : hasO k <;> simp_all
end Go.Proofs
namespace Go.Proofs
open Go Go.V
def okP (R : RR) (I O : Nat) (f : Flt) : Bool :=
 plainF f && (defR R I f.s f.i && ((!hasT f.k || inN f.t R.length) && ((!hasO f.k || inN f.o O) && ((!hasA f.k || defR R I (edR R f.s f.i).1 f.a) &&
  !((decide (f.k = 0) && decide (f.o = (edR R f.s f.i).2)) || ((decide (f.k = 1) && decide (f.t = (edR R f.s f.i).1)) || (decide (f.k = 4) && decide (f.o = (edR R (edR R f.s f.i).1 f.a).2))))))))
theorem okP_isF (R : RR) (I O : Nat) (f : Flt) : okP R I O f = isF R I O f := by
 obtain ⟨k, s, i, t, a, o⟩ := f
 unfold okP isF plainF hasT hasA hasO
 simp only
 by_cases h : 0 ≤ k ∧ k ≤ 4
 ·have hc : k = 0 ∨ k = 1 ∨ k = 2 ∨ k = 3 ∨ k = 4 := by omega
  rcases hc with rfl|rfl|rfl|rfl|rfl <;>
   cases defR R I s i <;> simp <;> (try (apply Bool.eq_iff_iff.mpr; simp; grind))
 ·have h0 : ¬ k = 0 := by omega
  have h1 : ¬ k = 1 := by omega
  have h2 : ¬ k = 2 := by omega
  have h3 : ¬ k = 3 := by omega
  have h4 : ¬ k = 4 := by omega
  have hp : (decide (0 ≤ k) && decide (k ≤ 4)) = false := by
   rw [← Bool.not_eq_true]
   simp only [Bool.and_eq_true, decide_eq_true_eq]; exact h
  rw [← Bool.and_assoc (decide (0 ≤ k)), hp]
  simp [h0, h1, h2, h3, h4]
def chkF (R : RR) (I O : Nat) (f : Flt) : Int := if isF R I O f = true then (if 3 ≤ f.k ∧ R.length = 64 then 3 else 0) else 1
end Go.Proofs
namespace Go.Proofs
def okE (n O : Nat) (e : Int × Int) : Prop := e = (-1, -1) ∨ (0 ≤ e.1 ∧ e.1 < n ∧ 0 ≤ e.2 ∧ e.2 < O)
def okRow (n O I : Nat) (r : List (Int × Int)) : Prop := r.length = I ∧ ∀ e ∈ r, okE n O e
theorem okE_up {n m O : Nat} {e : Int × Int} (h : okE n O e) (hm : n ≤ m) : okE m O e := by
 rcases h with h|h
 ·exact .inl h
 ·exact .inr ⟨h.1, by omega, h.2.2⟩
theorem okRow_up {n m O I : Nat} {r : List (Int × Int)} (h : okRow n O I r) (hm : n ≤ m) : okRow m O I r := ⟨h.1, fun e he => okE_up (h.2 e he) hm⟩
theorem okRow_set {n O I : Nat} {r : List (Int × Int)} (h : okRow n O I r) (i : Nat) {e : Int × Int} (he : okE n O e) : okRow n O I (r.set i e) := by
 refine ⟨by rw [List.length_set]; exact h.1, fun x hx => ?_⟩
 rcases List.mem_or_eq_of_mem_set hx with q|q
 ·exact h.2 x q
 ·rw [q]; exact he
theorem okRow_getD {R : RR} {n O I : Nat} (h : ∀ r ∈ R, okRow n O I r) {x : Nat} (hx : x < R.length) : okRow n O I (R.getD x []) := by
 rw [List.getD_eq_getElem?_getD, List.getElem?_eq_getElem hx]
 exact h _ (List.getElem_mem hx)
theorem okM_rows {R : RR} {I O : Nat} (h : OkM R I O) : ∀ r ∈ R, okRow R.length O I r := fun r hr => ⟨h.row r hr, h.ed r hr⟩
theorem okM_of_rows {R : RR} {I O : Nat} (hn : 1 ≤ R.length) (hi : 1 ≤ I) (ho : 1 ≤ O) (h : ∀ r ∈ R, okRow R.length O I r) : OkM R I O := ⟨hn, hi, ho, fun r hr => (h r hr).1, fun r hr => (h r hr).2⟩
theorem rows_set {R : RR} {n O I : Nat} (h : ∀ r ∈ R, okRow n O I r) {s i : Int} (hs : s.toNat < R.length) {e : Int × Int} (he : okE n O e) : ∀ r ∈ setE R s i e, okRow n O I r := fun r hr => by
 rcases List.mem_or_eq_of_mem_set hr with q|q
 ·exact h r q
 ·rw [q]; exact okRow_set (okRow_getD h hs) _ he
theorem isF_def {R : RR} {I O : Nat} {f : Flt} (h : isF R I O f = true) : 0 ≤ f.s ∧ f.s < R.length ∧ 0 ≤ f.i ∧ f.i < I ∧ (edR R f.s f.i).1 ≠ -1 := by
 rw [isF, Bool.and_eq_true] at h
 exact defR_iff.1 h.1
theorem isF_kind {R : RR} {I O : Nat} {f : Flt} (h : isF R I O f = true) : 0 ≤ f.k ∧ f.k ≤ 4 := by
 rw [isF, Bool.and_eq_true] at h
 have h2 := h.2
 split at h2
 ·omega
 ·split at h2
  ·omega
  ·split at h2
   ·omega
   ·split at h2
    ·omega
    ·split at h2
     ·omega
     ·cases h2
theorem newR_len (R : RR) (f : Flt) : (newR R f).length = if f.k = 3 ∨ f.k = 4 then 1 else 0 := by
 unfold newR
 by_cases h3 : f.k = 3
 ·simp [h3]
 ·by_cases h4 : f.k = 4
  ·simp [h4]
  ·simp [h3, h4]
theorem applyR_len (R : RR) (f : Flt) : (applyR R f).length = R.length + if f.k = 3 ∨ f.k = 4 then 1 else 0 := by
 rw [applyR, setE_len, List.length_append, newR_len]
theorem applyR_ok {R : RR} {I O : Nat} {f : Flt} (h : OkM R I O) (hf : isF R I O f = true) : OkM (applyR R f) I O := by
 obtain ⟨d1, d2, d3, d4, d5⟩ := isF_def hf
 obtain ⟨k1, k2⟩ := isF_kind hf
 have hr := okM_rows h
 have hE := edR_mem h d1 d2 d3 d4
 have hE2 : 0 ≤ (edR R f.s f.i).1 ∧ (edR R f.s f.i).1 < R.length ∧ 0 ≤ (edR R f.s f.i).2 ∧ (edR R f.s f.i).2 < O := by
  rcases hE with q|q
  ·rw [q] at d5; exact absurd rfl d5
  ·exact q
 rw [isF, Bool.and_eq_true] at hf
 have hf2 := hf.2
 refine okM_of_rows (by rw [applyR_len]; have := h.n1; omega) h.i1 h.o1 ?_
 have hlen := applyR_len R f
 generalize hN : (applyR R f).length = N at *
 have hs : f.s.toNat < (R ++ newR R f).length := by rw [List.length_append]; omega
 have hup : ∀ r ∈ R, okRow N O I r := fun r q => okRow_up (hr r q) (by omega)
 have hnew : ∀ r ∈ newR R f, okRow N O I r := by
  unfold newR
  split
  ·rename_i h3
   rw [if_neg (by omega), if_neg (by omega), if_neg (by omega), if_pos h3] at hf2
   simp only [Bool.and_eq_true, decide_eq_true_eq, inN] at hf2
   intro r q
   rw [List.mem_singleton.1 q]
   exact okRow_getD hup (by omega)
  ·split
   ·rename_i h3 h4
    rw [if_neg (by omega), if_neg (by omega), if_neg (by omega), if_neg (by omega), if_pos h4] at hf2
    simp only [Bool.and_eq_true, decide_eq_true_eq, inN] at hf2
    obtain ⟨_, g2, ⟨g3, g3'⟩, g4⟩ := hf2
    obtain ⟨b1, b2, b3, b4, b5⟩ := defR_iff.1 g2
    have hE3 := edR_mem h b1 b2 b3 b4
    intro r q
    rw [List.mem_singleton.1 q]
    refine okRow_set (okRow_getD hup (by omega)) _ ?_
    rcases hE3 with w|w
    ·rw [w] at b5; exact absurd rfl b5
    ·exact .inr ⟨w.1, by dsimp only; omega, g3, g3'⟩
   ·intro r q; cases q
 refine rows_set (fun r q => ?_) hs ?_
 ·rcases List.mem_append.1 q with w|w
  ·exact hup r w
  ·exact hnew r w
 ·unfold newE
  split
  ·rename_i h0
   rw [if_pos h0] at hf2
   simp only [Bool.and_eq_true, decide_eq_true_eq, inN] at hf2
   exact .inr ⟨hE2.1, by dsimp only; omega, hf2.2.2.1.1, hf2.2.2.1.2⟩
  ·split
   ·rename_i h0 h1
    rw [if_neg (by omega), if_pos h1] at hf2
    simp only [Bool.and_eq_true, decide_eq_true_eq, inN] at hf2
    exact .inr ⟨hf2.2.2.1.1, by dsimp only; omega, hE2.2.2⟩
   ·split
    ·exact .inl rfl
    ·rename_i h0 h1 h2
     refine .inr ⟨by dsimp only; omega, ?_, hE2.2.2⟩
     dsimp only
     rw [if_pos (by omega)] at hlen
     omega
def difI (A B : RR) (s k : Nat) : Nat := ((List.range k).flatMap fun (i : Nat) => if edR A s i = edR B s i then [] else [()]).length
def difS (A B : RR) (I k : Nat) : Nat := ((List.range k).flatMap fun (s : Nat) => (List.range I).flatMap fun (i : Nat) => if edR A s i = edR B s i then [] else [()]).length
end Go.Proofs
