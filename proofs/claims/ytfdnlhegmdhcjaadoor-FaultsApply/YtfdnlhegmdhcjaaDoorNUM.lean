import Derived.Test.YtfdnlhegmdhcjaaDoorSPL
import Derived.Lib.AtoiTie
import Derived.Lib.ItoaNum
namespace Go.Proofs
open Go Go.V
set_option maxRecDepth 100000
theorem itoa_small (n : Int) (h0 : 0 ≤ n) (h1 : n < 10) : Lib.itoa n = [UInt8.ofNat (48 + n.toNat)] := by
 rw [Lib.itoa, if_neg (by omega), Lib.decDigits, dif_pos (by omega)]
theorem itoa_big (n : Int) (h : 10 ≤ n) : Lib.itoa n = Lib.itoa (n / 10) ++ Lib.itoa (n % 10) := by
 rw [itoa_small (n % 10) (by omega) (by omega), Lib.itoa, if_neg (by omega), Lib.itoa, if_neg (by omega), Lib.decDigits, dif_neg (by omega)]
 rw [show (n / 10).toNat = n.toNat / 10 by omega, show (n % 10).toNat = n.toNat % 10 by omega]
def numF (a : Int) : List UInt8 → Int
 | [] => a
 | c :: cs => numF (10 * a + ((c.toNat : Int) - 48)) cs
def digs (p : List UInt8) : Prop := ∀ c ∈ p, 48 ≤ c.toNat ∧ c.toNat ≤ 57
def canonD (p : List UInt8) : Prop := p ≠ [] ∧ digs p ∧ (1 < p.length → p.head? ≠ some 48)
theorem numF_append : ∀ (xs : List UInt8) (a : Int) (ys : List UInt8), numF a (xs ++ ys) = numF (numF a xs) ys
 | [], _, _ => rfl
 | c :: cs, a, ys => by rw [List.cons_append, numF, numF, numF_append cs]
theorem numF_ge : ∀ (xs : List UInt8) (a : Int), 0 ≤ a → digs xs → a ≤ numF a xs
 | [], a, _, _ => Int.le_refl _
 | c :: cs, a, h, hd => by
  have hc := hd c (List.mem_cons_self ..)
  rw [numF]
  exact Int.le_trans (by omega) (numF_ge cs _ (by omega) fun x hx => hd x (List.mem_cons_of_mem _ hx))
theorem head_digit {c : UInt8} (h : c ≠ 48) (h1 : 48 ≤ c.toNat) : 49 ≤ c.toNat := by
 rcases Nat.lt_or_ge c.toNat 49 with q|q
 ·exact absurd (UInt8.toNat_inj.1 (by show c.toNat = 48; omega)) h
 ·exact q
theorem ofNat_digit (c : UInt8) (h : 48 ≤ c.toNat) (h2 : c.toNat ≤ 57) : UInt8.ofNat (48 + (((c.toNat : Int) - 48).toNat)) = c := by
 apply UInt8.toNat_inj.1
 rw [UInt8.toNat_ofNat']
 have : c.toNat < 256 := by omega
 have e : 48 + ((c.toNat : Int) - 48).toNat = c.toNat := by omega
 rw [e, Nat.mod_eq_of_lt (by simpa using this)]
theorem itoa_numF : ∀ (k : Nat) (p : List UInt8), p.length ≤ k → canonD p → Lib.itoa (numF 0 p) = p
 | 0, p, h, hc => absurd (List.eq_nil_of_length_eq_zero (by omega)) hc.1
 | k + 1, p, h, hc => by
  rcases List.eq_nil_or_concat p with e|⟨q, c, e⟩
  ·exact absurd e hc.1
  ·rw [List.concat_eq_append] at e
   subst e
   have hcd := hc.2.1 c (by simp)
   by_cases hq : q = []
   ·subst hq
    simp only [List.nil_append, numF]
    rw [itoa_small _ (by omega) (by omega)]
    rw [show 10 * (0 : Int) + ((c.toNat : Int) - 48) = (c.toNat : Int) - 48 by omega, ofNat_digit c hcd.1 hcd.2]
   ·obtain ⟨d, t, rfl⟩ : ∃ d t, q = d :: t := by cases q with|nil => exact absurd rfl hq|cons d t => exact ⟨d, t, rfl⟩
    have hh : d ≠ 48 := by
     have := hc.2.2 (by simp)
     simpa using this
    have hdq : digs (d :: t) := fun x hx => hc.2.1 x (List.mem_append_left _ hx)
    have hd := hdq d (List.mem_cons_self ..)
    have h1 : 1 ≤ numF 0 (d :: t) := by
     rw [numF]
     exact Int.le_trans (by have := head_digit hh hd.1; omega) (numF_ge t _ (by omega) fun x hx => hdq x (List.mem_cons_of_mem _ hx))
    have ih := itoa_numF k (d :: t) (by simp at h ⊢; omega) ⟨by simp, hdq, fun _ => by simpa using hh⟩
    rw [numF_append]
    generalize numF 0 (d :: t) = Q at *
    simp only [numF]
    rw [itoa_big _ (by omega), show (10 * Q + ((c.toNat : Int) - 48)) / 10 = Q by omega, show (10 * Q + ((c.toNat : Int) - 48)) % 10 = (c.toNat : Int) - 48 by omega, ih, itoa_small _ (by omega) (by omega), ofNat_digit c hcd.1 hcd.2]
theorem digit_of (v : Int) (h0 : 0 ≤ v) (h1 : v < 10) : (UInt8.ofNat (48 + v.toNat)).toNat = 48 + v.toNat := by
 rw [UInt8.toNat_ofNat']
 exact Nat.mod_eq_of_lt (by omega)
theorem canon_itoa : ∀ (k : Nat) (v : Int), 0 ≤ v → v ≤ k → canonD (Lib.itoa v) ∧ numF 0 (Lib.itoa v) = v ∧ (1 ≤ v → (Lib.itoa v).head? ≠ some 48)
 | 0, v, h0, h1 => by
  have : v = 0 := by omega
  subst this
  have e : Lib.itoa 0 = [48] := by rw [itoa_small 0 (by omega) (by omega)]; rfl
  rw [e]
  exact ⟨⟨by simp, fun x hx => by simp at hx; subst hx; decide, by simp⟩, by decide, by omega⟩
 | k + 1, v, h0, h1 => by
  by_cases hv : v < 10
  ·have hd := digit_of v h0 hv
   rw [itoa_small v h0 hv]
   generalize UInt8.ofNat (48 + v.toNat) = c at *
   refine ⟨⟨by simp, fun x hx => by simp at hx; subst hx; omega, by simp⟩, by simp only [numF]; omega, fun hv1 q => ?_⟩
   simp at q; subst q
   have : (48 : UInt8).toNat = 48 := rfl
   omega
  ·obtain ⟨i1, i2, i3⟩ := canon_itoa k (v / 10) (by omega) (by omega)
   have hd := digit_of (v % 10) (by omega) (by omega)
   have i3 := i3 (by omega)
   rw [itoa_big v (by omega), itoa_small (v % 10) (by omega) (by omega)]
   generalize UInt8.ofNat (48 + (v % 10).toNat) = c at *
   generalize Lib.itoa (v / 10) = q at *
   have hne := i1.1
   have hh : (q ++ [c]).head? ≠ some 48 := by
    cases q with
    | nil => exact absurd rfl hne
    | cons d t => simpa using i3
   refine ⟨⟨by simp, fun x hx => ?_, fun _ => hh⟩, by rw [numF_append, i2]; simp only [numF]; omega, fun _ => hh⟩
   rcases List.mem_append.1 hx with h|h
   ·exact i1.2.1 x h
   ·simp at h; subst h; omega
instance (p : Bs) : Decidable (digs p) := inferInstanceAs (Decidable (∀ c ∈ p, 48 ≤ c.toNat ∧ c.toNat ≤ 57))
instance (p : Bs) : Decidable (canonD p) := inferInstanceAs (Decidable (_ ∧ _ ∧ _))
def numV (f : Bs) : Option Int := if canonD f ∧ f.length ≤ 3 then some (numF 0 f) else none
def numsV : List Bs → Option (List Int)
 | [] => some []
 | f :: r => match numV f, numsV r with|some x, some xs => some (x :: xs)|_, _ => none
theorem numV_itoa {f : Bs} {x : Int} (h : numV f = some x) : Lib.itoa x = f ∧ 0 ≤ x := by
 unfold numV at h
 split at h
 ·rename_i q
  injection h with h; subst h
  exact ⟨itoa_numF _ f (Nat.le_refl _) q.1, numF_ge f 0 (Int.le_refl _) q.1.2.1⟩
 ·cases h
theorem itoa_len3 {v : Int} (h0 : 0 ≤ v) (h1 : v ≤ 999) : (Lib.itoa v).length ≤ 3 := by
 by_cases a : v < 10
 ·rw [itoa_small v h0 a]; simp
 ·by_cases b : v < 100
  ·rw [itoa_big v (by omega), itoa_small (v / 10) (by omega) (by omega), itoa_small (v % 10) (by omega) (by omega)]; simp
  ·rw [itoa_big v (by omega), itoa_big (v / 10) (by omega), itoa_small (v / 10 / 10) (by omega) (by omega), itoa_small (v / 10 % 10) (by omega) (by omega), itoa_small (v % 10) (by omega) (by omega)]; simp
theorem itoa_digs {v : Int} (h0 : 0 ≤ v) : digs (Lib.itoa v) := (canon_itoa v.toNat v h0 (by omega)).1.2.1
theorem digs_not {p : Bs} (h : digs p) {c : UInt8} (hc : c.toNat < 48 ∨ 57 < c.toNat) : ¬ c ∈ p := fun q => by
 have := h c q; omega
theorem index_occ (s sub : Bs) (h : 0 ≤ Lib.index s sub) : ∃ t, s = s.take (Lib.index s sub).toNat ++ (sub ++ t) ∧ t = s.drop ((Lib.index s sub).toNat + sub.length) := by
 rcases Lib.index_spec s sub with ⟨q, _⟩|⟨i, q, hi, ho, _⟩
 ·omega
 ·rw [q, Int.toNat_natCast]
  unfold Lib.occAt at ho
  obtain ⟨t, ht⟩ := List.isPrefixOf_iff_prefix.1 ho
  refine ⟨t, ?_, ?_⟩
  ·rw [ht, List.take_append_drop]
  ·rw [← List.drop_drop, ← ht, List.drop_left]
theorem split_back (sep : Bs) (hs : sep ≠ []) : ∀ (n : Nat) (s : Bs), s.length ≤ n → Lib.join (splitM s sep) sep = s ∧ splitM s sep ≠ []
 | n, s, hn => by
  rcases Int.lt_or_le (Lib.index s sep) 0 with q|q
  ·have := Lib.index_ge s sep
   rw [splitM_miss (by omega), join_one]; exact ⟨rfl, by simp⟩
  ·obtain ⟨i, hi⟩ : ∃ i : Nat, Lib.index s sep = i := ⟨(Lib.index s sep).toNat, by omega⟩
   obtain ⟨t, h1, h2⟩ := index_occ s sep q
   rw [hi, Int.toNat_natCast] at h1 h2
   rw [splitM_hit hs hi, ← h2]
   have hl : 0 < sep.length := List.length_pos_iff.2 hs
   have hlen : s.length = (s.take i).length + sep.length + t.length := by
    conv => lhs; rw [h1]
    simp; omega
   cases n with
   | zero => omega
   | succ n =>
    obtain ⟨a, b⟩ := split_back sep hs n t (by omega)
    refine ⟨?_, by simp⟩
    cases hp : splitM t sep with
    | nil => exact absurd hp b
    | cons x xs =>
     rw [hp] at a
     rw [join_cons2, a]; exact h1.symm
end Go.Proofs
