import Derived.Test.YtnlbodnipgkpaaaDoorSPL
import Derived.Lib.AtoiTie
import Derived.Lib.ItoaNum
/- Numerals as they must be: plain. -/
namespace Go.Proofs
open Go Go.V
set_option maxRecDepth 100000
theorem itoa_small (n : Int) (h0 : 0 ≤ n) (h1 : n < 10) : Lib.itoa n = [UInt8.ofNat (48 + n.toNat)] := by
  rw [Lib.itoa, if_neg (by omega), Lib.decDigits, dif_pos (by omega)]
theorem itoa_big (n : Int) (h : 10 ≤ n) : Lib.itoa n = Lib.itoa (n / 10) ++ Lib.itoa (n % 10) := by
  rw [itoa_small (n % 10) (by omega) (by omega), Lib.itoa, if_neg (by omega), Lib.itoa, if_neg (by omega), Lib.decDigits, dif_neg (by omega)]
  rw [show (n / 10).toNat = n.toNat / 10 by omega, show (n % 10).toNat = n.toNat % 10 by omega]
/-- The number behind the digits. -/
def numF (a : Int) : List UInt8 → Int
  | [] => a
  | c :: cs => numF (10 * a + ((c.toNat : Int) - 48)) cs
def digs (p : List UInt8) : Prop := ∀ c ∈ p, 48 ≤ c.toNat ∧ c.toNat ≤ 57
def canonD (p : List UInt8) : Prop := p ≠ [] ∧ digs p ∧ (1 < p.length → p.head? ≠ some 48)
instance (p : Bs) : Decidable (digs p) := inferInstanceAs (Decidable (∀ c ∈ p, 48 ≤ c.toNat ∧ c.toNat ≤ 57))
instance (p : Bs) : Decidable (canonD p) := inferInstanceAs (Decidable (_ ∧ _ ∧ _))
/-- A numeral of at most three digits. -/
def numV (f : Bs) : Option Int := if canonD f ∧ f.length ≤ 3 then some (numF 0 f) else none
def numsV : List Bs → Option (List Int)
  | [] => some []
  | f :: r => match numV f, numsV r with | some x, some xs => some (x :: xs) | _, _ => none
/-! ### Cut, and dividing behind a byte -/
theorem index_occ (s sub : Bs) (h : 0 ≤ Lib.index s sub) : ∃ t, s = s.take (Lib.index s sub).toNat ++ (sub ++ t) ∧ t = s.drop ((Lib.index s sub).toNat + sub.length) := by
  rcases Lib.index_spec s sub with ⟨q, _⟩ | ⟨i, q, hi, ho, _⟩
  · omega
  · rw [q, Int.toNat_natCast]
    unfold Lib.occAt at ho
    obtain ⟨t, ht⟩ := List.isPrefixOf_iff_prefix.1 ho
    refine ⟨t, ?_, ?_⟩
    · rw [ht, List.take_append_drop]
    · rw [← List.drop_drop, ← ht, List.drop_left]
theorem split_back (sep : Bs) (hs : sep ≠ []) : ∀ (n : Nat) (s : Bs), s.length ≤ n → Lib.join (splitM s sep) sep = s ∧ splitM s sep ≠ []
  | n, s, hn => by
    rcases Int.lt_or_le (Lib.index s sep) 0 with q | q
    · have := Lib.index_ge s sep
      rw [splitM_miss (by omega), join_one]; exact ⟨rfl, by simp⟩
    · obtain ⟨i, hi⟩ : ∃ i : Nat, Lib.index s sep = i := ⟨(Lib.index s sep).toNat, by omega⟩
      obtain ⟨t, h1, h2⟩ := index_occ s sep q
      rw [hi, Int.toNat_natCast] at h1 h2
      rw [splitM_hit hs hi, ← h2]
      have hl : 0 < sep.length := List.length_pos_iff.2 hs
      have hlen : s.length = (s.take i).length + sep.length + t.length := by
        conv => lhs; rw [h1]
        simp; omega
      cases n with
      | zero => omega
      | succ n =>
        obtain ⟨a, b⟩ := split_back sep hs n t (by omega)
        refine ⟨?_, by simp⟩
        cases hp : splitM t sep with
        | nil => exact absurd hp b
        | cons x xs =>
          rw [hp] at a
          rw [join_cons2, a]; exact h1.symm
end Go.Proofs
