import Derived.Test.YtcpenghfjghecaaDoorNUM
import Derived.Test.YtcpenghfjghecaaDoorLP5
import Derived.Test.YtcpenghfjghecaaDoorV50
import Derived.Lib.AtoiTie
/- Lexemes: the number of a numeral: plain. -/
namespace Go.Proofs
open Go Go.V
set_option linter.unusedVariables false
set_option linter.unusedSimpArgs false
set_option maxRecDepth 100000
theorem decFrom_numF : ∀ (p : List UInt8) (a : Nat), digs p → ∃ m : Nat, Lib.decFrom a p = some m ∧ (m : Int) = numF a p
  | [], a, _ => ⟨a, rfl, rfl⟩
  | c :: cs, a, h => by
    have hc := h c (List.mem_cons_self ..)
    obtain ⟨m, h1, h2⟩ := decFrom_numF cs (a * 10 + (c.toNat - 48)) fun x hx => h x (List.mem_cons_of_mem _ hx)
    refine ⟨m, ?_, ?_⟩
    · rw [Lib.decFrom, Lib.digitVal, if_pos hc]; exact h1
    · rw [h2, numF]; congr 1; omega
theorem atoiM_canon (p : List UInt8) (h : canonD p) (hl : p.length ≤ 9) : atoiM p = (numF 0 p, true) := by
  obtain ⟨m, h1, h2⟩ := decFrom_numF p 0 h.2.1
  have e : Lib.atoi p = some (numF 0 p) := by
    cases p with
    | nil => exact absurd rfl h.1
    | cons c cs =>
      have hc := h.2.1 c (List.mem_cons_self ..)
      have n1 : (c == 45) = false := by
        rw [beq_eq_false_iff_ne]; intro q; subst q; have : (45 : UInt8).toNat = 45 := rfl; omega
      have n2 : (c == 43) = false := by
        rw [beq_eq_false_iff_ne]; intro q; subst q; have : (43 : UInt8).toNat = 43 := rfl; omega
      rw [Lib.atoi, n1, n2]
      simp only [Bool.false_eq_true, if_false, Lib.decNat, List.isEmpty_cons, h1, Option.map_some, h2]
      rfl
  rw [atoiM, Lib.atoiAll_short p (by omega), e]
  rfl
theorem canon_valid {w : Bs} (h : ValidT 2 w) : canonD w ∧ w.length ≤ 9 := by
  obtain ⟨h1, h2, h3⟩ := valid_num h
  refine ⟨⟨h.2, fun c hc => ?_, fun hl q => ?_⟩, h2⟩
  · have := List.all_eq_true.1 h1 c hc
    simpa [digB] using this
  · refine h3 ⟨hl, ?_⟩
    cases w with
    | nil => simp at hl
    | cons a r => simpa using q
/-- The number of a valid numeral: Atoi finds it, and it is written as that numeral. -/
theorem atoi_valid {w : Bs} (h : ValidT 2 w) : ∃ n : Int, atoiM w = (n, true) ∧ Lib.itoa n = w ∧ 0 ≤ n ∧ n < 9223372036854775807 := by
  obtain ⟨hc, hl⟩ := canon_valid h
  have e := atoiM_canon w hc hl
  refine ⟨numF 0 w, e, itoa_numF _ w (Nat.le_refl _) hc, numF_ge w 0 (by omega) hc.2.1, ?_⟩
  have key : ∀ (p : List UInt8) (a : Int), digs p → 0 ≤ a → numF a p < (a + 1) * ((10 ^ p.length : Nat) : Int) := by
    intro p
    induction p with
    | nil => intro a _ _; simp [numF]; omega
    | cons c cs ih =>
      intro a hd ha
      have hc := hd c (List.mem_cons_self ..)
      rw [numF]
      have := ih (10 * a + ((c.toNat : Int) - 48)) (fun x hx => hd x (List.mem_cons_of_mem _ hx)) (by omega)
      refine Int.lt_of_lt_of_le this ?_
      rw [List.length_cons, Nat.pow_succ, Nat.mul_comm, Int.natCast_mul, ← Int.mul_assoc]
      exact Int.mul_le_mul_of_nonneg_right (by omega) (Int.natCast_nonneg _)
  have h1 := key w 0 hc.2.1 (by omega)
  have h9 : 10 ^ w.length ≤ 10 ^ 9 := Nat.pow_le_pow_right (by decide) hl
  have e9 : 10 ^ 9 = 1000000000 := by decide
  omega
end Go.Proofs
