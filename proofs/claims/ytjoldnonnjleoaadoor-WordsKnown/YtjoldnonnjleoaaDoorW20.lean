import Derived.Test.YtjoldnonnjleoaaDoorW19
namespace Go.Proofs
open Go Go.V
set_option linter.unusedVariables false
set_option linter.unusedSimpArgs false
set_option maxHeartbeats 0
set_option maxRecDepth 100000
theorem scM_lexI : ∀ (xs ys : List Int), xs.length = ys.length → scM xs ys = lexI xs ys
  | [], [], _ => rfl
  | [], _ :: _, h => by simp at h
  | _ :: _, [], h => by simp at h
  | x :: xs, y :: ys, h => by
    have ih := scM_lexI xs ys (by simpa using h)
    rw [scM, lexI, ih, cmpI]
    by_cases h1 : x < y
    · simp [h1]
    · by_cases h2 : y < x
      · simp [h1, h2]
      · simp [h1, h2]
theorem ord_cmpM (xs ys : List Int) : orM [cmpI xs.length ys.length, scM xs ys] = cmpM xs ys := by
  rw [cmpM]
  by_cases h1 : xs.length < ys.length
  · have : cmpI xs.length ys.length = -1 := by rw [cmpI, if_pos (by omega)]
    rw [if_pos h1, this]; rfl
  · by_cases h2 : ys.length < xs.length
    · have : cmpI xs.length ys.length = 1 := by rw [cmpI, if_neg (by omega), if_pos (by omega)]
      rw [if_neg h1, if_pos h2, this]; rfl
    · have : cmpI xs.length ys.length = 0 := by rw [cmpI, if_neg (by omega), if_neg (by omega)]
      rw [if_neg h1, if_neg h2, this, scM_lexI xs ys (by omega)]
      simp [orM]
      exact fun e => e.symm
theorem wCompare' (xs ys : List Int) (c d : Option Nat) (hx : xs.length ≤ 1000000) (hy : ys.length ≤ 1000000) : PC Tryd.prog G0 11 [.sl 1 (ints xs) c, .sl 1 (ints ys) d] (.int .i64 (cmpM xs ys)) := ord_cmpM xs ys ▸ wCompare xs ys c d hx hy
theorem lexI_range : ∀ (xs ys : List Int), lexI xs ys = -1 ∨ lexI xs ys = 0 ∨ lexI xs ys = 1
  | [], _ => by simp [lexI]
  | _ :: _, [] => by simp [lexI]
  | x :: xs, y :: ys => by
    have ih := lexI_range xs ys
    rw [lexI]; split
    · simp
    · split
      · simp
      · exact ih
theorem cmpM_range (xs ys : List Int) : cmpM xs ys = -1 ∨ cmpM xs ys = 0 ∨ cmpM xs ys = 1 := by
  rw [cmpM]; split
  · simp
  · split
    · simp
    · exact lexI_range xs ys
theorem lexI_anti : ∀ (xs ys : List Int), lexI ys xs = -lexI xs ys
  | [], [] => rfl
  | [], _ :: _ => rfl
  | _ :: _, [] => rfl
  | x :: xs, y :: ys => by
    have ih := lexI_anti xs ys
    rw [lexI, lexI]
    by_cases h1 : x < y
    · rw [if_pos h1, if_neg (by omega), if_pos h1]; rfl
    · by_cases h2 : y < x
      · simp [h1, h2]
      · rw [if_neg h1, if_neg h2, if_neg h2, if_neg h1, ih]
theorem cmpM_anti (xs ys : List Int) : cmpM ys xs = -cmpM xs ys := by
  rw [cmpM, cmpM]
  by_cases h1 : xs.length < ys.length
  · rw [if_pos h1, if_neg (by omega), if_pos h1]; rfl
  · by_cases h2 : ys.length < xs.length
    · simp [h1, h2]
    · rw [if_neg h1, if_neg h2, if_neg h2, if_neg h1, lexI_anti]
theorem cmpM_self (xs : List Int) : cmpM xs xs = 0 := by
  have := cmpM_anti xs xs; omega
theorem lexI_zero : ∀ (xs ys : List Int), xs.length = ys.length → lexI xs ys = 0 → xs = ys
  | [], [], _, _ => rfl
  | [], _ :: _, h, _ => by simp at h
  | _ :: _, [], h, _ => by simp at h
  | x :: xs, y :: ys, h, e => by
    rw [lexI] at e
    split at e
    · simp at e
    · split at e
      · simp at e
      · have : x = y := by omega
        rw [this, lexI_zero xs ys (by simpa using h) e]
theorem cmpM_zero (xs ys : List Int) : cmpM xs ys = 0 ↔ xs = ys := by
  refine ⟨fun h => ?_, fun h => h ▸ cmpM_self xs⟩
  rw [cmpM] at h
  split at h
  · simp at h
  · split at h
    · simp at h
    · exact lexI_zero xs ys (by omega) h
theorem lexI_trans : ∀ (xs ys zs : List Int), xs.length = ys.length → ys.length = zs.length → lexI xs ys ≤ 0 → lexI ys zs ≤ 0 → lexI xs zs ≤ 0
  | [], _, _, _, _, _, _ => by simp [lexI]
  | x :: xs, [], _, h, _, _, _ => by simp at h
  | x :: xs, y :: ys, [], _, h, _, _ => by simp at h
  | x :: xs, y :: ys, z :: zs, h1, h2, e1, e2 => by
    have ih := lexI_trans xs ys zs (by simpa using h1) (by simpa using h2)
    rw [lexI] at e1 e2
    by_cases a1 : x < y
    · by_cases a2 : y < z
      · rw [lexI, if_pos (by omega)]; omega
      · rw [if_neg a2] at e2
        by_cases a3 : z < y
        · rw [if_pos a3] at e2; omega
        · rw [lexI, if_pos (by omega)]; omega
    · rw [if_neg a1] at e1
      by_cases a2 : y < x
      · rw [if_pos a2] at e1; omega
      · rw [if_neg a2] at e1
        by_cases a3 : y < z
        · rw [lexI, if_pos (by omega)]; omega
        · rw [if_neg a3] at e2
          by_cases a4 : z < y
          · rw [if_pos a4] at e2; omega
          · rw [if_neg a4] at e2
            rw [lexI, if_neg (by omega), if_neg (by omega)]
            exact ih e1 e2
theorem cmpM_trans (xs ys zs : List Int) (e1 : cmpM xs ys ≤ 0) (e2 : cmpM ys zs ≤ 0) : cmpM xs zs ≤ 0 := by
  rw [cmpM] at *
  by_cases a : xs.length < zs.length
  · rw [if_pos a]; omega
  · rw [if_neg a]
    by_cases b : xs.length < ys.length
    · rw [if_neg (by omega), if_pos (by omega)] at e2; omega
    · rw [if_neg b] at e1
      by_cases c : ys.length < xs.length
      · rw [if_pos c] at e1; omega
      · rw [if_neg c] at e1
        by_cases d : zs.length < ys.length
        · rw [if_neg (by omega), if_pos d] at e2; omega
        · rw [if_neg (by omega), if_neg d] at e2
          rw [if_neg (by omega)]
          exact lexI_trans xs ys zs (by omega) (by omega) e1 e2
theorem prefM_take : ∀ (xs ys : List Int), prefM xs ys = true ↔ xs = ys.take xs.length
  | [], ys => by simp [prefM]
  | x :: xs, [] => by simp [prefM]
  | x :: xs, y :: ys => by
    have ih := prefM_take xs ys
    simp [prefM, ih]
theorem wprefM_eq (xs ys : List Int) : wprefM xs ys = prefM xs ys := by
  rw [Bool.eq_iff_iff, prefM_take, wprefM, eqM]
  simp only [Bool.and_eq_true, decide_eq_true_eq]
  refine ⟨fun h => h.2, fun h => ⟨?_, h⟩⟩
  have := congrArg List.length h
  simp at this; omega
theorem prefM_append (xs ys : List Int) : prefM xs (xs ++ ys) = true := by
  rw [prefM_take]; simp
theorem lexI_self (xs : List Int) : lexI xs xs = 0 := by
  have := lexI_anti xs xs; omega
theorem prefM_cmp (xs ys : List Int) (h : prefM xs ys = true) : cmpM xs ys ≤ 0 := by
  rw [prefM_take] at h
  have hl := congrArg List.length h
  simp at hl
  rw [cmpM]
  by_cases a : xs.length < ys.length
  · rw [if_pos a]; omega
  · rw [if_neg a, if_neg (by omega)]
    rw [List.take_of_length_le (by omega)] at h
    rw [h, lexI_self]; omega
theorem wPrefix' (xs ys : List Int) (c d : Option Nat) (hx : xs.length ≤ 1000000) (hy : ys.length ≤ 1000000) : PC Tryd.prog G0 13 [.sl 1 (ints xs) c, .sl 1 (ints ys) d] (.bool (prefM xs ys)) := wprefM_eq xs ys ▸ wPrefix xs ys c d hx hy
end Go.Proofs
