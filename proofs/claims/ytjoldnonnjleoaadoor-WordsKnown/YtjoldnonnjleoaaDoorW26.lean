import Derived.Test.YtjoldnonnjleoaaDoorW20
import Derived.Test.YtjoldnonnjleoaaDoorW22
/- Words: ranks as numbers; the order; the next word. -/
namespace Go.Proofs
open Go Go.V
set_option linter.unusedVariables false
set_option linter.unusedSimpArgs false
set_option maxHeartbeats 0
set_option maxRecDepth 100000
/-- The rank behind the symbols. -/
def rankA (n : Int) : Int → List Int → Int
  | acc, [] => acc
  | acc, c :: cs => rankA n (acc * n + c + 1) cs
def okW (n : Int) (xs : List Int) : Prop := ∀ x ∈ xs, 0 ≤ x ∧ x < n
theorem okW_cons {n c : Int} {cs : List Int} (h : okW n (c :: cs)) : (0 ≤ c ∧ c < n) ∧ okW n cs := ⟨h c (List.mem_cons_self ..), fun x hx => h x (List.mem_cons_of_mem _ hx)⟩
theorem rankA_append (n : Int) : ∀ (xs : List Int) (acc : Int) (ys : List Int), rankA n acc (xs ++ ys) = rankA n (rankA n acc xs) ys
  | [], _, _ => rfl
  | c :: cs, acc, ys => by rw [List.cons_append, rankA, rankA, rankA_append n cs]
theorem step_lt {n a b c d : Int} (hn : 1 ≤ n) (h : a < b) (hc : c < n) (hd : 0 ≤ d) : a * n + c + 1 < b * n + d + 1 := by
  have h1 : (a + 1) * n ≤ b * n := Int.mul_le_mul_of_nonneg_right (by omega) (by omega)
  rw [Int.add_mul, Int.one_mul] at h1
  omega
theorem rankA_lt {n : Int} (hn : 1 ≤ n) : ∀ (xs ys : List Int) (a b : Int), xs.length = ys.length → okW n xs → okW n ys → a < b → rankA n a xs < rankA n b ys
  | [], [], a, b, _, _, _, h => h
  | [], _ :: _, _, _, h, _, _, _ => by simp at h
  | _ :: _, [], _, _, h, _, _, _ => by simp at h
  | c :: cs, d :: ds, a, b, hl, hx, hy, h => by
    have hc := okW_cons hx
    have hd := okW_cons hy
    rw [rankA, rankA]
    exact rankA_lt hn cs ds _ _ (by simpa using hl) hc.2 hd.2 (step_lt hn h hc.1.2 hd.1.1)
theorem rankA_lex {n : Int} (hn : 1 ≤ n) : ∀ (xs ys : List Int) (a : Int), xs.length = ys.length → okW n xs → okW n ys → lexI xs ys = -1 → rankA n a xs < rankA n a ys
  | [], [], a, _, _, _, h => by simp [lexI] at h
  | [], _ :: _, _, h, _, _, _ => by simp at h
  | _ :: _, [], _, h, _, _, _ => by simp at h
  | c :: cs, d :: ds, a, hl, hx, hy, h => by
    have hc := okW_cons hx
    have hd := okW_cons hy
    rw [lexI] at h
    rw [rankA, rankA]
    split at h
    · exact rankA_lt hn cs ds _ _ (by simpa using hl) hc.2 hd.2 (by omega)
    · split at h
      · simp at h
      · have : c = d := by omega
        subst this
        exact rankA_lex hn cs ds _ (by simpa using hl) hc.2 hd.2 h
theorem rankA_ge {n : Int} (hn : 1 ≤ n) : ∀ (xs : List Int) (a : Int), 0 ≤ a → okW n xs → a ≤ rankA n a xs
  | [], a, _, _ => Int.le_refl _
  | c :: cs, a, ha, h => by
    have hc := okW_cons h
    rw [rankA]
    have h1 : a * 1 ≤ a * n := Int.mul_le_mul_of_nonneg_left hn ha
    rw [Int.mul_one] at h1
    exact Int.le_trans (by omega) (rankA_ge hn cs _ (by omega) hc.2)
theorem rankA_pos {n : Int} (hn : 1 ≤ n) : ∀ (xs : List Int), xs ≠ [] → okW n xs → 0 < rankA n 0 xs
  | [], h, _ => absurd rfl h
  | c :: cs, _, h => by
    have hc := okW_cons h
    rw [rankA, Int.zero_mul]
    exact Int.lt_of_lt_of_le (by omega) (rankA_ge hn cs _ (by omega) hc.2)
theorem rank_lt {n : Int} (hn : 1 ≤ n) (xs ys : List Int) (hx : okW n xs) (hy : okW n ys) (h : cmpM xs ys = -1) : rankA n 0 xs < rankA n 0 ys := by
  rw [cmpM] at h
  split at h
  · rename_i hl
    have e : ys = ys.take (ys.length - xs.length) ++ ys.drop (ys.length - xs.length) := (List.take_append_drop _ _).symm
    rw [e, rankA_append]
    have hp : ys.take (ys.length - xs.length) ≠ [] := by
      intro q
      have := congrArg List.length q
      simp at this; omega
    refine rankA_lt hn xs _ 0 _ (by simp; omega) hx (fun x hx => hy x (List.mem_of_mem_drop hx)) (rankA_pos hn _ hp fun x hx => hy x (List.mem_of_mem_take hx))
  · split at h
    · simp at h
    · exact rankA_lex hn xs ys 0 (by omega) hx hy h
theorem rank_cmp {n : Int} (hn : 1 ≤ n) (xs ys : List Int) (hx : okW n xs) (hy : okW n ys) : cmpM xs ys = if rankA n 0 xs < rankA n 0 ys then -1 else if rankA n 0 ys < rankA n 0 xs then 1 else 0 := by
  rcases cmpM_range xs ys with h | h | h
  · have := rank_lt hn xs ys hx hy h
    rw [if_pos this, h]
  · have e := (cmpM_zero xs ys).mp h
    subst e
    rw [if_neg (by omega), if_neg (by omega), h]
  · have e := cmpM_anti xs ys
    have := rank_lt hn ys xs hy hx (by omega)
    rw [if_neg (by omega), if_pos this, h]
/-- The same, the last symbol first. -/
def rankB (n : Int) : List Int → Int
  | [] => 0
  | d :: ds => rankB n ds * n + d + 1
theorem rankB_rev (n : Int) : ∀ ds : List Int, rankA n 0 ds.reverse = rankB n ds
  | [] => rfl
  | d :: ds => by rw [List.reverse_cons, rankA_append, rankB_rev n ds]; rfl
theorem rankB_inc {n : Int} (hn : 1 ≤ n) : ∀ ds : List Int, okW n ds → rankB n (match incR n ds with | some r => r | none => List.replicate (ds.length + 1) 0) = rankB n ds + 1
  | [], _ => by simp [incR, rankB]
  | d :: ds, h => by
    have hd := okW_cons h
    have ih := rankB_inc hn ds hd.2
    rw [incR]
    by_cases h1 : d + 1 < n
    · rw [if_pos h1]; simp only [rankB]; omega
    · rw [if_neg h1]
      have e : d = n - 1 := by omega
      cases hi : incR n ds with
      | none =>
        rw [hi] at ih
        simp only [Option.map_none]
        rw [List.length_cons, List.replicate_succ, rankB, ih, rankB, e, Int.add_mul]
        omega
      | some r =>
        rw [hi] at ih
        simp only [Option.map_some] at ih ⊢
        rw [rankB, ih, rankB, e, Int.add_mul]
        omega
theorem incR_ok {n : Int} (hn : 1 ≤ n) : ∀ ds : List Int, okW n ds → ∀ r, incR n ds = some r → okW n r ∧ r.length = ds.length
  | [], _, r, h => by simp [incR] at h
  | d :: ds, h, r, he => by
    have hd := okW_cons h
    rw [incR] at he
    split at he
    · injection he with he; subst he
      refine ⟨fun x hx => ?_, rfl⟩
      rcases List.mem_cons.1 hx with rfl | hx
      · omega
      · exact hd.2 x hx
    · cases hi : incR n ds with
      | none => rw [hi] at he; simp at he
      | some q =>
        rw [hi] at he
        simp at he; subst he
        have ih := incR_ok hn ds hd.2 q hi
        refine ⟨fun x hx => ?_, by simp [ih.2]⟩
        rcases List.mem_cons.1 hx with rfl | hx
        · omega
        · exact ih.1 x hx
theorem after_rank {n : Int} (hn : 1 ≤ n) (xs : List Int) (h : okW n xs) : rankA n 0 (afterM xs n) = rankA n 0 xs + 1 := by
  have hr : okW n xs.reverse := fun x hx => h x (List.mem_reverse.1 hx)
  have h1 := rankB_inc hn xs.reverse hr
  have h2 : rankA n 0 xs = rankB n xs.reverse := by rw [← rankB_rev, List.reverse_reverse]
  rw [h2, ← h1, afterM]
  cases incR n xs.reverse with
  | none => simp only; rw [← rankB_rev, List.reverse_replicate]; simp
  | some r => simp only; rw [rankB_rev]
theorem after_ok {n : Int} (hn : 1 ≤ n) (xs : List Int) (h : okW n xs) : okW n (afterM xs n) ∧ (afterM xs n).length ≤ xs.length + 1 := by
  have hr : okW n xs.reverse := fun x hx => h x (List.mem_reverse.1 hx)
  rw [afterM]
  cases hi : incR n xs.reverse with
  | none => exact ⟨fun x hx => by rw [List.eq_of_mem_replicate hx]; omega, by simp⟩
  | some r =>
    have := incR_ok hn _ hr r hi
    exact ⟨fun x hx => this.1 x (List.mem_reverse.1 hx), by simp [this.2]⟩
theorem check_of_ok {n : Int} (hn : 1 ≤ n) (hn2 : n ≤ 16) (xs : List Int) (h : okW n xs) (hl : xs.length ≤ 256) : checkM xs n = 0 := by
  rw [checkM, if_neg (by omega), if_neg (by omega), if_neg]
  simp only [List.any_eq_true, not_exists, not_and]
  intro x hx
  have := h x hx
  simp only [badI, Bool.or_eq_true, decide_eq_true_eq]
  omega
theorem wOf_ok {n : Int} (hn : 1 ≤ n) (xs : List Int) (hb : ∀ x ∈ xs, 0 ≤ x ∧ x < 256) : okW n (wOf xs n) ∧ (wOf xs n).length ≤ 12 := by
  refine ⟨fun x hx => ?_, by simp [wOf]; omega⟩
  obtain ⟨y, hy, rfl⟩ := List.mem_map.1 hx
  have := hb y (List.mem_of_mem_take hy)
  rw [Int.tmod_eq_emod_of_nonneg this.1]
  exact ⟨Int.emod_nonneg _ (by omega), Int.emod_lt_of_pos _ (by omega)⟩
/-- What Next gives of a short word. -/
theorem next_short {n : Int} (hn : 1 ≤ n) (hn2 : n ≤ 16) (xs : List Int) (h : okW n xs) (hl : xs.length ≤ 12) : nextM xs n = (afterM xs n, 0) := by
  have h1 := check_of_ok hn hn2 xs h (by omega)
  have h2 := (after_ok hn xs h).2
  rw [nextM, if_neg (by simp [h1]), if_neg (by omega)]
end Go.Proofs
