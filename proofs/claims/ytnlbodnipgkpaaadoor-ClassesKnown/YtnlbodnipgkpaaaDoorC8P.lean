import Derived.Test.YtnlbodnipgkpaaaDoorCP6
import Derived.Test.YtnlbodnipgkpaaaDoorNUM
/- Classes: reading, step by step: plain. -/
namespace Go.Proofs
open Go Go.V
theorem readB_none {b : Int} : ∀ (l : List Bs) (m : KV) (r : List Bs), readB m b l = none → readB m b (l ++ r) = none
  | [], m, r, h => by simp [readB] at h
  | x :: l, m, r, h => by
    rw [List.cons_append, readB]
    rw [readB] at h
    split
    · rename_i q; rw [if_pos q] at h; exact readB_none l _ r h
    · rfl
theorem readB_snoc {b : Int} (x : Bs) : ∀ (l : List Bs) (m m' : KV), readB m b l = some m' → readB m b (l ++ [x]) = if (atoiM x).2 = true then some (updK m' (atoiM x).1 b) else none
  | [], m, m', h => by
    simp only [readB, Option.some.injEq] at h; subst h
    simp [readB]
  | y :: l, m, m', h => by
    rw [List.cons_append, readB]
    rw [readB] at h
    split at h
    · rename_i q; rw [if_pos q]; exact readB_snoc x l _ m' h
    · cases h
theorem readP_none : ∀ (l : List Bs) (m : KV) (b : Int) (r : List Bs), readP m b l = none → readP m b (l ++ r) = none
  | [], m, b, r, h => by simp [readP] at h
  | x :: l, m, b, r, h => by
    rw [List.cons_append, readP]
    rw [readP] at h
    cases hb : readB m b (splitM x blank) with
    | none => rfl
    | some m' => rw [hb] at h; exact readP_none l m' _ r h
theorem readP_snoc (x : Bs) : ∀ (l : List Bs) (m : KV) (b : Int) (m' : KV), readP m b l = some m' → readP m b (l ++ [x]) = readB m' (b + l.length) (splitM x blank)
  | [], m, b, m', h => by
    simp only [readP, Option.some.injEq] at h; subst h
    simp only [List.nil_append, readP, List.length_nil]
    rw [show b + ((0 : Nat) : Int) = b by omega]
    cases readB m b (splitM x blank) <;> rfl
  | y :: l, m, b, m', h => by
    rw [List.cons_append, readP]
    rw [readP] at h
    cases hb : readB m b (splitM y blank) with
    | none => rw [hb] at h; cases h
    | some m2 =>
      rw [hb] at h
      have := readP_snoc x l m2 (b + 1) m' h
      simp only
      rw [this]
      congr 1
      simp only [List.length_cons]; omega
def KN (m : KV) : Prop := (m.map (·.1)).Nodup
theorem updK_keys (m : KV) (k v : Int) : (updK m k v).map (·.1) = if m.any (fun x => decide (x.1 = k)) = true then m.map (·.1) else m.map (·.1) ++ [k] := by
  unfold updK
  split
  · rw [List.map_map]
    refine List.map_congr_left fun x _ => ?_
    simp only [Function.comp_def]
    split
    · rename_i h; exact h.symm
    · rfl
  · simp
theorem KN_upd {m : KV} (h : KN m) (k v : Int) : KN (updK m k v) := by
  unfold KN
  rw [updK_keys]
  split
  · exact h
  · rename_i q
    refine List.nodup_append.2 ⟨h, by simp, fun a ha b hb => ?_⟩
    simp only [List.mem_cons, List.not_mem_nil, or_false] at hb
    subst hb
    rintro rfl
    obtain ⟨x, hx, hxa⟩ := List.mem_map.1 ha
    exact q (List.any_eq_true.2 ⟨x, hx, by simpa using hxa⟩)
theorem fromK_len {m : KV} : ∀ (n : Nat) (l : List Int), fromK m n = some l → l.length = n
  | 0, l, h => by simp [fromK] at h; subst h; rfl
  | n + 1, l, h => by
    rw [fromK] at h
    cases h1 : fromK m n with
    | none => rw [h1] at h; simp at h
    | some l1 =>
      cases h2 : lookK m n with
      | none => rw [h1, h2] at h; simp at h
      | some v =>
        rw [h1, h2] at h
        simp only [Option.some.injEq] at h; subst h
        have := fromK_len n l1 h1
        simp; omega
theorem fromK_none {m : KV} {n : Nat} (h : fromK m n = none) : ∀ k, n ≤ k → fromK m k = none
  | 0, hk => by
    obtain rfl : n = 0 := by omega
    exact h
  | k + 1, hk => by
    by_cases e : n = k + 1
    · subst e; exact h
    · rw [fromK, fromK_none h k (by omega)]
/-- Bounds of what a text is divided into. -/
theorem join_ge {sep : Bs} (hs : 1 ≤ sep.length) : ∀ (l : List Bs), (∀ x ∈ l, x.length ≤ (Lib.join l sep).length) ∧ l.length ≤ (Lib.join l sep).length + 1
  | [] => ⟨fun x h => (by cases h), by simp⟩
  | [x] => ⟨fun y h => by simp at h; subst h; rw [join_one]; omega, by simp⟩
  | x :: y :: r => by
    obtain ⟨h1, h2⟩ := join_ge hs (y :: r)
    rw [join_cons2]
    refine ⟨fun z hz => ?_, ?_⟩
    · simp only [List.length_append]
      rcases List.mem_cons.1 hz with rfl | q
      · omega
      · have := h1 z q; omega
    · simp only [List.length_append, List.length_cons] at h2 ⊢
      omega
theorem split_bd (s sep : Bs) (hs : 1 ≤ sep.length) : (∀ x ∈ splitM s sep, x.length ≤ s.length) ∧ (splitM s sep).length ≤ s.length + 1 := by
  have h := (split_back sep (fun e => by rw [e] at hs; simp at hs) s.length s (Nat.le_refl _)).1
  have := join_ge hs (splitM s sep)
  rw [h] at this
  exact this
theorem parseC_long {s : Bs} (h : 65536 < s.length) : parseC s = ([], 3) := by rw [parseC, if_pos h]
theorem parseC_dash {s : Bs} (h : s = [45]) : parseC s = ([], 0) := by rw [h]; rfl
theorem parseC_none {s : Bs} (h1 : ¬ 65536 < s.length) (h2 : ¬ s = [45]) (h : readP [] 0 (splitM s bar) = none) : parseC s = ([], 4) := by rw [parseC, if_neg h1, if_neg h2, h]
theorem parseC_many {s : Bs} {m : KV} (h1 : ¬ 65536 < s.length) (h2 : ¬ s = [45]) (h : readP [] 0 (splitM s bar) = some m) (h3 : 256 < m.length) : parseC s = ([], 4) := by rw [parseC, if_neg h1, if_neg h2, h]; simp only; rw [if_pos h3]
theorem parseC_gap {s : Bs} {m : KV} (h1 : ¬ 65536 < s.length) (h2 : ¬ s = [45]) (h : readP [] 0 (splitM s bar) = some m) (h3 : ¬ 256 < m.length) (h4 : fromK m m.length = none) : parseC s = ([], 4) := by rw [parseC, if_neg h1, if_neg h2, h]; simp only; rw [if_neg h3, h4]
theorem parseC_end {s : Bs} {m : KV} {p : List Int} (h1 : ¬ 65536 < s.length) (h2 : ¬ s = [45]) (h : readP [] 0 (splitM s bar) = some m) (h3 : ¬ 256 < m.length) (h4 : fromK m m.length = some p) : parseC s = if checkC p = 0 ∧ textC p = s then (p, 0) else ([], 4) := by rw [parseC, if_neg h1, if_neg h2, h]; simp only; rw [if_neg h3, h4]
end Go.Proofs
