import Derived.Test.YtlpjemobbjijdaaGreatDoorS35
import Derived.Test.YtlpjemobbjijdaaGreatDoorL1
namespace Go.Proofs
open Go Go.V
set_option linter.unusedVariables false
set_option linter.unusedSimpArgs false
set_option maxHeartbeats 0
set_option maxRecDepth 100000
theorem qby9 (z : Nat) (xs : List Int) (c : Option Nat) (n : Int) (hz : xs = [] ∨ z = 1) (hx : xs.length ≤ 1000000) : PC Tryz.prog G0 31 [.sl z (ints xs) c, .int .i64 n] (.int .i64 (xl0 xs n)) := by
 have hL := ke0 xs
 refine qd0 0 34 [.tmp 4] Tryz.func31 rfl rfl rfl (by simp) ?_
 intro s ⟨a0, a1, hz⟩
 simp only [Nat.zero_add, Nat.reduceAdd] at a1
 clear hz
 repeat' (first|refine nav ?_|(refine g0_ ?_; refine goD ?_)|(with_reducible refine gG ?_ ?_)|((with_reducible refine And.intro (fun h => ?_) (fun h => ?_)) <;> try (exfalso; omega))|(with_reducible refine andG ?_)|fail|simp (disch := (first|exact discB|fail)) only [push_cast, simprocAttr, a0, a1, hL])
 ·rw [xl0, if_pos (by omega)]
 ·rename_i h1
  rw [xl0, if_neg (by omega), if_pos (.inl (by omega))]
 ·rename_i h1
  have hc1 : ¬ (16 < n ∨ 256 < xs.length) := by omega
  have hc2 : ¬ n < 1 := by omega
  refine go_loop rfl (fun mz s' H' => ∃ k : Nat, k ≤ xs.length ∧ mz = xs.length - k ∧ H' = [] ∧ s' 0 = .sl z (ints xs) c ∧ s' 1 = .int .i64 n ∧ s' 5 = .int .i64 k ∧ ∀ j, j < k → badI n (xs.getD j 0) = false) (m := xs.length) (by first|exact kb0|fail) (Weak.refl _ _) ⟨0, by omega, by omega, rfl, ?_⟩ ?_
  ·simp (disch := (first|exact discB|fail)) only [push_cast, simprocAttr, a0, a1, hL]
   all_goals exact fun j hj => by omega
  ·rintro mz s' H' ⟨k, hk, rfl, rfl, b0, b1, b5, ik⟩
   rcases Nat.lt_or_ge k xs.length with hlt|hge
   ·obtain rfl := hz.resolve_left (by intro h; rw [h] at hlt; simp at hlt)
    have e1 := kr0 xs k hlt
    have hs := qar9 (P := fun j => badI n (xs.getD j 0) = false) (k := k) ik
    have hy : badI n (xs.getD k 0) = true → (xs.any (badI n)) = true := fun h => List.any_eq_true.2 ⟨_, vl0 0 hlt, h⟩
    have hbi : badI n (xs.getD k 0) = (decide (xs.getD k 0 < 0) || decide (n ≤ xs.getD k 0)) := rfl
    rw [hbi] at hs hy
    generalize xs.getD k 0 = v at *
    repeat' (first|refine nav ?_|(refine g0_ ?_; refine goD ?_)|(with_reducible refine gG ?_ ?_)|((with_reducible refine And.intro (fun h => ?_) (fun h => ?_)) <;> try (exfalso; omega))|(with_reducible refine andG ?_)|fail|simp (disch := (first|exact discB|fail)) only [push_cast, simprocAttr, b0, b1, b5, e1, hL])
    ·rw [xl0, if_neg hc1, if_pos (.inr (hy (by simp only [Bool.or_eq_true, decide_eq_true_eq]; omega)))]
    ·refine wb0 (xs.length - (k + 1)) (by omega) (by first|exact kb0|fail) ⟨k + 1, by omega, rfl, rfl, ?_⟩
     simp (disch := (first|exact discB|fail)) only [push_cast, simprocAttr, b0, b1, b5, e1, hL]
     exact hs (by simp only [Bool.or_eq_false_iff, decide_eq_false_iff_not]; omega)
   ·obtain rfl : k = xs.length := by omega
    have hno : (xs.any (badI n)) = false := by
     rw [List.any_eq_false]
     intro x hx2
     obtain ⟨j, hj, rfl⟩ := List.getElem_of_mem hx2
     have := ik j hj
     rw [List.getD_eq_getElem?_getD, List.getElem?_eq_getElem hj, Option.getD_some] at this
     rw [this]; decide
    repeat' (first|refine nav ?_|(refine g0_ ?_; refine goD ?_)|(with_reducible refine gG ?_ ?_)|((with_reducible refine And.intro (fun h => ?_) (fun h => ?_)) <;> try (exfalso; omega))|(with_reducible refine andG ?_)|fail|simp (disch := (first|exact discB|fail)) only [push_cast, simprocAttr, b0, b1, b5, hL])
    rw [xl0, if_neg hc1, if_neg (by rw [hno]; simp; omega)]
def nmK (l : List Int) (names : List Bs) (k : Nat) : Bs := Lib.join ((l.take k).map (nmI names)) [32]
theorem vbm9 (l : List Int) (names : List Bs) : nmK l names 0 = [] := by simp [nmK, Lib.join_nil]
theorem xcO9 (l : List Int) (names : List Bs) (h : 0 < l.length) : nmK l names 1 = nmI names (l.getD 0 0) := by
 rw [nmK, wbW9 l 0 h, List.take_zero, List.nil_append, List.map_singleton, Lib.join_one]
theorem qcr9 (l : List Int) (names : List Bs) (k : Nat) (h0 : 0 < k) (h : k < l.length) : nmK l names (k + 1) = nmK l names k ++ [32] ++ nmI names (l.getD k 0) := by
 rw [nmK, wbW9 l k h, List.map_append, List.map_singleton, vaO9 _ _ _ (by intro e; have := congrArg List.length e; rw [List.length_map, List.length_take, List.length_nil] at this; omega), nmK, List.append_assoc]
theorem qcu9 {names : List Bs} (h : ∀ s ∈ names, s.length ≤ 16) (i : Int) : (nmI names i).length ≤ 16 := by
 unfold nmI; split
 ·decide
 ·exact xZ0 h _
theorem xdd9 (l : List Int) {names : List Bs} (h : ∀ s ∈ names, s.length ≤ 16) (k : Nat) : (nmK l names k).length ≤ k * 17 := Nat.le_trans (qaf9 16 [32] _ fun s hs => by
 obtain ⟨i, _, rfl⟩ := List.mem_map.1 hs
 exact qcu9 h i) (Nat.mul_le_mul_right _ (by simp; omega))
theorem wdd9 (l : List Int) {names : List Bs} (h : ∀ s ∈ names, s ≠ []) (hi : ∀ i ∈ l, i = -1 ∨ (0 ≤ i ∧ i < names.length)) (k : Nat) (h0 : 0 < k) (hk : k ≤ l.length) : nmK l names k ≠ [] := by
 have h1 : nmI names (l.getD 0 0) ≠ [] := by
  unfold nmI
  rcases hi _ (vl0 0 (show 0 < l.length by omega)) with q|⟨q1, q2⟩
  ·rw [if_pos q]; simp
  ·rw [if_neg (by omega)]
   exact h _ (vl0 [] (by omega))
 cases k with
 | zero => omega
 | succ k =>
  cases l with
  | nil => simp at hk
  | cons a l =>
   rw [nmK, List.take_succ_cons, List.map_cons, Lib.join_cons]
   simp only [List.getD_cons_zero] at h1
   simp [h1]
theorem zbd9 (z : Nat) (l : List Int) (c : Option Nat) (names : List Bs) (cn : Option Nat) (hz : l = [] ∨ z = 1) (hl : l.length ≤ 1000) (hn : names.length ≤ 1000000) (hi : ∀ i ∈ l, i = -1 ∨ (0 ≤ i ∧ i < names.length)) (hs : ∀ s ∈ names, s.length ≤ 16) (hs0 : ∀ s ∈ names, s ≠ []) : PC Tryz.prog G0 28 [.sl z (ints l) c, .sl 1 (strs names) cn] (.str (zx0 l names)) := by
 have hL := ke0 l
 have hnl := xb0 names
 have hne := wdd9 l hs0 hi
 refine qd0 0 36 [.tmp 4] Tryz.func28 rfl rfl rfl (by simp) ?_
 intro s ⟨a0, a1, hz⟩
 simp only [Nat.zero_add, Nat.reduceAdd] at a1
 clear hz
 repeat' (first|refine nav ?_|(refine g0_ ?_; refine goD ?_)|(with_reducible refine gG ?_ ?_)|((with_reducible refine And.intro (fun h => ?_) (fun h => ?_)) <;> try (exfalso; omega))|(with_reducible refine andG ?_)|fail|simp (disch := (first|exact discB|fail)) only [push_cast, simprocAttr, a0, a1, hL])
 refine go_loop rfl (fun mz s' H' => ∃ k : Nat, k ≤ l.length ∧ mz = l.length - k ∧ H' = [] ∧ s' 0 = .sl z (ints l) c ∧ s' 1 = .sl 1 (strs names) cn ∧ s' 5 = .str (nmK l names k) ∧ s' 6 = .int .i64 k) (m := l.length) (by first|exact kb0|fail) (Weak.refl _ _) ⟨0, by omega, by omega, rfl, ?_⟩ ?_
 ·rw [vbm9]
  simp (disch := (first|exact discB|fail)) only [push_cast, simprocAttr, a0, a1, hL]
 ·rintro mz s' H' ⟨k, hk, rfl, rfl, b0, b1, b5, b6⟩
  have hb := xdd9 l hs k
  rcases Nat.lt_or_ge k l.length with hlt|hge
  ·obtain rfl := hz.resolve_left (by intro h; rw [h] at hlt; simp at hlt)
   have e1 := kr0 l k hlt
   have hiv := hi _ (vl0 0 hlt)
   have hx := qcu9 hs (l.getD k 0)
   have key : nmK l names (k + 1) = (if k = 0 then [] else nmK l names k ++ [32]) ++ nmI names (l.getD k 0) := by
    by_cases h0 : k = 0
    ·subst h0; rw [if_pos rfl, xcO9 l names hlt]; rfl
    ·rw [if_neg h0, qcr9 l names k (by omega) hlt]
   have h00 : k = 0 → nmK l names k = [] := fun h => by rw [h, vbm9]
   generalize l.getD k 0 = i at *
   generalize nmK l names k = T at *
   by_cases h1 : i = -1
   ·subst h1
    rw [nmI, if_pos rfl] at key
    by_cases h0 : k = 0
    ·subst h0
     rw [if_pos rfl] at key
     rw [h00 rfl] at b5
     repeat' (first|refine nav ?_|(refine g0_ ?_; refine goD ?_)|(with_reducible refine gG ?_ ?_)|((with_reducible refine And.intro (fun h => ?_) (fun h => ?_)) <;> try (exfalso; omega))|(with_reducible refine andG ?_)|fail|simp (disch := (first|exact discB|fail)) only [push_cast, simprocAttr, b0, b1, b5, b6, e1, hL])
     refine wb0 (l.length - (0 + 1)) (by omega) (by first|exact kb0|fail) ⟨0 + 1, by omega, rfl, rfl, ?_⟩
     simp (disch := (first|exact discB|fail)) only [push_cast, simprocAttr, b0, b1, b5, b6, e1, hL]
     rw [key]; rfl
    ·rw [if_neg h0] at key
     have h0' : (0 : Int) < k := by omega
     repeat' (first|refine nav ?_|(refine g0_ ?_; refine goD ?_)|(with_reducible refine gG ?_ ?_)|((with_reducible refine And.intro (fun h => ?_) (fun h => ?_)) <;> try (exfalso; omega))|(with_reducible refine andG ?_)|fail|simp (disch := (first|exact discB|fail)) only [push_cast, simprocAttr, b0, b1, b5, b6, e1, hL, h0'])
     refine wb0 (l.length - (k + 1)) (by omega) (by first|exact kb0|fail) ⟨k + 1, by omega, rfl, rfl, ?_⟩
     simp (disch := (first|exact discB|fail)) only [push_cast, simprocAttr, b0, b1, b5, b6, e1, hL, h0']
     rw [key]
   ·obtain ⟨q1, q2⟩ := hiv.resolve_left h1
    rw [nmI, if_neg h1] at key hx
    obtain ⟨n, rfl⟩ : ∃ n : Nat, i = n := ⟨i.toNat, by omega⟩
    rw [Int.toNat_natCast] at key hx
    have e2 := wi0 names n (by omega)
    have q3 : ¬ (n : Int) < 0 := by omega
    have q4 : n < names.length := by omega
    generalize names.getD n [] = y at *
    by_cases h0 : k = 0
    ·subst h0
     rw [if_pos rfl] at key
     rw [h00 rfl] at b5
     repeat' (first|refine nav ?_|(refine g0_ ?_; refine goD ?_)|(with_reducible refine gG ?_ ?_)|((with_reducible refine And.intro (fun h => ?_) (fun h => ?_)) <;> try (exfalso; omega))|(with_reducible refine andG ?_)|fail|simp (disch := (first|exact discB|fail)) only [push_cast, simprocAttr, b0, b1, b5, b6, e1, e2, hL, hnl, q3, q4])
     refine wb0 (l.length - (0 + 1)) (by omega) (by first|exact kb0|fail) ⟨0 + 1, by omega, rfl, rfl, ?_⟩
     simp (disch := (first|exact discB|fail)) only [push_cast, simprocAttr, b0, b1, b5, b6, e1, e2, hL, hnl, q3, q4]
     rw [key]; rfl
    ·rw [if_neg h0] at key
     have h0' : (0 : Int) < k := by omega
     repeat' (first|refine nav ?_|(refine g0_ ?_; refine goD ?_)|(with_reducible refine gG ?_ ?_)|((with_reducible refine And.intro (fun h => ?_) (fun h => ?_)) <;> try (exfalso; omega))|(with_reducible refine andG ?_)|fail|simp (disch := (first|exact discB|fail)) only [push_cast, simprocAttr, b0, b1, b5, b6, e1, e2, hL, hnl, q3, q4, h0'])
     refine wb0 (l.length - (k + 1)) (by omega) (by first|exact kb0|fail) ⟨k + 1, by omega, rfl, rfl, ?_⟩
     simp (disch := (first|exact discB|fail)) only [push_cast, simprocAttr, b0, b1, b5, b6, e1, e2, hL, hnl, q3, q4, h0']
     rw [key]
  ·obtain rfl : k = l.length := by omega
   unfold zx0
   by_cases hnil : l = []
   ·subst hnil
    rw [if_pos rfl]
    rw [show nmK [] names ([] : List Int).length = [] by simp [nmK, Lib.join_nil]] at b5
    repeat' (first|refine nav ?_|(refine g0_ ?_; refine goD ?_)|(with_reducible refine gG ?_ ?_)|((with_reducible refine And.intro (fun h => ?_) (fun h => ?_)) <;> try (exfalso; omega))|(with_reducible refine andG ?_)|fail|simp (disch := (first|exact discB|fail)) only [push_cast, simprocAttr, b0, b1, b5, b6, hL])
   ·rw [if_neg hnil]
    have h2 := hne l.length (List.length_pos_iff.2 hnil) (Nat.le_refl _)
    have hd9 := decide_eq_false h2
    rw [show Lib.join (l.map (nmI names)) [32] = nmK l names l.length by rw [nmK, List.take_length]]
    generalize nmK l names l.length = T at *
    repeat' (first|refine nav ?_|(refine g0_ ?_; refine goD ?_)|(with_reducible refine gG ?_ ?_)|((with_reducible refine And.intro (fun h => ?_) (fun h => ?_)) <;> try (exfalso; omega))|(with_reducible refine andG ?_)|fail|simp (disch := (first|exact discB|fail)) only [push_cast, simprocAttr, b0, b1, b5, b6, hL, h2, hd9])
end Go.Proofs
namespace Go.Proofs
open Go Go.V
set_option linter.unusedVariables false
set_option linter.unusedSimpArgs false
set_option maxHeartbeats 0
set_option maxRecDepth 100000
def qdE9 (ins l : List Bs) : List Int := l.map (idxI ins)
def eW (ins l : List Bs) : Int := if (l.any fun n => !decide (n ∈ ins)) = true then 7 else 0
def wdC9 (r : List Int × Int) : AV := .tup [if r.1 = [] then .sl 0 [] (some 0) else .sl 1 (ints r.1) none, .int .i64 r.2]
end Go.Proofs
