import Derived.Test.YtlpjemobbjijdaaGreatDoorS25
import Derived.Test.YtlpjemobbjijdaaGreatDoorS17
import Derived.KernelRfl
namespace Go.Proofs
open Go Go.V
set_option linter.unusedVariables false
set_option linter.unusedSimpArgs false
set_option maxHeartbeats 0
set_option maxRecDepth 100000
def lexI : List Int → List Int → Int
 | x :: xs, y :: ys => if x < y then -1 else if y < x then 1 else lexI xs ys
 | _, _ => 0
def cmpM (xs ys : List Int) : Int := if xs.length < ys.length then -1 else if ys.length < xs.length then 1 else lexI xs ys
theorem xba9 : ∀ (xs ys : List Int), xs.length = ys.length → (lexI xs ys = 0 ↔ xs = ys)
 | [], [], _ => by simp [lexI]
 | [], _ :: _, h => by simp at h
 | _ :: _, [], h => by simp at h
 | x :: xs, y :: ys, h => by
  have ih := xba9 xs ys (by simpa using h)
  rw [lexI, List.cons.injEq, ← ih]
  split
  ·constructor
   ·intro q; cases q
   ·intro q; omega
  ·split
   ·constructor
    ·intro q; cases q
    ·intro q; omega
   ·constructor
    ·intro q; exact ⟨by omega, q⟩
    ·intro q; exact q.2
theorem kce9 (xs ys : List Int) : cmpM xs ys = 0 ↔ xs = ys := by
 unfold cmpM
 split
 ·constructor
  ·intro q; cases q
  ·intro q; subst q; omega
 ·split
  ·constructor
   ·intro q; cases q
   ·intro q; subst q; omega
  ·exact xba9 xs ys (by omega)
theorem qcf9 (xs ys : List Int) (k : Nat) (h1 : k < xs.length) (h2 : k < ys.length) : lexI (xs.drop k) (ys.drop k) = if xs.getD k 0 < ys.getD k 0 then -1 else if ys.getD k 0 < xs.getD k 0 then 1 else lexI (xs.drop (k + 1)) (ys.drop (k + 1)) := by
 rw [List.drop_eq_getElem_cons h1, List.drop_eq_getElem_cons h2]; simp [lexI, h1, h2]
theorem zcf9 (z : Nat) (xs : List Int) (c : Option Nat) (z' : Nat) (ys : List Int) (d : Option Nat) (hz : xs = [] ∨ z = 1) (hz' : ys = [] ∨ z' = 1) (hx : xs.length ≤ 1000000) (hy : ys.length ≤ 1000000) : PC Tryz.prog G0 96 [.sl z (ints xs) c, .sl z' (ints ys) d] (.int .i64 (cmpM xs ys)) := by
 refine vb0 0 40 [.tmp 4] Tryz.func96 rfl rfl rfl (by simp) ?_
 intro s ⟨a0, a1, hz⟩
 simp only [Nat.zero_add, Nat.reduceAdd] at a1
 clear hz
 repeat' (first|refine nav ?_|(refine g0_ ?_; refine goD ?_)|with_reducible refine gG ?_ ?_|((with_reducible refine And.intro (fun h => ?_) (fun h => ?_)) <;> try (exfalso; omega))|with_reducible refine andG ?_|simp (disch := try exact discB) only [push_cast, simprocAttr, a0, a1])
 ·simp only [cmpM, if_pos h]
 ·rename_i h1
  simp only [cmpM, if_neg h1, if_pos h]
 ·rename_i h1
  have hcm : cmpM xs ys = lexI xs ys := by simp only [cmpM, if_neg h1, if_neg h]
  rw [hcm]
  refine go_loop rfl (fun mz s' H' => ∃ k : Nat, k ≤ xs.length ∧ mz = xs.length - k ∧ H' = [] ∧ s' 0 = .sl z (ints xs) c ∧ s' 1 = .sl z' (ints ys) d ∧ s' 5 = .int .i64 k ∧ lexI xs ys = lexI (xs.drop k) (ys.drop k)) (m := xs.length) (by first|exact xb0|fail) (Weak.refl _ _) ⟨0, by omega, by omega, rfl, ?_⟩ ?_
  ·simp (disch := try exact discB) only [push_cast, simprocAttr, a0, a1]
  ·rintro mz s' H' ⟨k, hk, rfl, rfl, b0, b1, b5, ik⟩
   rcases Nat.lt_or_ge k xs.length with hlt|hge
   ·have hlt2 : k < ys.length := by omega
    obtain rfl := hz.resolve_left (by intro h; rw [h] at hlt; simp at hlt)
    obtain rfl := hz'.resolve_left (by intro h; rw [h] at hlt2; simp at hlt2)
    have e1 := kV0 xs k hlt
    have e2 := kV0 ys k hlt2
    have h3 := qcf9 xs ys k hlt hlt2
    rw [← ik] at h3
    generalize xs.getD k 0 = a at *
    generalize ys.getD k 0 = b at *
    repeat' (first|refine nav ?_|(refine g0_ ?_; refine goD ?_)|with_reducible refine gG ?_ ?_|((with_reducible refine And.intro (fun h => ?_) (fun h => ?_)) <;> try (exfalso; omega))|with_reducible refine andG ?_|simp (disch := try exact discB) only [push_cast, simprocAttr, b0, b1, b5, e1, e2])
    ·rw [h3, if_pos (by omega)]
    ·rw [h3, if_neg (by omega), if_pos (by omega)]
    ·refine wa0 (xs.length - (k + 1)) (by omega) (by first|exact xb0|fail) ⟨k + 1, by omega, rfl, rfl, ?_⟩
     simp (disch := try exact discB) only [push_cast, simprocAttr, b0, b1, b5, e1, e2]
     rw [h3, if_neg (by omega), if_neg (by omega)]
   ·obtain rfl : k = xs.length := by omega
    rw [ik, List.drop_length]
    rw [show lexI [] (ys.drop xs.length) = 0 by cases ys.drop xs.length <;> rfl]
    repeat' (first|refine nav ?_|(refine g0_ ?_; refine goD ?_)|with_reducible refine gG ?_ ?_|((with_reducible refine And.intro (fun h => ?_) (fun h => ?_)) <;> try (exfalso; omega))|with_reducible refine andG ?_|simp (disch := try exact discB) only [push_cast, simprocAttr, b0, b1, b5])
theorem kdn9 (z : Nat) (xs : List Int) (c : Option Nat) (z' : Nat) (ys : List Int) (d : Option Nat) (hz : xs = [] ∨ z = 1) (hz' : ys = [] ∨ z' = 1) (hx : xs.length ≤ 1000000) (hy : ys.length ≤ 1000000) : PC Tryz.prog G0 61 [.sl z (ints xs) c, .sl z' (ints ys) d] (.bool (decide (xs = ys))) := by
 have h1 := zcf9 z xs c z' ys d hz hz' hx hy
 rw [show decide (xs = ys) = decide (cmpM xs ys = 0) by rw [Bool.eq_iff_iff, decide_eq_true_eq, decide_eq_true_eq, kce9]]
 generalize cmpM xs ys = m at *
 have hi1 : ∀ p, idsE p (ints xs) = true := fun p => vo0 p _
 have hi2 : ∀ p, idsE p (ints ys) = true := fun p => vo0 p _
 refine vb0 0 9 [.tmp 4] Tryz.func61 rfl rfl rfl (by simp) ?_
 intro s ⟨a0, a1, hz⟩
 simp only [Nat.zero_add, Nat.reduceAdd] at a1
 clear hz
 repeat' (first|refine nav ?_|(refine g0_ ?_; refine goD ?_)|with_reducible refine gG ?_ ?_|((with_reducible refine And.intro (fun h => ?_) (fun h => ?_)) <;> try (exfalso; omega))|with_reducible refine andG ?_|(first|(refine ⟨_, _, pc_lift h1 (by simp [idsL, idsE, AV.ids, hi1, hi2]) _, ?_⟩)|(refine ⟨_, pc_lift h1 (by simp [idsL, idsE, AV.ids, hi1, hi2]) _, ?_⟩)|(refine ⟨_, fun _ => pc_lift h1 (by simp [idsL, idsE, AV.ids, hi1, hi2]) _, ?_⟩))|simp (disch := try exact discB) only [push_cast, simprocAttr, a0, a1])
theorem qbu9 (z : Nat) (xs : List Int) (n : Nat) (e : Int) (z' : Nat) (ys : List Int) (d : Option Nat) (f : Int) (hz : xs = [] ∨ z = 1) (hz' : ys = [] ∨ z' = 1) (hx : xs.length ≤ 1000000) (hy : ys.length ≤ 1000000) : PC Tryz.prog G0 20 [.sl z (ints xs) (some n), .int .i64 e, .sl z' (ints ys) d, .int .i64 f] (.bool (decide (e = f) && decide (xs = ys) && decide (n = xs.length))) := by
 have h1 := kdn9 z xs (some n) z' ys d hz hz' hx hy
 have hl := kw0 xs
 have hi1 : ∀ p, idsE p (ints xs) = true := fun p => vo0 p _
 have hi2 : ∀ p, idsE p (ints ys) = true := fun p => vo0 p _
 generalize decide (xs = ys) = b at *
 generalize ints xs = X at *
 generalize ints ys = Y at *
 refine vb0 0 24 [.tmp 8] Tryz.func20 rfl rfl rfl (by simp) ?_
 intro s ⟨a0, a1, a2, a3, hz⟩
 simp only [Nat.zero_add, Nat.reduceAdd] at a1 a2 a3
 clear hz
 repeat' (first|refine nav ?_|(refine g0_ ?_; refine goD ?_)|with_reducible refine gG ?_ ?_|((with_reducible refine And.intro (fun h => ?_) (fun h => ?_)) <;> try (exfalso; omega))|with_reducible refine andG ?_|(first|(refine ⟨_, _, pc_lift h1 (by simp [idsL, idsE, AV.ids, hi1, hi2]) _, ?_⟩)|(refine ⟨_, pc_lift h1 (by simp [idsL, idsE, AV.ids, hi1, hi2]) _, ?_⟩)|(refine ⟨_, fun _ => pc_lift h1 (by simp [idsL, idsE, AV.ids, hi1, hi2]) _, ?_⟩))|simp (disch := try exact discB) only [push_cast, simprocAttr, a0, a1, a2, a3, hl])
def lampG : GS := ⟨[108, 97, 109, 112], 2, 2, 1, [([(1, 0), (0, 1)], some 2), ([(0, 1), (-1, -1)], some 2)], some 2, 1, [[112, 114, 101, 115, 115], [116, 105, 99, 107]], some 2, 1, [[111, 110], [111, 102, 102]], some 2, 1, [[100, 97, 114, 107], [108, 105, 116]], some 2⟩
theorem qdo9 : PC Tryz.prog G0 53 [] (.agg lampG.A) := by
 unfold lampG GS.A
 refine vb0 2 13 [.cell 0 27] Tryz.func53 rfl rfl rfl (by simp) ?_
 intro s hz
 clear hz
 repeat' (first|((first|refine nav ?_|(refine g0_ ?_; refine goD ?_)) <;> (try simp (disch := try exact discB) only [push_cast, simprocAttr, Nat.add_zero]))|with_reducible refine gG ?_ ?_|((with_reducible refine And.intro (fun h => ?_) (fun h => ?_)) <;> try (exfalso; omega))|with_reducible refine andG ?_|simp (disch := try exact discB) only [push_cast, simprocAttr, Nat.add_zero])
 exact ⟨rfl, rfl, rfl, rfl⟩
end Go.Proofs
namespace Go.Proofs
open Go Go.V
set_option linter.unusedVariables false
set_option linter.unusedSimpArgs false
set_option maxHeartbeats 0
set_option maxRecDepth 100000
theorem qs0 : lampG.Ok := ⟨.inr rfl, .inr rfl, .inr rfl, .inr rfl, by decide, by decide, by decide, by decide, by decide, by decide⟩
theorem qaN9 : chkS lampG = 0 := by kernel_rfl
theorem xcZ9 : PC Tryz.prog G0 14 [.agg lampG.A] (.tup [.str [109, 97, 99, 104, 105, 110, 101, 32, 108, 97, 109, 112, 59, 10, 105, 110, 112, 117, 116, 115, 32, 112, 114, 101, 115, 115, 44, 32, 116, 105, 99, 107, 59, 10, 111, 117, 116, 112, 117, 116, 115, 32, 111, 110, 44, 32, 111, 102, 102, 59, 10, 115, 116, 97, 116, 101, 115, 32, 100, 97, 114, 107, 44, 32, 108, 105, 116, 59, 10, 100, 97, 114, 107, 32, 112, 114, 101, 115, 115, 32, 47, 32, 111, 110, 32, 45, 62, 32, 108, 105, 116, 59, 10, 100, 97, 114, 107, 32, 116, 105, 99, 107, 32, 47, 32, 111, 102, 102, 32, 45, 62, 32, 100, 97, 114, 107, 59, 10, 108, 105, 116, 32, 112, 114, 101, 115, 115, 32, 47, 32, 111, 102, 102, 32, 45, 62, 32, 100, 97, 114, 107, 59, 10, 101, 110, 100, 59, 10], .int .i64 0]) := by
 have h := vdn9 lampG qs0
 have e : xcX9 lampG = .tup [.str [109, 97, 99, 104, 105, 110, 101, 32, 108, 97, 109, 112, 59, 10, 105, 110, 112, 117, 116, 115, 32, 112, 114, 101, 115, 115, 44, 32, 116, 105, 99, 107, 59, 10, 111, 117, 116, 112, 117, 116, 115, 32, 111, 110, 44, 32, 111, 102, 102, 59, 10, 115, 116, 97, 116, 101, 115, 32, 100, 97, 114, 107, 44, 32, 108, 105, 116, 59, 10, 100, 97, 114, 107, 32, 112, 114, 101, 115, 115, 32, 47, 32, 111, 110, 32, 45, 62, 32, 108, 105, 116, 59, 10, 100, 97, 114, 107, 32, 116, 105, 99, 107, 32, 47, 32, 111, 102, 102, 32, 45, 62, 32, 100, 97, 114, 107, 59, 10, 108, 105, 116, 32, 112, 114, 101, 115, 115, 32, 47, 32, 111, 102, 102, 32, 45, 62, 32, 100, 97, 114, 107, 59, 10, 101, 110, 100, 59, 10], .int .i64 0] := by kernel_rfl
 rw [e] at h
 exact h
theorem zdK9 : PC Tryz.prog G0 22 [.str [109, 97, 99, 104, 105, 110, 101, 32, 108, 97, 109, 112, 59, 10, 105, 110, 112, 117, 116, 115, 32, 112, 114, 101, 115, 115, 44, 32, 116, 105, 99, 107, 59, 10, 111, 117, 116, 112, 117, 116, 115, 32, 111, 110, 44, 32, 111, 102, 102, 59, 10, 115, 116, 97, 116, 101, 115, 32, 100, 97, 114, 107, 44, 32, 108, 105, 116, 59, 10, 100, 97, 114, 107, 32, 112, 114, 101, 115, 115, 32, 47, 32, 111, 110, 32, 45, 62, 32, 108, 105, 116, 59, 10, 100, 97, 114, 107, 32, 116, 105, 99, 107, 32, 47, 32, 111, 102, 102, 32, 45, 62, 32, 100, 97, 114, 107, 59, 10, 108, 105, 116, 32, 112, 114, 101, 115, 115, 32, 47, 32, 111, 102, 102, 32, 45, 62, 32, 100, 97, 114, 107, 59, 10, 101, 110, 100, 59, 10]] (.tup [.agg lampG.A, .int .i64 0, .int .i64 0, .int .i64 0]) := by
 have h := xad9 [109, 97, 99, 104, 105, 110, 101, 32, 108, 97, 109, 112, 59, 10, 105, 110, 112, 117, 116, 115, 32, 112, 114, 101, 115, 115, 44, 32, 116, 105, 99, 107, 59, 10, 111, 117, 116, 112, 117, 116, 115, 32, 111, 110, 44, 32, 111, 102, 102, 59, 10, 115, 116, 97, 116, 101, 115, 32, 100, 97, 114, 107, 44, 32, 108, 105, 116, 59, 10, 100, 97, 114, 107, 32, 112, 114, 101, 115, 115, 32, 47, 32, 111, 110, 32, 45, 62, 32, 108, 105, 116, 59, 10, 100, 97, 114, 107, 32, 116, 105, 99, 107, 32, 47, 32, 111, 102, 102, 32, 45, 62, 32, 100, 97, 114, 107, 59, 10, 108, 105, 116, 32, 112, 114, 101, 115, 115, 32, 47, 32, 111, 102, 102, 32, 45, 62, 32, 100, 97, 114, 107, 59, 10, 101, 110, 100, 59, 10] (by decide) (by decide +kernel)
 have e : xag9 [109, 97, 99, 104, 105, 110, 101, 32, 108, 97, 109, 112, 59, 10, 105, 110, 112, 117, 116, 115, 32, 112, 114, 101, 115, 115, 44, 32, 116, 105, 99, 107, 59, 10, 111, 117, 116, 112, 117, 116, 115, 32, 111, 110, 44, 32, 111, 102, 102, 59, 10, 115, 116, 97, 116, 101, 115, 32, 100, 97, 114, 107, 44, 32, 108, 105, 116, 59, 10, 100, 97, 114, 107, 32, 112, 114, 101, 115, 115, 32, 47, 32, 111, 110, 32, 45, 62, 32, 108, 105, 116, 59, 10, 100, 97, 114, 107, 32, 116, 105, 99, 107, 32, 47, 32, 111, 102, 102, 32, 45, 62, 32, 100, 97, 114, 107, 59, 10, 108, 105, 116, 32, 112, 114, 101, 115, 115, 32, 47, 32, 111, 102, 102, 32, 45, 62, 32, 100, 97, 114, 107, 59, 10, 101, 110, 100, 59, 10] = .tup [.agg lampG.A, .int .i64 0, .int .i64 0, .int .i64 0] := by kernel_rfl
 rw [e] at h
 exact h
theorem xdK9 : PC Tryz.prog G0 22 [.str [109, 97, 99, 104, 105, 110, 101, 32, 108, 97, 109, 112, 59, 10, 105, 110, 112, 117, 116, 115, 32, 112, 114, 101, 115, 115, 44, 32, 116, 105, 99, 107, 59, 10, 111, 117, 116, 112, 117, 116, 115, 32, 111, 110, 44, 32, 111, 102, 102, 59, 10, 115, 116, 97, 116, 101, 115, 32, 100, 97, 114, 107, 44, 32, 108, 105, 116, 59, 10, 100, 97, 114, 107, 32, 112, 114, 101, 115, 115, 32, 47, 32, 111, 110, 32, 45, 62, 32, 108, 105, 116, 59, 10, 100, 97, 114, 107, 32, 116, 111, 99, 107, 32, 47, 32, 111, 102, 102, 32, 45, 62, 32, 100, 97, 114, 107, 59, 10, 108, 105, 116, 32, 112, 114, 101, 115, 115, 32, 47, 32, 111, 102, 102, 32, 45, 62, 32, 100, 97, 114, 107, 59, 10, 101, 110, 100, 59, 10]] (.tup [.agg [.str [], .int .i64 0, .int .i64 0, .sl 0 [] (some 0), .sl 0 [] (some 0), .sl 0 [] (some 0), .sl 0 [] (some 0)], .int .i64 6, .int .i64 6, .int .i64 7]) := by
 have h := xad9 [109, 97, 99, 104, 105, 110, 101, 32, 108, 97, 109, 112, 59, 10, 105, 110, 112, 117, 116, 115, 32, 112, 114, 101, 115, 115, 44, 32, 116, 105, 99, 107, 59, 10, 111, 117, 116, 112, 117, 116, 115, 32, 111, 110, 44, 32, 111, 102, 102, 59, 10, 115, 116, 97, 116, 101, 115, 32, 100, 97, 114, 107, 44, 32, 108, 105, 116, 59, 10, 100, 97, 114, 107, 32, 112, 114, 101, 115, 115, 32, 47, 32, 111, 110, 32, 45, 62, 32, 108, 105, 116, 59, 10, 100, 97, 114, 107, 32, 116, 111, 99, 107, 32, 47, 32, 111, 102, 102, 32, 45, 62, 32, 100, 97, 114, 107, 59, 10, 108, 105, 116, 32, 112, 114, 101, 115, 115, 32, 47, 32, 111, 102, 102, 32, 45, 62, 32, 100, 97, 114, 107, 59, 10, 101, 110, 100, 59, 10] (by decide) (by decide +kernel)
 have e : xag9 [109, 97, 99, 104, 105, 110, 101, 32, 108, 97, 109, 112, 59, 10, 105, 110, 112, 117, 116, 115, 32, 112, 114, 101, 115, 115, 44, 32, 116, 105, 99, 107, 59, 10, 111, 117, 116, 112, 117, 116, 115, 32, 111, 110, 44, 32, 111, 102, 102, 59, 10, 115, 116, 97, 116, 101, 115, 32, 100, 97, 114, 107, 44, 32, 108, 105, 116, 59, 10, 100, 97, 114, 107, 32, 112, 114, 101, 115, 115, 32, 47, 32, 111, 110, 32, 45, 62, 32, 108, 105, 116, 59, 10, 100, 97, 114, 107, 32, 116, 111, 99, 107, 32, 47, 32, 111, 102, 102, 32, 45, 62, 32, 100, 97, 114, 107, 59, 10, 108, 105, 116, 32, 112, 114, 101, 115, 115, 32, 47, 32, 111, 102, 102, 32, 45, 62, 32, 100, 97, 114, 107, 59, 10, 101, 110, 100, 59, 10] = .tup [.agg [.str [], .int .i64 0, .int .i64 0, .sl 0 [] (some 0), .sl 0 [] (some 0), .sl 0 [] (some 0), .sl 0 [] (some 0)], .int .i64 6, .int .i64 6, .int .i64 7] := by kernel_rfl
 rw [e] at h
 exact h
theorem wdK9 : PC Tryz.prog G0 22 [.str [109, 97, 99, 104, 105, 110, 101, 32, 101, 110, 100, 59]] (.tup [.agg [.str [], .int .i64 0, .int .i64 0, .sl 0 [] (some 0), .sl 0 [] (some 0), .sl 0 [] (some 0), .sl 0 [] (some 0)], .int .i64 1, .int .i64 9, .int .i64 10]) := by
 have h := xad9 [109, 97, 99, 104, 105, 110, 101, 32, 101, 110, 100, 59] (by decide) (by decide +kernel)
 have e : xag9 [109, 97, 99, 104, 105, 110, 101, 32, 101, 110, 100, 59] = .tup [.agg [.str [], .int .i64 0, .int .i64 0, .sl 0 [] (some 0), .sl 0 [] (some 0), .sl 0 [] (some 0), .sl 0 [] (some 0)], .int .i64 1, .int .i64 9, .int .i64 10] := by kernel_rfl
 rw [e] at h
 exact h
theorem vdK9 : PC Tryz.prog G0 22 [.str [109, 97, 99, 104, 105, 110, 101, 32, 97, 59, 32, 105, 110, 112, 117, 116, 115, 32, 98]] (.tup [.agg [.str [], .int .i64 0, .int .i64 0, .sl 0 [] (some 0), .sl 0 [] (some 0), .sl 0 [] (some 0), .sl 0 [] (some 0)], .int .i64 1, .int .i64 19, .int .i64 4]) := by
 have h := xad9 [109, 97, 99, 104, 105, 110, 101, 32, 97, 59, 32, 105, 110, 112, 117, 116, 115, 32, 98] (by decide) (by decide +kernel)
 have e : xag9 [109, 97, 99, 104, 105, 110, 101, 32, 97, 59, 32, 105, 110, 112, 117, 116, 115, 32, 98] = .tup [.agg [.str [], .int .i64 0, .int .i64 0, .sl 0 [] (some 0), .sl 0 [] (some 0), .sl 0 [] (some 0), .sl 0 [] (some 0)], .int .i64 1, .int .i64 19, .int .i64 4] := by kernel_rfl
 rw [e] at h
 exact h
theorem kdK9 : PC Tryz.prog G0 22 [.str []] (.tup [.agg [.str [], .int .i64 0, .int .i64 0, .sl 0 [] (some 0), .sl 0 [] (some 0), .sl 0 [] (some 0), .sl 0 [] (some 0)], .int .i64 1, .int .i64 1, .int .i64 4]) := by
 have h := xad9 [] (by decide) (by decide +kernel)
 have e : xag9 [] = .tup [.agg [.str [], .int .i64 0, .int .i64 0, .sl 0 [] (some 0), .sl 0 [] (some 0), .sl 0 [] (some 0), .sl 0 [] (some 0)], .int .i64 1, .int .i64 1, .int .i64 4] := by kernel_rfl
 rw [e] at h
 exact h
theorem wcZ9 : PC Tryz.prog G0 13 [.agg lampG.A, .agg lampG.A] (.bool true) := by
 have h := zdn9 lampG lampG qs0 qs0
 have e : qcX9 lampG lampG = true := by kernel_rfl
 rw [e] at h
 exact h
theorem qdL9 : PC Tryz.prog G0 17 [.agg lampG.A, .str [116, 105, 99, 107, 32, 112, 114, 101, 115, 115]] (.tup [.sl 1 [[.int .i64 1], [.int .i64 0]] (some 2), .int .i64 0]) := by
 have h := kbt9 lampG qs0 [116, 105, 99, 107, 32, 112, 114, 101, 115, 115] qaN9
 have e : kbl9 (vbE9 lampG.ins [116, 105, 99, 107, 32, 112, 114, 101, 115, 115]) = .tup [.sl 1 [[.int .i64 1], [.int .i64 0]] (some 2), .int .i64 0] := by kernel_rfl
 rw [e] at h
 exact h
theorem zdL9 : PC Tryz.prog G0 17 [.agg lampG.A, .str [45]] (.tup [.sl 0 [] (some 0), .int .i64 0]) := by
 have h := kbt9 lampG qs0 [45] qaN9
 have e : kbl9 (vbE9 lampG.ins [45]) = .tup [.sl 0 [] (some 0), .int .i64 0] := by kernel_rfl
 rw [e] at h
 exact h
theorem xdL9 : PC Tryz.prog G0 17 [.agg lampG.A, .str [116, 105, 99, 107, 32, 32, 112, 114, 101, 115, 115]] (.tup [.sl 0 [] (some 0), .int .i64 4]) := by
 have h := kbt9 lampG qs0 [116, 105, 99, 107, 32, 32, 112, 114, 101, 115, 115] qaN9
 have e : kbl9 (vbE9 lampG.ins [116, 105, 99, 107, 32, 32, 112, 114, 101, 115, 115]) = .tup [.sl 0 [] (some 0), .int .i64 4] := by kernel_rfl
 rw [e] at h
 exact h
theorem wdL9 : PC Tryz.prog G0 17 [.agg lampG.A, .str [116, 111, 99, 107]] (.tup [.sl 0 [] (some 0), .int .i64 7]) := by
 have h := kbt9 lampG qs0 [116, 111, 99, 107] qaN9
 have e : kbl9 (vbE9 lampG.ins [116, 111, 99, 107]) = .tup [.sl 0 [] (some 0), .int .i64 7] := by kernel_rfl
 rw [e] at h
 exact h
theorem vdL9 : PC Tryz.prog G0 18 [.agg lampG.A, .sl 1 [[.int .i64 1], [.int .i64 0]] (some 2)] (.tup [.str [116, 105, 99, 107, 32, 112, 114, 101, 115, 115], .int .i64 0]) := by
 have h := zbF9 lampG qs0 1 [1, 0] (some 2) (.inr rfl) (by decide)
 have e : wtA lampG [1, 0] = .tup [.str [116, 105, 99, 107, 32, 112, 114, 101, 115, 115], .int .i64 0] := by kernel_rfl
 rw [e] at h
 exact h
theorem kdL9 : PC Tryz.prog G0 19 [.agg lampG.A, .sl 1 [[.int .i64 0], [.int .i64 (-1)], [.int .i64 1]] (some 3)] (.tup [.str [111, 110, 32, 33, 32, 111, 102, 102], .int .i64 0]) := by
 have h := zba9 lampG qs0 1 [0, -1, 1] (some 3) (.inr rfl) (by decide)
 have e : otA lampG [0, -1, 1] = .tup [.str [111, 110, 32, 33, 32, 111, 102, 102], .int .i64 0] := by kernel_rfl
 rw [e] at h
 exact h
theorem qdM9 : PC Tryz.prog G0 19 [.agg lampG.A, .sl 1 [[.int .i64 2]] (some 1)] (.tup [.str [], .int .i64 1]) := by
 have h := zba9 lampG qs0 1 [2] (some 1) (.inr rfl) (by decide)
 have e : otA lampG [2] = .tup [.str [], .int .i64 1] := by kernel_rfl
 rw [e] at h
 exact h
theorem zdM9 : PC Tryz.prog G0 20 [.sl 1 [[.int .i64 1], [.int .i64 0]] (some 2), .int .i64 0, .sl 1 [[.int .i64 1], [.int .i64 0]] (some 2), .int .i64 0] (.bool true) := by
 have h := qbu9 1 [1, 0] 2 0 1 [1, 0] (some 2) 0 (by decide) (by decide) (by decide) (by decide)
 rw [show (decide ((0 : Int) = 0) && decide (([1, 0] : List Int) = [1, 0]) && decide (2 = ([1, 0] : List Int).length)) = true by decide] at h
 exact h
theorem xdM9 : PC Tryz.prog G0 20 [.sl 0 [] (some 0), .int .i64 0, .sl 0 [] (some 0), .int .i64 0] (.bool true) := by
 have h := qbu9 0 [] 0 0 0 [] (some 0) 0 (by decide) (by decide) (by decide) (by decide)
 rw [show (decide ((0 : Int) = 0) && decide (([] : List Int) = []) && decide (0 = ([] : List Int).length)) = true by decide] at h
 exact h
theorem wdM9 : PC Tryz.prog G0 20 [.sl 0 [] (some 0), .int .i64 4, .sl 0 [] (some 0), .int .i64 4] (.bool true) := by
 have h := qbu9 0 [] 0 4 0 [] (some 0) 4 (by decide) (by decide) (by decide) (by decide)
 rw [show (decide ((4 : Int) = 4) && decide (([] : List Int) = []) && decide (0 = ([] : List Int).length)) = true by decide] at h
 exact h
theorem vdM9 : PC Tryz.prog G0 20 [.sl 0 [] (some 0), .int .i64 7, .sl 0 [] (some 0), .int .i64 7] (.bool true) := by
 have h := qbu9 0 [] 0 7 0 [] (some 0) 7 (by decide) (by decide) (by decide) (by decide)
 rw [show (decide ((7 : Int) = 7) && decide (([] : List Int) = []) && decide (0 = ([] : List Int).length)) = true by decide] at h
 exact h
theorem vcZ9 : PC Tryz.prog G0 16 [] (.bool true) := by
 have hid := fun p => vD0 p lampG
 have q0 := qdo9
 have q1 := xcZ9
 have q2 := wcZ9
 have q3 := zdK9
 have q4 := xdK9
 have q5 := wdK9
 have q6 := vdK9
 have q7 := kdK9
 have q8 := qdL9
 have q9 := zdL9
 have q10 := xdL9
 have q11 := wdL9
 have q12 := vdL9
 have q13 := kdL9
 have q14 := qdM9
 have q15 := zdM9
 have q16 := xdM9
 have q17 := wdM9
 have q18 := vdM9
 have hA : lampG.A = [.str lampG.nm, .int .i64 lampG.i, .int .i64 lampG.o, .sl lampG.zr (vd0 lampG.rows) lampG.cr, .sl lampG.zi (strs lampG.ins) lampG.ci, .sl lampG.zo (strs lampG.outs) lampG.co, .sl lampG.zs (strs lampG.sts) lampG.cs] := rfl
 rw [hA] at q0 q1 q2 q3 q8 q9 q10 q11 q12 q13 q14 hid
 clear hA
 generalize lampG = x at *
 have hi1 : ∀ p, idsE p (vd0 x.rows) = true := fun p => zf0 p _
 have hi2 : ∀ p, idsE p (strs x.ins) = true := fun p => za0 p _
 have hi3 : ∀ p, idsE p (strs x.outs) = true := fun p => za0 p _
 have hi4 : ∀ p, idsE p (strs x.sts) = true := fun p => za0 p _
 refine vb0 0 220 [.tmp 0] Tryz.func16 rfl rfl rfl (by simp) ?_
 intro s hz
 clear hz
 repeat' (first|refine nav ?_|(refine g0_ ?_; refine goD ?_)|with_reducible refine gG ?_ ?_|((with_reducible refine And.intro (fun h => ?_) (fun h => ?_)) <;> try (exfalso; omega))|with_reducible refine andG ?_|(first|(refine ⟨_, _, pc_lift q0 (by simp [idsL, idsE, AV.ids, hid, hi1, hi2, hi3, hi4]) _, ?_⟩)|(refine ⟨_, pc_lift q0 (by simp [idsL, idsE, AV.ids, hid, hi1, hi2, hi3, hi4]) _, ?_⟩)|(refine ⟨_, fun _ => pc_lift q0 (by simp [idsL, idsE, AV.ids, hid, hi1, hi2, hi3, hi4]) _, ?_⟩)|(refine ⟨_, _, pc_lift q1 (by simp [idsL, idsE, AV.ids, hid, hi1, hi2, hi3, hi4]) _, ?_⟩)|(refine ⟨_, pc_lift q1 (by simp [idsL, idsE, AV.ids, hid, hi1, hi2, hi3, hi4]) _, ?_⟩)|(refine ⟨_, fun _ => pc_lift q1 (by simp [idsL, idsE, AV.ids, hid, hi1, hi2, hi3, hi4]) _, ?_⟩)|(refine ⟨_, _, pc_lift q2 (by simp [idsL, idsE, AV.ids, hid, hi1, hi2, hi3, hi4]) _, ?_⟩)|(refine ⟨_, pc_lift q2 (by simp [idsL, idsE, AV.ids, hid, hi1, hi2, hi3, hi4]) _, ?_⟩)|(refine ⟨_, fun _ => pc_lift q2 (by simp [idsL, idsE, AV.ids, hid, hi1, hi2, hi3, hi4]) _, ?_⟩)|(refine ⟨_, _, pc_lift q3 (by simp [idsL, idsE, AV.ids, hid, hi1, hi2, hi3, hi4]) _, ?_⟩)|(refine ⟨_, pc_lift q3 (by simp [idsL, idsE, AV.ids, hid, hi1, hi2, hi3, hi4]) _, ?_⟩)|(refine ⟨_, fun _ => pc_lift q3 (by simp [idsL, idsE, AV.ids, hid, hi1, hi2, hi3, hi4]) _, ?_⟩)|(refine ⟨_, _, pc_lift q4 (by simp [idsL, idsE, AV.ids, hid, hi1, hi2, hi3, hi4]) _, ?_⟩)|(refine ⟨_, pc_lift q4 (by simp [idsL, idsE, AV.ids, hid, hi1, hi2, hi3, hi4]) _, ?_⟩)|(refine ⟨_, fun _ => pc_lift q4 (by simp [idsL, idsE, AV.ids, hid, hi1, hi2, hi3, hi4]) _, ?_⟩)|(refine ⟨_, _, pc_lift q5 (by simp [idsL, idsE, AV.ids, hid, hi1, hi2, hi3, hi4]) _, ?_⟩)|(refine ⟨_, pc_lift q5 (by simp [idsL, idsE, AV.ids, hid, hi1, hi2, hi3, hi4]) _, ?_⟩)|(refine ⟨_, fun _ => pc_lift q5 (by simp [idsL, idsE, AV.ids, hid, hi1, hi2, hi3, hi4]) _, ?_⟩)|(refine ⟨_, _, pc_lift q6 (by simp [idsL, idsE, AV.ids, hid, hi1, hi2, hi3, hi4]) _, ?_⟩)|(refine ⟨_, pc_lift q6 (by simp [idsL, idsE, AV.ids, hid, hi1, hi2, hi3, hi4]) _, ?_⟩)|(refine ⟨_, fun _ => pc_lift q6 (by simp [idsL, idsE, AV.ids, hid, hi1, hi2, hi3, hi4]) _, ?_⟩)|(refine ⟨_, _, pc_lift q7 (by simp [idsL, idsE, AV.ids, hid, hi1, hi2, hi3, hi4]) _, ?_⟩)|(refine ⟨_, pc_lift q7 (by simp [idsL, idsE, AV.ids, hid, hi1, hi2, hi3, hi4]) _, ?_⟩)|(refine ⟨_, fun _ => pc_lift q7 (by simp [idsL, idsE, AV.ids, hid, hi1, hi2, hi3, hi4]) _, ?_⟩)|(refine ⟨_, _, pc_lift q8 (by simp [idsL, idsE, AV.ids, hid, hi1, hi2, hi3, hi4]) _, ?_⟩)|(refine ⟨_, pc_lift q8 (by simp [idsL, idsE, AV.ids, hid, hi1, hi2, hi3, hi4]) _, ?_⟩)|(refine ⟨_, fun _ => pc_lift q8 (by simp [idsL, idsE, AV.ids, hid, hi1, hi2, hi3, hi4]) _, ?_⟩)|(refine ⟨_, _, pc_lift q9 (by simp [idsL, idsE, AV.ids, hid, hi1, hi2, hi3, hi4]) _, ?_⟩)|(refine ⟨_, pc_lift q9 (by simp [idsL, idsE, AV.ids, hid, hi1, hi2, hi3, hi4]) _, ?_⟩)|(refine ⟨_, fun _ => pc_lift q9 (by simp [idsL, idsE, AV.ids, hid, hi1, hi2, hi3, hi4]) _, ?_⟩)|(refine ⟨_, _, pc_lift q10 (by simp [idsL, idsE, AV.ids, hid, hi1, hi2, hi3, hi4]) _, ?_⟩)|(refine ⟨_, pc_lift q10 (by simp [idsL, idsE, AV.ids, hid, hi1, hi2, hi3, hi4]) _, ?_⟩)|(refine ⟨_, fun _ => pc_lift q10 (by simp [idsL, idsE, AV.ids, hid, hi1, hi2, hi3, hi4]) _, ?_⟩)|(refine ⟨_, _, pc_lift q11 (by simp [idsL, idsE, AV.ids, hid, hi1, hi2, hi3, hi4]) _, ?_⟩)|(refine ⟨_, pc_lift q11 (by simp [idsL, idsE, AV.ids, hid, hi1, hi2, hi3, hi4]) _, ?_⟩)|(refine ⟨_, fun _ => pc_lift q11 (by simp [idsL, idsE, AV.ids, hid, hi1, hi2, hi3, hi4]) _, ?_⟩)|(refine ⟨_, _, pc_lift q12 (by simp [idsL, idsE, AV.ids, hid, hi1, hi2, hi3, hi4]) _, ?_⟩)|(refine ⟨_, pc_lift q12 (by simp [idsL, idsE, AV.ids, hid, hi1, hi2, hi3, hi4]) _, ?_⟩)|(refine ⟨_, fun _ => pc_lift q12 (by simp [idsL, idsE, AV.ids, hid, hi1, hi2, hi3, hi4]) _, ?_⟩)|(refine ⟨_, _, pc_lift q13 (by simp [idsL, idsE, AV.ids, hid, hi1, hi2, hi3, hi4]) _, ?_⟩)|(refine ⟨_, pc_lift q13 (by simp [idsL, idsE, AV.ids, hid, hi1, hi2, hi3, hi4]) _, ?_⟩)|(refine ⟨_, fun _ => pc_lift q13 (by simp [idsL, idsE, AV.ids, hid, hi1, hi2, hi3, hi4]) _, ?_⟩)|(refine ⟨_, _, pc_lift q14 (by simp [idsL, idsE, AV.ids, hid, hi1, hi2, hi3, hi4]) _, ?_⟩)|(refine ⟨_, pc_lift q14 (by simp [idsL, idsE, AV.ids, hid, hi1, hi2, hi3, hi4]) _, ?_⟩)|(refine ⟨_, fun _ => pc_lift q14 (by simp [idsL, idsE, AV.ids, hid, hi1, hi2, hi3, hi4]) _, ?_⟩)|(refine ⟨_, _, pc_lift q15 (by simp [idsL, idsE, AV.ids, hid, hi1, hi2, hi3, hi4]) _, ?_⟩)|(refine ⟨_, pc_lift q15 (by simp [idsL, idsE, AV.ids, hid, hi1, hi2, hi3, hi4]) _, ?_⟩)|(refine ⟨_, fun _ => pc_lift q15 (by simp [idsL, idsE, AV.ids, hid, hi1, hi2, hi3, hi4]) _, ?_⟩)|(refine ⟨_, _, pc_lift q16 (by simp [idsL, idsE, AV.ids, hid, hi1, hi2, hi3, hi4]) _, ?_⟩)|(refine ⟨_, pc_lift q16 (by simp [idsL, idsE, AV.ids, hid, hi1, hi2, hi3, hi4]) _, ?_⟩)|(refine ⟨_, fun _ => pc_lift q16 (by simp [idsL, idsE, AV.ids, hid, hi1, hi2, hi3, hi4]) _, ?_⟩)|(refine ⟨_, _, pc_lift q17 (by simp [idsL, idsE, AV.ids, hid, hi1, hi2, hi3, hi4]) _, ?_⟩)|(refine ⟨_, pc_lift q17 (by simp [idsL, idsE, AV.ids, hid, hi1, hi2, hi3, hi4]) _, ?_⟩)|(refine ⟨_, fun _ => pc_lift q17 (by simp [idsL, idsE, AV.ids, hid, hi1, hi2, hi3, hi4]) _, ?_⟩)|(refine ⟨_, _, pc_lift q18 (by simp [idsL, idsE, AV.ids, hid, hi1, hi2, hi3, hi4]) _, ?_⟩)|(refine ⟨_, pc_lift q18 (by simp [idsL, idsE, AV.ids, hid, hi1, hi2, hi3, hi4]) _, ?_⟩)|(refine ⟨_, fun _ => pc_lift q18 (by simp [idsL, idsE, AV.ids, hid, hi1, hi2, hi3, hi4]) _, ?_⟩))|simp (disch := try exact discB) only [push_cast, simprocAttr, Int.reduceEq])
 exact absurd (by kernel_rfl) h
end Go.Proofs
