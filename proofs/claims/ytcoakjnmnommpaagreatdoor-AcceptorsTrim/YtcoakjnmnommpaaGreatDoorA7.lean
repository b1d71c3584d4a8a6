import Derived.Test.YtcoakjnmnommpaaGreatDoorA4
import Derived.Test.YtcoakjnmnommpaaGreatDoorA2
namespace Go.Proofs
open Go Go.V
set_option linter.unusedVariables false
set_option linter.unusedSimpArgs false
set_option maxHeartbeats 0
theorem kac9 : setL (fun _ => false) = [.int .u64 0, .int .u64 0, .int .u64 0, .int .u64 0] := by
 simp [setL, zdw9]
theorem vbK9 (p : Nat → Bool) : (setL p).length = 4 := rfl
theorem kar9 {p q : Nat → Bool} (h : ∀ n, n < 256 → p n = q n) : setL p = setL q := by
 unfold setL
 rw [kaN9 h 0, kaN9 h 1, kaN9 h 2, kaN9 h 3]
theorem vh0 (f : Nat → Bool) (p : Nat → Bool) : idsL f (setL p) = true := by simp [setL, idsL, AV.ids]
set_option maxRecDepth 100000 in
theorem of32 (z : Nat) (l : List Int) (c : Option Nat) (hz : l = [] ∨ z = 1) (hl : l.length ≤ 9223372036854775807) (hr : ∀ x ∈ l, 0 ≤ x ∧ x < 256) : PC Tryz.prog G0 41 [.sl z (ints l) c] (.agg (setL (inL l))) := by
 have hp := wdw9 0 z l c [.row 4 68 [setL fun _ => false]] (fun _ => false) hz hl hr rfl
 rw [kac9] at hp
 have e : (fun n => false || inL l n) = inL l := funext fun n => Bool.false_or _
 rw [e] at hp
 unfold setL at hp ⊢
 refine vd0 0 6 [.cell 2 68] Tryz.func41 rfl rfl rfl (by simp) ?_
 intro s ⟨a0, hz⟩
 clear hz
 repeat' (first|refine nav ?_|(refine g0_ ?_; refine goD ?_)|(with_reducible refine gG ?_ ?_)|((with_reducible refine And.intro (fun h => ?_) (fun h => ?_)) <;> try (exfalso; omega))|(with_reducible refine andG ?_)|(first|(refine ⟨_, _, hp, ?_⟩)|(refine ⟨_, hp, ?_⟩)|(refine ⟨_, fun _ => hp, ?_⟩))|simp (disch := (first|exact za0|fail)) only [push_cast, simprocAttr, a0])
theorem kca9 (p q : Nat → Bool) : ((List.range 256).any fun t => p t && q t) = !(decide (wP p 0 &&& wP q 0 = 0) && (decide (wP p 1 &&& wP q 1 = 0) && (decide (wP p 2 &&& wP q 2 = 0) && decide (wP p 3 &&& wP q 3 = 0)))) := by
 rw [xbl9 p q 0 (by decide), xbl9 p q 1 (by decide), xbl9 p q 2 (by decide), xbl9 p q 3 (by decide)]
 rw [Bool.eq_iff_iff, List.any_eq_true, Bool.not_eq_true', Bool.and_eq_false_iff, Bool.and_eq_false_iff, Bool.and_eq_false_iff]
 simp only [decide_eq_false_iff_not, zaY9 _ _ (show 0 < 4 by decide), zaY9 _ _ (show 1 < 4 by decide), zaY9 _ _ (show 2 < 4 by decide), zaY9 _ _ (show 3 < 4 by decide)]
 constructor
 ·rintro ⟨t, ht, h⟩
  have ht := List.mem_range.1 ht
  have hq : t / 64 = 0 ∨ t / 64 = 1 ∨ t / 64 = 2 ∨ t / 64 = 3 := by omega
  rcases hq with w|w|w|w
  ·exact .inl fun g => by have := g (t % 64) (by omega); rw [show 64 * 0 + t % 64 = t by omega, h] at this; cases this
  ·exact .inr (.inl fun g => by have := g (t % 64) (by omega); rw [show 64 * 1 + t % 64 = t by omega, h] at this; cases this)
  ·exact .inr (.inr (.inl fun g => by have := g (t % 64) (by omega); rw [show 64 * 2 + t % 64 = t by omega, h] at this; cases this))
  ·exact .inr (.inr (.inr fun g => by have := g (t % 64) (by omega); rw [show 64 * 3 + t % 64 = t by omega, h] at this; cases this))
 ·have key : ∀ i, i < 4 → (¬ ∀ b, b < 64 → (p (64 * i + b) && q (64 * i + b)) = false) → ∃ x, x ∈ List.range 256 ∧ (p x && q x) = true := fun i hi h => by
   simp only [Classical.not_forall] at h
   obtain ⟨b, hb, h⟩ := h
   exact ⟨64 * i + b, List.mem_range.2 (by omega), by simpa using h⟩
  rintro (h|h|h|h)
  ·exact key 0 (by decide) h
  ·exact key 1 (by decide) h
  ·exact key 2 (by decide) h
  ·exact key 3 (by decide) h
set_option maxRecDepth 100000 in
theorem wby9 (p q : Nat → Bool) : PC Tryz.prog G0 40 [.agg (setL p), .agg (setL q)] (.bool ((List.range 256).any fun t => p t && q t)) := by
 rw [kca9]
 have hw := fun i => wai9 (wP p i) (wP q i) (qo0 p i) (qo0 q i)
 have h0 := hw 0
 have h1 := hw 1
 have h2 := hw 2
 have h3 := hw 3
 clear hw
 unfold setL
 generalize wP p 0 &&& wP q 0 = w0 at *
 generalize wP p 1 &&& wP q 1 = w1 at *
 generalize wP p 2 &&& wP q 2 = w2 at *
 generalize wP p 3 &&& wP q 3 = w3 at *
 generalize wP p 0 = p0 at *
 generalize wP p 1 = p1 at *
 generalize wP p 2 = p2 at *
 generalize wP p 3 = p3 at *
 generalize wP q 0 = q0 at *
 generalize wP q 1 = q1 at *
 generalize wP q 2 = q2 at *
 generalize wP q 3 = q3 at *
 by_cases n0 : (w0 : Int) = 0
 rotate_left
 ·have g0 : ¬ w0 = 0 := by omega
  rw [show (!(decide (w0 = 0) && (decide (w1 = 0) && (decide (w2 = 0) && decide (w3 = 0))))) = true by simp [g0]]
  refine vd0 0 18 [.tmp 4] Tryz.func40 rfl rfl rfl (by simp) ?_
  intro s ⟨a0, a1, hz⟩
  simp only [Nat.zero_add, Nat.reduceAdd] at a1
  clear hz
  repeat' (first|(first|refine nav ?_|(refine g0_ ?_; first|refine goD ?_|refine kF0 5 rfl ?_))|(with_reducible refine gG ?_ ?_)|((with_reducible refine And.intro (fun h => ?_) (fun h => ?_)) <;> try (exfalso; omega))|(with_reducible refine andG ?_)|fail|simp (disch := (first|exact za0|fail)) only [push_cast, simprocAttr, a0, a1, Int.reduceToNat, h0, n0])
 ·skip
  by_cases n1 : (w1 : Int) = 0
  rotate_left
  ·have g1 : ¬ w1 = 0 := by omega
   have z0 : w0 = 0 := by omega
   rw [show (!(decide (w0 = 0) && (decide (w1 = 0) && (decide (w2 = 0) && decide (w3 = 0))))) = true by simp [z0, g1]]
   refine vd0 0 18 [.tmp 4] Tryz.func40 rfl rfl rfl (by simp) ?_
   intro s ⟨a0, a1, hz⟩
   simp only [Nat.zero_add, Nat.reduceAdd] at a1
   clear hz
   repeat' (first|(first|refine nav ?_|(refine g0_ ?_; first|refine goD ?_|refine kF0 5 rfl ?_))|(with_reducible refine gG ?_ ?_)|((with_reducible refine And.intro (fun h => ?_) (fun h => ?_)) <;> try (exfalso; omega))|(with_reducible refine andG ?_)|fail|simp (disch := (first|exact za0|fail)) only [push_cast, simprocAttr, a0, a1, Int.reduceToNat, h0, h1, n0, n1])
  ·skip
   by_cases n2 : (w2 : Int) = 0
   rotate_left
   ·have g2 : ¬ w2 = 0 := by omega
    have z0 : w0 = 0 := by omega
    have z1 : w1 = 0 := by omega
    rw [show (!(decide (w0 = 0) && (decide (w1 = 0) && (decide (w2 = 0) && decide (w3 = 0))))) = true by simp [z0, z1, g2]]
    refine vd0 0 18 [.tmp 4] Tryz.func40 rfl rfl rfl (by simp) ?_
    intro s ⟨a0, a1, hz⟩
    simp only [Nat.zero_add, Nat.reduceAdd] at a1
    clear hz
    repeat' (first|(first|refine nav ?_|(refine g0_ ?_; first|refine goD ?_|refine kF0 5 rfl ?_))|(with_reducible refine gG ?_ ?_)|((with_reducible refine And.intro (fun h => ?_) (fun h => ?_)) <;> try (exfalso; omega))|(with_reducible refine andG ?_)|fail|simp (disch := (first|exact za0|fail)) only [push_cast, simprocAttr, a0, a1, Int.reduceToNat, h0, h1, h2, n0, n1, n2])
   ·skip
    by_cases n3 : (w3 : Int) = 0
    rotate_left
    ·have g3 : ¬ w3 = 0 := by omega
     have z0 : w0 = 0 := by omega
     have z1 : w1 = 0 := by omega
     have z2 : w2 = 0 := by omega
     rw [show (!(decide (w0 = 0) && (decide (w1 = 0) && (decide (w2 = 0) && decide (w3 = 0))))) = true by simp [z0, z1, z2, g3]]
     refine vd0 0 18 [.tmp 4] Tryz.func40 rfl rfl rfl (by simp) ?_
     intro s ⟨a0, a1, hz⟩
     simp only [Nat.zero_add, Nat.reduceAdd] at a1
     clear hz
     repeat' (first|(first|refine nav ?_|(refine g0_ ?_; first|refine goD ?_|refine kF0 5 rfl ?_))|(with_reducible refine gG ?_ ?_)|((with_reducible refine And.intro (fun h => ?_) (fun h => ?_)) <;> try (exfalso; omega))|(with_reducible refine andG ?_)|fail|simp (disch := (first|exact za0|fail)) only [push_cast, simprocAttr, a0, a1, Int.reduceToNat, h0, h1, h2, h3, n0, n1, n2, n3])
    ·skip
     have z0 : w0 = 0 := by omega
     have z1 : w1 = 0 := by omega
     have z2 : w2 = 0 := by omega
     have z3 : w3 = 0 := by omega
     rw [show (!(decide (w0 = 0) && (decide (w1 = 0) && (decide (w2 = 0) && decide (w3 = 0))))) = false by simp [z0, z1, z2, z3]]
     refine vd0 0 18 [.tmp 4] Tryz.func40 rfl rfl rfl (by simp) ?_
     intro s ⟨a0, a1, hz⟩
     simp only [Nat.zero_add, Nat.reduceAdd] at a1
     clear hz
     repeat' (first|(first|refine nav ?_|(refine g0_ ?_; first|refine goD ?_|refine kF0 5 rfl ?_))|(with_reducible refine gG ?_ ?_)|((with_reducible refine And.intro (fun h => ?_) (fun h => ?_)) <;> try (exfalso; omega))|(with_reducible refine andG ?_)|fail|simp (disch := (first|exact za0|fail)) only [push_cast, simprocAttr, a0, a1, Int.reduceToNat, h0, h1, h2, h3, n0, n1, n2, n3])
theorem zdN9 {x c m : Nat} (h : x = 2 ^ c * (2 * m + 1)) : xcu9 x c := by
 refine ⟨?_, fun j hj => ?_⟩
 ·rw [h, Nat.testBit_two_pow_mul]; simp
 ·rw [h, Nat.testBit_two_pow_mul]; simp; omega
theorem vdw9 {x : Nat} (h0 : x ≠ 0) (h : x < 2 ^ 64) : xcu9 x (Lib.ctz 64 x) ∧ Lib.ctz 64 x < 64 := by
 obtain ⟨m, hm, hk⟩ := Lib.ctzFrom_spec 64 x (by omega) h
 have e : Lib.ctz 64 x = Lib.ctzFrom 64 x := by simp [Lib.ctz, h0]
 rw [e]
 exact ⟨zdN9 hm, hk⟩
end Go.Proofs
namespace Go.Proofs
open Go Go.V
set_option linter.unusedVariables false
set_option linter.unusedSimpArgs false
set_option maxHeartbeats 0
theorem kdw9 {idx v : Nat} (hi : idx < 64) (h : Lib.deBruijn64tab.getD idx 0 = v) : tzG.getD idx .top = .int .u8 (v : Nat) := by
 rw [tzG, List.getD_eq_getElem?_getD, List.getElem?_map]
 rw [List.getD_eq_getElem?_getD] at h
 have hl : Lib.deBruijn64tab.length = 64 := rfl
 rw [List.getElem?_eq_getElem (by rw [hl]; exact hi)] at h ⊢
 simp only [Option.getD_some, Option.map_some] at h ⊢
 rw [h]
theorem qdx9 {x idx : Nat} (key : IntKind.u64.wrap (bits BinOp.and IntKind.u64 (x : Int) (IntKind.u64.wrap (-(x : Int))) * 285870213051353865) / 288230376151711744 = (idx : Int)) :
  (IntKind.u64.wrap (bits BinOp.and IntKind.u64 (x : Int) (IntKind.u64.wrap (0 - (x : Int))) * 285870213051353865)).fdiv (2 ^ min (58 : Int).toNat IntKind.u64.bits) = (idx : Int) := by
 rw [← key, Int.zero_sub]
 have h58 : min (58 : Int).toNat IntKind.u64.bits = 58 := by decide
 have : (2 : Int) ^ 58 = 288230376151711744 := by simp
 rw [h58, this, Int.fdiv_eq_ediv_of_nonneg _ (by omega)]
theorem xdN9 (x : Nat) (h0 : x ≠ 0) (h : x < 18446744073709551616) : ∃ idx, idx < 64 ∧ Lib.ctz 64 x < 64 ∧ tzG.getD idx .top = .int .u8 ((Lib.ctz 64 x : Nat) : Int) ∧
  (IntKind.u64.wrap (bits BinOp.and IntKind.u64 (x : Int) (IntKind.u64.wrap (0 - (x : Int))) * 285870213051353865)).fdiv (2 ^ min (58 : Int).toNat IntKind.u64.bits) = (idx : Int) := by
 have e64 : (2 : Nat) ^ 64 = 18446744073709551616 := by decide
 obtain ⟨hlow, hk⟩ := Lib.lowest_bit 64 x h0 (by rw [e64]; exact h)
 rw [e64] at hlow
 obtain ⟨hi, htab⟩ := Lib.deBruijn64_at _ hk
 exact ⟨_, hi, hk, kdw9 hi htab, qdx9 (tz64_key x _ h h0 hlow)⟩
theorem zdx9 : tzG.length = 64 := rfl
set_option maxRecDepth 100000 in
theorem tz74 (x : Nat) (h0 : x ≠ 0) (h : x < 18446744073709551616) : PC Tryz.prog G0 66 [.int .u64 x] (.int .i64 (Lib.ctz 64 x : Nat)) := by
 obtain ⟨idx, hi, hk, hcell, key2⟩ := xdN9 x h0 h
 have hlen := zdx9
 have h00 : ¬ ((x : Int) = 0) := by omega
 generalize Lib.ctz 64 x = cz at *
 have hG : G0 0 = some tzG := rfl
 generalize tzG = T at *
 have hwr : IntKind.i64.wrap (cz : Int) = cz := by rw [vaC9 _ (by omega) (by omega)]
 have hi2 : (idx : Int) < 64 := by omega
 clear h
 refine vd0 0 14 [.tmp 2] Tryz.func66 rfl rfl rfl (by simp) ?_
 intro s ⟨a0, hz⟩
 clear hz
 repeat' (first|(first|(with_reducible refine xax9 (p := [0, 1, 1]) ?_)|refine nav ?_|(refine g0_ ?_; first|refine goD ?_))|(with_reducible refine gG ?_ ?_)|((with_reducible refine And.intro (fun h => ?_) (fun h => ?_)) <;> try (exfalso; omega))|(with_reducible refine andG ?_)|fail|simp (disch := (first|exact za0|fail)) only [push_cast, ↓reduceIte, reduceIte, reduceCtorEq, Nat.reduceAdd, Nat.reduceLT, Nat.reduceEqDiff, Nat.reduceLeDiff, Int.reduceAdd, Int.reduceLT, Int.reduceLE, Nat.reduceMul, a0, h00, hG, hlen, hcell, key2, evS, hi2, hwr, Nat.mul_one])
 refine Halt.mk ?_
 repeat' (first|((first|refine nav ?_|(refine g0_ ?_; refine goD ?_)) <;> (try simp (disch := (first|exact za0|fail)) only [push_cast, ↓reduceIte, reduceIte, reduceCtorEq, Nat.reduceAdd, Nat.reduceLT, Nat.reduceEqDiff, Nat.reduceLeDiff, Int.reduceAdd, Int.reduceLT, Int.reduceLE, Nat.reduceMul, a0, h00, hG, hlen, hcell, key2, evS, hi2, hwr, Nat.mul_one]))|(with_reducible refine gG ?_ ?_)|((with_reducible refine And.intro (fun h => ?_) (fun h => ?_)) <;> try (exfalso; omega))|(with_reducible refine andG ?_)|fail|simp (disch := (first|exact za0|fail)) only [push_cast, ↓reduceIte, reduceIte, reduceCtorEq, Nat.reduceAdd, Nat.reduceLT, Nat.reduceEqDiff, Nat.reduceLeDiff, Int.reduceAdd, Int.reduceLT, Int.reduceLE, Nat.reduceMul, a0, h00, hG, hlen, hcell, key2, evS, hi2, hwr, Nat.mul_one])
 all_goals omega
end Go.Proofs
namespace Go.Proofs
open Go Go.V
set_option linter.unusedVariables false
set_option linter.unusedSimpArgs false
set_option maxHeartbeats 0
theorem wdN9 {l : List Int} {n : Int} (h : ∀ j, j < l.length → l.getD j 0 ≠ n) : l.contains n = false := by
 rw [Bool.eq_false_iff]
 intro q
 obtain ⟨j, hj, e⟩ := List.getElem_of_mem (List.contains_iff_mem.1 q)
 refine h j hj ?_
 rw [List.getD_eq_getElem?_getD, List.getElem?_eq_getElem hj]; exact e
theorem xdx9 {l : List Int} {n : Int} {j : Nat} (hj : j < l.length) (h : l.getD j 0 = n) : l.contains n = true := by
 rw [List.contains_iff_mem, ← h]; exact qd0 hj
set_option maxRecDepth 100000 in
theorem vby9 (z : Nat) (l : List Int) (c : Option Nat) (n : Int) (hz : l = [] ∨ z = 1) (hl : l.length ≤ 9223372036854775807) : PC Tryz.prog G0 43 [.sl z (ints l) c, .int .i64 n] (.int .i64 (if l.contains n = true then 1 else 0)) := by
 have hil := ka0 l
 have hno := wdN9 (l := l) (n := n)
 have hye := fun j => xdx9 (l := l) (n := n) (j := j)
 generalize l.contains n = R at *
 refine vd0 0 18 [.tmp 4] Tryz.func43 rfl rfl rfl (by simp) ?_
 intro s ⟨a0, a1, hz⟩
 simp only [Nat.zero_add, Nat.reduceAdd] at a1
 clear hz
 repeat' (first|refine nav ?_|(refine g0_ ?_; refine goD ?_)|(with_reducible refine gG ?_ ?_)|((with_reducible refine And.intro (fun h => ?_) (fun h => ?_)) <;> try (exfalso; omega))|(with_reducible refine andG ?_)|fail|simp (disch := (first|exact za0|fail)) only [push_cast, simprocAttr, a0, a1, hil])
 refine go_loop rfl (fun mz s' H' => ∃ k : Nat, k ≤ l.length ∧ mz = l.length - k ∧ H' = [] ∧ s' 0 = .sl z (ints l) c ∧ s' 1 = .int .i64 n ∧ s' 5 = .int .i64 k ∧ (∀ j, j < k → l.getD j 0 ≠ n)) (m := l.length) (by first|exact xb0|fail) (Weak.refl _ _) ⟨0, by omega, by omega, rfl, ?_⟩ ?_
 ·refine ⟨?_, ?_, ?_, fun j hj => by omega⟩
  all_goals simp (disch := (first|exact za0|fail)) only [push_cast, simprocAttr, a0, a1, hil]
 ·rintro mz s' H' ⟨k, hk, rfl, rfl, b0, b1, b5, ik⟩
  rcases Nat.lt_or_ge k l.length with hlt|hge
  ·obtain rfl := hz.resolve_left (by intro h; rw [h] at hlt; simp at hlt)
   have e1 := kc0 l k hlt
   have hye := hye k hlt
   have hsn := kai9 (P := fun j => l.getD j 0 ≠ n) (k := k) ik
   generalize l.getD k 0 = x at *
   by_cases h1 : x = n
   ·rw [hye h1]
    repeat' (first|refine nav ?_|(refine g0_ ?_; refine goD ?_)|(with_reducible refine gG ?_ ?_)|((with_reducible refine And.intro (fun h => ?_) (fun h => ?_)) <;> try (exfalso; omega))|(with_reducible refine andG ?_)|fail|simp (disch := (first|exact za0|fail)) only [push_cast, simprocAttr, b0, b1, b5, e1, h1, hil])
   ·have hsn := hsn h1
    repeat' (first|refine nav ?_|(refine g0_ ?_; refine goD ?_)|(with_reducible refine gG ?_ ?_)|((with_reducible refine And.intro (fun h => ?_) (fun h => ?_)) <;> try (exfalso; omega))|(with_reducible refine andG ?_)|fail|simp (disch := (first|exact za0|fail)) only [push_cast, simprocAttr, b0, b1, b5, e1, h1, hil])
    refine xa0 (l.length - (k + 1)) (by omega) (by first|exact xb0|fail) ⟨k + 1, by omega, rfl, rfl, ?_, ?_, ?_, hsn⟩
    all_goals simp (disch := (first|exact za0|fail)) only [push_cast, simprocAttr, b0, b1, b5, e1, h1, hil]
  ·obtain rfl : k = l.length := by omega
   rw [hno ik]
   repeat' (first|refine nav ?_|(refine g0_ ?_; refine goD ?_)|(with_reducible refine gG ?_ ?_)|((with_reducible refine And.intro (fun h => ?_) (fun h => ?_)) <;> try (exfalso; omega))|(with_reducible refine andG ?_)|fail|simp (disch := (first|exact za0|fail)) only [push_cast, simprocAttr, b0, b1, b5, hil])
theorem kbK9 {α : Type} {l r : List α} (d : α) (h : l.length = r.length) (hh : ∀ j, j < l.length → l.getD j d = r.getD j d) : l = r := by
 refine List.ext_getElem h fun j h1 h2 => ?_
 have := hh j h1
 simpa [h1, h2] using this
set_option maxRecDepth 100000 in
theorem qbL9 (z : Nat) (l : List Int) (c : Option Nat) (z' : Nat) (r : List Int) (c' : Option Nat) (hz : l = [] ∨ z = 1) (hz' : r = [] ∨ z' = 1) (hl : l.length ≤ 9223372036854775807) (hr : r.length ≤ 9223372036854775807) : PC Tryz.prog G0 42 [.sl z (ints l) c, .sl z' (ints r) c'] (.int .i64 (if l = r then 1 else 0)) := by
 have hil := ka0 l
 have hir := ka0 r
 by_cases hlen : l.length = r.length
 ·have hext := kbK9 (0 : Int) hlen
  refine vd0 0 26 [.tmp 4] Tryz.func42 rfl rfl rfl (by simp) ?_
  intro s ⟨a0, a1, hz⟩
  simp only [Nat.zero_add, Nat.reduceAdd] at a1
  clear hz
  repeat' (first|refine nav ?_|(refine g0_ ?_; refine goD ?_)|(with_reducible refine gG ?_ ?_)|((with_reducible refine And.intro (fun h => ?_) (fun h => ?_)) <;> try (exfalso; omega))|(with_reducible refine andG ?_)|fail|simp (disch := (first|exact za0|fail)) only [push_cast, simprocAttr, a0, a1, hil, hir, hlen])
  refine go_loop rfl (fun mz s' H' => ∃ k : Nat, k ≤ r.length ∧ mz = r.length - k ∧ H' = [] ∧ s' 0 = .sl z (ints l) c ∧ s' 1 = .sl z' (ints r) c' ∧ s' 5 = .int .i64 k ∧ (∀ j, j < k → l.getD j 0 = r.getD j 0)) (m := r.length) (by first|exact xb0|fail) (Weak.refl _ _) ⟨0, by omega, by omega, rfl, ?_⟩ ?_
  ·refine ⟨?_, ?_, ?_, fun j hj => by omega⟩
   all_goals simp (disch := (first|exact za0|fail)) only [push_cast, simprocAttr, a0, a1, hil, hir, hlen]
  ·rintro mz s' H' ⟨k, hk, rfl, rfl, b0, b1, b5, ik⟩
   rcases Nat.lt_or_ge k r.length with hlt|hge
   ·obtain rfl := hz.resolve_left (by intro h; rw [h] at hlen; simp at hlen; omega)
    obtain rfl := hz'.resolve_left (by intro h; rw [h] at hlt; simp at hlt)
    have e1 := kc0 l k (by omega)
    have e2 := kc0 r k hlt
    have hsn := kai9 (P := fun j => l.getD j 0 = r.getD j 0) (k := k) ik
    have hne : l.getD k 0 ≠ r.getD k 0 → ¬ l = r := fun h e => h (by rw [e])
    generalize l.getD k 0 = x at *
    generalize r.getD k 0 = y at *
    by_cases h1 : x = y
    ·have hsn2 := hsn h1
     subst h1
     repeat' (first|refine nav ?_|(refine g0_ ?_; refine goD ?_)|(with_reducible refine gG ?_ ?_)|((with_reducible refine And.intro (fun h => ?_) (fun h => ?_)) <;> try (exfalso; omega))|(with_reducible refine andG ?_)|fail|simp (disch := (first|exact za0|fail)) only [push_cast, simprocAttr, b0, b1, b5, e1, e2, hil, hir, hlen])
     refine xa0 (r.length - (k + 1)) (by omega) (by first|exact xb0|fail) ⟨k + 1, by omega, rfl, rfl, ?_, ?_, ?_, hsn2⟩
     all_goals simp (disch := (first|exact za0|fail)) only [push_cast, simprocAttr, b0, b1, b5, e1, e2, hil, hir, hlen]
    ·rw [if_neg (hne h1)]
     repeat' (first|refine nav ?_|(refine g0_ ?_; refine goD ?_)|(with_reducible refine gG ?_ ?_)|((with_reducible refine And.intro (fun h => ?_) (fun h => ?_)) <;> try (exfalso; omega))|(with_reducible refine andG ?_)|fail|simp (disch := (first|exact za0|fail)) only [push_cast, simprocAttr, b0, b1, b5, e1, e2, h1, hil, hir, hlen])
   ·obtain rfl : k = r.length := by omega
    rw [if_pos (hext (fun j hj => ik j (by omega)))]
    repeat' (first|refine nav ?_|(refine g0_ ?_; refine goD ?_)|(with_reducible refine gG ?_ ?_)|((with_reducible refine And.intro (fun h => ?_) (fun h => ?_)) <;> try (exfalso; omega))|(with_reducible refine andG ?_)|fail|simp (disch := (first|exact za0|fail)) only [push_cast, simprocAttr, b0, b1, b5, hil, hir, hlen])
 ·rw [if_neg (fun e => hlen (by rw [e]))]
  have hlen2 : ¬ (l.length : Int) = r.length := by omega
  refine vd0 0 26 [.tmp 4] Tryz.func42 rfl rfl rfl (by simp) ?_
  intro s ⟨a0, a1, hz⟩
  simp only [Nat.zero_add, Nat.reduceAdd] at a1
  clear hz
  repeat' (first|refine nav ?_|(refine g0_ ?_; refine goD ?_)|(with_reducible refine gG ?_ ?_)|((with_reducible refine And.intro (fun h => ?_) (fun h => ?_)) <;> try (exfalso; omega))|(with_reducible refine andG ?_)|fail|simp (disch := (first|exact za0|fail)) only [push_cast, simprocAttr, a0, a1, hil, hir, hlen, hlen2])
end Go.Proofs
