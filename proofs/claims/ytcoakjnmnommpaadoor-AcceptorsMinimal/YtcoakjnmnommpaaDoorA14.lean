import Derived.Test.YtcoakjnmnommpaaDoorA13
namespace Go.Proofs
open Go Go.V
set_option linter.unusedVariables false
set_option linter.unusedSimpArgs false
set_option maxHeartbeats 0
def bitS (b m : Nat) : List Nat := (List.range m).filter fun s => b.testBit s
theorem zcs9 (b m : Nat) : bitS b (m + 1) = if b.testBit m = true then bitS b m ++ [m] else bitS b m := by
 rw [bitS, List.range_succ, List.filter_append, ← bitS]
 by_cases h : b.testBit m = true
 ·rw [if_pos h]; congr 1; simp only [List.filter_cons, h, if_pos, List.filter_nil]
 ·rw [if_neg h]
  have h2 : b.testBit m = false := by simpa using h
  simp [List.filter_cons, h2]
theorem vbG9 (b m : Nat) : (bitS b m).length ≤ m := by
 have := List.length_filter_le (fun s : Nat => b.testBit s) (List.range m)
 rwa [List.length_range] at this
theorem qdE9 (b s : Nat) (hb : b < 256) (hs : s < 8) : bits .and .u8 ((b : Int).fdiv (2 ^ min ((s : Int).toNat) IntKind.u8.bits)) 1 = if b.testBit s = true then 1 else 0 := by
 have : ∀ b : Fin 256, ∀ s : Fin 8, bits .and .u8 (((b.1 : Nat) : Int).fdiv (2 ^ min (((s.1 : Nat) : Int).toNat) IntKind.u8.bits)) 1 = if b.1.testBit s.1 = true then 1 else 0 := by decide +kernel
 exact this ⟨b, hb⟩ ⟨s, hs⟩
set_option maxRecDepth 100000 in
theorem zcZ9 (b m : Nat) (hb : b < 256) (hm : m ≤ 8) : PC Tryd.prog G0 29 [.int .u8 b, .int .i64 m] (.sl 1 (ints (intN (bitS b m))) none) := by
 refine wd0 1 23 [.tmp 4] Tryd.func29 rfl rfl rfl (by simp) ?_
 intro s ⟨a0, a1, hz⟩
 simp only [Nat.zero_add, Nat.reduceAdd] at a1
 clear hz
 repeat' (first|refine nav ?_|(refine g0_ ?_; refine goD ?_)|(with_reducible refine gG ?_ ?_)|((with_reducible refine And.intro (fun h => ?_) (fun h => ?_)) <;> try (exfalso; omega))|(with_reducible refine andG ?_)|(refine And.intro ⟨[_], rfl⟩ ?_)|(refine And.intro ⟨[], by simp only [List.append_nil]⟩ ?_)|fail|simp (disch := (first|exact discB|fail)) only [push_cast, ↓reduceIte, reduceCtorEq, Nat.reduceAdd, Nat.reduceLT, Nat.reduceEqDiff, Nat.reduceLeDiff, Int.reduceAdd, Int.reduceLT, Int.reduceLE, Nat.reduceMul, a0, a1])
 refine go_loop rfl (fun mz s' H' => ∃ s : Nat, s ≤ m ∧ mz = m - s ∧ H' = [.row 1 3 (ints (intN (bitS b s)))] ∧ s' 0 = .int .u8 b ∧ s' 1 = .int .i64 m ∧ s' 5 = .own 0 (bitS b s).length (bitS b s).length none ∧ s' 6 = .int .i64 s) (m := m) (by first|exact wa0|fail) (xv0 (t := 5) (sz := 1) (ty := 3) rfl) ⟨0, by omega, by omega, rfl, ?_⟩ ?_
 ·simp (disch := (first|exact discB|fail)) only [push_cast, ↓reduceIte, reduceCtorEq, Nat.reduceAdd, Nat.reduceLT, Nat.reduceEqDiff, Nat.reduceLeDiff, Int.reduceAdd, Int.reduceLT, Int.reduceLE, Nat.reduceMul, a0, a1]
  rfl
 ·rintro mz s' H' ⟨s, hs, rfl, rfl, b0, b1, b5, b6⟩
  have hll := vbG9 b s
  have hml : (ints (intN (bitS b s))).length = (bitS b s).length := by rw [za0, intN_len]
  have et : (ints (intN (bitS b s))).take (bitS b s).length = ints (intN (bitS b s)) := List.take_of_length_le (by omega)
  have ed : (ints (intN (bitS b s))).drop ((bitS b s).length + 1) = [] := List.drop_eq_nil_of_le (by omega)
  rcases Nat.lt_or_ge s m with hlt|hge
  ·have hsu := zcs9 b s
   have hbit := qdE9 b s hb (by omega)
   rw [Int.toNat_natCast] at hbit
   have hsn := vk0 (intN (bitS b s)) (s : Int)
   rw [← kk0] at hsn
   have hwr : IntKind.u64.wrap (s : Int) = s := kab9 s (by omega)
   cases hq : b.testBit s with
   | true =>
    rw [hq, if_pos rfl] at hsu
    rw [hq, if_pos rfl] at hbit
    repeat' (first|refine nav ?_|(refine g0_ ?_; refine goD ?_)|(with_reducible refine gG ?_ ?_)|((with_reducible refine And.intro (fun h => ?_) (fun h => ?_)) <;> try (exfalso; omega))|(with_reducible refine andG ?_)|(refine And.intro ⟨[_], rfl⟩ ?_)|(refine And.intro ⟨[], by simp only [List.append_nil]⟩ ?_)|fail|simp (disch := (first|exact discB|fail)) only [push_cast, ↓reduceIte, reduceCtorEq, Nat.reduceAdd, Nat.reduceLT, Nat.reduceEqDiff, Nat.reduceLeDiff, Int.reduceAdd, Int.reduceLT, Int.reduceLE, Nat.reduceMul, b0, b1, b5, b6, hml, et, ed, hbit, hwr])
    refine qa0 (m - (s + 1)) (by omega) (by first|exact wa0|fail) ⟨s + 1, by omega, rfl, by rw [hsu, ← hsn], ?_⟩
    rw [hsu]
    simp (disch := (first|exact discB|fail)) only [push_cast, ↓reduceIte, reduceCtorEq, Nat.reduceAdd, Nat.reduceLT, Nat.reduceEqDiff, Nat.reduceLeDiff, Int.reduceAdd, Int.reduceLT, Int.reduceLE, Nat.reduceMul, b0, b1, b5, b6, hml, et, ed, hbit, hwr]
   | false =>
    rw [hq, if_neg (by simp)] at hsu
    rw [hq, if_neg (by simp)] at hbit
    repeat' (first|refine nav ?_|(refine g0_ ?_; refine goD ?_)|(with_reducible refine gG ?_ ?_)|((with_reducible refine And.intro (fun h => ?_) (fun h => ?_)) <;> try (exfalso; omega))|(with_reducible refine andG ?_)|(refine And.intro ⟨[_], rfl⟩ ?_)|(refine And.intro ⟨[], by simp only [List.append_nil]⟩ ?_)|fail|simp (disch := (first|exact discB|fail)) only [push_cast, ↓reduceIte, reduceCtorEq, Nat.reduceAdd, Nat.reduceLT, Nat.reduceEqDiff, Nat.reduceLeDiff, Int.reduceAdd, Int.reduceLT, Int.reduceLE, Nat.reduceMul, b0, b1, b5, b6, hml, et, ed, hbit, hwr])
    refine qa0 (m - (s + 1)) (by omega) (by first|exact wa0|fail) ⟨s + 1, by omega, rfl, by rw [hsu], ?_⟩
    rw [hsu]
    simp (disch := (first|exact discB|fail)) only [push_cast, ↓reduceIte, reduceCtorEq, Nat.reduceAdd, Nat.reduceLT, Nat.reduceEqDiff, Nat.reduceLeDiff, Int.reduceAdd, Int.reduceLT, Int.reduceLE, Nat.reduceMul, b0, b1, b5, b6, hml, et, ed, hbit, hwr]
  ·obtain rfl : s = m := by omega
   repeat' (first|refine nav ?_|(refine g0_ ?_; refine goD ?_)|(with_reducible refine gG ?_ ?_)|((with_reducible refine And.intro (fun h => ?_) (fun h => ?_)) <;> try (exfalso; omega))|(with_reducible refine andG ?_)|(refine And.intro ⟨[_], rfl⟩ ?_)|(refine And.intro ⟨[], by simp only [List.append_nil]⟩ ?_)|fail|simp (disch := (first|exact discB|fail)) only [push_cast, ↓reduceIte, reduceCtorEq, Nat.reduceAdd, Nat.reduceLT, Nat.reduceEqDiff, Nat.reduceLeDiff, Int.reduceAdd, Int.reduceLT, Int.reduceLE, Nat.reduceMul, b0, b1, b5, b6, hml, et])
def wrdN (w : List Nat) (A : Nat) : List Nat := (w.take 40).map fun x => x % A
def u8s (w : List Nat) : List (List AV) := w.map fun x => [.int .u8 (x : Nat)]
end Go.Proofs
