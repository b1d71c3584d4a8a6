import Derived.Test.YtfdnlhegmdhcjaaDoorF12
import Derived.Test.YtfdnlhegmdhcjaaDoorF10
namespace Go.Proofs
open Go Go.V
set_option linter.unusedVariables false
set_option linter.unusedSimpArgs false
set_option maxHeartbeats 0
def kindsB (b n : Nat) : List Int := (List.range n).flatMap fun (k : Nat) => if b / 2 ^ k % 2 = 1 then [(k : Int)] else []
theorem kindsB_succ (b n : Nat) : kindsB b (n + 1) = if b / 2 ^ n % 2 = 1 then kindsB b n ++ [(n : Int)] else kindsB b n := by
 rw [kindsB, List.range_succ, List.flatMap_append]
 split <;> simp [kindsB, *]
theorem kindsB_len (b : Nat) : ∀ n, (kindsB b n).length ≤ n
 | 0 => by simp [kindsB]
 | n + 1 => by rw [kindsB_succ]; have := kindsB_len b n; split <;> simp <;> omega
set_option maxRecDepth 100000 in
theorem kinds24 (b : Nat) (hb : b < 256) : PC Tryd.prog G0 24 [.int .u8 b] (.sl 1 (ints (kindsB b 5)) none) := by
 refine pc_go 1 19 [.tmp 2] Tryd.func24 rfl rfl rfl (by simp) ?_
 intro s ⟨a0, hz⟩
 clear hz
 repeat' (first|(first|(refine a0_ ?_; first|refine a1_ rfl rfl ?_|refine a2_ rfl ?_|refine a3_ rfl rfl ?_|refine a4_ rfl ?_|refine ak_ rfl rfl ?_|refine a5_ rfl rfl rfl ?_|refine a6_ rfl rfl ?_|refine a7_ rfl rfl ?_|refine a8_ rfl rfl ?_|refine a9_ rfl rfl rfl ?_)|(refine g0_ ?_; first|refine g1_ rfl ?_|refine g2_ rfl rfl ?_|refine go_draw (dr := allQ) rfl rfl mixed (by first|assumption|kernel_rfl) ?_|refine g4_ rfl ?_|refine g5_ rfl ?_|refine g6_ rfl ?_|refine g7_ rfl ?_|refine g8_ rfl ?_|refine ga_ rfl ?_|refine gb_ rfl ?_)|(refine o0_ ?_; first|refine o1_ ?_|refine o2_ ?_|refine o3_ ?_|refine o4_ ?_|refine o5_ ?_|refine o6_ rfl ?_|refine o7_ rfl ?_|refine o8_ ?_|refine o9_ ?_|refine oa_ ?_|refine ob_ ?_|refine oc_ ?_|refine od_ ?_|refine oe_ ?_|refine of_ ?_|refine og_ ?_|refine oh_ ?_|refine oi_ ?_|refine oj_ ?_|refine ok_ ?_))|refine at_go ?_|(with_reducible refine And.intro (at_go ?_) (at_go ?_))|((with_reducible refine And.intro (fun h => ?_) (fun h => ?_)) <;> try (exfalso; omega))|(with_reducible refine And.intro (by first|omega|(simp only [maxLen]; omega)) ?_)|(refine And.intro ⟨[_], rfl⟩ ?_)|fail|simp (disch := first|omega|(simp only [length_rowsA, length_rowA, length_fls, length_ints, List.length_set, List.length_reverse, List.length_replicate, List.length_append, List.length_cons, List.length_nil, List.length_map]; omega)) only [push_cast, ↓reduceIte, reduceIte, reduceCtorEq, Nat.reduceAdd, Nat.reduceLT, Nat.reduceEqDiff, Nat.reduceLeDiff, Int.reduceAdd, Int.reduceLT, Int.reduceLE, Nat.reduceMul, a0])
 refine go_weak (by (first|trivial|((repeat' apply And.intro) <;> first|trivial|assumption|omega|(simp only [maxLen]; omega)|(simp only [length_rowsA, length_rowA, length_fls, length_ints, List.length_replicate, List.length_append, List.length_cons, List.length_nil, List.length_map, List.length_take, List.length_drop, List.length_set, List.length_reverse, maxLen] <;> omega)))) (weak_nil (t := 3) (sz := 1) (ty := 3) rfl) ?_
 refine go_loop rfl (fun mz s' H' => ∃ k : Nat, k ≤ 5 ∧ mz = 5 - k ∧ H' = [.row 1 3 (ints (kindsB b k))] ∧ s' 0 = .int .u8 b ∧ s' 3 = .own 0 (kindsB b k).length (kindsB b k).length none ∧ s' 4 = .int .i64 k) (m := 5) (by (first|trivial|((repeat' apply And.intro) <;> first|trivial|assumption|omega|(simp only [maxLen]; omega)|(simp only [length_rowsA, length_rowA, length_fls, length_ints, List.length_replicate, List.length_append, List.length_cons, List.length_nil, List.length_map, List.length_take, List.length_drop, List.length_set, List.length_reverse, maxLen] <;> omega)))) (Weak.refl _ _) ⟨0, by omega, by omega, (by first|rfl|simp [kindsB, ints, List.range_zero, List.flatMap_nil, List.map_nil]), ?_⟩ ?_
 ·simp (disch := first|omega|(simp only [length_rowsA, length_rowA, length_fls, length_ints, List.length_set, List.length_reverse, List.length_replicate, List.length_append, List.length_cons, List.length_nil, List.length_map]; omega)) only [push_cast, ↓reduceIte, reduceIte, reduceCtorEq, Nat.reduceAdd, Nat.reduceLT, Nat.reduceEqDiff, Nat.reduceLeDiff, Int.reduceAdd, Int.reduceLT, Int.reduceLE, Nat.reduceMul, a0]
  simp [kindsB]
 ·rintro mz s' H' ⟨k, hk, rfl, rfl, b0, b3, b4⟩
  have hn := kindsB_len b k
  rcases Nat.lt_or_ge k 5 with hlt|hge
  ·have hs := kindsB_succ b k
   have h1 : (b : Int).fdiv (2 ^ min k 8) = ((b / 2 ^ k : Nat) : Int) := by
    rw [Nat.min_eq_left (by omega)]
    rw [show (2 : Int) ^ k = ((2 ^ k : Nat) : Int) by norm_cast, Int.fdiv_eq_ediv_of_nonneg _ (Int.natCast_nonneg _)]
    rfl
   have h2 : b / 2 ^ k ≤ 255 := Nat.le_trans (Nat.div_le_self _ _) (by omega)
   have hbits : IntKind.u8.bits = 8 := rfl
   generalize b / 2 ^ k = y at *
   obtain ⟨r, hr⟩ : ∃ r, r = y % 2 := ⟨_, rfl⟩
   have h3 : (y : Int).tmod 2 = (r : Int) := by rw [hr]; rfl
   rw [← hr] at hs
   have hsn := ints_snoc (kindsB b k) k
   generalize kindsB b k = L at *
   have t1 : (ints L).take L.length = ints L := List.take_of_length_le (by rw [length_ints]; omega)
   have t2 : (ints L).drop (L.length + 1) = [] := List.drop_eq_nil_of_le (by rw [length_ints]; omega)
   repeat' (first|(first|(refine a0_ ?_; first|refine a1_ rfl rfl ?_|refine a2_ rfl ?_|refine a3_ rfl rfl ?_|refine a4_ rfl ?_|refine ak_ rfl rfl ?_|refine a5_ rfl rfl rfl ?_|refine a6_ rfl rfl ?_|refine a7_ rfl rfl ?_|refine a8_ rfl rfl ?_|refine a9_ rfl rfl rfl ?_)|(refine g0_ ?_; first|refine g1_ rfl ?_|refine g2_ rfl rfl ?_|refine go_draw (dr := allQ) rfl rfl mixed (by first|assumption|kernel_rfl) ?_|refine g4_ rfl ?_|refine g5_ rfl ?_|refine g6_ rfl ?_|refine g7_ rfl ?_|refine g8_ rfl ?_|refine ga_ rfl ?_|refine gb_ rfl ?_)|(refine o0_ ?_; first|refine o1_ ?_|refine o2_ ?_|refine o3_ ?_|refine o4_ ?_|refine o5_ ?_|refine o6_ rfl ?_|refine o7_ rfl ?_|refine o8_ ?_|refine o9_ ?_|refine oa_ ?_|refine ob_ ?_|refine oc_ ?_|refine od_ ?_|refine oe_ ?_|refine of_ ?_|refine og_ ?_|refine oh_ ?_|refine oi_ ?_|refine oj_ ?_|refine ok_ ?_))|refine at_go ?_|(with_reducible refine And.intro (at_go ?_) (at_go ?_))|((with_reducible refine And.intro (fun h => ?_) (fun h => ?_)) <;> try (exfalso; omega))|(with_reducible refine And.intro (by first|omega|(simp only [maxLen]; omega)) ?_)|(refine And.intro ⟨[_], rfl⟩ ?_)|fail|simp (disch := first|omega|(simp only [length_rowsA, length_rowA, length_fls, length_ints, List.length_set, List.length_reverse, List.length_replicate, List.length_append, List.length_cons, List.length_nil, List.length_map]; omega)) only [push_cast, ↓reduceIte, reduceIte, reduceCtorEq, Nat.reduceAdd, Nat.reduceLT, Nat.reduceEqDiff, Nat.reduceLeDiff, Int.reduceAdd, Int.reduceLT, Int.reduceLE, Nat.reduceMul, b0, b3, b4, h1, h3, hbits, t1, t2, Int.toNat_natCast])
   ·have hs' : kindsB b (k + 1) = L ++ [(k : Int)] := by rw [hs, if_pos (by omega)]
    refine out_round (5 - (k + 1)) (by omega) (by (first|trivial|((repeat' apply And.intro) <;> first|trivial|assumption|omega|(simp only [maxLen]; omega)|(simp only [length_rowsA, length_rowA, length_fls, length_ints, List.length_replicate, List.length_append, List.length_cons, List.length_nil, List.length_map, List.length_take, List.length_drop, List.length_set, List.length_reverse, maxLen] <;> omega)))) ⟨k + 1, by omega, rfl, by rw [hs', ← hsn], ?_⟩
    simp (disch := first|omega|(simp only [length_rowsA, length_rowA, length_fls, length_ints, List.length_set, List.length_reverse, List.length_replicate, List.length_append, List.length_cons, List.length_nil, List.length_map]; omega)) only [push_cast, ↓reduceIte, reduceIte, reduceCtorEq, Nat.reduceAdd, Nat.reduceLT, Nat.reduceEqDiff, Nat.reduceLeDiff, Int.reduceAdd, Int.reduceLT, Int.reduceLE, Nat.reduceMul, b0, b3, b4, h1, h3, hbits, t1, t2, Int.toNat_natCast]
    rw [hs']; simp
   ·have hs' : kindsB b (k + 1) = L := by rw [hs, if_neg (by omega)]
    refine out_round (5 - (k + 1)) (by omega) (by (first|trivial|((repeat' apply And.intro) <;> first|trivial|assumption|omega|(simp only [maxLen]; omega)|(simp only [length_rowsA, length_rowA, length_fls, length_ints, List.length_replicate, List.length_append, List.length_cons, List.length_nil, List.length_map, List.length_take, List.length_drop, List.length_set, List.length_reverse, maxLen] <;> omega)))) ⟨k + 1, by omega, rfl, by rw [hs'], ?_⟩
    simp (disch := first|omega|(simp only [length_rowsA, length_rowA, length_fls, length_ints, List.length_set, List.length_reverse, List.length_replicate, List.length_append, List.length_cons, List.length_nil, List.length_map]; omega)) only [push_cast, ↓reduceIte, reduceIte, reduceCtorEq, Nat.reduceAdd, Nat.reduceLT, Nat.reduceEqDiff, Nat.reduceLeDiff, Int.reduceAdd, Int.reduceLT, Int.reduceLE, Nat.reduceMul, b0, b3, b4, h1, h3, hbits, t1, t2, Int.toNat_natCast]
    rw [hs']
  ·obtain rfl : k = 5 := by omega
   repeat' (first|(first|(refine a0_ ?_; first|refine a1_ rfl rfl ?_|refine a2_ rfl ?_|refine a3_ rfl rfl ?_|refine a4_ rfl ?_|refine ak_ rfl rfl ?_|refine a5_ rfl rfl rfl ?_|refine a6_ rfl rfl ?_|refine a7_ rfl rfl ?_|refine a8_ rfl rfl ?_|refine a9_ rfl rfl rfl ?_)|(refine g0_ ?_; first|refine g1_ rfl ?_|refine g2_ rfl rfl ?_|refine go_draw (dr := allQ) rfl rfl mixed (by first|assumption|kernel_rfl) ?_|refine g4_ rfl ?_|refine g5_ rfl ?_|refine g6_ rfl ?_|refine g7_ rfl ?_|refine g8_ rfl ?_|refine ga_ rfl ?_|refine gb_ rfl ?_)|(refine o0_ ?_; first|refine o1_ ?_|refine o2_ ?_|refine o3_ ?_|refine o4_ ?_|refine o5_ ?_|refine o6_ rfl ?_|refine o7_ rfl ?_|refine o8_ ?_|refine o9_ ?_|refine oa_ ?_|refine ob_ ?_|refine oc_ ?_|refine od_ ?_|refine oe_ ?_|refine of_ ?_|refine og_ ?_|refine oh_ ?_|refine oi_ ?_|refine oj_ ?_|refine ok_ ?_))|refine at_go ?_|(with_reducible refine And.intro (at_go ?_) (at_go ?_))|((with_reducible refine And.intro (fun h => ?_) (fun h => ?_)) <;> try (exfalso; omega))|(with_reducible refine And.intro (by first|omega|(simp only [maxLen]; omega)) ?_)|(refine And.intro ⟨[_], rfl⟩ ?_)|fail|simp (disch := first|omega|(simp only [length_rowsA, length_rowA, length_fls, length_ints, List.length_set, List.length_reverse, List.length_replicate, List.length_append, List.length_cons, List.length_nil, List.length_map]; omega)) only [push_cast, ↓reduceIte, reduceIte, reduceCtorEq, Nat.reduceAdd, Nat.reduceLT, Nat.reduceEqDiff, Nat.reduceLeDiff, Int.reduceAdd, Int.reduceLT, Int.reduceLE, Nat.reduceMul, b0, b3, b4])
theorem kindsB_ok (b : Nat) (hb : b < 256) : kindsOk (kindsB b 5) = true := by
 have : ∀ b : Fin 256, kindsOk (kindsB b.1 5) = true := by decide +kernel
 exact this ⟨b, hb⟩
theorem fls_ne (f g : Flt) : (decide (f.k = g.k) && (decide (f.s = g.s) && (decide (f.i = g.i) && (decide (f.t = g.t) && (decide (f.a = g.a) && decide (f.o = g.o)))))) = decide (f = g) := by
 obtain ⟨a, b, c, d, e, h⟩ := f
 obtain ⟨a', b', c', d', e', h'⟩ := g
 apply Bool.eq_iff_iff.mpr
 simp
theorem eqA_33 (d : Nat) (a b c e f g a' b' c' e' f' g' : Int) : eqA Tryd.prog (d + 2) 33 (.agg [.int .i64 a, .int .i64 b, .int .i64 c, .int .i64 e, .int .i64 f, .int .i64 g]) (.agg [.int .i64 a', .int .i64 b', .int .i64 c', .int .i64 e', .int .i64 f', .int .i64 g']) = (true, decide (a = a') && (decide (b = b') && (decide (c = c') && (decide (e = e') && (decide (f = f') && decide (g = g')))))) := by
 rw [eqA_struct (shp_of ti33)]
 simp only [List.foldr_cons, List.foldr_nil, ti3, eqPair_one]
 simp [eqA_3, cut, fitsAt]
theorem eq33 (f g : Flt) : eqA Tryd.prog 8 33 (.agg (flA f)) (.agg (flA g)) = (true, decide (f = g)) := by
 unfold flA
 rw [eqA_33 6, fls_ne]
theorem eq33u (a b c e f g a' b' c' e' f' g' : Int) : eqA Tryd.prog 8 33 (.agg [.int .i64 a, .int .i64 b, .int .i64 c, .int .i64 e, .int .i64 f, .int .i64 g]) (.agg [.int .i64 a', .int .i64 b', .int .i64 c', .int .i64 e', .int .i64 f', .int .i64 g']) = (true, decide ((⟨a, b, c, e, f, g⟩ : Flt) = ⟨a', b', c', e', f', g'⟩)) := eq33 ⟨a, b, c, e, f, g⟩ ⟨a', b', c', e', f', g'⟩
set_option maxRecDepth 100000 in
theorem same27 (a b : List Flt) (z y : Nat) (c d : Option Nat) (hz : a = [] ∨ z = 6) (hy : b = [] ∨ y = 6) (hl : a.length ≤ 1000000) (hc : c = some a.length) : PC Tryd.prog G0 27 [.sl z (fls a) c, .sl y (fls b) d] (.bool (decide (a = b))) := by
 subst hc
 refine pc_go 0 33 [.tmp 4] Tryd.func27 rfl rfl rfl (by simp) ?_
 intro s ⟨a0, a1, hz⟩
 simp only [Nat.zero_add, Nat.reduceAdd] at a1
 clear hz
 repeat' (first|(first|(refine a0_ ?_; first|refine a1_ rfl rfl ?_|refine a2_ rfl ?_|refine a3_ rfl rfl ?_|refine a4_ rfl ?_|refine ak_ rfl rfl ?_|refine a5_ rfl rfl rfl ?_|refine a6_ rfl rfl ?_|refine a7_ rfl rfl ?_|refine a8_ rfl rfl ?_|refine a9_ rfl rfl rfl ?_)|(refine g0_ ?_; first|refine g1_ rfl ?_|refine g2_ rfl rfl ?_|refine go_draw (dr := allQ) rfl rfl mixed (by first|assumption|kernel_rfl) ?_|refine g4_ rfl ?_|refine g5_ rfl ?_|refine g6_ rfl ?_|refine g7_ rfl ?_|refine g8_ rfl ?_|refine ga_ rfl ?_|refine gb_ rfl ?_)|(refine o0_ ?_; first|refine o1_ ?_|refine o2_ ?_|refine o3_ ?_|refine o4_ ?_|refine o5_ ?_|refine o6_ rfl ?_|refine o7_ rfl ?_|refine o8_ ?_|refine o9_ ?_|refine oa_ ?_|refine ob_ ?_|refine oc_ ?_|refine od_ ?_|refine oe_ ?_|refine of_ ?_|refine og_ ?_|refine oh_ ?_|refine oi_ ?_|refine oj_ ?_|refine ok_ ?_))|refine at_go ?_|(with_reducible refine And.intro (at_go ?_) (at_go ?_))|((with_reducible refine And.intro (fun h => ?_) (fun h => ?_)) <;> try (exfalso; omega))|(with_reducible refine And.intro (by first|omega|(simp only [maxLen]; omega)) ?_)|(refine And.intro ⟨[_], rfl⟩ ?_)|fail|simp (disch := first|omega|(simp only [length_rowsA, length_rowA, length_fls, length_ints, List.length_set, List.length_reverse, List.length_replicate, List.length_append, List.length_cons, List.length_nil, List.length_map]; omega)) only [push_cast, ↓reduceIte, reduceIte, reduceCtorEq, Nat.reduceAdd, Nat.reduceLT, Nat.reduceEqDiff, Nat.reduceLeDiff, Int.reduceAdd, Int.reduceLT, Int.reduceLE, Nat.reduceMul, a0, a1])
 ·rw [decide_eq_false]
  intro hh
  rw [hh] at h; omega
 ·refine go_loop rfl (fun mz s' H' => ∃ k : Nat, k ≤ a.length ∧ mz = a.length - k ∧ H' = [] ∧ s' 0 = .sl z (fls a) (some a.length) ∧ s' 1 = .sl y (fls b) d ∧ s' 5 = .int .i64 k ∧ ∀ j, j < k → a.getD j fl0 = b.getD j fl0) (m := a.length) (by (first|trivial|((repeat' apply And.intro) <;> first|trivial|assumption|omega|(simp only [maxLen]; omega)|(simp only [length_rowsA, length_rowA, length_fls, length_ints, List.length_replicate, List.length_append, List.length_cons, List.length_nil, List.length_map, List.length_take, List.length_drop, List.length_set, List.length_reverse, maxLen] <;> omega)))) (Weak.refl _ _) ⟨0, by omega, by omega, (by first|rfl|simp [kindsB, ints, List.range_zero, List.flatMap_nil, List.map_nil]), ?_⟩ ?_
  ·simp (disch := first|omega|(simp only [length_rowsA, length_rowA, length_fls, length_ints, List.length_set, List.length_reverse, List.length_replicate, List.length_append, List.length_cons, List.length_nil, List.length_map]; omega)) only [push_cast, ↓reduceIte, reduceIte, reduceCtorEq, Nat.reduceAdd, Nat.reduceLT, Nat.reduceEqDiff, Nat.reduceLeDiff, Int.reduceAdd, Int.reduceLT, Int.reduceLE, Nat.reduceMul, a0, a1]
   exact fun j hj => by omega
  ·rintro mz s' H' ⟨k, hk, rfl, rfl, b0, b1, b5, ik⟩
   rcases Nat.lt_or_ge k a.length with hlt|hge
   ·have hlt2 : k < b.length := by omega
    obtain rfl := hz.resolve_left (by intro q; rw [q] at hlt; simp at hlt)
    obtain rfl := hy.resolve_left (by intro q; rw [q] at hlt2; simp at hlt2)
    have e1 := getD_fls a k hlt
    have e2 := getD_fls b k hlt2
    have hs := snocB (P := fun j => a.getD j fl0 = b.getD j fl0) (k := k) ik
    have hno : a.getD k fl0 ≠ b.getD k fl0 → a ≠ b := fun h hh => h (by rw [hh])
    generalize a.getD k fl0 = f at *
    generalize b.getD k fl0 = g at *
    obtain ⟨f1, f2, f3, f4, f5, f6⟩ := f
    obtain ⟨g1, g2, g3, g4, g5, g6⟩ := g
    simp only [flA] at e1 e2
    repeat' (first|(first|(refine a0_ ?_; first|refine a1_ rfl rfl ?_|refine a2_ rfl ?_|refine a3_ rfl rfl ?_|refine a4_ rfl ?_|refine ak_ rfl rfl ?_|refine a5_ rfl rfl rfl ?_|refine a6_ rfl rfl ?_|refine a7_ rfl rfl ?_|refine a8_ rfl rfl ?_|refine a9_ rfl rfl rfl ?_)|(refine g0_ ?_; first|refine g1_ rfl ?_|refine g2_ rfl rfl ?_|refine go_draw (dr := allQ) rfl rfl mixed (by first|assumption|kernel_rfl) ?_|refine g4_ rfl ?_|refine g5_ rfl ?_|refine g6_ rfl ?_|refine g7_ rfl ?_|refine g8_ rfl ?_|refine ga_ rfl ?_|refine gb_ rfl ?_)|(refine o0_ ?_; first|refine o1_ ?_|refine o2_ ?_|refine o3_ ?_|refine o4_ ?_|refine o5_ ?_|refine o6_ rfl ?_|refine o7_ rfl ?_|refine o8_ ?_|refine o9_ ?_|refine oa_ ?_|refine ob_ ?_|refine oc_ ?_|refine od_ ?_|refine oe_ ?_|refine of_ ?_|refine og_ ?_|refine oh_ ?_|refine oi_ ?_|refine oj_ ?_|refine ok_ ?_))|refine at_go ?_|(with_reducible refine And.intro (at_go ?_) (at_go ?_))|((with_reducible refine And.intro (fun h => ?_) (fun h => ?_)) <;> try (exfalso; omega))|(with_reducible refine And.intro (by first|omega|(simp only [maxLen]; omega)) ?_)|(refine And.intro ⟨[_], rfl⟩ ?_)|fail|simp (disch := first|omega|(simp only [length_rowsA, length_rowA, length_fls, length_ints, List.length_set, List.length_reverse, List.length_replicate, List.length_append, List.length_cons, List.length_nil, List.length_map]; omega)) only [push_cast, ↓reduceIte, reduceIte, reduceCtorEq, Nat.reduceAdd, Nat.reduceLT, Nat.reduceEqDiff, Nat.reduceLeDiff, Int.reduceAdd, Int.reduceLT, Int.reduceLE, Nat.reduceMul, b0, b1, b5, e1, e2, eq33u])
    ·rw [decide_eq_false]
     exact hno h
    ·refine out_round (a.length - (k + 1)) (by omega) (by (first|trivial|((repeat' apply And.intro) <;> first|trivial|assumption|omega|(simp only [maxLen]; omega)|(simp only [length_rowsA, length_rowA, length_fls, length_ints, List.length_replicate, List.length_append, List.length_cons, List.length_nil, List.length_map, List.length_take, List.length_drop, List.length_set, List.length_reverse, maxLen] <;> omega)))) ⟨k + 1, by omega, rfl, rfl, ?_⟩
     simp (disch := first|omega|(simp only [length_rowsA, length_rowA, length_fls, length_ints, List.length_set, List.length_reverse, List.length_replicate, List.length_append, List.length_cons, List.length_nil, List.length_map]; omega)) only [push_cast, ↓reduceIte, reduceIte, reduceCtorEq, Nat.reduceAdd, Nat.reduceLT, Nat.reduceEqDiff, Nat.reduceLeDiff, Int.reduceAdd, Int.reduceLT, Int.reduceLE, Nat.reduceMul, b0, b1, b5, e1, e2, eq33u]
     exact hs h
   ·obtain rfl : k = a.length := by omega
    repeat' (first|(first|(refine a0_ ?_; first|refine a1_ rfl rfl ?_|refine a2_ rfl ?_|refine a3_ rfl rfl ?_|refine a4_ rfl ?_|refine ak_ rfl rfl ?_|refine a5_ rfl rfl rfl ?_|refine a6_ rfl rfl ?_|refine a7_ rfl rfl ?_|refine a8_ rfl rfl ?_|refine a9_ rfl rfl rfl ?_)|(refine g0_ ?_; first|refine g1_ rfl ?_|refine g2_ rfl rfl ?_|refine go_draw (dr := allQ) rfl rfl mixed (by first|assumption|kernel_rfl) ?_|refine g4_ rfl ?_|refine g5_ rfl ?_|refine g6_ rfl ?_|refine g7_ rfl ?_|refine g8_ rfl ?_|refine ga_ rfl ?_|refine gb_ rfl ?_)|(refine o0_ ?_; first|refine o1_ ?_|refine o2_ ?_|refine o3_ ?_|refine o4_ ?_|refine o5_ ?_|refine o6_ rfl ?_|refine o7_ rfl ?_|refine o8_ ?_|refine o9_ ?_|refine oa_ ?_|refine ob_ ?_|refine oc_ ?_|refine od_ ?_|refine oe_ ?_|refine of_ ?_|refine og_ ?_|refine oh_ ?_|refine oi_ ?_|refine oj_ ?_|refine ok_ ?_))|refine at_go ?_|(with_reducible refine And.intro (at_go ?_) (at_go ?_))|((with_reducible refine And.intro (fun h => ?_) (fun h => ?_)) <;> try (exfalso; omega))|(with_reducible refine And.intro (by first|omega|(simp only [maxLen]; omega)) ?_)|(refine And.intro ⟨[_], rfl⟩ ?_)|fail|simp (disch := first|omega|(simp only [length_rowsA, length_rowA, length_fls, length_ints, List.length_set, List.length_reverse, List.length_replicate, List.length_append, List.length_cons, List.length_nil, List.length_map]; omega)) only [push_cast, ↓reduceIte, reduceIte, reduceCtorEq, Nat.reduceAdd, Nat.reduceLT, Nat.reduceEqDiff, Nat.reduceLeDiff, Int.reduceAdd, Int.reduceLT, Int.reduceLE, Nat.reduceMul, b0, b1, b5])
    rw [decide_eq_true]
    exact ext_getD fl0 (by omega) ik
end Go.Proofs
