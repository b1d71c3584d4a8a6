import Derived.Test.YtfdnlhegmdhcjaaDoorF27
namespace Go.Proofs
open Go Go.V
set_option linter.unusedVariables false
set_option linter.unusedSimpArgs false
set_option maxHeartbeats 0
theorem tw_dig : ∀ (l : Bs) (j : Nat), j < (l.takeWhile isD).length → isD (l.getD j 0) = true ∧ j < l.length
 | [], j, h => by simp at h
 | c :: l, j, h => by
  rw [List.takeWhile_cons] at h
  cases hc : isD c with
  | false => rw [hc] at h; simp at h
  | true =>
   rw [hc] at h
   cases j with
   | zero => exact ⟨hc, by simp⟩
   | succ j =>
    obtain ⟨a, b⟩ := tw_dig l j (by simpa using h)
    exact ⟨by simpa using a, by simpa using b⟩
theorem tw_stop : ∀ (l : Bs), (l.takeWhile isD).length < l.length → isD (l.getD (l.takeWhile isD).length 0) = false
 | [], h => by simp at h
 | c :: l, h => by
  rw [List.takeWhile_cons] at h ⊢
  cases hc : isD c with
  | false => simpa using hc
  | true =>
   rw [hc] at h
   have := tw_stop l (by simpa using h)
   simpa using this
theorem tw_take : ∀ (l : Bs), l.takeWhile isD = l.take (l.takeWhile isD).length
 | [] => rfl
 | c :: l => by
  rw [List.takeWhile_cons]
  cases hc : isD c with
  | false => rfl
  | true =>
   have := tw_take l
   simpa using this
def cntD (r : Bs) : Nat := ((r.take 3).takeWhile isD).length
theorem cntD_le (r : Bs) : cntD r ≤ 3 ∧ cntD r ≤ r.length := by
 have := (List.takeWhile_prefix (l := r.take 3) isD).length_le
 rw [List.length_take] at this
 unfold cntD; omega
theorem take3_getD (r : Bs) (j : Nat) (h : j < 3) : (r.take 3).getD j 0 = r.getD j 0 := by
 rw [List.getD_eq_getElem?_getD, List.getElem?_take_of_lt h, List.getD_eq_getElem?_getD]
theorem cntD_dig {r : Bs} {j : Nat} (h : j < cntD r) : 48 ≤ (r.getD j 0).toNat ∧ (r.getD j 0).toNat ≤ 57 ∧ j < r.length ∧ j < 3 := by
 obtain ⟨h1, h2⟩ := cntD_le r
 obtain ⟨a, b⟩ := tw_dig _ j h
 rw [take3_getD r j (by omega)] at a
 simp only [isD, Bool.and_eq_true, decide_eq_true_eq] at a
 exact ⟨a.1, a.2, by omega, by omega⟩
theorem cntD_stop (r : Bs) : ¬ (cntD r < r.length ∧ cntD r < 3 ∧ 48 ≤ (r.getD (cntD r) 0).toNat ∧ (r.getD (cntD r) 0).toNat ≤ 57) := by
 rintro ⟨a, b, c, d⟩
 have h := tw_stop (r.take 3) (by rw [List.length_take]; unfold cntD at *; omega)
 change isD ((r.take 3).getD (cntD r) 0) = false at h
 rw [take3_getD r _ b] at h
 have : isD (r.getD (cntD r) 0) = true := by simp only [isD, Bool.and_eq_true, decide_eq_true_eq]; exact ⟨c, d⟩
 rw [h] at this; cases this
theorem cntD_take (r : Bs) : (r.take 3).takeWhile isD = r.take (cntD r) := by
 obtain ⟨h1, h2⟩ := cntD_le r
 have h := tw_take (r.take 3)
 rw [h, List.take_take]
 show List.take (min (cntD r) 3) r = _
 rw [Nat.min_eq_left h1]
def nV (r : Bs) (j : Nat) : Int := numF 0 (r.take j)
theorem nV_succ {r : Bs} {j : Nat} (h : j < r.length) : nV r (j + 1) = 10 * nV r j + (((r.getD j 0).toNat : Int) - 48) := by
 unfold nV
 rw [List.take_succ_eq_append_getElem h, numF_append]
 simp [numF, h]
theorem nV_lt {r : Bs} : ∀ {j : Nat}, j ≤ cntD r → 0 ≤ nV r j ∧ nV r j < 10 ^ j
 | 0, _ => by simp [nV, numF]
 | j + 1, h => by
  obtain ⟨a, b⟩ := nV_lt (r := r) (j := j) (by omega)
  obtain ⟨c, d, e, f⟩ := cntD_dig (r := r) (j := j) (by omega)
  rw [nV_succ e, Int.pow_succ]
  generalize (10 : Int) ^ j = P at *
  omega
def numV57 (s : Bs) : AV := match numS s with
 | some (n, r) => .tup [.int .i64 n, .str r]
 | none => .tup [.int .i64 (-1), .str s]
theorem numS_cons' (b : UInt8) (r : Bs) : numS (b :: r) = if b = 32 ∧ cntD r ≠ 0 ∧ ¬ (1 < cntD r ∧ r.getD 0 0 = 48) then some (nV r (cntD r), r.drop (cntD r)) else none := by
 have e : ((r.take 3).takeWhile isD).length = cntD r := rfl
 have h0 : r.headD 0 = r.getD 0 0 := by cases r <;> rfl
 unfold numS
 simp only [e, h0, cntD_take]
 have hl : (r.take (cntD r)).length = cntD r := by rw [List.length_take]; have := cntD_le r; omega
 have hn : r.take (cntD r) ≠ [] ↔ cntD r ≠ 0 := by
  rw [← hl]
  simp only [hl]
  constructor
  ·intro q w; apply q; rw [w]; rfl
  ·intro q w; rw [w] at hl; simp at hl; omega
 simp only [hn, hl, nV]
theorem u8_lit (b : UInt8) (n : Nat) (hn : n < 256) : b = UInt8.ofNat n ↔ b.toNat = n := by
 rw [← UInt8.toNat_inj, UInt8.toNat_ofNat']
 omega
theorem numV_good {b : UInt8} {r : Bs} (h : b.toNat = 32 ∧ cntD r ≠ 0 ∧ ¬ (1 < cntD r ∧ (r.getD 0 0).toNat = 48)) : numV57 (b :: r) = .tup [.int .i64 (nV r (cntD r)), .str (r.drop (cntD r))] := by
 unfold numV57
 rw [numS_cons', if_pos ⟨(u8_lit b 32 (by decide)).2 h.1, h.2.1, fun q => h.2.2 ⟨q.1, (u8_lit _ 48 (by decide)).1 q.2⟩⟩]
theorem numV_bad {b : UInt8} {r : Bs} (h : ¬ (b.toNat = 32 ∧ cntD r ≠ 0 ∧ ¬ (1 < cntD r ∧ (r.getD 0 0).toNat = 48))) : numV57 (b :: r) = .tup [.int .i64 (-1), .str (b :: r)] := by
 unfold numV57
 rw [numS_cons', if_neg fun q => h ⟨(u8_lit b 32 (by decide)).1 q.1, q.2.1, fun w => q.2.2 ⟨w.1, (u8_lit _ 48 (by decide)).2 w.2⟩⟩]
set_option maxRecDepth 100000 in
theorem number57 (s : Bs) (hl : s.length ≤ 100000) : PC Tryd.prog G0 57 [.str s] (numV57 s) := by
 rcases s with _|⟨b, r⟩
 ·have hv : numV57 [] = .tup [.int .i64 (-1), .str []] := rfl
  rw [hv]
  refine pc_go 0 61 [.tmp 2, .tmp 3] Tryd.func57 rfl rfl rfl (by simp) ?_
  intro s ⟨a0, hz⟩
  clear hz
  repeat' (first|(first|(refine a0_ ?_; first|refine a1_ rfl rfl ?_|refine a2_ rfl ?_|refine a3_ rfl rfl ?_|refine a4_ rfl ?_|refine ak_ rfl rfl ?_|refine a5_ rfl rfl rfl ?_|refine a6_ rfl rfl ?_|refine a7_ rfl rfl ?_|refine a8_ rfl rfl ?_|refine a9_ rfl rfl rfl ?_)|(refine g0_ ?_; first|refine g1_ rfl ?_|refine g2_ rfl rfl ?_|refine go_draw (dr := allQ) rfl rfl mixed (by first|assumption|kernel_rfl) ?_|refine g4_ rfl ?_|refine g5_ rfl ?_|refine g6_ rfl ?_|refine g7_ rfl ?_|refine g8_ rfl ?_|refine ga_ rfl ?_|refine gb_ rfl ?_)|(refine o0_ ?_; first|refine o1_ ?_|refine o2_ ?_|refine o3_ ?_|refine o4_ ?_|refine o5_ ?_|refine o6_ rfl ?_|refine o7_ rfl ?_|refine o8_ ?_|refine o9_ ?_|refine oa_ ?_|refine ob_ ?_|refine oc_ ?_|refine od_ ?_|refine oe_ ?_|refine of_ ?_|refine og_ ?_|refine oh_ ?_|refine oi_ ?_|refine oj_ ?_|refine ok_ ?_))|refine at_go ?_|(with_reducible refine And.intro (at_go ?_) (at_go ?_))|((with_reducible refine And.intro (fun h => ?_) (fun h => ?_)) <;> try (exfalso; omega))|(with_reducible refine And.intro (by first|omega|(simp only [maxLen]; omega)) ?_)|(refine And.intro ⟨[_], rfl⟩ ?_)|(refine And.intro ⟨[], by simp only [List.append_nil]⟩ ?_)|fail|simp (disch := first|omega|(simp only [length_rowsA, length_rowA, List.length_set, List.length_reverse, List.length_replicate, List.length_append, List.length_cons, List.length_nil, List.length_map]; omega)) only [push_cast, ↓reduceIte, reduceIte, reduceCtorEq, Nat.reduceAdd, Nat.reduceLT, Nat.reduceEqDiff, Nat.reduceLeDiff, Int.reduceAdd, Int.reduceLT, Int.reduceLE, Nat.reduceMul, a0])
 ·have hlr : r.length ≤ 100000 := by simp at hl; omega
  have hgood := numV_good (b := b) (r := r)
  have hbad := numV_bad (b := b) (r := r)
  obtain ⟨t1, t2⟩ := cntD_le r
  have hbd : b.toNat ≤ 255 := by have := b.toNat_lt; omega
  have hls : (b :: r).length = r.length + 1 := rfl
  have hg0 : (b :: r).getD 0 0 = b := rfl
  by_cases hb : b.toNat = 32 ∧ r ≠ []
  ·obtain ⟨hb, hr⟩ := hb
   have hr1 : 1 ≤ r.length := by cases r with|nil => exact absurd rfl hr|cons => simp
   have hg : ∀ j : Nat, (b :: r).getD (j + 1) 0 = r.getD j 0 := fun j => by simp
   have hg1 : (b :: r).getD 1 0 = r.getD 0 0 := hg 0
   have hdr : ∀ n : Nat, (b :: r).drop (n + 1) = r.drop n := fun n => rfl
   generalize numV57 (b :: r) = V at *
   generalize b :: r = sx at *
   have hst := cntD_stop r
   have hdg := fun j h => cntD_dig (r := r) (j := j) h
   have hnl := fun j h => nV_lt (r := r) (j := j) h
   have hns := fun j h => nV_succ (r := r) (j := j) h
   generalize hT : cntD r = T at *
   refine pc_go 0 61 [.tmp 2, .tmp 3] Tryd.func57 rfl rfl rfl (by simp) ?_
   intro s ⟨a0, hz⟩
   clear hz
   repeat' (first|(first|(refine a0_ ?_; first|refine a1_ rfl rfl ?_|refine a2_ rfl ?_|refine a3_ rfl rfl ?_|refine a4_ rfl ?_|refine ak_ rfl rfl ?_|refine a5_ rfl rfl rfl ?_|refine a6_ rfl rfl ?_|refine a7_ rfl rfl ?_|refine a8_ rfl rfl ?_|refine a9_ rfl rfl rfl ?_)|(refine g0_ ?_; first|refine g1_ rfl ?_|refine g2_ rfl rfl ?_|refine go_draw (dr := allQ) rfl rfl mixed (by first|assumption|kernel_rfl) ?_|refine g4_ rfl ?_|refine g5_ rfl ?_|refine g6_ rfl ?_|refine g7_ rfl ?_|refine g8_ rfl ?_|refine ga_ rfl ?_|refine gb_ rfl ?_)|(refine o0_ ?_; first|refine o1_ ?_|refine o2_ ?_|refine o3_ ?_|refine o4_ ?_|refine o5_ ?_|refine o6_ rfl ?_|refine o7_ rfl ?_|refine o8_ ?_|refine o9_ ?_|refine oa_ ?_|refine ob_ ?_|refine oc_ ?_|refine od_ ?_|refine oe_ ?_|refine of_ ?_|refine og_ ?_|refine oh_ ?_|refine oi_ ?_|refine oj_ ?_|refine ok_ ?_))|refine at_go ?_|(with_reducible refine And.intro (at_go ?_) (at_go ?_))|((with_reducible refine And.intro (fun h => ?_) (fun h => ?_)) <;> try (exfalso; omega))|(with_reducible refine And.intro (by first|omega|(simp only [maxLen]; omega)) ?_)|(refine And.intro ⟨[_], rfl⟩ ?_)|(refine And.intro ⟨[], by simp only [List.append_nil]⟩ ?_)|fail|simp (disch := first|omega|(simp only [length_rowsA, length_rowA, List.length_set, List.length_reverse, List.length_replicate, List.length_append, List.length_cons, List.length_nil, List.length_map]; omega)) only [push_cast, ↓reduceIte, reduceIte, reduceCtorEq, Nat.reduceAdd, Nat.reduceLT, Nat.reduceEqDiff, Nat.reduceLeDiff, Int.reduceAdd, Int.reduceLT, Int.reduceLE, Nat.reduceMul, a0, hb, hg0, hls])
   refine go_loop rfl (fun mz s' H' => ∃ q : Nat, q ≤ T ∧ mz = T - q ∧ H' = [] ∧ s' 0 = .str sx ∧ s' 4 = .int .i64 (nV r q) ∧ s' 5 = .int .i64 (q + 1)) (m := T) (by (first|trivial|((repeat' apply And.intro) <;> first|trivial|assumption|omega|(simp only [maxLen]; omega)|(simp only [length_rowsA, length_rowA, List.length_replicate, List.length_append, List.length_cons, List.length_nil, List.length_map, List.length_take, List.length_drop, List.length_set, List.length_reverse, maxLen] <;> omega)))) (Weak.refl _ _) ⟨0, by omega, by omega, rfl, ?_, ?_, ?_⟩ ?_
   ·simp (disch := first|omega|(simp only [length_rowsA, length_rowA, List.length_set, List.length_reverse, List.length_replicate, List.length_append, List.length_cons, List.length_nil, List.length_map]; omega)) only [push_cast, ↓reduceIte, reduceIte, reduceCtorEq, Nat.reduceAdd, Nat.reduceLT, Nat.reduceEqDiff, Nat.reduceLeDiff, Int.reduceAdd, Int.reduceLT, Int.reduceLE, Nat.reduceMul, a0, hb, hg0, hls]
   ·simp (disch := first|omega|(simp only [length_rowsA, length_rowA, List.length_set, List.length_reverse, List.length_replicate, List.length_append, List.length_cons, List.length_nil, List.length_map]; omega)) only [push_cast, ↓reduceIte, reduceIte, reduceCtorEq, Nat.reduceAdd, Nat.reduceLT, Nat.reduceEqDiff, Nat.reduceLeDiff, Int.reduceAdd, Int.reduceLT, Int.reduceLE, Nat.reduceMul, a0, hb, hg0, hls]
    rfl
   ·simp (disch := first|omega|(simp only [length_rowsA, length_rowA, List.length_set, List.length_reverse, List.length_replicate, List.length_append, List.length_cons, List.length_nil, List.length_map]; omega)) only [push_cast, ↓reduceIte, reduceIte, reduceCtorEq, Nat.reduceAdd, Nat.reduceLT, Nat.reduceEqDiff, Nat.reduceLeDiff, Int.reduceAdd, Int.reduceLT, Int.reduceLE, Nat.reduceMul, a0, hb, hg0, hls]
   ·rintro mz s' H' ⟨q, hq, rfl, rfl, b0, b4, b5⟩
    rcases Nat.lt_or_ge q T with hlt|hge
    ·obtain ⟨d1, d2, d3, d4⟩ := hdg q hlt
     have hn := hns q d3
     obtain ⟨n1, n2⟩ := hnl q hq
     have n3 : nV r q ≤ 99 := by
      have hq3 : q = 0 ∨ q = 1 ∨ q = 2 := by omega
      rcases hq3 with rfl|rfl|rfl <;> omega
     have e1 := hg q
     have hq1 : ((q : Int) + 1).toNat = q + 1 := by omega
     generalize hc : (r.getD q 0).toNat = cn at *
     generalize nV r q = x at *
     have l1 : (q : Int) < r.length := by omega
     have l2 : (q : Int) < 3 := by omega
     repeat' (first|(first|(refine a0_ ?_; first|refine a1_ rfl rfl ?_|refine a2_ rfl ?_|refine a3_ rfl rfl ?_|refine a4_ rfl ?_|refine ak_ rfl rfl ?_|refine a5_ rfl rfl rfl ?_|refine a6_ rfl rfl ?_|refine a7_ rfl rfl ?_|refine a8_ rfl rfl ?_|refine a9_ rfl rfl rfl ?_)|(refine g0_ ?_; first|refine g1_ rfl ?_|refine g2_ rfl rfl ?_|refine go_draw (dr := allQ) rfl rfl mixed (by first|assumption|kernel_rfl) ?_|refine g4_ rfl ?_|refine g5_ rfl ?_|refine g6_ rfl ?_|refine g7_ rfl ?_|refine g8_ rfl ?_|refine ga_ rfl ?_|refine gb_ rfl ?_)|(refine o0_ ?_; first|refine o1_ ?_|refine o2_ ?_|refine o3_ ?_|refine o4_ ?_|refine o5_ ?_|refine o6_ rfl ?_|refine o7_ rfl ?_|refine o8_ ?_|refine o9_ ?_|refine oa_ ?_|refine ob_ ?_|refine oc_ ?_|refine od_ ?_|refine oe_ ?_|refine of_ ?_|refine og_ ?_|refine oh_ ?_|refine oi_ ?_|refine oj_ ?_|refine ok_ ?_))|refine at_go ?_|(with_reducible refine And.intro (at_go ?_) (at_go ?_))|((with_reducible refine And.intro (fun h => ?_) (fun h => ?_)) <;> try (exfalso; omega))|(with_reducible refine And.intro (by first|omega|(simp only [maxLen]; omega)) ?_)|(refine And.intro ⟨[_], rfl⟩ ?_)|(refine And.intro ⟨[], by simp only [List.append_nil]⟩ ?_)|fail|simp (disch := first|omega|(simp only [length_rowsA, length_rowA, List.length_set, List.length_reverse, List.length_replicate, List.length_append, List.length_cons, List.length_nil, List.length_map]; omega)) only [push_cast, ↓reduceIte, reduceIte, reduceCtorEq, Nat.reduceAdd, Nat.reduceLT, Nat.reduceEqDiff, Nat.reduceLeDiff, Int.reduceAdd, Int.reduceLT, Int.reduceLE, Nat.reduceMul, b0, b4, b5, e1, hls, hq1, hc])
     ·refine out_round (T - (q + 1)) (by omega) (by (first|trivial|((repeat' apply And.intro) <;> first|trivial|assumption|omega|(simp only [maxLen]; omega)|(simp only [length_rowsA, length_rowA, List.length_replicate, List.length_append, List.length_cons, List.length_nil, List.length_map, List.length_take, List.length_drop, List.length_set, List.length_reverse, maxLen] <;> omega)))) ⟨q + 1, by omega, rfl, rfl, ?_, ?_, ?_⟩
      ·simp (disch := first|omega|(simp only [length_rowsA, length_rowA, List.length_set, List.length_reverse, List.length_replicate, List.length_append, List.length_cons, List.length_nil, List.length_map]; omega)) only [push_cast, ↓reduceIte, reduceIte, reduceCtorEq, Nat.reduceAdd, Nat.reduceLT, Nat.reduceEqDiff, Nat.reduceLeDiff, Int.reduceAdd, Int.reduceLT, Int.reduceLE, Nat.reduceMul, b0, b4, b5, e1, hls, hq1, hc]
      ·simp (disch := first|omega|(simp only [length_rowsA, length_rowA, List.length_set, List.length_reverse, List.length_replicate, List.length_append, List.length_cons, List.length_nil, List.length_map]; omega)) only [push_cast, ↓reduceIte, reduceIte, reduceCtorEq, Nat.reduceAdd, Nat.reduceLT, Nat.reduceEqDiff, Nat.reduceLeDiff, Int.reduceAdd, Int.reduceLT, Int.reduceLE, Nat.reduceMul, b0, b4, b5, e1, hls, hq1, hc]
       have w1 : IntKind.u8.wrap ((cn : Int) - 48) = cn - 48 := by rw [IntKind.wrap_u8]; omega
       rw [hn, w1, wrap64 ((cn : Int) - 48) (by omega) (by omega), wrap64 (10 * x + ((cn : Int) - 48)) (by omega) (by omega)]
      ·simp (disch := first|omega|(simp only [length_rowsA, length_rowA, List.length_set, List.length_reverse, List.length_replicate, List.length_append, List.length_cons, List.length_nil, List.length_map]; omega)) only [push_cast, ↓reduceIte, reduceIte, reduceCtorEq, Nat.reduceAdd, Nat.reduceLT, Nat.reduceEqDiff, Nat.reduceLeDiff, Int.reduceAdd, Int.reduceLT, Int.reduceLE, Nat.reduceMul, b0, b4, b5, e1, hls, hq1, hc]
    ·obtain rfl : q = T := by omega
     have e1 := hg q
     have hq1 : ((q : Int) + 1).toNat = q + 1 := by omega
     have hcd : 0 ≤ (r.getD q 0).toNat ∧ (r.getD q 0).toNat ≤ 255 := ⟨Nat.zero_le _, by have := (r.getD q 0).toNat_lt; omega⟩
     have hcd0 : 0 ≤ (r.getD 0 0).toNat ∧ (r.getD 0 0).toNat ≤ 255 := ⟨Nat.zero_le _, by have := (r.getD 0 0).toNat_lt; omega⟩
     generalize hc : (r.getD q 0).toNat = cn at *
     generalize hz : (r.getD 0 0).toNat = zn at *
     generalize hx : nV r q = x at *
     repeat' (first|(first|(refine a0_ ?_; first|refine a1_ rfl rfl ?_|refine a2_ rfl ?_|refine a3_ rfl rfl ?_|refine a4_ rfl ?_|refine ak_ rfl rfl ?_|refine a5_ rfl rfl rfl ?_|refine a6_ rfl rfl ?_|refine a7_ rfl rfl ?_|refine a8_ rfl rfl ?_|refine a9_ rfl rfl rfl ?_)|(refine g0_ ?_; first|refine g1_ rfl ?_|refine g2_ rfl rfl ?_|refine go_draw (dr := allQ) rfl rfl mixed (by first|assumption|kernel_rfl) ?_|refine g4_ rfl ?_|refine g5_ rfl ?_|refine g6_ rfl ?_|refine g7_ rfl ?_|refine g8_ rfl ?_|refine ga_ rfl ?_|refine gb_ rfl ?_)|(refine o0_ ?_; first|refine o1_ ?_|refine o2_ ?_|refine o3_ ?_|refine o4_ ?_|refine o5_ ?_|refine o6_ rfl ?_|refine o7_ rfl ?_|refine o8_ ?_|refine o9_ ?_|refine oa_ ?_|refine ob_ ?_|refine oc_ ?_|refine od_ ?_|refine oe_ ?_|refine of_ ?_|refine og_ ?_|refine oh_ ?_|refine oi_ ?_|refine oj_ ?_|refine ok_ ?_))|refine at_go ?_|(with_reducible refine And.intro (at_go ?_) (at_go ?_))|((with_reducible refine And.intro (fun h => ?_) (fun h => ?_)) <;> try (exfalso; omega))|(with_reducible refine And.intro (by first|omega|(simp only [maxLen]; omega)) ?_)|(refine And.intro ⟨[_], rfl⟩ ?_)|(refine And.intro ⟨[], by simp only [List.append_nil]⟩ ?_)|fail|simp (disch := first|omega|(simp only [length_rowsA, length_rowA, List.length_set, List.length_reverse, List.length_replicate, List.length_append, List.length_cons, List.length_nil, List.length_map]; omega)) only [push_cast, ↓reduceIte, reduceIte, reduceCtorEq, Nat.reduceAdd, Nat.reduceLT, Nat.reduceEqDiff, Nat.reduceLeDiff, Int.reduceAdd, Int.reduceLT, Int.reduceLE, Nat.reduceMul, b0, b4, b5, e1, hls, hq1, hg1, hc, hz, hdr])
     ·rw [hbad (by omega)]; simp [eqv_tup, eqvL, eqv1, eqv_str, eqv_int]
     ·rw [hgood (by omega)]; simp [eqv_tup, eqvL, eqv1, eqv_str, eqv_int]
  ·have hv := hbad fun q => hb ⟨q.1, fun w => q.2.1 (by rw [w]; rfl)⟩
   have hr0 : b.toNat = 32 → r.length = 0 := fun q => by
    cases r with
    | nil => rfl
    | cons x y => exact absurd ⟨q, by simp⟩ hb
   clear hb hgood hbad
   rw [hv]
   generalize b :: r = sx at *
   generalize hbn : b.toNat = bn at *
   refine pc_go 0 61 [.tmp 2, .tmp 3] Tryd.func57 rfl rfl rfl (by simp) ?_
   intro s ⟨a0, hz⟩
   clear hz
   repeat' (first|(first|(refine a0_ ?_; first|refine a1_ rfl rfl ?_|refine a2_ rfl ?_|refine a3_ rfl rfl ?_|refine a4_ rfl ?_|refine ak_ rfl rfl ?_|refine a5_ rfl rfl rfl ?_|refine a6_ rfl rfl ?_|refine a7_ rfl rfl ?_|refine a8_ rfl rfl ?_|refine a9_ rfl rfl rfl ?_)|(refine g0_ ?_; first|refine g1_ rfl ?_|refine g2_ rfl rfl ?_|refine go_draw (dr := allQ) rfl rfl mixed (by first|assumption|kernel_rfl) ?_|refine g4_ rfl ?_|refine g5_ rfl ?_|refine g6_ rfl ?_|refine g7_ rfl ?_|refine g8_ rfl ?_|refine ga_ rfl ?_|refine gb_ rfl ?_)|(refine o0_ ?_; first|refine o1_ ?_|refine o2_ ?_|refine o3_ ?_|refine o4_ ?_|refine o5_ ?_|refine o6_ rfl ?_|refine o7_ rfl ?_|refine o8_ ?_|refine o9_ ?_|refine oa_ ?_|refine ob_ ?_|refine oc_ ?_|refine od_ ?_|refine oe_ ?_|refine of_ ?_|refine og_ ?_|refine oh_ ?_|refine oi_ ?_|refine oj_ ?_|refine ok_ ?_))|refine at_go ?_|(with_reducible refine And.intro (at_go ?_) (at_go ?_))|((with_reducible refine And.intro (fun h => ?_) (fun h => ?_)) <;> try (exfalso; omega))|(with_reducible refine And.intro (by first|omega|(simp only [maxLen]; omega)) ?_)|(refine And.intro ⟨[_], rfl⟩ ?_)|(refine And.intro ⟨[], by simp only [List.append_nil]⟩ ?_)|fail|simp (disch := first|omega|(simp only [length_rowsA, length_rowA, List.length_set, List.length_reverse, List.length_replicate, List.length_append, List.length_cons, List.length_nil, List.length_map]; omega)) only [push_cast, ↓reduceIte, reduceIte, reduceCtorEq, Nat.reduceAdd, Nat.reduceLT, Nat.reduceEqDiff, Nat.reduceLeDiff, Int.reduceAdd, Int.reduceLT, Int.reduceLE, Nat.reduceMul, a0, hg0, hls, hbn])
   all_goals trace_state
end Go.Proofs
