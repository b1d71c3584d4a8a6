import Derived.Test.YtbgdagokjfmcbaaGreatDoorD18
import Derived.Test.YtbgdagokjfmcbaaGreatDoorD14
import Derived.Test.YtbgdagokjfmcbaaGreatDoorD16
import Derived.Test.YtbgdagokjfmcbaaGreatDoorV42
namespace Go.Proofs
open Go Go.V
set_option linter.unusedVariables false
set_option linter.unusedSimpArgs false
set_option maxHeartbeats 0
def mapK (ks : List (Int × Int)) : List (AV × AV) := ks.map fun k => (.agg [.int .i64 k.1, .int .i64 k.2], .bool true)
def insK (ks : List (Int × Int)) (k : Int × Int) : List (Int × Int) := if (ks.any fun x => decide (x = k)) = true then ks else ks ++ [k]
theorem sameK_key (a b c d : Int) : sameK (.agg [.int .i64 a, .int .i64 b]) (.agg [.int .i64 c, .int .i64 d]) = (decide (a = c) && decide (b = d)) := by
 simp only [sameK, sameL, sameA, Bool.and_true]
 rw [show (IntKind.i64 == IntKind.i64) = true from rfl, Bool.true_and, Bool.true_and]
 rw [Bool.eq_iff_iff]; simp
theorem updA_mapK (a b : Int) : ∀ ks, updA (mapK ks) (.agg [.int .i64 a, .int .i64 b]) (.bool true) = mapK (insK ks (a, b))
 | [] => rfl
 | (c, d) :: ks => by
  have ih := updA_mapK a b ks
  simp only [mapK, List.map_cons, updA, sameK_key] at ih ⊢
  by_cases h : a = c ∧ b = d
  ·obtain ⟨rfl, rfl⟩ := h
   simp [insK]
  ·have h1 : ¬ (c = a ∧ d = b) := fun q => h ⟨q.1.symm, q.2.symm⟩
   have h2 : (decide (a = c) && decide (b = d)) = false := by simpa using h
   rw [h2, if_neg (by simp), ih]
   simp only [insK, List.any_cons, Prod.mk.injEq, decide_eq_false h1, Bool.false_or]
   split <;> simp
theorem lookA_mapK (z : AV) (a b : Int) : ∀ ks, lookA z (mapK ks) (.agg [.int .i64 a, .int .i64 b]) = if (ks.any fun x => decide (x = (a, b))) = true then .bool true else z
 | [] => rfl
 | (c, d) :: ks => by
  have ih := lookA_mapK z a b ks
  simp only [lookA, mapK, List.map_cons, List.find?_cons, sameK_key] at ih ⊢
  by_cases h : a = c ∧ b = d
  ·obtain ⟨rfl, rfl⟩ := h
   simp
  ·have h1 : ¬ (c = a ∧ d = b) := fun q => h ⟨q.1.symm, q.2.symm⟩
   have h2 : (decide (a = c) && decide (b = d)) = false := by simpa using h
   rw [h2]
   simp only [List.any_cons, Prod.mk.injEq, decide_eq_false h1, Bool.false_or]
   exact ih
theorem eqTy33 : eqTy Tryz.prog 8 33 = true := by kernel_rfl
theorem keyA33 (a b : Int) : keyA Tryz.prog 8 33 (.agg [.int .i64 a, .int .i64 b]) = true := by
 kernel_rfl
theorem mapOk33 (ks : List (Int × Int)) (a b : Int) : mapOk Tryz.prog 33 (mapK ks) (.agg [.int .i64 a, .int .i64 b]) = true := by
 simp only [mapOk, eqTy33, keyA33, Bool.true_and]
 rw [mapK, List.all_map, List.all_eq_true]
 intro x _
 simp [eq33, sameK_key]
theorem zeroV4 : zeroV Tryz.prog 4 = .bool false := by kernel_rfl
theorem all_mapK (p : Nat → Bool) (ks : List (Int × Int)) : ((mapK ks).all fun x => AV.ids p x.1 && AV.ids p x.2) = true := by
 rw [mapK, List.all_map, List.all_eq_true]
 intro x _
 simp [AV.ids, idsL]
def keysN (ed : List Ed) : Nat → List (Int × Int)
 | 0 => []
 | n + 1 => insK (keysN ed n) ((ed.getD n eD).s, (ed.getD n eD).i)
theorem insK_any (ks : List (Int × Int)) (k : Int × Int) (f : Int × Int → Bool) : (insK ks k).any f = (ks.any f || f k) := by
 unfold insK
 split
 ·rename_i h
  rw [Bool.eq_iff_iff, Bool.or_eq_true]
  refine ⟨.inl, fun q => q.elim id fun q => ?_⟩
  obtain ⟨x, hx, hxk⟩ := List.any_eq_true.1 h
  obtain rfl : x = k := by simpa using hxk
  exact List.any_eq_true.2 ⟨x, hx, q⟩
 ·simp [List.any_append]
theorem keysN_any (ed : List Ed) (a b : Int) : ∀ n, n ≤ ed.length → ((keysN ed n).any fun x => decide (x = (a, b))) = (ed.take n).any (isAt a b)
 | 0, _ => by simp [keysN]
 | n + 1, h => by
  rw [keysN, insK_any, keysN_any ed a b n (by omega), List.take_succ_eq_append_getElem (by omega), List.any_append]
  have : ed.getD n eD = ed[n] := by simp [show n < ed.length by omega]
  rw [this]
  simp [isAt, Prod.ext_iff]
def meetsW (la : List Row) (ed : List Ed) : Int → List Int → Bool
 | _, [] => false
 | q, i :: w => if ed.any (isAt q i) = true then true else if toAt la q i = -1 then false else meetsW la ed (toAt la q i) w
def fitErr (i o : Int) (la : List Row) (p : Pt) : Int := if machOk i o la ≠ 0 then machOk i o la else if checkP p ≠ 0 then checkP p else fitsM i o la.length p
def affM (la : List Row) (ed : List Ed) (l : List Wd) : List Wd := (l.filter fun w => meetsW la ed 0 w.1).map fun w => (w.1, some w.1.length)
theorem affM_succ (la : List Row) (ed : List Ed) (l : List Wd) (k : Nat) (h : k < l.length) : affM la ed (l.take (k + 1)) = affM la ed (l.take k) ++ if meetsW la ed 0 (l.getD k wD).1 = true then [((l.getD k wD).1, some (l.getD k wD).1.length)] else [] := by
 rw [affM, List.take_succ_eq_append_getElem h, List.filter_append, List.map_append, affM]
 congr 1
 have : l.getD k wD = l[k] := by simp [h]
 rw [this]
 simp only [List.filter_cons, List.filter_nil]
 split <;> rfl
theorem length_affM (la : List Row) (ed : List Ed) (l : List Wd) : (affM la ed l).length ≤ l.length := by
 simp only [affM, List.length_map]; exact List.length_filter_le _ _
def affR (i o : Int) (la : List Row) (p : Pt) (l : List Wd) : List Wd × Int :=
 if fitErr i o la p ≠ 0 then ([], fitErr i o la p) else if tcheckM l i ≠ 0 then ([], tcheckM l i) else (affM la p.ed l, 0)
theorem checkM_sym {w : List Int} {n : Int} (h : checkM w n = 0) : ∀ x ∈ w, 0 ≤ x ∧ x < n := by
 rw [checkM] at h
 split at h
 ·omega
 ·split at h
  ·omega
  ·split at h
   ·omega
   ·rename_i h3
    intro x hx
    have : badI n x = false := by
     cases hb : badI n x with
     | false => rfl
     | true => exact absurd (List.any_eq_true.2 ⟨x, hx, hb⟩) h3
    simp [badI] at this
    omega
theorem loose_words {l : List Wd} {n : Int} (h : looseM l n = 0) : ∀ w ∈ l, checkM w.1 n = 0 := by
 unfold looseM at h
 split at h
 ·omega
 ·split at h
  ·omega
  ·exact errW_zero h
def affH (i o : Int) (la : List Row) (c : Option Nat) (p : Pt) (z : Nat) (d : Option Nat) (ks : List (Int × Int)) : List Blk := [.row 3 30 [[.int .i64 i, .int .i64 o, .sl 1 (rowsA la) c]], .row 6 36 [[.int .i64 p.inp, .int .i64 p.o0, .int .i64 p.o1, .int .i64 p.s0, .int .i64 p.s1, .sl z (edsA p.ed) d]], .ob (.map 33 4 (mapK ks))]
theorem drop_ints (xs : List Int) (k : Nat) (h : k < xs.length) : xs.drop k = xs.getD k 0 :: xs.drop (k + 1) := by
 rw [List.drop_eq_getElem_cons h]; simp [h]
attribute [push_cast] all_mapK mapOk33 zeroV4 updA_mapK lookA_mapK
set_option maxRecDepth 100000 in
theorem affected28 (i o : Int) (la : List Row) (c : Option Nat) (p : Pt) (z : Nat) (d : Option Nat) (l : List Wd) (zl : Nat) (cl : Option Nat) (hll : la.length ≤ 1000000) (hr : ∀ j, j < la.length → (la.getD j ([], none)).1.length ≤ 1000000) (hz : p.ed = [] ∨ z = 6) (hl : p.ed.length ≤ 1000000)
  (hzl : l = [] ∨ zl = 1) (hlw : l.length ≤ 1000000) (hs : Short l) :
  PC Tryz.prog G0 32 [mA i o la c, pA p z d, .sl zl (wsA l) cl] (.tup [.sl 1 (wsA (affR i o la p l).1) (some (affR i o la p l).1.length), .int .i64 (affR i o la p l).2]) := by
 have h1 := fit58 i o la 1 c p z d (.inr rfl) hll hr hz hl
 have h2 := tcheck59 l zl cl i hzl hlw hs
 change PC Tryz.prog G0 41 _ (.int .i64 (fitErr i o la p)) at h1
 have hm0 : fitErr i o la p = 0 → machOk i o la = 0 := fun h => by unfold fitErr at h; split at h <;> omega
 have ht0 : tcheckM l i = 0 → looseM l i = 0 := fun h => by unfold tcheckM at h; split at h <;> omega
 unfold affR mA pA at *
 generalize fitErr i o la p = e1 at *
 generalize tcheckM l i = e2 at *
 by_cases q1 : e1 ≠ 0
 ·rw [if_pos q1]
  refine pc_go 1 88 [.tmp 6, .tmp 7] Tryz.func32 rfl rfl rfl (by simp) ?_
  intro s ⟨a0, a1, a2, hz⟩
  simp only [Nat.zero_add, Nat.reduceAdd] at a1 a2
  clear hz
  repeat' (first|(first|(refine a0_ ?_; first|refine a1_ rfl rfl ?_|refine a2_ rfl ?_|refine a3_ rfl rfl ?_|refine a4_ rfl ?_|refine a5_ rfl rfl rfl ?_|refine a6_ rfl rfl ?_)|(refine g0_ ?_; first|refine g1_ rfl ?_|refine g2_ rfl rfl ?_|refine go_draw (dr := allQ) rfl rfl mixed (by first|assumption|kernel_rfl) ?_|refine g4_ rfl ?_|refine g5_ rfl ?_|refine g6_ rfl ?_|refine g7_ rfl ?_|refine g8_ rfl ?_)|(refine o0_ ?_; first|refine o1_ ?_|refine o2_ ?_|refine o3_ ?_|refine o4_ ?_|refine o5_ ?_|refine o6_ rfl ?_|refine o7_ rfl ?_|refine o8_ ?_|refine o9_ ?_|refine oa_ ?_|refine ob_ ?_|refine oc_ ?_|refine od_ ?_|refine oe_ ?_|refine of_ ?_|refine og_ ?_))|refine at_go ?_|(with_reducible refine And.intro (at_go ?_) (at_go ?_))|((with_reducible refine And.intro (fun h => ?_) (fun h => ?_)) <;> try (exfalso; omega))|(with_reducible refine And.intro (by first|omega|(simp only [maxLen]; omega)) ?_)|(first|(refine ⟨_, _, pc_lift (h1) (by (simp [idsL, idsE, AV.ids, Nat.add_zero])) _, ?_⟩)|(refine ⟨_, pc_lift (h1) (by (simp [idsL, idsE, AV.ids, Nat.add_zero])) _, ?_⟩)|(refine ⟨_, fun _ => pc_lift (h1) (by (simp [idsL, idsE, AV.ids, Nat.add_zero])) _, ?_⟩))|simp (disch := first|omega|(simp only [length_edsA, length_rowsA, length_rowA, length_ints, length_wsA, List.length_set, List.length_reverse, List.length_replicate, List.length_append, List.length_cons, List.length_nil, List.length_map]; omega)) only [push_cast, ↓reduceIte, reduceIte, reduceCtorEq, Nat.reduceAdd, Nat.reduceLT, Nat.reduceEqDiff, Nat.reduceLeDiff, Int.reduceAdd, Int.reduceLT, Int.reduceLE, Nat.reduceMul, a0, a1, a2])
  simp [wsA]
 ·rw [if_neg q1]
  obtain rfl : e1 = 0 := by omega
  by_cases q2 : e2 ≠ 0
  ·rw [if_pos q2]
   refine pc_go 1 88 [.tmp 6, .tmp 7] Tryz.func32 rfl rfl rfl (by simp) ?_
   intro s ⟨a0, a1, a2, hz⟩
   simp only [Nat.zero_add, Nat.reduceAdd] at a1 a2
   clear hz
   repeat' (first|(first|(refine a0_ ?_; first|refine a1_ rfl rfl ?_|refine a2_ rfl ?_|refine a3_ rfl rfl ?_|refine a4_ rfl ?_|refine a5_ rfl rfl rfl ?_|refine a6_ rfl rfl ?_)|(refine g0_ ?_; first|refine g1_ rfl ?_|refine g2_ rfl rfl ?_|refine go_draw (dr := allQ) rfl rfl mixed (by first|assumption|kernel_rfl) ?_|refine g4_ rfl ?_|refine g5_ rfl ?_|refine g6_ rfl ?_|refine g7_ rfl ?_|refine g8_ rfl ?_)|(refine o0_ ?_; first|refine o1_ ?_|refine o2_ ?_|refine o3_ ?_|refine o4_ ?_|refine o5_ ?_|refine o6_ rfl ?_|refine o7_ rfl ?_|refine o8_ ?_|refine o9_ ?_|refine oa_ ?_|refine ob_ ?_|refine oc_ ?_|refine od_ ?_|refine oe_ ?_|refine of_ ?_|refine og_ ?_))|refine at_go ?_|(with_reducible refine And.intro (at_go ?_) (at_go ?_))|((with_reducible refine And.intro (fun h => ?_) (fun h => ?_)) <;> try (exfalso; omega))|(with_reducible refine And.intro (by first|omega|(simp only [maxLen]; omega)) ?_)|(first|(refine ⟨_, _, pc_lift (h1) (by (simp [idsL, idsE, AV.ids, Nat.add_zero])) _, ?_⟩)|(refine ⟨_, pc_lift (h1) (by (simp [idsL, idsE, AV.ids, Nat.add_zero])) _, ?_⟩)|(refine ⟨_, fun _ => pc_lift (h1) (by (simp [idsL, idsE, AV.ids, Nat.add_zero])) _, ?_⟩)|(refine ⟨_, _, pc_lift (h2) (by (simp [idsL, idsE, AV.ids, Nat.add_zero])) _, ?_⟩)|(refine ⟨_, pc_lift (h2) (by (simp [idsL, idsE, AV.ids, Nat.add_zero])) _, ?_⟩)|(refine ⟨_, fun _ => pc_lift (h2) (by (simp [idsL, idsE, AV.ids, Nat.add_zero])) _, ?_⟩))|simp (disch := first|omega|(simp only [length_edsA, length_rowsA, length_rowA, length_ints, length_wsA, List.length_set, List.length_reverse, List.length_replicate, List.length_append, List.length_cons, List.length_nil, List.length_map]; omega)) only [push_cast, ↓reduceIte, reduceIte, reduceCtorEq, Nat.reduceAdd, Nat.reduceLT, Nat.reduceEqDiff, Nat.reduceLeDiff, Int.reduceAdd, Int.reduceLT, Int.reduceLE, Nat.reduceMul, a0, a1, a2])
   simp [wsA]
  ·rw [if_neg q2]
   obtain rfl : e2 = 0 := by omega
   obtain ⟨m1, m2, m3, m4, m5⟩ := machOk_zero (hm0 rfl)
   have hlo := ht0 rfl
   have hsym := loose_words hlo
   have hI : ∀ s, s < la.length → (la.getD s ([], none)).1.length = i.toNat := fun s hs => by have := m4 s hs; omega
   have hLd := fitE_leads hI m5
   refine pc_go 1 88 [.tmp 6, .tmp 7] Tryz.func32 rfl rfl rfl (by simp) ?_
   intro s ⟨a0, a1, a2, hz⟩
   simp only [Nat.zero_add, Nat.reduceAdd] at a1 a2
   clear hz
   repeat' (first|(first|(refine a0_ ?_; first|refine a1_ rfl rfl ?_|refine a2_ rfl ?_|refine a3_ rfl rfl ?_|refine a4_ rfl ?_|refine a5_ rfl rfl rfl ?_|refine a6_ rfl rfl ?_)|(refine g0_ ?_; first|refine g1_ rfl ?_|refine g2_ rfl rfl ?_|refine go_draw (dr := allQ) rfl rfl mixed (by first|assumption|kernel_rfl) ?_|refine g4_ rfl ?_|refine g5_ rfl ?_|refine g6_ rfl ?_|refine g7_ rfl ?_|refine g8_ rfl ?_)|(refine o0_ ?_; first|refine o1_ ?_|refine o2_ ?_|refine o3_ ?_|refine o4_ ?_|refine o5_ ?_|refine o6_ rfl ?_|refine o7_ rfl ?_|refine o8_ ?_|refine o9_ ?_|refine oa_ ?_|refine ob_ ?_|refine oc_ ?_|refine od_ ?_|refine oe_ ?_|refine of_ ?_|refine og_ ?_))|refine at_go ?_|(with_reducible refine And.intro (at_go ?_) (at_go ?_))|((with_reducible refine And.intro (fun h => ?_) (fun h => ?_)) <;> try (exfalso; omega))|(with_reducible refine And.intro (by first|omega|(simp only [maxLen]; omega)) ?_)|(first|(refine ⟨_, _, pc_lift (h1) (by (simp [idsL, idsE, AV.ids, Nat.add_zero])) _, ?_⟩)|(refine ⟨_, pc_lift (h1) (by (simp [idsL, idsE, AV.ids, Nat.add_zero])) _, ?_⟩)|(refine ⟨_, fun _ => pc_lift (h1) (by (simp [idsL, idsE, AV.ids, Nat.add_zero])) _, ?_⟩)|(refine ⟨_, _, pc_lift (h2) (by (simp [idsL, idsE, AV.ids, Nat.add_zero])) _, ?_⟩)|(refine ⟨_, pc_lift (h2) (by (simp [idsL, idsE, AV.ids, Nat.add_zero])) _, ?_⟩)|(refine ⟨_, fun _ => pc_lift (h2) (by (simp [idsL, idsE, AV.ids, Nat.add_zero])) _, ?_⟩))|simp (disch := first|omega|(simp only [length_edsA, length_rowsA, length_rowA, length_ints, length_wsA, List.length_set, List.length_reverse, List.length_replicate, List.length_append, List.length_cons, List.length_nil, List.length_map]; omega)) only [push_cast, ↓reduceIte, reduceIte, reduceCtorEq, Nat.reduceAdd, Nat.reduceLT, Nat.reduceEqDiff, Nat.reduceLeDiff, Int.reduceAdd, Int.reduceLT, Int.reduceLE, Nat.reduceMul, a0, a1, a2])
   refine go_loop rfl (fun mz s' H' => ∃ k : Nat, k ≤ p.ed.length ∧ mz = p.ed.length - k ∧ H' = affH i o la c p z d (keysN p.ed k) ∧ s' 2 = .sl zl (wsA l) cl ∧ s' 3 = .ptr 0 0 0 1 ∧ s' 10 = .mp 2 ∧ s' 37 = .sl z (edsA p.ed) d ∧ s' 38 = .int .i64 p.ed.length ∧ s' 39 = .int .i64 k) (m := p.ed.length) (by (first|trivial|((repeat' apply And.intro) <;> first|trivial|assumption|omega|(simp only [maxLen]; omega)|(simp only [length_edsA, length_rowsA, length_rowA, length_ints, length_wsA, List.length_replicate, List.length_append, List.length_cons, List.length_nil, List.length_map, List.length_take, List.length_drop, List.length_set, List.length_reverse, maxLen] <;> omega)))) (Weak.refl _ _) ⟨0, by omega, by omega, (by first|rfl|simp [keysN]), ?_⟩ ?_
   ·simp (disch := first|omega|(simp only [length_edsA, length_rowsA, length_rowA, length_ints, length_wsA, List.length_set, List.length_reverse, List.length_replicate, List.length_append, List.length_cons, List.length_nil, List.length_map]; omega)) only [push_cast, ↓reduceIte, reduceIte, reduceCtorEq, Nat.reduceAdd, Nat.reduceLT, Nat.reduceEqDiff, Nat.reduceLeDiff, Int.reduceAdd, Int.reduceLT, Int.reduceLE, Nat.reduceMul, a0, a1, a2]
   ·rintro mz s' H' ⟨k, hk, rfl, rfl, b2, b3, b10, b37, b38, b39⟩
    unfold affH
    rcases Nat.lt_or_ge k p.ed.length with hlt|hge
    ·obtain rfl := hz.resolve_left (by intro h; rw [h] at hlt; simp at hlt)
     have e1 := getD_edsA p.ed k hlt
     change _ = xA (p.ed.getD k eD) at e1
     have e2 : keysN p.ed (k + 1) = insK (keysN p.ed k) ((p.ed.getD k eD).s, (p.ed.getD k eD).i) := rfl
     generalize p.ed.getD k eD = x at *
     simp only [xA] at e1
     repeat' (first|(first|(refine a0_ ?_; first|refine a1_ rfl rfl ?_|refine a2_ rfl ?_|refine a3_ rfl rfl ?_|refine a4_ rfl ?_|refine a5_ rfl rfl rfl ?_|refine a6_ rfl rfl ?_)|(refine g0_ ?_; first|refine g1_ rfl ?_|refine g2_ rfl rfl ?_|refine go_draw (dr := allQ) rfl rfl mixed (by first|assumption|kernel_rfl) ?_|refine g4_ rfl ?_|refine g5_ rfl ?_|refine g6_ rfl ?_|refine g7_ rfl ?_|refine g8_ rfl ?_)|(refine o0_ ?_; first|refine o1_ ?_|refine o2_ ?_|refine o3_ ?_|refine o4_ ?_|refine o5_ ?_|refine o6_ rfl ?_|refine o7_ rfl ?_|refine o8_ ?_|refine o9_ ?_|refine oa_ ?_|refine ob_ ?_|refine oc_ ?_|refine od_ ?_|refine oe_ ?_|refine of_ ?_|refine og_ ?_))|refine at_go ?_|(with_reducible refine And.intro (at_go ?_) (at_go ?_))|((with_reducible refine And.intro (fun h => ?_) (fun h => ?_)) <;> try (exfalso; omega))|(with_reducible refine And.intro (by first|omega|(simp only [maxLen]; omega)) ?_)|(first|(refine ⟨_, _, pc_lift (h1) (by (simp [idsL, idsE, AV.ids, Nat.add_zero])) _, ?_⟩)|(refine ⟨_, pc_lift (h1) (by (simp [idsL, idsE, AV.ids, Nat.add_zero])) _, ?_⟩)|(refine ⟨_, fun _ => pc_lift (h1) (by (simp [idsL, idsE, AV.ids, Nat.add_zero])) _, ?_⟩)|(refine ⟨_, _, pc_lift (h2) (by (simp [idsL, idsE, AV.ids, Nat.add_zero])) _, ?_⟩)|(refine ⟨_, pc_lift (h2) (by (simp [idsL, idsE, AV.ids, Nat.add_zero])) _, ?_⟩)|(refine ⟨_, fun _ => pc_lift (h2) (by (simp [idsL, idsE, AV.ids, Nat.add_zero])) _, ?_⟩))|simp (disch := first|omega|(simp only [length_edsA, length_rowsA, length_rowA, length_ints, length_wsA, List.length_set, List.length_reverse, List.length_replicate, List.length_append, List.length_cons, List.length_nil, List.length_map]; omega)) only [push_cast, ↓reduceIte, reduceIte, reduceCtorEq, Nat.reduceAdd, Nat.reduceLT, Nat.reduceEqDiff, Nat.reduceLeDiff, Int.reduceAdd, Int.reduceLT, Int.reduceLE, Nat.reduceMul, b2, b3, b10, b37, b38, b39, e1])
     refine out_round_take (p.ed.length - (k + 1)) 3 (by omega) (by (first|trivial|((repeat' apply And.intro) <;> first|trivial|assumption|omega|(simp only [maxLen]; omega)|(simp only [length_edsA, length_rowsA, length_rowA, length_ints, length_wsA, List.length_replicate, List.length_append, List.length_cons, List.length_nil, List.length_map, List.length_take, List.length_drop, List.length_set, List.length_reverse, maxLen] <;> omega)))) (by omega) (by simp) (by simp [Blk.below, idsE, idsL, AV.ids, all_mapK]) ⟨k + 1, by omega, rfl, by simp [e2], ?_⟩
     simp (disch := first|omega|(simp only [length_edsA, length_rowsA, length_rowA, length_ints, length_wsA, List.length_set, List.length_reverse, List.length_replicate, List.length_append, List.length_cons, List.length_nil, List.length_map]; omega)) only [push_cast, ↓reduceIte, reduceIte, reduceCtorEq, Nat.reduceAdd, Nat.reduceLT, Nat.reduceEqDiff, Nat.reduceLeDiff, Int.reduceAdd, Int.reduceLT, Int.reduceLE, Nat.reduceMul, b2, b3, b10, b37, b38, b39, scrub, AV.ids, idsL, idsE_wsA, idsE_edsA]
    ·obtain rfl : k = p.ed.length := by omega
     repeat' (first|(first|(refine a0_ ?_; first|refine a1_ rfl rfl ?_|refine a2_ rfl ?_|refine a3_ rfl rfl ?_|refine a4_ rfl ?_|refine a5_ rfl rfl rfl ?_|refine a6_ rfl rfl ?_)|(refine g0_ ?_; first|refine g1_ rfl ?_|refine g2_ rfl rfl ?_|refine go_draw (dr := allQ) rfl rfl mixed (by first|assumption|kernel_rfl) ?_|refine g4_ rfl ?_|refine g5_ rfl ?_|refine g6_ rfl ?_|refine g7_ rfl ?_|refine g8_ rfl ?_)|(refine o0_ ?_; first|refine o1_ ?_|refine o2_ ?_|refine o3_ ?_|refine o4_ ?_|refine o5_ ?_|refine o6_ rfl ?_|refine o7_ rfl ?_|refine o8_ ?_|refine o9_ ?_|refine oa_ ?_|refine ob_ ?_|refine oc_ ?_|refine od_ ?_|refine oe_ ?_|refine of_ ?_|refine og_ ?_))|refine at_go ?_|(with_reducible refine And.intro (at_go ?_) (at_go ?_))|((with_reducible refine And.intro (fun h => ?_) (fun h => ?_)) <;> try (exfalso; omega))|(with_reducible refine And.intro (by first|omega|(simp only [maxLen]; omega)) ?_)|(first|(refine ⟨_, _, pc_lift (h1) (by (simp [idsL, idsE, AV.ids, Nat.add_zero])) _, ?_⟩)|(refine ⟨_, pc_lift (h1) (by (simp [idsL, idsE, AV.ids, Nat.add_zero])) _, ?_⟩)|(refine ⟨_, fun _ => pc_lift (h1) (by (simp [idsL, idsE, AV.ids, Nat.add_zero])) _, ?_⟩)|(refine ⟨_, _, pc_lift (h2) (by (simp [idsL, idsE, AV.ids, Nat.add_zero])) _, ?_⟩)|(refine ⟨_, pc_lift (h2) (by (simp [idsL, idsE, AV.ids, Nat.add_zero])) _, ?_⟩)|(refine ⟨_, fun _ => pc_lift (h2) (by (simp [idsL, idsE, AV.ids, Nat.add_zero])) _, ?_⟩))|simp (disch := first|omega|(simp only [length_edsA, length_rowsA, length_rowA, length_ints, length_wsA, List.length_set, List.length_reverse, List.length_replicate, List.length_append, List.length_cons, List.length_nil, List.length_map]; omega)) only [push_cast, ↓reduceIte, reduceIte, reduceCtorEq, Nat.reduceAdd, Nat.reduceLT, Nat.reduceEqDiff, Nat.reduceLeDiff, Int.reduceAdd, Int.reduceLT, Int.reduceLE, Nat.reduceMul, b2, b3, b10, b37, b38, b39])
     have eany := fun a b => keysN_any p.ed a b p.ed.length (Nat.le_refl _)
     simp only [List.take_length] at eany
     generalize keysN p.ed p.ed.length = ks at *
     refine go_weak (by (first|trivial|((repeat' apply And.intro) <;> first|trivial|assumption|omega|(simp only [maxLen]; omega)|(simp only [length_edsA, length_rowsA, length_rowA, length_ints, length_wsA, List.length_replicate, List.length_append, List.length_cons, List.length_nil, List.length_map, List.length_take, List.length_drop, List.length_set, List.length_reverse, maxLen] <;> omega)))) (weak_nil (t := 13) (sz := 1) (ty := 53) rfl) ?_
     refine go_loop rfl (fun mz s' H' => ∃ u : Nat, u ≤ l.length ∧ mz = l.length - u ∧ H' = affH i o la c p z d ks ++ [.row 1 53 (wsA (affM la p.ed (l.take u)))] ∧ s' 3 = .ptr 0 0 0 1 ∧ s' 10 = .mp 2 ∧ s' 13 = .own 3 (affM la p.ed (l.take u)).length (affM la p.ed (l.take u)).length none ∧ s' 50 = .sl zl (wsA l) cl ∧ s' 51 = .int .i64 l.length ∧ s' 52 = .int .i64 u) (m := l.length) (by (first|trivial|((repeat' apply And.intro) <;> first|trivial|assumption|omega|(simp only [maxLen]; omega)|(simp only [length_edsA, length_rowsA, length_rowA, length_ints, length_wsA, List.length_replicate, List.length_append, List.length_cons, List.length_nil, List.length_map, List.length_take, List.length_drop, List.length_set, List.length_reverse, maxLen] <;> omega)))) (Weak.refl _ _) ⟨0, by omega, by omega, (by first|rfl|simp [affM, wsA, List.take_zero, List.filter_nil, List.map_nil]), ?_⟩ ?_
     ·simp (disch := first|omega|(simp only [length_edsA, length_rowsA, length_rowA, length_ints, length_wsA, List.length_set, List.length_reverse, List.length_replicate, List.length_append, List.length_cons, List.length_nil, List.length_map]; omega)) only [push_cast, ↓reduceIte, reduceIte, reduceCtorEq, Nat.reduceAdd, Nat.reduceLT, Nat.reduceEqDiff, Nat.reduceLeDiff, Int.reduceAdd, Int.reduceLT, Int.reduceLE, Nat.reduceMul, b2, b3, b10, b37, b38, b39]
      simp [affM]
     ·rintro mz s' H' ⟨u, hu, rfl, rfl, b3, b10, b13, b50, b51, b52⟩
      unfold affH
      have hcnt := length_affM la p.ed (l.take u)
      rw [List.length_take] at hcnt
      have e0 := length_wsA (affM la p.ed (l.take u))
      rcases Nat.lt_or_ge u l.length with hlt|hge
      ·obtain rfl := hzl.resolve_left (by rintro rfl; simp at hlt)
       have e1 := getD_wsA l u hlt
       have e2 := affM_succ la p.ed l u hlt
       have hmem : l.getD u wD ∈ l := by
        rw [List.getD_eq_getElem?_getD, List.getElem?_eq_getElem hlt]; exact List.getElem_mem hlt
       have hw := checkM_sym (hsym _ hmem)
       have hwl := hs u hlt
       generalize affM la p.ed (l.take u) = acc at *
       generalize (l.getD u wD).1 = w at *
       generalize (l.getD u wD).2 = cw at *
       repeat' (first|(first|(refine a0_ ?_; first|refine a1_ rfl rfl ?_|refine a2_ rfl ?_|refine a3_ rfl rfl ?_|refine a4_ rfl ?_|refine a5_ rfl rfl rfl ?_|refine a6_ rfl rfl ?_)|(refine g0_ ?_; first|refine g1_ rfl ?_|refine g2_ rfl rfl ?_|refine go_draw (dr := allQ) rfl rfl mixed (by first|assumption|kernel_rfl) ?_|refine g4_ rfl ?_|refine g5_ rfl ?_|refine g6_ rfl ?_|refine g7_ rfl ?_|refine g8_ rfl ?_)|(refine o0_ ?_; first|refine o1_ ?_|refine o2_ ?_|refine o3_ ?_|refine o4_ ?_|refine o5_ ?_|refine o6_ rfl ?_|refine o7_ rfl ?_|refine o8_ ?_|refine o9_ ?_|refine oa_ ?_|refine ob_ ?_|refine oc_ ?_|refine od_ ?_|refine oe_ ?_|refine of_ ?_|refine og_ ?_))|refine at_go ?_|(with_reducible refine And.intro (at_go ?_) (at_go ?_))|((with_reducible refine And.intro (fun h => ?_) (fun h => ?_)) <;> try (exfalso; omega))|(with_reducible refine And.intro (by first|omega|(simp only [maxLen]; omega)) ?_)|(first|(refine ⟨_, _, pc_lift (h1) (by (simp [idsL, idsE, AV.ids, Nat.add_zero])) _, ?_⟩)|(refine ⟨_, pc_lift (h1) (by (simp [idsL, idsE, AV.ids, Nat.add_zero])) _, ?_⟩)|(refine ⟨_, fun _ => pc_lift (h1) (by (simp [idsL, idsE, AV.ids, Nat.add_zero])) _, ?_⟩)|(refine ⟨_, _, pc_lift (h2) (by (simp [idsL, idsE, AV.ids, Nat.add_zero])) _, ?_⟩)|(refine ⟨_, pc_lift (h2) (by (simp [idsL, idsE, AV.ids, Nat.add_zero])) _, ?_⟩)|(refine ⟨_, fun _ => pc_lift (h2) (by (simp [idsL, idsE, AV.ids, Nat.add_zero])) _, ?_⟩))|simp (disch := first|omega|(simp only [length_edsA, length_rowsA, length_rowA, length_ints, length_wsA, List.length_set, List.length_reverse, List.length_replicate, List.length_append, List.length_cons, List.length_nil, List.length_map]; omega)) only [push_cast, ↓reduceIte, reduceIte, reduceCtorEq, Nat.reduceAdd, Nat.reduceLT, Nat.reduceEqDiff, Nat.reduceLeDiff, Int.reduceAdd, Int.reduceLT, Int.reduceLE, Nat.reduceMul, b3, b10, b13, b50, b51, b52, e1])
       refine go_loop rfl (fun m s' H' => ∃ (j : Nat) (q : Nat), j ≤ w.length ∧ m = w.length - j ∧ q < la.length ∧ meetsW la p.ed 0 w = meetsW la p.ed q (w.drop j) ∧ H' = [.row 3 30 [[.int .i64 i, .int .i64 o, .sl 1 (rowsA la) c]], .row 6 36 [[.int .i64 p.inp, .int .i64 p.o0, .int .i64 p.o1, .int .i64 p.s0, .int .i64 p.s1, .sl z (edsA p.ed) d]], .ob (.map 33 4 (mapK ks)), .row 1 53 (wsA acc)] ∧ s' 3 = .ptr 0 0 0 1 ∧ s' 10 = .mp 2 ∧ s' 13 = .own 3 acc.length acc.length none ∧ s' 15 = .sl 1 (ints w) cw ∧ s' 50 = .sl 1 (wsA l) cl ∧ s' 51 = .int .i64 l.length ∧ s' 52 = .int .i64 u ∧ s' 16 = .int .i64 q ∧ s' 56 = .sl 1 (ints w) cw ∧ s' 57 = .int .i64 w.length ∧ s' 58 = .int .i64 j) (m := w.length) (by (first|trivial|((repeat' apply And.intro) <;> first|trivial|assumption|omega|(simp only [maxLen]; omega)|(simp only [length_edsA, length_rowsA, length_rowA, length_ints, length_wsA, List.length_replicate, List.length_append, List.length_cons, List.length_nil, List.length_map, List.length_take, List.length_drop, List.length_set, List.length_reverse, maxLen] <;> omega)))) (Weak.refl _ _) ⟨0, 0, by omega, by omega, by omega, by simp, rfl, ?_⟩ ?_
       ·simp (disch := first|omega|(simp only [length_edsA, length_rowsA, length_rowA, length_ints, length_wsA, List.length_set, List.length_reverse, List.length_replicate, List.length_append, List.length_cons, List.length_nil, List.length_map]; omega)) only [push_cast, ↓reduceIte, reduceIte, reduceCtorEq, Nat.reduceAdd, Nat.reduceLT, Nat.reduceEqDiff, Nat.reduceLeDiff, Int.reduceAdd, Int.reduceLT, Int.reduceLE, Nat.reduceMul, b3, b10, b13, b50, b51, b52, e1]
       ·rintro mz s' H' ⟨j, q, hj, rfl, hq, hme, rfl, b3, b10, b13, b15, b50, b51, b52, b16, b56, b57, b58⟩
        rcases Nat.lt_or_ge j w.length with hlt2|hge2
        ·have e3 := getD_ints w j hlt2
         rw [drop_ints w j hlt2, meetsW, ← eany] at hme
         have hx := hw (w.getD j 0) (by rw [List.getD_eq_getElem?_getD, List.getElem?_eq_getElem hlt2]; exact List.getElem_mem hlt2)
         have hrow := getD_rowsA la q hq
         have hlen := hI q hq
         have hto : toAt la q (w.getD j 0) = ((la.getD q ([], none)).1.getD (w.getD j 0).toNat (0, 0)).1 := by simp [toAt]
         have hld := hLd q (w.getD j 0).toNat hq (by omega)
         rw [show (((w.getD j 0).toNat : Nat) : Int) = w.getD j 0 by omega, hto] at hld
         rw [hto] at hme
         generalize (la.getD q ([], none)).1 = r at *
         generalize (la.getD q ([], none)).2 = cr at *
         generalize w.getD j 0 = y at *
         have e4 := getD_rowA r y.toNat (by omega)
         generalize r.getD y.toNat (0, 0) = f at *
         obtain ⟨t, to⟩ := f
         simp only [eA] at e4
         dsimp only at hme hld
         cases hk : ks.any fun x => decide (x = ((q : Int), y)) with
         | true =>
          rw [if_pos hk] at hme
          rw [if_pos hme] at e2
          have hK := fun H => clone51 w 1 cw H (.inr rfl) hwl
          have et : (ints w).take w.length = ints w := List.take_of_length_le (by simp [ints])
          have hC := clip40_own 4 w.length w.length 3 (ints w) none
          repeat' (first|(first|(refine a0_ ?_; first|refine a1_ rfl rfl ?_|refine a2_ rfl ?_|refine a3_ rfl rfl ?_|refine a4_ rfl ?_|refine a5_ rfl rfl rfl ?_|refine a6_ rfl rfl ?_)|(refine g0_ ?_; first|refine g1_ rfl ?_|refine g2_ rfl rfl ?_|refine go_draw (dr := allQ) rfl rfl mixed (by first|assumption|kernel_rfl) ?_|refine g4_ rfl ?_|refine g5_ rfl ?_|refine g6_ rfl ?_|refine g7_ rfl ?_|refine g8_ rfl ?_)|(refine o0_ ?_; first|refine o1_ ?_|refine o2_ ?_|refine o3_ ?_|refine o4_ ?_|refine o5_ ?_|refine o6_ rfl ?_|refine o7_ rfl ?_|refine o8_ ?_|refine o9_ ?_|refine oa_ ?_|refine ob_ ?_|refine oc_ ?_|refine od_ ?_|refine oe_ ?_|refine of_ ?_|refine og_ ?_))|refine at_go ?_|(with_reducible refine And.intro (at_go ?_) (at_go ?_))|((with_reducible refine And.intro (fun h => ?_) (fun h => ?_)) <;> try (exfalso; omega))|(with_reducible refine And.intro (by first|omega|(simp only [maxLen]; omega)) ?_)|(first|(refine ⟨_, _, hK _, ?_⟩)|(refine ⟨_, hK _, ?_⟩)|(refine ⟨_, fun _ => hK _, ?_⟩)|(refine ⟨_, _, hC _ rfl (length_ints w).symm, ?_⟩)|(refine ⟨_, hC _ rfl (length_ints w).symm, ?_⟩)|(refine ⟨_, fun _ => hC _ rfl (length_ints w).symm, ?_⟩))|simp (disch := first|omega|(simp only [length_edsA, length_rowsA, length_rowA, length_ints, length_wsA, List.length_set, List.length_reverse, List.length_replicate, List.length_append, List.length_cons, List.length_nil, List.length_map]; omega)) only [push_cast, ↓reduceIte, reduceIte, reduceCtorEq, Nat.reduceAdd, Nat.reduceLT, Nat.reduceEqDiff, Nat.reduceLeDiff, Int.reduceAdd, Int.reduceLT, Int.reduceLE, Nat.reduceMul, b3, b10, b13, b15, b50, b51, b52, b16, b56, b57, b58, e3, hk])
          refine out_round_frz (l.length - (u + 1)) 4 (j := 4) rfl (by omega) (by (first|trivial|((repeat' apply And.intro) <;> first|trivial|assumption|omega|(simp only [maxLen]; omega)|(simp only [length_edsA, length_rowsA, length_rowA, length_ints, length_wsA, List.length_replicate, List.length_append, List.length_cons, List.length_nil, List.length_map, List.length_take, List.length_drop, List.length_set, List.length_reverse, maxLen] <;> omega)))) (by omega) (by simp [frzH]) (by simp [frzH, frzB, frz, Blk.below, idsE, idsL, AV.ids, all_mapK, map_frz, deadRow, length_ints, et]) ⟨u + 1, by omega, rfl, ?_, ?_⟩
          ·rw [e2]
           simp [frzH, frzB, frz, map_frz, affH, length_ints, et]
           simp [wsA]
          ·rw [e2, List.length_append]
           simp (disch := first|omega|(simp only [length_edsA, length_rowsA, length_rowA, length_ints, length_wsA, List.length_set, List.length_reverse, List.length_replicate, List.length_append, List.length_cons, List.length_nil, List.length_map]; omega)) only [push_cast, ↓reduceIte, reduceIte, reduceCtorEq, Nat.reduceAdd, Nat.reduceLT, Nat.reduceEqDiff, Nat.reduceLeDiff, Int.reduceAdd, Int.reduceLT, Int.reduceLE, Nat.reduceMul, b3, b10, b13, b15, b50, b51, b52, b16, b56, b57, b58, scrub, frz, AV.ids, idsL, idsE_wsA]
         | false =>
          rw [if_neg (by simp [hk])] at hme
          by_cases ht : t = -1
          ·subst ht
           rw [if_pos rfl] at hme
           rw [if_neg (by simp [hme]), List.append_nil] at e2
           repeat' (first|(first|(refine a0_ ?_; first|refine a1_ rfl rfl ?_|refine a2_ rfl ?_|refine a3_ rfl rfl ?_|refine a4_ rfl ?_|refine a5_ rfl rfl rfl ?_|refine a6_ rfl rfl ?_)|(refine g0_ ?_; first|refine g1_ rfl ?_|refine g2_ rfl rfl ?_|refine go_draw (dr := allQ) rfl rfl mixed (by first|assumption|kernel_rfl) ?_|refine g4_ rfl ?_|refine g5_ rfl ?_|refine g6_ rfl ?_|refine g7_ rfl ?_|refine g8_ rfl ?_)|(refine o0_ ?_; first|refine o1_ ?_|refine o2_ ?_|refine o3_ ?_|refine o4_ ?_|refine o5_ ?_|refine o6_ rfl ?_|refine o7_ rfl ?_|refine o8_ ?_|refine o9_ ?_|refine oa_ ?_|refine ob_ ?_|refine oc_ ?_|refine od_ ?_|refine oe_ ?_|refine of_ ?_|refine og_ ?_))|refine at_go ?_|(with_reducible refine And.intro (at_go ?_) (at_go ?_))|((with_reducible refine And.intro (fun h => ?_) (fun h => ?_)) <;> try (exfalso; omega))|(with_reducible refine And.intro (by first|omega|(simp only [maxLen]; omega)) ?_)|(first|(refine ⟨_, _, hK _, ?_⟩)|(refine ⟨_, hK _, ?_⟩)|(refine ⟨_, fun _ => hK _, ?_⟩)|(refine ⟨_, _, hC _ rfl (length_ints w).symm, ?_⟩)|(refine ⟨_, hC _ rfl (length_ints w).symm, ?_⟩)|(refine ⟨_, fun _ => hC _ rfl (length_ints w).symm, ?_⟩))|simp (disch := first|omega|(simp only [length_edsA, length_rowsA, length_rowA, length_ints, length_wsA, List.length_set, List.length_reverse, List.length_replicate, List.length_append, List.length_cons, List.length_nil, List.length_map]; omega)) only [push_cast, ↓reduceIte, reduceIte, reduceCtorEq, Nat.reduceAdd, Nat.reduceLT, Nat.reduceEqDiff, Nat.reduceLeDiff, Int.reduceAdd, Int.reduceLT, Int.reduceLE, Nat.reduceMul, b3, b10, b13, b15, b50, b51, b52, b16, b56, b57, b58, e3, hk, hrow, hlen, e4])
           refine out_round_take (l.length - (u + 1)) 4 (by omega) (by (first|trivial|((repeat' apply And.intro) <;> first|trivial|assumption|omega|(simp only [maxLen]; omega)|(simp only [length_edsA, length_rowsA, length_rowA, length_ints, length_wsA, List.length_replicate, List.length_append, List.length_cons, List.length_nil, List.length_map, List.length_take, List.length_drop, List.length_set, List.length_reverse, maxLen] <;> omega)))) (by omega) (by simp) (by simp [Blk.below, idsE, idsL, AV.ids, all_mapK]) ⟨u + 1, by omega, rfl, by rw [e2]; rfl, ?_⟩
           rw [e2]
           simp (disch := first|omega|(simp only [length_edsA, length_rowsA, length_rowA, length_ints, length_wsA, List.length_set, List.length_reverse, List.length_replicate, List.length_append, List.length_cons, List.length_nil, List.length_map]; omega)) only [push_cast, ↓reduceIte, reduceIte, reduceCtorEq, Nat.reduceAdd, Nat.reduceLT, Nat.reduceEqDiff, Nat.reduceLeDiff, Int.reduceAdd, Int.reduceLT, Int.reduceLE, Nat.reduceMul, b3, b10, b13, b15, b50, b51, b52, b16, b56, b57, b58, scrub, frz, AV.ids, idsL, idsE_wsA]
          ·rw [if_neg ht] at hme
           obtain ⟨t2, rfl⟩ : ∃ t2 : Nat, t = t2 := ⟨t.toNat, by omega⟩
           repeat' (first|(first|(refine a0_ ?_; first|refine a1_ rfl rfl ?_|refine a2_ rfl ?_|refine a3_ rfl rfl ?_|refine a4_ rfl ?_|refine a5_ rfl rfl rfl ?_|refine a6_ rfl rfl ?_)|(refine g0_ ?_; first|refine g1_ rfl ?_|refine g2_ rfl rfl ?_|refine go_draw (dr := allQ) rfl rfl mixed (by first|assumption|kernel_rfl) ?_|refine g4_ rfl ?_|refine g5_ rfl ?_|refine g6_ rfl ?_|refine g7_ rfl ?_|refine g8_ rfl ?_)|(refine o0_ ?_; first|refine o1_ ?_|refine o2_ ?_|refine o3_ ?_|refine o4_ ?_|refine o5_ ?_|refine o6_ rfl ?_|refine o7_ rfl ?_|refine o8_ ?_|refine o9_ ?_|refine oa_ ?_|refine ob_ ?_|refine oc_ ?_|refine od_ ?_|refine oe_ ?_|refine of_ ?_|refine og_ ?_))|refine at_go ?_|(with_reducible refine And.intro (at_go ?_) (at_go ?_))|((with_reducible refine And.intro (fun h => ?_) (fun h => ?_)) <;> try (exfalso; omega))|(with_reducible refine And.intro (by first|omega|(simp only [maxLen]; omega)) ?_)|(first|(refine ⟨_, _, hK _, ?_⟩)|(refine ⟨_, hK _, ?_⟩)|(refine ⟨_, fun _ => hK _, ?_⟩)|(refine ⟨_, _, hC _ rfl (length_ints w).symm, ?_⟩)|(refine ⟨_, hC _ rfl (length_ints w).symm, ?_⟩)|(refine ⟨_, fun _ => hC _ rfl (length_ints w).symm, ?_⟩))|simp (disch := first|omega|(simp only [length_edsA, length_rowsA, length_rowA, length_ints, length_wsA, List.length_set, List.length_reverse, List.length_replicate, List.length_append, List.length_cons, List.length_nil, List.length_map]; omega)) only [push_cast, ↓reduceIte, reduceIte, reduceCtorEq, Nat.reduceAdd, Nat.reduceLT, Nat.reduceEqDiff, Nat.reduceLeDiff, Int.reduceAdd, Int.reduceLT, Int.reduceLE, Nat.reduceMul, b3, b10, b13, b15, b50, b51, b52, b16, b56, b57, b58, e3, hk, hrow, hlen, e4, ht])
           refine out_round (w.length - (j + 1)) (by omega) (by (first|trivial|((repeat' apply And.intro) <;> first|trivial|assumption|omega|(simp only [maxLen]; omega)|(simp only [length_edsA, length_rowsA, length_rowA, length_ints, length_wsA, List.length_replicate, List.length_append, List.length_cons, List.length_nil, List.length_map, List.length_take, List.length_drop, List.length_set, List.length_reverse, maxLen] <;> omega)))) ⟨j + 1, t2, by omega, rfl, by omega, hme, rfl, ?_⟩
           simp (disch := first|omega|(simp only [length_edsA, length_rowsA, length_rowA, length_ints, length_wsA, List.length_set, List.length_reverse, List.length_replicate, List.length_append, List.length_cons, List.length_nil, List.length_map]; omega)) only [push_cast, ↓reduceIte, reduceIte, reduceCtorEq, Nat.reduceAdd, Nat.reduceLT, Nat.reduceEqDiff, Nat.reduceLeDiff, Int.reduceAdd, Int.reduceLT, Int.reduceLE, Nat.reduceMul, b3, b10, b13, b15, b50, b51, b52, b16, b56, b57, b58, e3, hk, hrow, hlen, e4, ht]
        ·obtain rfl : j = w.length := by omega
         rw [List.drop_length, meetsW] at hme
         rw [if_neg (by simp [hme]), List.append_nil] at e2
         repeat' (first|(first|(refine a0_ ?_; first|refine a1_ rfl rfl ?_|refine a2_ rfl ?_|refine a3_ rfl rfl ?_|refine a4_ rfl ?_|refine a5_ rfl rfl rfl ?_|refine a6_ rfl rfl ?_)|(refine g0_ ?_; first|refine g1_ rfl ?_|refine g2_ rfl rfl ?_|refine go_draw (dr := allQ) rfl rfl mixed (by first|assumption|kernel_rfl) ?_|refine g4_ rfl ?_|refine g5_ rfl ?_|refine g6_ rfl ?_|refine g7_ rfl ?_|refine g8_ rfl ?_)|(refine o0_ ?_; first|refine o1_ ?_|refine o2_ ?_|refine o3_ ?_|refine o4_ ?_|refine o5_ ?_|refine o6_ rfl ?_|refine o7_ rfl ?_|refine o8_ ?_|refine o9_ ?_|refine oa_ ?_|refine ob_ ?_|refine oc_ ?_|refine od_ ?_|refine oe_ ?_|refine of_ ?_|refine og_ ?_))|refine at_go ?_|(with_reducible refine And.intro (at_go ?_) (at_go ?_))|((with_reducible refine And.intro (fun h => ?_) (fun h => ?_)) <;> try (exfalso; omega))|(with_reducible refine And.intro (by first|omega|(simp only [maxLen]; omega)) ?_)|(first|(refine ⟨_, _, hK _, ?_⟩)|(refine ⟨_, hK _, ?_⟩)|(refine ⟨_, fun _ => hK _, ?_⟩)|(refine ⟨_, _, hC _ rfl (length_ints w).symm, ?_⟩)|(refine ⟨_, hC _ rfl (length_ints w).symm, ?_⟩)|(refine ⟨_, fun _ => hC _ rfl (length_ints w).symm, ?_⟩))|simp (disch := first|omega|(simp only [length_edsA, length_rowsA, length_rowA, length_ints, length_wsA, List.length_set, List.length_reverse, List.length_replicate, List.length_append, List.length_cons, List.length_nil, List.length_map]; omega)) only [push_cast, ↓reduceIte, reduceIte, reduceCtorEq, Nat.reduceAdd, Nat.reduceLT, Nat.reduceEqDiff, Nat.reduceLeDiff, Int.reduceAdd, Int.reduceLT, Int.reduceLE, Nat.reduceMul, b3, b10, b13, b15, b50, b51, b52, b16, b56, b57, b58])
         refine out_round_take (l.length - (u + 1)) 4 (by omega) (by (first|trivial|((repeat' apply And.intro) <;> first|trivial|assumption|omega|(simp only [maxLen]; omega)|(simp only [length_edsA, length_rowsA, length_rowA, length_ints, length_wsA, List.length_replicate, List.length_append, List.length_cons, List.length_nil, List.length_map, List.length_take, List.length_drop, List.length_set, List.length_reverse, maxLen] <;> omega)))) (by omega) (by simp) (by simp [Blk.below, idsE, idsL, AV.ids, all_mapK]) ⟨u + 1, by omega, rfl, by rw [e2]; rfl, ?_⟩
         rw [e2]
         simp (disch := first|omega|(simp only [length_edsA, length_rowsA, length_rowA, length_ints, length_wsA, List.length_set, List.length_reverse, List.length_replicate, List.length_append, List.length_cons, List.length_nil, List.length_map]; omega)) only [push_cast, ↓reduceIte, reduceIte, reduceCtorEq, Nat.reduceAdd, Nat.reduceLT, Nat.reduceEqDiff, Nat.reduceLeDiff, Int.reduceAdd, Int.reduceLT, Int.reduceLE, Nat.reduceMul, b3, b10, b13, b15, b50, b51, b52, b16, b56, b57, b58, scrub, frz, AV.ids, idsL, idsE_wsA]
      ·obtain rfl : u = l.length := by omega
       rw [List.take_length] at *
       have hCl := clip62_own 3 (affM la p.ed l).length (affM la p.ed l).length 53 (wsA (affM la p.ed l)) none
       repeat' (first|(first|(refine a0_ ?_; first|refine a1_ rfl rfl ?_|refine a2_ rfl ?_|refine a3_ rfl rfl ?_|refine a4_ rfl ?_|refine a5_ rfl rfl rfl ?_|refine a6_ rfl rfl ?_)|(refine g0_ ?_; first|refine g1_ rfl ?_|refine g2_ rfl rfl ?_|refine go_draw (dr := allQ) rfl rfl mixed (by first|assumption|kernel_rfl) ?_|refine g4_ rfl ?_|refine g5_ rfl ?_|refine g6_ rfl ?_|refine g7_ rfl ?_|refine g8_ rfl ?_)|(refine o0_ ?_; first|refine o1_ ?_|refine o2_ ?_|refine o3_ ?_|refine o4_ ?_|refine o5_ ?_|refine o6_ rfl ?_|refine o7_ rfl ?_|refine o8_ ?_|refine o9_ ?_|refine oa_ ?_|refine ob_ ?_|refine oc_ ?_|refine od_ ?_|refine oe_ ?_|refine of_ ?_|refine og_ ?_))|refine at_go ?_|(with_reducible refine And.intro (at_go ?_) (at_go ?_))|((with_reducible refine And.intro (fun h => ?_) (fun h => ?_)) <;> try (exfalso; omega))|(with_reducible refine And.intro (by first|omega|(simp only [maxLen]; omega)) ?_)|(first|(refine ⟨_, _, hCl _ rfl (length_wsA _).symm, ?_⟩)|(refine ⟨_, hCl _ rfl (length_wsA _).symm, ?_⟩)|(refine ⟨_, fun _ => hCl _ rfl (length_wsA _).symm, ?_⟩))|simp (disch := first|omega|(simp only [length_edsA, length_rowsA, length_rowA, length_ints, length_wsA, List.length_set, List.length_reverse, List.length_replicate, List.length_append, List.length_cons, List.length_nil, List.length_map]; omega)) only [push_cast, ↓reduceIte, reduceIte, reduceCtorEq, Nat.reduceAdd, Nat.reduceLT, Nat.reduceEqDiff, Nat.reduceLeDiff, Int.reduceAdd, Int.reduceLT, Int.reduceLE, Nat.reduceMul, b3, b10, b13, b50, b51, b52, e0])
end Go.Proofs
