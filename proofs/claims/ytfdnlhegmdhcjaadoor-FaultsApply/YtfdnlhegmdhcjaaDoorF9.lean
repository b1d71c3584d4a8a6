import Derived.Test.YtfdnlhegmdhcjaaDoorF8
namespace Go.Proofs
open Go Go.V
set_option linter.unusedVariables false
set_option linter.unusedSimpArgs false
set_option maxHeartbeats 0
theorem kb_at0 (X : List Blk) (N : Nat) (h : X.length = N) (A : Blk) (E : List Blk) : (X ++ A :: E)[N]? = some A := by
 rw [List.getElem?_append_right (by omega), h, Nat.sub_self]; rfl
theorem kb_at1 (X : List Blk) (N : Nat) (h : X.length = N) (A B : Blk) (E : List Blk) : (X ++ A :: B :: E)[N + 1]? = some B := by
 rw [List.getElem?_append_right (by omega), h, Nat.add_sub_cancel_left]; rfl
theorem kb_at2 (X : List Blk) (N : Nat) (h : X.length = N) (A B C : Blk) (E : List Blk) : (X ++ A :: B :: C :: E)[N + 1 + 1]? = some C := by
 rw [List.getElem?_append_right (by omega), h]
 have : N + 1 + 1 - N = 2 := by omega
 rw [this]; rfl
theorem kb_set1 (X : List Blk) (N : Nat) (h : X.length = N) (A B B' : Blk) (E : List Blk) : (X ++ A :: B :: E).set (N + 1) B' = X ++ A :: B' :: E := by
 rw [List.set_append_right _ _ (by omega), h, Nat.add_sub_cancel_left]; rfl
theorem kb_set2 (X : List Blk) (N : Nat) (h : X.length = N) (A B C C' : Blk) (E : List Blk) : (X ++ A :: B :: C :: E).set (N + 1 + 1) C' = X ++ A :: B :: C' :: E := by
 rw [List.set_append_right _ _ (by omega), h]
 have : N + 1 + 1 - N = 2 := by omega
 rw [this]; rfl
theorem kb_len3 (X : List Blk) (N : Nat) (h : X.length = N) (A B C : Blk) : (X ++ [A, B, C]).length = N + 1 + 1 + 1 := by simp [h]
theorem kb_len1 (X : List Blk) (N : Nat) (h : X.length = N) (A : Blk) : (X ++ [A]).length = N + 1 := by simp [h]
theorem kb_len2 (X : List Blk) (N : Nat) (h : X.length = N) (A B : Blk) : (X ++ [A, B]).length = N + 1 + 1 := by simp [h]
theorem kb_take1 (X : List Blk) (N : Nat) (h : X.length = N) (A : Blk) (E : List Blk) : (X ++ A :: E).take (N + 1) = X ++ [A] := by
 subst h
 rw [List.take_append, List.take_of_length_le (by omega)]; simp
theorem kb_take2 (X : List Blk) (N : Nat) (h : X.length = N) (A B : Blk) (E : List Blk) : (X ++ A :: B :: E).take (N + 1 + 1) = X ++ [A, B] := by
 subst h
 rw [List.take_append, List.take_of_length_le (by omega)]
 have : X.length + 1 + 1 - X.length = 2 := by omega
 rw [this]; simp
theorem mono_of {f : Nat → Nat} (h : ∀ i, f i ≤ f (i + 1)) : ∀ i d, f i ≤ f (i + d)
 | i, 0 => Nat.le_refl _
 | i, d + 1 => Nat.le_trans (mono_of h i d) (h (i + d))
theorem step_uniq {f : Nat → Nat} (h : ∀ i, f i ≤ f (i + 1)) {a p q : Nat} (h1 : f a ≤ q) (h2 : q < f (a + 1)) (h3 : f p ≤ q) (h4 : q < f (p + 1)) : a = p := by
 rcases Nat.lt_trichotomy a p with w|w|w
 ·have := mono_of h (a + 1) (p - (a + 1))
  rw [show a + 1 + (p - (a + 1)) = p by omega] at this
  omega
 ·exact w
 ·have := mono_of h (p + 1) (a - (p + 1))
  rw [show p + 1 + (a - (p + 1)) = a by omega] at this
  omega
theorem allF_step (R : RR) (I O : Nat) (ks : List Int) (i : Nat) : (allF R I O (ks.take i)).length ≤ (allF R I O (ks.take (i + 1))).length := by
 rcases Nat.lt_or_ge i ks.length with h|h
 ·rw [allF_take R I O ks i h, List.length_append]; omega
 ·rw [List.take_of_length_le h, List.take_of_length_le (by omega)]; exact Nat.le_refl _
theorem fK_step (R : RR) (I O : Nat) (k : Int) (i : Nat) : (fK R I O k i).length ≤ (fK R I O k (i + 1)).length := by
 rcases Nat.lt_or_ge i (edL R I R.length).length with h|h
 ·rw [fK_succ R I O k i h, List.length_append]; omega
 ·rw [fK, fK, List.take_of_length_le h, List.take_of_length_le (by omega)]; exact Nat.le_refl _
set_option maxRecDepth 100000 in
theorem all61 (i o : Int) (l : List Row) (c : Option Nat) (z : Nat) (ks : List Int) (ck : Option Nat) (hm : machOk i o l = 0) (hz0 : ks = [] ∨ z = 1) (hks : ∀ k ∈ ks, 0 ≤ k ∧ k ≤ 4) (hkl : ks.length ≤ 1000) :
  IterF Tryd.prog G0 61 [.iptr [.sl z (ints ks) ck] 0, .iptr (macC i o l c) 0] (fun q => [.agg (flA ((allF (edgesOf l) i.toNat o.toNat ks).getD q fl0))]) (allF (edgesOf l) i.toNat o.toNat ks).length := by
 intro K b q stop hK hs1 hs2 hy hz
 obtain ⟨m1, m2, m3, m4, m5⟩ := machOk_zero hm
 generalize hR : edgesOf l = R at *
 generalize hI : i.toNat = I at *
 generalize hO : o.toNat = O at *
 obtain ⟨ps, hps⟩ : ∃ ps : Nat, stop = true → (allF R I O (ks.take ps)).length ≤ q ∧ q < (allF R I O (ks.take (ps + 1))).length := by
  cases stop with
  | false => exact ⟨0, fun h => by cases h⟩
  | true =>
   obtain ⟨m, _, h1, h2⟩ := step_over (fun i => (allF R I O (ks.take i)).length) q ks.length (by simp [allF]) (by have := hs1 rfl; simpa using this)
   exact ⟨m, fun _ => ⟨h1, h2⟩⟩
 refine ac_dropT (K := if stop = true then [.row 1 78 [[.yld b]], .row 1 3 [[.int .i64 (ks.getD ps 0)]]] else [.row 1 78 [[.yld b]]]) ?_ (by rw [(hK _).1, (hK _).1]) (below_le (by rw [(hK _).1]; omega) (hK _).2) rfl
 unfold macC
 have hl := fun j => (hK j).1
 have hb := fun j => (hK j).2
 have k0 := fun j => kb_at0 (K j) (b + 1) (hl j)
 have k1 := fun j => kb_at1 (K j) (b + 1) (hl j)
 have l1 := fun j => kb_len1 (K j) (b + 1) (hl j)
 have l2 := fun j => kb_len2 (K j) (b + 1) (hl j)
 have k2 := fun j => kb_at2 (K j) (b + 1) (hl j)
 have s1_ := fun j => kb_set1 (K j) (b + 1) (hl j)
 have s2_ := fun j => kb_set2 (K j) (b + 1) (hl j)
 have l3 := fun j => kb_len3 (K j) (b + 1) (hl j)
 refine ac_go 36 [] Tryd.func61 rfl rfl rfl (by simp) ?_
 intro s ⟨a0, a1, a2, hz⟩
 simp only [Nat.zero_add, Nat.reduceAdd] at a1 a2
 clear hz
 repeat' (first|(first|(refine a0_ ?_; first|refine a1_ rfl rfl ?_|refine a2_ rfl ?_|refine a3_ rfl rfl ?_|refine a4_ rfl ?_|refine ak_ rfl rfl ?_|refine a5_ rfl rfl rfl ?_|refine a6_ rfl rfl ?_|refine a7_ rfl rfl ?_|refine a8_ rfl rfl ?_|refine a9_ rfl rfl rfl ?_)|(refine g0_ ?_; first|refine g1_ rfl ?_|refine g2_ rfl rfl ?_|refine go_draw (dr := allQ) rfl rfl mixed (by first|assumption|kernel_rfl) ?_|refine g4_ rfl ?_|refine g5_ rfl ?_|refine g6_ rfl ?_|refine g7_ rfl ?_|refine g8_ rfl ?_|refine ga_ rfl ?_|refine gb_ rfl ?_)|(refine o0_ ?_; first|refine o1_ ?_|refine o2_ ?_|refine o3_ ?_|refine o4_ ?_|refine o5_ ?_|refine o6_ rfl ?_|refine o7_ rfl ?_|refine o8_ ?_|refine o9_ ?_|refine oa_ ?_|refine ob_ ?_|refine oc_ ?_|refine od_ ?_|refine oe_ ?_|refine of_ ?_|refine og_ ?_|refine oh_ ?_|refine oi_ ?_|refine oj_ ?_|refine ok_ ?_))|refine at_go ?_|(with_reducible refine And.intro (at_go ?_) (at_go ?_))|((with_reducible refine And.intro (fun h => ?_) (fun h => ?_)) <;> try (exfalso; omega))|(with_reducible refine And.intro (by first|omega|(simp only [maxLen]; omega)) ?_)|(refine And.intro ⟨[_], rfl⟩ ?_)|(refine And.intro ⟨[], by simp only [List.append_nil]⟩ ?_)|fail|simp (disch := first|omega|(simp only [List.length_map, lenF, lenS]; omega)) only [push_cast, ↓reduceIte, reduceIte, reduceCtorEq, Nat.reduceAdd, Nat.reduceLT, Nat.reduceEqDiff, Nat.reduceLeDiff, Int.reduceAdd, Int.reduceLT, Int.reduceLE, Nat.reduceMul, a0, a1, a2, hl, l1, l2, l3, k0, k1, k2, s1_, s2_, List.append_assoc, List.cons_append, List.nil_append])
 refine go_loop rfl (fun mz s' H' => ∃ p : Nat, p ≤ ks.length ∧ mz = ks.length - p ∧ (allF R I O (ks.take p)).length ≤ q ∧ H' = K (allF R I O (ks.take p)).length ++ [.row 1 78 [[.yld b]]] ∧ s' 1 = .iptr [.sl z (ints ks) ck] 0 ∧ s' 2 = .iptr [.int .i64 i, .int .i64 o, .sl 1 (rowsA l) c] 0 ∧ s' 3 = .ptr (b + 1) 0 0 1 ∧ s' 10 = .sl z (ints ks) ck ∧ s' 11 = .int .i64 ks.length ∧ s' 12 = .int .i64 p) (m := ks.length) (by (first|trivial|((repeat' apply And.intro) <;> first|trivial|assumption|omega|(simp only [maxLen]; omega)|(simp only [List.length_map, maxLen, lenF, lenS] <;> omega)))) (Weak.refl _ _) ⟨0, by omega, by omega, by simp [allF], by simp [allF], ?_⟩ ?_
 ·simp (disch := first|omega|(simp only [List.length_map, lenF, lenS]; omega)) only [push_cast, ↓reduceIte, reduceIte, reduceCtorEq, Nat.reduceAdd, Nat.reduceLT, Nat.reduceEqDiff, Nat.reduceLeDiff, Int.reduceAdd, Int.reduceLT, Int.reduceLE, Nat.reduceMul, a0, a1, a2, hl, l1, l2, l3, k0, k1, k2, s1_, s2_, List.append_assoc, List.cons_append, List.nil_append]
 ·rintro mz s' H' ⟨p, hp, rfl, hcq, rfl, b1, b2, b3, b10, b11, b12⟩
  rcases Nat.lt_or_ge p ks.length with hlt|hge
  ·obtain rfl : z = 1 := by
    rcases hz0 with h|h
    ·rw [h] at hlt; simp at hlt
    ·exact h
   have e1 := getD_ints ks p hlt
   have hk := hks (ks.getD p 0) (by rw [List.getD_eq_getElem?_getD, List.getElem?_eq_getElem hlt]; exact List.getElem_mem hlt)
   have hnx := congrArg List.length (allF_take R I O ks p hlt)
   rw [List.length_append] at hnx
   have hpre : ∀ j, j < (edgF R I O (ks.getD p 0)).length → (allF R I O ks).getD ((allF R I O (ks.take p)).length + j) fl0 = (edgF R I O (ks.getD p 0)).getD j fl0 ∧ (allF R I O (ks.take p)).length + j < (allF R I O ks).length := fun j hj => by
    have e : allF R I O ks = allF R I O (ks.take p) ++ (edgF R I O (ks.getD p 0) ++ allF R I O (ks.drop (p + 1))) := by
     rw [← List.append_assoc, ← allF_take R I O ks p hlt]
     unfold allF
     rw [← List.flatMap_append, List.take_append_drop]
    rw [e, List.length_append, List.length_append]
    refine ⟨?_, by omega⟩
    rw [List.getD_eq_getElem?_getD, List.getElem?_append_right (by omega), Nat.add_sub_cancel_left, List.getElem?_append_left hj, ← List.getD_eq_getElem?_getD]
   generalize hk0 : ks.getD p 0 = k at *
   generalize hcb : (allF R I O (ks.take p)).length = cb at *
   obtain ⟨N, hN⟩ : ∃ N, N = (edL R I R.length).length := ⟨_, rfl⟩
   have hRl : R.length = l.length := by rw [← hR, edgesOf_len]
   have hround : ∀ (j : Nat) (s1 : Nat → AV), j < N → cb + (fK R I O k (j + 1)).length ≤ q → s1 1 = .iptr [.sl 1 (ints ks) ck] 0 → s1 2 = .iptr [.int .i64 i, .int .i64 o, .sl 1 (rowsA l) c] 0 → s1 3 = .ptr (b + 1) 0 0 1 → s1 5 = .ptr (b + 1 + 1) 0 0 1 →
     s1 18 = .int .i64 (((edL R I R.length).getD j (0, 0)).1 : Nat) → s1 19 = .int .i64 (((edL R I R.length).getD j (0, 0)).2 : Nat) →
     Go true Tryd.prog G0 (b + 1 + 1 + 1) 36 (bodyOf Tryd.f61) (0 :: [0, 1, 1, 0, 0, 1, 1, 0, 0, 1, 1]) (thenS (At true Tryd.prog G0 (b + 1 + 1 + 1) 36 (bodyOf Tryd.f61) (1 :: [0, 1, 1, 0, 0, 1, 1, 0, 0, 1, 1]) (EndQ (b + 1 + 1 + 1) .normal (K (cb + (fK R I O k (j + 1)).length) ++ [.row 1 78 [[.yld b]], .row 1 3 [[.int .i64 k]]]))) noneS) True s1 (K (cb + (fK R I O k j).length) ++ [.row 1 78 [[.yld b]], .row 1 3 [[.int .i64 k]]]) := by
    intro j s1 hj hle c1 c2 c3 c5 c18 c19
    have hj' : j < (edL R I R.length).length := by omega
    obtain ⟨g1, g2, g3⟩ := edL_def hj'
    have hat := fun r h => fK_at (R := R) (I := I) (O := O) (k := k) (j := j) (r := r) hj' h
    have hsu := congrArg List.length (fK_succ R I O k j hj')
    rw [List.length_append] at hsu
    generalize ((edL R I R.length).getD j (0, 0)).1 = u at *
    generalize ((edL R I R.length).getD j (0, 0)).2 = v at *
    obtain ⟨hof, hofl⟩ := of63 i o l c hm k hk u v (by rw [defA, hR, hI]; exact g3)
    rw [hR, hI, hO] at hof hofl
    generalize ofF R I O k u v = L at *
    generalize hcj : (fK R I O k j).length = cj at *
    unfold mA at hof
    rw [hsu] at hle ⊢
    repeat' (first|(first|(refine a0_ ?_; first|refine a1_ rfl rfl ?_|refine a2_ rfl ?_|refine a3_ rfl rfl ?_|refine a4_ rfl ?_|refine ak_ rfl rfl ?_|refine a5_ rfl rfl rfl ?_|refine a6_ rfl rfl ?_|refine a7_ rfl rfl ?_|refine a8_ rfl rfl ?_|refine a9_ rfl rfl rfl ?_)|(refine g0_ ?_; first|refine g1_ rfl ?_|refine g2_ rfl rfl ?_|refine go_draw (dr := allQ) rfl rfl mixed (by first|assumption|kernel_rfl) ?_|refine g4_ rfl ?_|refine g5_ rfl ?_|refine g6_ rfl ?_|refine g7_ rfl ?_|refine g8_ rfl ?_|refine ga_ rfl ?_|refine gb_ rfl ?_)|(refine o0_ ?_; first|refine o1_ ?_|refine o2_ ?_|refine o3_ ?_|refine o4_ ?_|refine o5_ ?_|refine o6_ rfl ?_|refine o7_ rfl ?_|refine o8_ ?_|refine o9_ ?_|refine oa_ ?_|refine ob_ ?_|refine oc_ ?_|refine od_ ?_|refine oe_ ?_|refine of_ ?_|refine og_ ?_|refine oh_ ?_|refine oi_ ?_|refine oj_ ?_|refine ok_ ?_))|refine at_go ?_|(with_reducible refine And.intro (at_go ?_) (at_go ?_))|((with_reducible refine And.intro (fun h => ?_) (fun h => ?_)) <;> try (exfalso; omega))|(with_reducible refine And.intro (by first|omega|(simp only [maxLen]; omega)) ?_)|(refine And.intro ⟨[_], rfl⟩ ?_)|(refine And.intro ⟨[], by simp only [List.append_nil]⟩ ?_)|(first|(refine ⟨_, _, pc_lift (hof) (by (simp [idsL, idsE, AV.ids, Nat.add_zero])) _, ?_⟩)|(refine ⟨_, pc_lift (hof) (by (simp [idsL, idsE, AV.ids, Nat.add_zero])) _, ?_⟩)|(refine ⟨_, fun _ => pc_lift (hof) (by (simp [idsL, idsE, AV.ids, Nat.add_zero])) _, ?_⟩))|simp (disch := first|omega|(simp only [List.length_map, lenF, lenS]; omega)) only [push_cast, ↓reduceIte, reduceIte, reduceCtorEq, Nat.reduceAdd, Nat.reduceLT, Nat.reduceEqDiff, Nat.reduceLeDiff, Int.reduceAdd, Int.reduceLT, Int.reduceLE, Nat.reduceMul, c1, c2, c3, c5, c18, c19, hl, l1, l2, l3, k0, k1, k2, s1_, s2_, List.append_assoc, List.cons_append, List.nil_append])
    refine out_thenS ⟨by (first|trivial|((repeat' apply And.intro) <;> first|trivial|assumption|omega|(simp only [maxLen]; omega)|(simp only [List.length_map, maxLen, lenF, lenS] <;> omega))), at_go ?_⟩
    repeat' (first|(first|(refine a0_ ?_; first|refine a1_ rfl rfl ?_|refine a2_ rfl ?_|refine a3_ rfl rfl ?_|refine a4_ rfl ?_|refine ak_ rfl rfl ?_|refine a5_ rfl rfl rfl ?_|refine a6_ rfl rfl ?_|refine a7_ rfl rfl ?_|refine a8_ rfl rfl ?_|refine a9_ rfl rfl rfl ?_)|(refine g0_ ?_; first|refine g1_ rfl ?_|refine g2_ rfl rfl ?_|refine go_draw (dr := allQ) rfl rfl mixed (by first|assumption|kernel_rfl) ?_|refine g4_ rfl ?_|refine g5_ rfl ?_|refine g6_ rfl ?_|refine g7_ rfl ?_|refine g8_ rfl ?_|refine ga_ rfl ?_|refine gb_ rfl ?_)|(refine o0_ ?_; first|refine o1_ ?_|refine o2_ ?_|refine o3_ ?_|refine o4_ ?_|refine o5_ ?_|refine o6_ rfl ?_|refine o7_ rfl ?_|refine o8_ ?_|refine o9_ ?_|refine oa_ ?_|refine ob_ ?_|refine oc_ ?_|refine od_ ?_|refine oe_ ?_|refine of_ ?_|refine og_ ?_|refine oh_ ?_|refine oi_ ?_|refine oj_ ?_|refine ok_ ?_))|refine at_go ?_|(with_reducible refine And.intro (at_go ?_) (at_go ?_))|((with_reducible refine And.intro (fun h => ?_) (fun h => ?_)) <;> try (exfalso; omega))|(with_reducible refine And.intro (by first|omega|(simp only [maxLen]; omega)) ?_)|(refine And.intro ⟨[_], rfl⟩ ?_)|(refine And.intro ⟨[], by simp only [List.append_nil]⟩ ?_)|(first|(refine ⟨_, _, pc_lift (hof) (by (simp [idsL, idsE, AV.ids, Nat.add_zero])) _, ?_⟩)|(refine ⟨_, pc_lift (hof) (by (simp [idsL, idsE, AV.ids, Nat.add_zero])) _, ?_⟩)|(refine ⟨_, fun _ => pc_lift (hof) (by (simp [idsL, idsE, AV.ids, Nat.add_zero])) _, ?_⟩))|simp (disch := first|omega|(simp only [List.length_map, lenF, lenS]; omega)) only [push_cast, ↓reduceIte, reduceIte, reduceCtorEq, Nat.reduceAdd, Nat.reduceLT, Nat.reduceEqDiff, Nat.reduceLeDiff, Int.reduceAdd, Int.reduceLT, Int.reduceLE, Nat.reduceMul, c1, c2, c3, c5, c18, c19, hl, l1, l2, l3, k0, k1, k2, s1_, s2_, List.append_assoc, List.cons_append, List.nil_append])
    refine go_loop rfl (fun mz s' H' => ∃ r : Nat, r ≤ L.length ∧ mz = L.length - r ∧ H' = K (cb + cj + r) ++ [.row 1 78 [[.yld b]], .row 1 3 [[.int .i64 k]]] ∧ s' 3 = .ptr (b + 1) 0 0 1 ∧ s' 24 = .sl 6 (fls L) none ∧ s' 25 = .int .i64 L.length ∧ s' 26 = .int .i64 r) (m := L.length) (by (first|trivial|((repeat' apply And.intro) <;> first|trivial|assumption|omega|(simp only [maxLen]; omega)|(simp only [List.length_map, maxLen, lenF, lenS] <;> omega)))) (Weak.refl _ _) ⟨0, by omega, by omega, by simp, ?_⟩ ?_
    ·simp (disch := first|omega|(simp only [List.length_map, lenF, lenS]; omega)) only [push_cast, ↓reduceIte, reduceIte, reduceCtorEq, Nat.reduceAdd, Nat.reduceLT, Nat.reduceEqDiff, Nat.reduceLeDiff, Int.reduceAdd, Int.reduceLT, Int.reduceLE, Nat.reduceMul, c1, c2, c3, c5, c18, c19, hl, l1, l2, l3, k0, k1, k2, s1_, s2_, List.append_assoc, List.cons_append, List.nil_append]
    ·rintro mz s' H' ⟨r, hr, rfl, rfl, d3, d24, d25, d26⟩
     rcases Nat.lt_or_ge r L.length with hltr|hger
     ·have ef := getD_fls L r hltr
      obtain ⟨q1, q2⟩ := hat r hltr
      obtain ⟨q3, q4⟩ := hpre (cj + r) q2
      have hyr := ay_own (hy (cb + cj + r) (by omega)) (hK _) (hl _) (by simp [flA, idsL, AV.ids]) [.row 1 78 [[.yld b]], .row 1 3 [[.int .i64 k]], .row 6 33 [flA (L.getD r fl0)]]
      rw [← Nat.add_assoc] at q3
      simp only [q3, q1] at hyr
      generalize L.getD r fl0 = f at *
      simp only [flA] at ef hyr
      repeat' (first|(first|(refine a0_ ?_; first|refine a1_ rfl rfl ?_|refine a2_ rfl ?_|refine a3_ rfl rfl ?_|refine a4_ rfl ?_|refine ak_ rfl rfl ?_|refine a5_ rfl rfl rfl ?_|refine a6_ rfl rfl ?_|refine a7_ rfl rfl ?_|refine a8_ rfl rfl ?_|refine a9_ rfl rfl rfl ?_)|(refine g0_ ?_; first|refine g1_ rfl ?_|refine g2_ rfl rfl ?_|refine go_draw (dr := allQ) rfl rfl mixed (by first|assumption|kernel_rfl) ?_|refine g4_ rfl ?_|refine g5_ rfl ?_|refine g6_ rfl ?_|refine g7_ rfl ?_|refine g8_ rfl ?_|refine ga_ rfl ?_|refine gb_ rfl ?_)|(refine o0_ ?_; first|refine o1_ ?_|refine o2_ ?_|refine o3_ ?_|refine o4_ ?_|refine o5_ ?_|refine o6_ rfl ?_|refine o7_ rfl ?_|refine o8_ ?_|refine o9_ ?_|refine oa_ ?_|refine ob_ ?_|refine oc_ ?_|refine od_ ?_|refine oe_ ?_|refine of_ ?_|refine og_ ?_|refine oh_ ?_|refine oi_ ?_|refine oj_ ?_|refine ok_ ?_))|refine at_go ?_|(with_reducible refine And.intro (at_go ?_) (at_go ?_))|((with_reducible refine And.intro (fun h => ?_) (fun h => ?_)) <;> try (exfalso; omega))|(with_reducible refine And.intro (by first|omega|(simp only [maxLen]; omega)) ?_)|(refine And.intro ⟨[_], rfl⟩ ?_)|(refine And.intro ⟨[], by simp only [List.append_nil]⟩ ?_)|(first|(refine ⟨_, _, hyr, ?_⟩)|(refine ⟨_, hyr, ?_⟩)|(refine ⟨_, fun _ => hyr, ?_⟩))|simp (disch := first|omega|(simp only [List.length_map, lenF, lenS]; omega)) only [push_cast, ↓reduceIte, reduceIte, reduceCtorEq, Nat.reduceAdd, Nat.reduceLT, Nat.reduceEqDiff, Nat.reduceLeDiff, Int.reduceAdd, Int.reduceLT, Int.reduceLE, Nat.reduceMul, d3, d24, d25, d26, ef, hl, l1, l2, l3, k0, k1, k2, s1_, s2_, List.append_assoc, List.cons_append, List.nil_append])
      refine out_round_take (L.length - (r + 1)) (b + 1 + 1 + 1) ?_ ?_ ?_ ?_ ?_ ⟨r + 1, by omega, rfl, by rw [kb_take2 _ _ (hl _)]; rfl, ?_⟩
      ·omega
      ·(first|trivial|((repeat' apply And.intro) <;> first|trivial|assumption|omega|(simp only [maxLen]; omega)|(simp only [List.length_map, maxLen, lenF, lenS] <;> omega)))
      ·exact Nat.le_refl _
      ·rw [l3]; omega
      ·rw [kb_take2 _ _ (hl _)]
       rw [List.all_append, below_le (k := b) (m := b + 1 + 1 + 1) (by omega) (hb _)]
       simp [Blk.below, idsE, idsL, AV.ids]
       omega
      simp (disch := first|omega|(simp only [List.length_map, lenF, lenS]; omega)) only [push_cast, ↓reduceIte, reduceIte, reduceCtorEq, Nat.reduceAdd, Nat.reduceLT, Nat.reduceEqDiff, Nat.reduceLeDiff, Int.reduceAdd, Int.reduceLT, Int.reduceLE, Nat.reduceMul, d3, d24, d25, d26, scrub, AV.ids, idsL, idsE_fls]
      rw [if_pos (by omega)]
     ·obtain rfl : r = L.length := by omega
      repeat' (first|(first|(refine a0_ ?_; first|refine a1_ rfl rfl ?_|refine a2_ rfl ?_|refine a3_ rfl rfl ?_|refine a4_ rfl ?_|refine ak_ rfl rfl ?_|refine a5_ rfl rfl rfl ?_|refine a6_ rfl rfl ?_|refine a7_ rfl rfl ?_|refine a8_ rfl rfl ?_|refine a9_ rfl rfl rfl ?_)|(refine g0_ ?_; first|refine g1_ rfl ?_|refine g2_ rfl rfl ?_|refine go_draw (dr := allQ) rfl rfl mixed (by first|assumption|kernel_rfl) ?_|refine g4_ rfl ?_|refine g5_ rfl ?_|refine g6_ rfl ?_|refine g7_ rfl ?_|refine g8_ rfl ?_|refine ga_ rfl ?_|refine gb_ rfl ?_)|(refine o0_ ?_; first|refine o1_ ?_|refine o2_ ?_|refine o3_ ?_|refine o4_ ?_|refine o5_ ?_|refine o6_ rfl ?_|refine o7_ rfl ?_|refine o8_ ?_|refine o9_ ?_|refine oa_ ?_|refine ob_ ?_|refine oc_ ?_|refine od_ ?_|refine oe_ ?_|refine of_ ?_|refine og_ ?_|refine oh_ ?_|refine oi_ ?_|refine oj_ ?_|refine ok_ ?_))|refine at_go ?_|(with_reducible refine And.intro (at_go ?_) (at_go ?_))|((with_reducible refine And.intro (fun h => ?_) (fun h => ?_)) <;> try (exfalso; omega))|(with_reducible refine And.intro (by first|omega|(simp only [maxLen]; omega)) ?_)|(refine And.intro ⟨[_], rfl⟩ ?_)|(refine And.intro ⟨[], by simp only [List.append_nil]⟩ ?_)|fail|simp (disch := first|omega|(simp only [List.length_map, lenF, lenS]; omega)) only [push_cast, ↓reduceIte, reduceIte, reduceCtorEq, Nat.reduceAdd, Nat.reduceLT, Nat.reduceEqDiff, Nat.reduceLeDiff, Int.reduceAdd, Int.reduceLT, Int.reduceLE, Nat.reduceMul, d3, d24, d25, d26, hl, l1, l2, l3, k0, k1, k2, s1_, s2_, List.append_assoc, List.cons_append, List.nil_append])
      rw [kb_take2 _ _ (hl _), Nat.add_assoc]
   have hit := (edges75 i o l c I (by omega) (by omega) (by omega) m4).toF
   rw [hR, ← hRl, ← hN] at hit
   have hf0 := congrArg List.length (fK_zero R I O k)
   have hfN := congrArg List.length (fK_all R I O k)
   rw [← hN] at hfN
   have v1 : b + 1 < b + 1 + 1 + 1 := by omega
   have v2 : b + 1 + 1 < b + 1 + 1 + 1 := by omega
   have hbel : ∀ j, (K j ++ [Blk.row 1 78 [[.yld b]], Blk.row 1 3 [[.int .i64 k]]]).all (Blk.below (b + 1 + 1 + 1)) = true := fun j => by
    rw [List.all_append, below_le (k := b) (m := b + 1 + 1 + 1) (by omega) (hb _)]
    simp [Blk.below, idsE, idsL, AV.ids]
    omega
   have hE := edges62 i o l c
   unfold mA macC at hE
   repeat' (first|(first|(refine a0_ ?_; first|refine a1_ rfl rfl ?_|refine a2_ rfl ?_|refine a3_ rfl rfl ?_|refine a4_ rfl ?_|refine ak_ rfl rfl ?_|refine a5_ rfl rfl rfl ?_|refine a6_ rfl rfl ?_|refine a7_ rfl rfl ?_|refine a8_ rfl rfl ?_|refine a9_ rfl rfl rfl ?_)|(refine g0_ ?_; first|refine g1_ rfl ?_|refine g2_ rfl rfl ?_|refine go_draw (dr := allQ) rfl rfl mixed (by first|assumption|kernel_rfl) ?_|refine g4_ rfl ?_|refine g5_ rfl ?_|refine g6_ rfl ?_|refine g7_ rfl ?_|refine g8_ rfl ?_|refine ga_ rfl ?_|refine gb_ rfl ?_)|(refine o0_ ?_; first|refine o1_ ?_|refine o2_ ?_|refine o3_ ?_|refine o4_ ?_|refine o5_ ?_|refine o6_ rfl ?_|refine o7_ rfl ?_|refine o8_ ?_|refine o9_ ?_|refine oa_ ?_|refine ob_ ?_|refine oc_ ?_|refine od_ ?_|refine oe_ ?_|refine of_ ?_|refine og_ ?_|refine oh_ ?_|refine oi_ ?_|refine oj_ ?_|refine ok_ ?_))|refine at_go ?_|(with_reducible refine And.intro (at_go ?_) (at_go ?_))|((with_reducible refine And.intro (fun h => ?_) (fun h => ?_)) <;> try (exfalso; omega))|(with_reducible refine And.intro (by first|omega|(simp only [maxLen]; omega)) ?_)|(refine And.intro ⟨[_], rfl⟩ ?_)|(refine And.intro ⟨[], by simp only [List.append_nil]⟩ ?_)|(first|(refine ⟨_, _, pc_lift (hE) (by (simp [idsL, idsE, AV.ids, Nat.add_zero])) _, ?_⟩)|(refine ⟨_, pc_lift (hE) (by (simp [idsL, idsE, AV.ids, Nat.add_zero])) _, ?_⟩)|(refine ⟨_, fun _ => pc_lift (hE) (by (simp [idsL, idsE, AV.ids, Nat.add_zero])) _, ?_⟩))|simp (disch := first|omega|(simp only [List.length_map, lenF, lenS]; omega)) only [push_cast, ↓reduceIte, reduceIte, reduceCtorEq, Nat.reduceAdd, Nat.reduceLT, Nat.reduceEqDiff, Nat.reduceLeDiff, Int.reduceAdd, Int.reduceLT, Int.reduceLE, Nat.reduceMul, b1, b2, b3, b10, b11, b12, e1, hl, l1, l2, l3, k0, k1, k2, s1_, s2_, List.append_assoc, List.cons_append, List.nil_append])
   rcases Nat.lt_or_ge q (cb + (edgF R I O k).length) with hB|hA
   ·have hst : stop = true := by
     cases stop with
     | true => rfl
     | false => have := (hpre (q - cb) (by omega)).2; have := hs2 rfl; omega
    subst hst
    obtain ⟨m, hm1, hm2, hm3⟩ := step_over (fun j => cb + (fK R I O k j).length) q N (by rw [hf0]; exact hcq) (by rw [hfN]; exact hB)
    have hpp : ps = p := step_uniq (allF_step R I O ks) (hps rfl).1 (hps rfl).2 (by rw [hcb]; exact hcq) (by rw [hnx]; exact hB)
    subst hpp
    refine go_rangeFuncF (m := m) (k := b + 1 + 1 + 1) .ret (fun j => if j ≤ m then K (cb + (fK R I O k j).length) ++ [.row 1 78 [[.yld b]], .row 1 3 [[.int .i64 k]]] else K (q + 1) ++ [.row 1 78 [[.yld b]], .row 1 3 [[.int .i64 k]]]) rfl (by (first|trivial|((repeat' apply And.intro) <;> first|trivial|assumption|omega|(simp only [maxLen]; omega)|(simp only [List.length_map, maxLen, lenF, lenS] <;> omega)))) ?_ ?_ (by kernel_rfl) hit (l2 _ _ _) (by rw [if_pos (by omega), hf0]; rfl) (fun j => by split <;> exact l2 _ _ _) (fun j => by split <;> exact hbel _) (fun j => ⟨by simp [edX, idsL, AV.ids], rfl⟩) (fun _ => hm1) (fun h => by cases h) rfl ?_ ?_ ?_
    ·simp (disch := first|omega|(simp only [List.length_map, lenF, lenS]; omega)) only [push_cast, ↓reduceIte, reduceIte, reduceCtorEq, Nat.reduceAdd, Nat.reduceLT, Nat.reduceEqDiff, Nat.reduceLeDiff, Int.reduceAdd, Int.reduceLT, Int.reduceLE, Nat.reduceMul, b1, b2, b3, b10, b11, b12, e1, hl, l1, l2, l3, k0, k1, k2, s1_, s2_, List.append_assoc, List.cons_append, List.nil_append]
     rfl
    ·simp (disch := first|omega|(simp only [List.length_map, lenF, lenS]; omega)) only [push_cast, ↓reduceIte, reduceIte, reduceCtorEq, Nat.reduceAdd, Nat.reduceLT, Nat.reduceEqDiff, Nat.reduceLeDiff, Int.reduceAdd, Int.reduceLT, Int.reduceLE, Nat.reduceMul, b1, b2, b3, b10, b11, b12, e1, hl, l1, l2, l3, k0, k1, k2, s1_, s2_, List.append_assoc, List.cons_append, List.nil_append]
    ·intro j hj s1 hs1
     have c1 : s1 1 = .iptr [.sl 1 (ints ks) ck] 0 := (round_slot hs1 1 rfl).trans (by simp (disch := first|omega|(simp only [List.length_map, lenF, lenS]; omega)) only [push_cast, ↓reduceIte, reduceIte, reduceCtorEq, Nat.reduceAdd, Nat.reduceLT, Nat.reduceEqDiff, Nat.reduceLeDiff, Int.reduceAdd, Int.reduceLT, Int.reduceLE, Nat.reduceMul, scrub, AV.ids, idsL, idsE_ints, idsE_rowsA, v1, v2, b1, b2, b3])
     have c2 : s1 2 = .iptr [.int .i64 i, .int .i64 o, .sl 1 (rowsA l) c] 0 := (round_slot hs1 2 rfl).trans (by simp (disch := first|omega|(simp only [List.length_map, lenF, lenS]; omega)) only [push_cast, ↓reduceIte, reduceIte, reduceCtorEq, Nat.reduceAdd, Nat.reduceLT, Nat.reduceEqDiff, Nat.reduceLeDiff, Int.reduceAdd, Int.reduceLT, Int.reduceLE, Nat.reduceMul, scrub, AV.ids, idsL, idsE_ints, idsE_rowsA, v1, v2, b1, b2, b3])
     have c3 : s1 3 = .ptr (b + 1) 0 0 1 := (round_slot hs1 3 rfl).trans (by simp (disch := first|omega|(simp only [List.length_map, lenF, lenS]; omega)) only [push_cast, ↓reduceIte, reduceIte, reduceCtorEq, Nat.reduceAdd, Nat.reduceLT, Nat.reduceEqDiff, Nat.reduceLeDiff, Int.reduceAdd, Int.reduceLT, Int.reduceLE, Nat.reduceMul, scrub, AV.ids, idsL, idsE_ints, idsE_rowsA, v1, v2, b1, b2, b3])
     have c5 : s1 5 = .ptr (b + 1 + 1) 0 0 1 := (round_slot hs1 5 rfl).trans (by simp (disch := first|omega|(simp only [List.length_map, lenF, lenS]; omega)) only [push_cast, ↓reduceIte, reduceIte, reduceCtorEq, Nat.reduceAdd, Nat.reduceLT, Nat.reduceEqDiff, Nat.reduceLeDiff, Int.reduceAdd, Int.reduceLT, Int.reduceLE, Nat.reduceMul, scrub, AV.ids, idsL, idsE_ints, idsE_rowsA, v1, v2, b1, b2, b3])
     have c18 : s1 18 = .int .i64 (((edL R I R.length).getD j (0, 0)).1 : Nat) := (hs1 18).trans rfl
     have c19 : s1 19 = .int .i64 (((edL R I R.length).getD j (0, 0)).2 : Nat) := (hs1 19).trans rfl
     clear hs1
     rw [if_pos (by omega), if_pos (by omega)]
     refine hround j s1 (by omega) ?_ c1 c2 c3 c5 c18 c19
     have := mono_of (f := fun j => (fK R I O k j).length) (fK_step R I O k) (j + 1) (m - (j + 1))
     rw [show j + 1 + (m - (j + 1)) = m by omega] at this
     omega
    ·intro _ s1 hs1
     have c1 : s1 1 = .iptr [.sl 1 (ints ks) ck] 0 := (round_slot hs1 1 rfl).trans (by simp (disch := first|omega|(simp only [List.length_map, lenF, lenS]; omega)) only [push_cast, ↓reduceIte, reduceIte, reduceCtorEq, Nat.reduceAdd, Nat.reduceLT, Nat.reduceEqDiff, Nat.reduceLeDiff, Int.reduceAdd, Int.reduceLT, Int.reduceLE, Nat.reduceMul, scrub, AV.ids, idsL, idsE_ints, idsE_rowsA, v1, v2, b1, b2, b3])
     have c2 : s1 2 = .iptr [.int .i64 i, .int .i64 o, .sl 1 (rowsA l) c] 0 := (round_slot hs1 2 rfl).trans (by simp (disch := first|omega|(simp only [List.length_map, lenF, lenS]; omega)) only [push_cast, ↓reduceIte, reduceIte, reduceCtorEq, Nat.reduceAdd, Nat.reduceLT, Nat.reduceEqDiff, Nat.reduceLeDiff, Int.reduceAdd, Int.reduceLT, Int.reduceLE, Nat.reduceMul, scrub, AV.ids, idsL, idsE_ints, idsE_rowsA, v1, v2, b1, b2, b3])
     have c3 : s1 3 = .ptr (b + 1) 0 0 1 := (round_slot hs1 3 rfl).trans (by simp (disch := first|omega|(simp only [List.length_map, lenF, lenS]; omega)) only [push_cast, ↓reduceIte, reduceIte, reduceCtorEq, Nat.reduceAdd, Nat.reduceLT, Nat.reduceEqDiff, Nat.reduceLeDiff, Int.reduceAdd, Int.reduceLT, Int.reduceLE, Nat.reduceMul, scrub, AV.ids, idsL, idsE_ints, idsE_rowsA, v1, v2, b1, b2, b3])
     have c5 : s1 5 = .ptr (b + 1 + 1) 0 0 1 := (round_slot hs1 5 rfl).trans (by simp (disch := first|omega|(simp only [List.length_map, lenF, lenS]; omega)) only [push_cast, ↓reduceIte, reduceIte, reduceCtorEq, Nat.reduceAdd, Nat.reduceLT, Nat.reduceEqDiff, Nat.reduceLeDiff, Int.reduceAdd, Int.reduceLT, Int.reduceLE, Nat.reduceMul, scrub, AV.ids, idsL, idsE_ints, idsE_rowsA, v1, v2, b1, b2, b3])
     have c18 : s1 18 = .int .i64 (((edL R I R.length).getD m (0, 0)).1 : Nat) := (hs1 18).trans rfl
     have c19 : s1 19 = .int .i64 (((edL R I R.length).getD m (0, 0)).2 : Nat) := (hs1 19).trans rfl
     clear hs1
     rw [if_neg (show ¬ m + 1 ≤ m by omega), if_pos (show m ≤ m by omega)]
     have hj' : m < (edL R I R.length).length := by omega
     obtain ⟨g1, g2, g3⟩ := edL_def hj'
     have hat := fun r h => fK_at (R := R) (I := I) (O := O) (k := k) (j := m) (r := r) hj' h
     have hsu := congrArg List.length (fK_succ R I O k m hj')
     rw [List.length_append] at hsu
     generalize ((edL R I R.length).getD m (0, 0)).1 = u at *
     generalize ((edL R I R.length).getD m (0, 0)).2 = v at *
     obtain ⟨hof, hofl⟩ := of63 i o l c hm k hk u v (by rw [defA, hR, hI]; exact g3)
     rw [hR, hI, hO] at hof hofl
     generalize ofF R I O k u v = L at *
     generalize hcj : (fK R I O k m).length = cj at *
     unfold mA at hof
     rw [hsu] at hm3
     obtain ⟨r0, hq0, hr0⟩ : ∃ r0, cb + cj + r0 = q ∧ r0 < L.length := ⟨q - (cb + cj), by omega, by omega⟩
     repeat' (first|(first|(refine a0_ ?_; first|refine a1_ rfl rfl ?_|refine a2_ rfl ?_|refine a3_ rfl rfl ?_|refine a4_ rfl ?_|refine ak_ rfl rfl ?_|refine a5_ rfl rfl rfl ?_|refine a6_ rfl rfl ?_|refine a7_ rfl rfl ?_|refine a8_ rfl rfl ?_|refine a9_ rfl rfl rfl ?_)|(refine g0_ ?_; first|refine g1_ rfl ?_|refine g2_ rfl rfl ?_|refine go_draw (dr := allQ) rfl rfl mixed (by first|assumption|kernel_rfl) ?_|refine g4_ rfl ?_|refine g5_ rfl ?_|refine g6_ rfl ?_|refine g7_ rfl ?_|refine g8_ rfl ?_|refine ga_ rfl ?_|refine gb_ rfl ?_)|(refine o0_ ?_; first|refine o1_ ?_|refine o2_ ?_|refine o3_ ?_|refine o4_ ?_|refine o5_ ?_|refine o6_ rfl ?_|refine o7_ rfl ?_|refine o8_ ?_|refine o9_ ?_|refine oa_ ?_|refine ob_ ?_|refine oc_ ?_|refine od_ ?_|refine oe_ ?_|refine of_ ?_|refine og_ ?_|refine oh_ ?_|refine oi_ ?_|refine oj_ ?_|refine ok_ ?_))|refine at_go ?_|(with_reducible refine And.intro (at_go ?_) (at_go ?_))|((with_reducible refine And.intro (fun h => ?_) (fun h => ?_)) <;> try (exfalso; omega))|(with_reducible refine And.intro (by first|omega|(simp only [maxLen]; omega)) ?_)|(refine And.intro ⟨[_], rfl⟩ ?_)|(refine And.intro ⟨[], by simp only [List.append_nil]⟩ ?_)|(first|(refine ⟨_, _, pc_lift (hof) (by (simp [idsL, idsE, AV.ids, Nat.add_zero])) _, ?_⟩)|(refine ⟨_, pc_lift (hof) (by (simp [idsL, idsE, AV.ids, Nat.add_zero])) _, ?_⟩)|(refine ⟨_, fun _ => pc_lift (hof) (by (simp [idsL, idsE, AV.ids, Nat.add_zero])) _, ?_⟩))|simp (disch := first|omega|(simp only [List.length_map, lenF, lenS]; omega)) only [push_cast, ↓reduceIte, reduceIte, reduceCtorEq, Nat.reduceAdd, Nat.reduceLT, Nat.reduceEqDiff, Nat.reduceLeDiff, Int.reduceAdd, Int.reduceLT, Int.reduceLE, Nat.reduceMul, c1, c2, c3, c5, c18, c19, hl, l1, l2, l3, k0, k1, k2, s1_, s2_, List.append_assoc, List.cons_append, List.nil_append])
     refine out_thenS ⟨by (first|trivial|((repeat' apply And.intro) <;> first|trivial|assumption|omega|(simp only [maxLen]; omega)|(simp only [List.length_map, maxLen, lenF, lenS] <;> omega))), at_go ?_⟩
     repeat' (first|(first|(refine a0_ ?_; first|refine a1_ rfl rfl ?_|refine a2_ rfl ?_|refine a3_ rfl rfl ?_|refine a4_ rfl ?_|refine ak_ rfl rfl ?_|refine a5_ rfl rfl rfl ?_|refine a6_ rfl rfl ?_|refine a7_ rfl rfl ?_|refine a8_ rfl rfl ?_|refine a9_ rfl rfl rfl ?_)|(refine g0_ ?_; first|refine g1_ rfl ?_|refine g2_ rfl rfl ?_|refine go_draw (dr := allQ) rfl rfl mixed (by first|assumption|kernel_rfl) ?_|refine g4_ rfl ?_|refine g5_ rfl ?_|refine g6_ rfl ?_|refine g7_ rfl ?_|refine g8_ rfl ?_|refine ga_ rfl ?_|refine gb_ rfl ?_)|(refine o0_ ?_; first|refine o1_ ?_|refine o2_ ?_|refine o3_ ?_|refine o4_ ?_|refine o5_ ?_|refine o6_ rfl ?_|refine o7_ rfl ?_|refine o8_ ?_|refine o9_ ?_|refine oa_ ?_|refine ob_ ?_|refine oc_ ?_|refine od_ ?_|refine oe_ ?_|refine of_ ?_|refine og_ ?_|refine oh_ ?_|refine oi_ ?_|refine oj_ ?_|refine ok_ ?_))|refine at_go ?_|(with_reducible refine And.intro (at_go ?_) (at_go ?_))|((with_reducible refine And.intro (fun h => ?_) (fun h => ?_)) <;> try (exfalso; omega))|(with_reducible refine And.intro (by first|omega|(simp only [maxLen]; omega)) ?_)|(refine And.intro ⟨[_], rfl⟩ ?_)|(refine And.intro ⟨[], by simp only [List.append_nil]⟩ ?_)|(first|(refine ⟨_, _, pc_lift (hof) (by (simp [idsL, idsE, AV.ids, Nat.add_zero])) _, ?_⟩)|(refine ⟨_, pc_lift (hof) (by (simp [idsL, idsE, AV.ids, Nat.add_zero])) _, ?_⟩)|(refine ⟨_, fun _ => pc_lift (hof) (by (simp [idsL, idsE, AV.ids, Nat.add_zero])) _, ?_⟩))|simp (disch := first|omega|(simp only [List.length_map, lenF, lenS]; omega)) only [push_cast, ↓reduceIte, reduceIte, reduceCtorEq, Nat.reduceAdd, Nat.reduceLT, Nat.reduceEqDiff, Nat.reduceLeDiff, Int.reduceAdd, Int.reduceLT, Int.reduceLE, Nat.reduceMul, c1, c2, c3, c5, c18, c19, hl, l1, l2, l3, k0, k1, k2, s1_, s2_, List.append_assoc, List.cons_append, List.nil_append])
     refine go_loop rfl (fun mz s' H' => ∃ r : Nat, r ≤ r0 ∧ mz = r0 - r ∧ H' = K (cb + cj + r) ++ [.row 1 78 [[.yld b]], .row 1 3 [[.int .i64 k]]] ∧ s' 3 = .ptr (b + 1) 0 0 1 ∧ s' 24 = .sl 6 (fls L) none ∧ s' 25 = .int .i64 L.length ∧ s' 26 = .int .i64 r) (m := r0) (by (first|trivial|((repeat' apply And.intro) <;> first|trivial|assumption|omega|(simp only [maxLen]; omega)|(simp only [List.length_map, maxLen, lenF, lenS] <;> omega)))) (Weak.refl _ _) ⟨0, by omega, by omega, by simp, ?_⟩ ?_
     ·simp (disch := first|omega|(simp only [List.length_map, lenF, lenS]; omega)) only [push_cast, ↓reduceIte, reduceIte, reduceCtorEq, Nat.reduceAdd, Nat.reduceLT, Nat.reduceEqDiff, Nat.reduceLeDiff, Int.reduceAdd, Int.reduceLT, Int.reduceLE, Nat.reduceMul, c1, c2, c3, c5, c18, c19, hl, l1, l2, l3, k0, k1, k2, s1_, s2_, List.append_assoc, List.cons_append, List.nil_append]
     ·rintro mz s' H' ⟨r, hr, rfl, rfl, d3, d24, d25, d26⟩
      have hltr : r < L.length := by omega
      have ef := getD_fls L r hltr
      obtain ⟨q1, q2⟩ := hat r hltr
      rcases Nat.lt_or_ge r r0 with hlt0|hge0
      ·skip
       obtain ⟨q3, q4⟩ := hpre (cj + r) q2
       have hyr := ay_own (hy (cb + cj + r) (by omega)) (hK _) (hl _) (by simp [flA, idsL, AV.ids]) [.row 1 78 [[.yld b]], .row 1 3 [[.int .i64 k]], .row 6 33 [flA (L.getD r fl0)]]
       rw [← Nat.add_assoc] at q3
       simp only [q3, q1] at hyr
       generalize L.getD r fl0 = f at *
       simp only [flA] at ef hyr
       repeat' (first|(first|(refine a0_ ?_; first|refine a1_ rfl rfl ?_|refine a2_ rfl ?_|refine a3_ rfl rfl ?_|refine a4_ rfl ?_|refine ak_ rfl rfl ?_|refine a5_ rfl rfl rfl ?_|refine a6_ rfl rfl ?_|refine a7_ rfl rfl ?_|refine a8_ rfl rfl ?_|refine a9_ rfl rfl rfl ?_)|(refine g0_ ?_; first|refine g1_ rfl ?_|refine g2_ rfl rfl ?_|refine go_draw (dr := allQ) rfl rfl mixed (by first|assumption|kernel_rfl) ?_|refine g4_ rfl ?_|refine g5_ rfl ?_|refine g6_ rfl ?_|refine g7_ rfl ?_|refine g8_ rfl ?_|refine ga_ rfl ?_|refine gb_ rfl ?_)|(refine o0_ ?_; first|refine o1_ ?_|refine o2_ ?_|refine o3_ ?_|refine o4_ ?_|refine o5_ ?_|refine o6_ rfl ?_|refine o7_ rfl ?_|refine o8_ ?_|refine o9_ ?_|refine oa_ ?_|refine ob_ ?_|refine oc_ ?_|refine od_ ?_|refine oe_ ?_|refine of_ ?_|refine og_ ?_|refine oh_ ?_|refine oi_ ?_|refine oj_ ?_|refine ok_ ?_))|refine at_go ?_|(with_reducible refine And.intro (at_go ?_) (at_go ?_))|((with_reducible refine And.intro (fun h => ?_) (fun h => ?_)) <;> try (exfalso; omega))|(with_reducible refine And.intro (by first|omega|(simp only [maxLen]; omega)) ?_)|(refine And.intro ⟨[_], rfl⟩ ?_)|(refine And.intro ⟨[], by simp only [List.append_nil]⟩ ?_)|(first|(refine ⟨_, _, hyr, ?_⟩)|(refine ⟨_, hyr, ?_⟩)|(refine ⟨_, fun _ => hyr, ?_⟩))|simp (disch := first|omega|(simp only [List.length_map, lenF, lenS]; omega)) only [push_cast, ↓reduceIte, reduceIte, reduceCtorEq, Nat.reduceAdd, Nat.reduceLT, Nat.reduceEqDiff, Nat.reduceLeDiff, Int.reduceAdd, Int.reduceLT, Int.reduceLE, Nat.reduceMul, d3, d24, d25, d26, ef, hl, l1, l2, l3, k0, k1, k2, s1_, s2_, List.append_assoc, List.cons_append, List.nil_append])
       refine out_round_take (r0 - (r + 1)) (b + 1 + 1 + 1) ?_ ?_ ?_ ?_ ?_ ⟨r + 1, by omega, rfl, by rw [kb_take2 _ _ (hl _)]; rfl, ?_⟩
       ·omega
       ·(first|trivial|((repeat' apply And.intro) <;> first|trivial|assumption|omega|(simp only [maxLen]; omega)|(simp only [List.length_map, maxLen, lenF, lenS] <;> omega)))
       ·exact Nat.le_refl _
       ·rw [l3]; omega
       ·rw [kb_take2 _ _ (hl _)]
        rw [List.all_append, below_le (k := b) (m := b + 1 + 1 + 1) (by omega) (hb _)]
        simp [Blk.below, idsE, idsL, AV.ids]
        omega
       simp (disch := first|omega|(simp only [List.length_map, lenF, lenS]; omega)) only [push_cast, ↓reduceIte, reduceIte, reduceCtorEq, Nat.reduceAdd, Nat.reduceLT, Nat.reduceEqDiff, Nat.reduceLeDiff, Int.reduceAdd, Int.reduceLT, Int.reduceLE, Nat.reduceMul, d3, d24, d25, d26, scrub, AV.ids, idsL, idsE_fls]
       rw [if_pos (by omega)]
      ·obtain rfl : r = r0 := by omega
       obtain ⟨q3, q4⟩ := hpre (cj + r) q2
       rw [← Nat.add_assoc, hq0] at q3
       have hyr := ay_own (hz rfl) (hK _) (hl _) (by simp [flA, idsL, AV.ids]) [.row 1 78 [[.yld b]], .row 1 3 [[.int .i64 k]], .row 6 33 [flA (L.getD r fl0)]]
       simp only [q3, q1] at hyr
       rw [hq0]
       generalize L.getD r fl0 = f at *
       simp only [flA] at ef hyr
       repeat' (first|(first|(refine a0_ ?_; first|refine a1_ rfl rfl ?_|refine a2_ rfl ?_|refine a3_ rfl rfl ?_|refine a4_ rfl ?_|refine ak_ rfl rfl ?_|refine a5_ rfl rfl rfl ?_|refine a6_ rfl rfl ?_|refine a7_ rfl rfl ?_|refine a8_ rfl rfl ?_|refine a9_ rfl rfl rfl ?_)|(refine g0_ ?_; first|refine g1_ rfl ?_|refine g2_ rfl rfl ?_|refine go_draw (dr := allQ) rfl rfl mixed (by first|assumption|kernel_rfl) ?_|refine g4_ rfl ?_|refine g5_ rfl ?_|refine g6_ rfl ?_|refine g7_ rfl ?_|refine g8_ rfl ?_|refine ga_ rfl ?_|refine gb_ rfl ?_)|(refine o0_ ?_; first|refine o1_ ?_|refine o2_ ?_|refine o3_ ?_|refine o4_ ?_|refine o5_ ?_|refine o6_ rfl ?_|refine o7_ rfl ?_|refine o8_ ?_|refine o9_ ?_|refine oa_ ?_|refine ob_ ?_|refine oc_ ?_|refine od_ ?_|refine oe_ ?_|refine of_ ?_|refine og_ ?_|refine oh_ ?_|refine oi_ ?_|refine oj_ ?_|refine ok_ ?_))|refine at_go ?_|(with_reducible refine And.intro (at_go ?_) (at_go ?_))|((with_reducible refine And.intro (fun h => ?_) (fun h => ?_)) <;> try (exfalso; omega))|(with_reducible refine And.intro (by first|omega|(simp only [maxLen]; omega)) ?_)|(refine And.intro ⟨[_], rfl⟩ ?_)|(refine And.intro ⟨[], by simp only [List.append_nil]⟩ ?_)|(first|(refine ⟨_, _, hyr, ?_⟩)|(refine ⟨_, hyr, ?_⟩)|(refine ⟨_, fun _ => hyr, ?_⟩))|simp (disch := first|omega|(simp only [List.length_map, lenF, lenS]; omega)) only [push_cast, ↓reduceIte, reduceIte, reduceCtorEq, Nat.reduceAdd, Nat.reduceLT, Nat.reduceEqDiff, Nat.reduceLeDiff, Int.reduceAdd, Int.reduceLT, Int.reduceLE, Nat.reduceMul, d3, d24, d25, d26, ef, hl, l1, l2, l3, k0, k1, k2, s1_, s2_, List.append_assoc, List.cons_append, List.nil_append])
       rw [kb_take2 _ _ (hl _)]
    ·have hjj : (if (jumpOf Exit.ret).isSome = true then m + 1 else m) = m + 1 := rfl
     rw [hjj, if_neg (show ¬ m + 1 ≤ m by omega)]
     repeat' (first|(first|(refine a0_ ?_; first|refine a1_ rfl rfl ?_|refine a2_ rfl ?_|refine a3_ rfl rfl ?_|refine a4_ rfl ?_|refine ak_ rfl rfl ?_|refine a5_ rfl rfl rfl ?_|refine a6_ rfl rfl ?_|refine a7_ rfl rfl ?_|refine a8_ rfl rfl ?_|refine a9_ rfl rfl rfl ?_)|(refine g0_ ?_; first|refine g1_ rfl ?_|refine g2_ rfl rfl ?_|refine go_draw (dr := allQ) rfl rfl mixed (by first|assumption|kernel_rfl) ?_|refine g4_ rfl ?_|refine g5_ rfl ?_|refine g6_ rfl ?_|refine g7_ rfl ?_|refine g8_ rfl ?_|refine ga_ rfl ?_|refine gb_ rfl ?_)|(refine o0_ ?_; first|refine o1_ ?_|refine o2_ ?_|refine o3_ ?_|refine o4_ ?_|refine o5_ ?_|refine o6_ rfl ?_|refine o7_ rfl ?_|refine o8_ ?_|refine o9_ ?_|refine oa_ ?_|refine ob_ ?_|refine oc_ ?_|refine od_ ?_|refine oe_ ?_|refine of_ ?_|refine og_ ?_|refine oh_ ?_|refine oi_ ?_|refine oj_ ?_|refine ok_ ?_))|refine at_go ?_|(with_reducible refine And.intro (at_go ?_) (at_go ?_))|((with_reducible refine And.intro (fun h => ?_) (fun h => ?_)) <;> try (exfalso; omega))|(with_reducible refine And.intro (by first|omega|(simp only [maxLen]; omega)) ?_)|(refine And.intro ⟨[_], rfl⟩ ?_)|(refine And.intro ⟨[], by simp only [List.append_nil]⟩ ?_)|(first|(refine ⟨_, _, hyr, ?_⟩)|(refine ⟨_, hyr, ?_⟩)|(refine ⟨_, fun _ => hyr, ?_⟩))|simp (disch := first|omega|(simp only [List.length_map, lenF, lenS]; omega)) only [push_cast, ↓reduceIte, reduceIte, reduceCtorEq, Nat.reduceAdd, Nat.reduceLT, Nat.reduceEqDiff, Nat.reduceLeDiff, Int.reduceAdd, Int.reduceLT, Int.reduceLE, Nat.reduceMul, b1, b2, b3, hl, l1, l2, l3])
     rw [hk0]
   ·refine go_rangeFuncF (m := N) (k := b + 1 + 1 + 1) .normal (fun j => K (cb + (fK R I O k j).length) ++ [.row 1 78 [[.yld b]], .row 1 3 [[.int .i64 k]]]) rfl (by (first|trivial|((repeat' apply And.intro) <;> first|trivial|assumption|omega|(simp only [maxLen]; omega)|(simp only [List.length_map, maxLen, lenF, lenS] <;> omega)))) ?_ ?_ (by kernel_rfl) hit (l2 _ _ _) (by rw [hf0]; rfl) (fun j => l2 _ _ _) (fun j => hbel _) (fun j => ⟨by simp [edX, idsL, AV.ids], rfl⟩) (fun h => by cases h) (fun _ => rfl) rfl ?_ (fun h => by cases h) ?_
    ·simp (disch := first|omega|(simp only [List.length_map, lenF, lenS]; omega)) only [push_cast, ↓reduceIte, reduceIte, reduceCtorEq, Nat.reduceAdd, Nat.reduceLT, Nat.reduceEqDiff, Nat.reduceLeDiff, Int.reduceAdd, Int.reduceLT, Int.reduceLE, Nat.reduceMul, b1, b2, b3, hl, l1, l2, l3]
     rfl
    ·simp (disch := first|omega|(simp only [List.length_map, lenF, lenS]; omega)) only [push_cast, ↓reduceIte, reduceIte, reduceCtorEq, Nat.reduceAdd, Nat.reduceLT, Nat.reduceEqDiff, Nat.reduceLeDiff, Int.reduceAdd, Int.reduceLT, Int.reduceLE, Nat.reduceMul, b1, b2, b3, hl, l1, l2, l3]
    ·intro j hj s1 hs1
     have c1 : s1 1 = .iptr [.sl 1 (ints ks) ck] 0 := (round_slot hs1 1 rfl).trans (by simp (disch := first|omega|(simp only [List.length_map, lenF, lenS]; omega)) only [push_cast, ↓reduceIte, reduceIte, reduceCtorEq, Nat.reduceAdd, Nat.reduceLT, Nat.reduceEqDiff, Nat.reduceLeDiff, Int.reduceAdd, Int.reduceLT, Int.reduceLE, Nat.reduceMul, scrub, AV.ids, idsL, idsE_ints, idsE_rowsA, v1, v2, b1, b2, b3])
     have c2 : s1 2 = .iptr [.int .i64 i, .int .i64 o, .sl 1 (rowsA l) c] 0 := (round_slot hs1 2 rfl).trans (by simp (disch := first|omega|(simp only [List.length_map, lenF, lenS]; omega)) only [push_cast, ↓reduceIte, reduceIte, reduceCtorEq, Nat.reduceAdd, Nat.reduceLT, Nat.reduceEqDiff, Nat.reduceLeDiff, Int.reduceAdd, Int.reduceLT, Int.reduceLE, Nat.reduceMul, scrub, AV.ids, idsL, idsE_ints, idsE_rowsA, v1, v2, b1, b2, b3])
     have c3 : s1 3 = .ptr (b + 1) 0 0 1 := (round_slot hs1 3 rfl).trans (by simp (disch := first|omega|(simp only [List.length_map, lenF, lenS]; omega)) only [push_cast, ↓reduceIte, reduceIte, reduceCtorEq, Nat.reduceAdd, Nat.reduceLT, Nat.reduceEqDiff, Nat.reduceLeDiff, Int.reduceAdd, Int.reduceLT, Int.reduceLE, Nat.reduceMul, scrub, AV.ids, idsL, idsE_ints, idsE_rowsA, v1, v2, b1, b2, b3])
     have c5 : s1 5 = .ptr (b + 1 + 1) 0 0 1 := (round_slot hs1 5 rfl).trans (by simp (disch := first|omega|(simp only [List.length_map, lenF, lenS]; omega)) only [push_cast, ↓reduceIte, reduceIte, reduceCtorEq, Nat.reduceAdd, Nat.reduceLT, Nat.reduceEqDiff, Nat.reduceLeDiff, Int.reduceAdd, Int.reduceLT, Int.reduceLE, Nat.reduceMul, scrub, AV.ids, idsL, idsE_ints, idsE_rowsA, v1, v2, b1, b2, b3])
     have c18 : s1 18 = .int .i64 (((edL R I R.length).getD j (0, 0)).1 : Nat) := (hs1 18).trans rfl
     have c19 : s1 19 = .int .i64 (((edL R I R.length).getD j (0, 0)).2 : Nat) := (hs1 19).trans rfl
     clear hs1
     refine hround j s1 (by omega) ?_ c1 c2 c3 c5 c18 c19
     have := mono_of (f := fun j => (fK R I O k j).length) (fK_step R I O k) (j + 1) (N - (j + 1))
     rw [show j + 1 + (N - (j + 1)) = N by omega] at this
     omega
    ·have hjj : (if (jumpOf Exit.normal).isSome = true then N + 1 else N) = N := rfl
     rw [hjj, hfN]
     repeat' (first|(first|(refine a0_ ?_; first|refine a1_ rfl rfl ?_|refine a2_ rfl ?_|refine a3_ rfl rfl ?_|refine a4_ rfl ?_|refine ak_ rfl rfl ?_|refine a5_ rfl rfl rfl ?_|refine a6_ rfl rfl ?_|refine a7_ rfl rfl ?_|refine a8_ rfl rfl ?_|refine a9_ rfl rfl rfl ?_)|(refine g0_ ?_; first|refine g1_ rfl ?_|refine g2_ rfl rfl ?_|refine go_draw (dr := allQ) rfl rfl mixed (by first|assumption|kernel_rfl) ?_|refine g4_ rfl ?_|refine g5_ rfl ?_|refine g6_ rfl ?_|refine g7_ rfl ?_|refine g8_ rfl ?_|refine ga_ rfl ?_|refine gb_ rfl ?_)|(refine o0_ ?_; first|refine o1_ ?_|refine o2_ ?_|refine o3_ ?_|refine o4_ ?_|refine o5_ ?_|refine o6_ rfl ?_|refine o7_ rfl ?_|refine o8_ ?_|refine o9_ ?_|refine oa_ ?_|refine ob_ ?_|refine oc_ ?_|refine od_ ?_|refine oe_ ?_|refine of_ ?_|refine og_ ?_|refine oh_ ?_|refine oi_ ?_|refine oj_ ?_|refine ok_ ?_))|refine at_go ?_|(with_reducible refine And.intro (at_go ?_) (at_go ?_))|((with_reducible refine And.intro (fun h => ?_) (fun h => ?_)) <;> try (exfalso; omega))|(with_reducible refine And.intro (by first|omega|(simp only [maxLen]; omega)) ?_)|(refine And.intro ⟨[_], rfl⟩ ?_)|(refine And.intro ⟨[], by simp only [List.append_nil]⟩ ?_)|(first|(refine ⟨_, _, hyr, ?_⟩)|(refine ⟨_, hyr, ?_⟩)|(refine ⟨_, fun _ => hyr, ?_⟩))|simp (disch := first|omega|(simp only [List.length_map, lenF, lenS]; omega)) only [push_cast, ↓reduceIte, reduceIte, reduceCtorEq, Nat.reduceAdd, Nat.reduceLT, Nat.reduceEqDiff, Nat.reduceLeDiff, Int.reduceAdd, Int.reduceLT, Int.reduceLE, Nat.reduceMul, b1, b2, b3, b10, b11, b12, hl, l1, l2, l3])
     refine out_round_take (ks.length - (p + 1)) (b + 1 + 1) ?_ ?_ ?_ ?_ ?_ ⟨p + 1, by omega, rfl, by omega, by rw [kb_take1 _ _ (hl _), hnx], ?_⟩
     ·omega
     ·(first|trivial|((repeat' apply And.intro) <;> first|trivial|assumption|omega|(simp only [maxLen]; omega)|(simp only [List.length_map, maxLen, lenF, lenS] <;> omega)))
     ·omega
     ·rw [l2]; omega
     ·rw [kb_take1 _ _ (hl _), List.all_append, below_le (k := b) (m := b + 1 + 1) (by omega) (hb _)]
      simp [Blk.below, idsE, idsL, AV.ids]
      omega
     simp (disch := first|omega|(simp only [List.length_map, lenF, lenS]; omega)) only [push_cast, ↓reduceIte, reduceIte, reduceCtorEq, Nat.reduceAdd, Nat.reduceLT, Nat.reduceEqDiff, Nat.reduceLeDiff, Int.reduceAdd, Int.reduceLT, Int.reduceLE, Nat.reduceMul, b1, b2, b3, b10, b11, b12, scrub, AV.ids, idsL, idsE_ints, idsE_rowsA]
     rw [if_pos (by omega)]
  ·obtain rfl : p = ks.length := by omega
   have hpl : (allF R I O (ks.take ks.length)).length = (allF R I O ks).length := by rw [List.take_length]
   rw [hpl] at hcq ⊢
   have hstf : stop = false := by
    cases stop with
    | false => rfl
    | true => have := hs1 rfl; omega
   subst hstf
   have hqq := hs2 rfl
   rw [← hqq]
   repeat' (first|(first|(refine a0_ ?_; first|refine a1_ rfl rfl ?_|refine a2_ rfl ?_|refine a3_ rfl rfl ?_|refine a4_ rfl ?_|refine ak_ rfl rfl ?_|refine a5_ rfl rfl rfl ?_|refine a6_ rfl rfl ?_|refine a7_ rfl rfl ?_|refine a8_ rfl rfl ?_|refine a9_ rfl rfl rfl ?_)|(refine g0_ ?_; first|refine g1_ rfl ?_|refine g2_ rfl rfl ?_|refine go_draw (dr := allQ) rfl rfl mixed (by first|assumption|kernel_rfl) ?_|refine g4_ rfl ?_|refine g5_ rfl ?_|refine g6_ rfl ?_|refine g7_ rfl ?_|refine g8_ rfl ?_|refine ga_ rfl ?_|refine gb_ rfl ?_)|(refine o0_ ?_; first|refine o1_ ?_|refine o2_ ?_|refine o3_ ?_|refine o4_ ?_|refine o5_ ?_|refine o6_ rfl ?_|refine o7_ rfl ?_|refine o8_ ?_|refine o9_ ?_|refine oa_ ?_|refine ob_ ?_|refine oc_ ?_|refine od_ ?_|refine oe_ ?_|refine of_ ?_|refine og_ ?_|refine oh_ ?_|refine oi_ ?_|refine oj_ ?_|refine ok_ ?_))|refine at_go ?_|(with_reducible refine And.intro (at_go ?_) (at_go ?_))|((with_reducible refine And.intro (fun h => ?_) (fun h => ?_)) <;> try (exfalso; omega))|(with_reducible refine And.intro (by first|omega|(simp only [maxLen]; omega)) ?_)|(refine And.intro ⟨[_], rfl⟩ ?_)|(refine And.intro ⟨[], by simp only [List.append_nil]⟩ ?_)|fail|simp (disch := first|omega|(simp only [List.length_map, lenF, lenS]; omega)) only [push_cast, ↓reduceIte, reduceIte, reduceCtorEq, Nat.reduceAdd, Nat.reduceLT, Nat.reduceEqDiff, Nat.reduceLeDiff, Int.reduceAdd, Int.reduceLT, Int.reduceLE, Nat.reduceMul, b1, b2, b3, b10, b11, b12, hl, l1, l2, l3, k0, k1, k2, s1_, s2_, List.append_assoc, List.cons_append, List.nil_append])
end Go.Proofs
