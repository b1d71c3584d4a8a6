import Derived.Test.YtcoakjnmnommpaaDoorA28
namespace Go.Proofs
open Go Go.V
set_option linter.unusedVariables false
set_option linter.unusedSimpArgs false
set_option maxHeartbeats 0
theorem zaW9 : b2i true = 1 := rfl
theorem zaA9 : b2i false = 0 := rfl
set_option maxRecDepth 100000 in
theorem kbW9 (A : Nat) (l : List LC) (c : Option Nat) (ac : List Bool) (ca : Option Nat) (hok : OkDv A (wf0 l) ac.length) :
  PC Tryd.prog G0 56 [dA A 1 l c 1 ac ca] (.sl 1 (rowL (apL (dlt l) (fun s => ac.getD s false) A l.length)) none) := by
 have hidR : ∀ p, idsE p (rowL l) = true := fun p => qc0 _ _
 have hidA : ∀ p, idsE p (vb0 ac) = true := fun p => zd0 _ _
 have hn := hok.n
 have hn1 := hok.n1
 have hA := hok.a2
 have hm := hok.m
 rw [qd0] at hn hn1 hm
 have hRl := wb0 l
 have hAl := xc0 ac
 have e1 := xg0 l
 have e2 := vm0 ac
 have hdl := fun s a h ha => xaM9 (l := l) (s := s) (a := a) h ha
 have hdlt := fun s h a ha => vbk9 hok (s := s) (a := a) h ha
 have hnn0 := fun s a h ha => (hok.at (l := l) (s := s) (a := a) h ha).1
 have hrow := fun s h => hok.row (s := s) h
 generalize hacc : (fun s => ac.getD s false) = acc at *
 have hacs : ∀ s, ac.getD s false = acc s := fun s => by rw [← hacc]
 simp only [hacs] at e2
 clear hacc hacs
 generalize dlt l = δ at *
 have hrows := fun T h => kcS9 δ acc A l.length T h
 have htab := fun T h h2 => qcT9 (δ := δ) (acc := acc) (A := A) (n := l.length) (T := T) hdlt h h2
 generalize apL δ acc A l.length = AP at *
 have hidT : ∀ T s p, idsE p (rowT T l.length s) = true := fun T s p => vcS9 _ _ _ _
 have hTl : ∀ T s, (rowT T l.length s).length = l.length := fun T s => wcS9 _ _ _
 have hidF : ∀ f p, idsE p (intF f l.length) = true := fun f p => kad9 _ _ _
 have hFl : ∀ f, (intF f l.length).length = l.length := fun f => vad9 _ _
 have hz0 := kbk9 l.length
 unfold dA
 generalize rowL l = RN at *
 generalize vb0 ac = BA at *
 obtain ⟨n, hnl⟩ : ∃ n, n = l.length := ⟨_, rfl⟩
 simp only [← hnl] at hn hn1 hm hRl hdlt hrows htab hidT hTl hidF hFl hz0
 have hn0 : OkDv A (wf0 l) ac.length := hok
 clear hn0
 have e1 : ∀ k, k < n → RN.getD k [] = lC (l.getD k ([], none)) := fun k hk => e1 k (by omega)
 have hO := fun N => kF0 2 n (some n) N
 refine wd0 2 102 [.tmp 2] Tryd.func56 rfl rfl rfl (by simp) ?_
 intro s ⟨a0, hz⟩
 clear hz
 repeat' (first|refine nav ?_|(refine g0_ ?_; refine goD ?_)|(with_reducible refine gG ?_ ?_)|((with_reducible refine And.intro (fun h => ?_) (fun h => ?_)) <;> try (exfalso; omega))|(with_reducible refine andG ?_)|(refine And.intro ⟨[_], rfl⟩ ?_)|(refine And.intro ⟨[], by simp only [List.append_nil]⟩ ?_)|fail|simp (disch := (first|exact discB|fail)) only [push_cast, ↓reduceIte, reduceCtorEq, Nat.reduceAdd, Nat.reduceLT, Nat.reduceEqDiff, Nat.reduceLeDiff, Int.reduceAdd, Int.reduceLT, Int.reduceLE, Nat.reduceMul, a0, hRl])
 refine go_loop rfl (fun mz s' H' => ∃ s : Nat, s ≤ n ∧ mz = n - s ∧ H' = (.row 3 36 [[.int .i64 A, .sl 1 RN c, .sl 1 BA ca]] :: .row 1 26 (ownR 2 n (some n) s) :: kf0 1 3 (rowT (firstT acc) n) s) ∧ s' 1 = .ptr 0 0 0 1 ∧ s' 3 = .int .i64 n ∧ s' 4 = .own 1 s s none ∧ s' 5 = .int .i64 s) (m := n) (by first|exact wa0|fail) (xv0 (t := 4) (sz := 1) (ty := 26) rfl) ⟨0, by omega, by omega, by simp [vcL9, vbs9], ?_⟩ ?_
 ·simp (disch := (first|exact discB|fail)) only [push_cast, ↓reduceIte, reduceCtorEq, Nat.reduceAdd, Nat.reduceLT, Nat.reduceEqDiff, Nat.reduceLeDiff, Int.reduceAdd, Int.reduceLT, Int.reduceLE, Nat.reduceMul, a0, hRl]
 ·rintro mz s' H' ⟨s, hs, rfl, rfl, b1, b3, b4, b5⟩
  have hrl := rf_len 1 3 (rowT (firstT acc) n) s
  rcases Nat.lt_or_ge s n with hlt|hge
  ·have e2s := e2 s (by omega)
   have hsnO := vck9 2 n (some n) s
   have hsnF := kbs9 (z := 1) (t := 3) (g := rowT (firstT acc) n) (N := s)
   have etO := xbe9 (b0 := 2) (I := n) (N := s) (n := s) (some n) (Nat.le_refl _)
   have edO : (ownR 2 n (some n) s).drop (s + 1) = [] := List.drop_eq_nil_of_le (by rw [hO]; omega)
   have hgX : ∀ X, (kf0 1 3 (rowT (firstT acc) n) s ++ [X])[s]? = some X := fun X => by rw [xbC9]; rfl
   have hsX : ∀ X Y, (kf0 1 3 (rowT (firstT acc) n) s ++ [X]).set s Y = kf0 1 3 (rowT (firstT acc) n) s ++ [Y] := fun X Y => by
    rw [List.set_append_right _ _ (by rw [rf_len]; exact Nat.le_refl _), rf_len, Nat.sub_self]; rfl
   repeat' (first|refine nav ?_|(refine g0_ ?_; refine goD ?_)|(with_reducible refine gG ?_ ?_)|((with_reducible refine And.intro (fun h => ?_) (fun h => ?_)) <;> try (exfalso; omega))|(with_reducible refine andG ?_)|(refine And.intro ⟨[_], rfl⟩ ?_)|(refine And.intro ⟨[], by simp only [List.append_nil]⟩ ?_)|fail|simp (disch := (first|exact discB|fail)) only [push_cast, ↓reduceIte, reduceCtorEq, Nat.reduceAdd, Nat.reduceLT, Nat.reduceEqDiff, Nat.reduceLeDiff, Int.reduceAdd, Int.reduceLT, Int.reduceLE, Nat.reduceMul, b1, b3, b4, b5, hz0, hrl, hFl, rf_len])
   refine go_loop rfl (fun mz s' H' => ∃ t : Nat, t ≤ n ∧ mz = n - t ∧ H' = (.row 3 36 [[.int .i64 A, .sl 1 RN c, .sl 1 BA ca]] :: .row 1 26 (ownR 2 n (some n) s) :: (kf0 1 3 (rowT (firstT acc) n) s ++ [.row 1 3 (intF (zae9 acc s t) n)])) ∧ s' 1 = .ptr 0 0 0 1 ∧ s' 3 = .int .i64 n ∧ s' 4 = .own 1 s s none ∧ s' 5 = .int .i64 s ∧ s' 6 = .own (s + 2) n n (some n) ∧ s' 7 = .int .i64 t) (m := n) (by first|exact wa0|fail) (Weak.refl _ _) ⟨0, by omega, by omega, by rw [wbW9], ?_⟩ ?_
   ·simp (disch := (first|exact discB|fail)) only [push_cast, ↓reduceIte, reduceCtorEq, Nat.reduceAdd, Nat.reduceLT, Nat.reduceEqDiff, Nat.reduceLeDiff, Int.reduceAdd, Int.reduceLT, Int.reduceLE, Nat.reduceMul, b1, b3, b4, b5, hz0, hrl, hFl, rf_len]
   ·rintro mz s' H' ⟨t, ht, rfl, rfl, b1, b3, b4, b5, b6, b7⟩
    rcases Nat.lt_or_ge t n with hlt2|hge2
    ·have e2t := e2 t (by omega)
     have hsu := vbW9 acc s t
     have hset := zaq9 (zae9 acc s t) n t 1
     have hget := wH0 (zae9 acc s t) n t hlt2
     cases hq : (acc s != acc t) with
     | true =>
      have hq2 : (acc s == acc t) = false := by simpa using hq
      rw [if_pos hq] at hsu
      repeat' (first|refine nav ?_|(refine g0_ ?_; refine goD ?_)|(with_reducible refine gG ?_ ?_)|((with_reducible refine And.intro (fun h => ?_) (fun h => ?_)) <;> try (exfalso; omega))|(with_reducible refine andG ?_)|(refine And.intro ⟨[_], rfl⟩ ?_)|(refine And.intro ⟨[], by simp only [List.append_nil]⟩ ?_)|fail|simp (disch := (first|exact discB|fail)) only [push_cast, ↓reduceIte, reduceCtorEq, Nat.reduceAdd, Nat.reduceLT, Nat.reduceEqDiff, Nat.reduceLeDiff, Int.reduceAdd, Int.reduceLT, Int.reduceLE, Nat.reduceMul, b1, b3, b4, b5, b6, b7, e2s, e2t, hAl, hm, hFl, hget, hset, hgX, hsX, hq2])
      refine qa0 (n - (t + 1)) (by omega) (by first|exact wa0|fail) ⟨t + 1, by omega, rfl, by rw [hsu], ?_⟩
      simp (disch := (first|exact discB|fail)) only [push_cast, ↓reduceIte, reduceCtorEq, Nat.reduceAdd, Nat.reduceLT, Nat.reduceEqDiff, Nat.reduceLeDiff, Int.reduceAdd, Int.reduceLT, Int.reduceLE, Nat.reduceMul, b1, b3, b4, b5, b6, b7, e2s, e2t, hAl, hm, hFl, hget, hset, hgX, hsX, hq2]
     | false =>
      have hq2 : (acc s == acc t) = true := by simpa using hq
      rw [if_neg (by rw [hq]; simp)] at hsu
      repeat' (first|refine nav ?_|(refine g0_ ?_; refine goD ?_)|(with_reducible refine gG ?_ ?_)|((with_reducible refine And.intro (fun h => ?_) (fun h => ?_)) <;> try (exfalso; omega))|(with_reducible refine andG ?_)|(refine And.intro ⟨[_], rfl⟩ ?_)|(refine And.intro ⟨[], by simp only [List.append_nil]⟩ ?_)|fail|simp (disch := (first|exact discB|fail)) only [push_cast, ↓reduceIte, reduceCtorEq, Nat.reduceAdd, Nat.reduceLT, Nat.reduceEqDiff, Nat.reduceLeDiff, Int.reduceAdd, Int.reduceLT, Int.reduceLE, Nat.reduceMul, b1, b3, b4, b5, b6, b7, e2s, e2t, hAl, hm, hFl, hget, hset, hgX, hsX, hq2])
      refine qa0 (n - (t + 1)) (by omega) (by first|exact wa0|fail) ⟨t + 1, by omega, rfl, by rw [hsu], ?_⟩
      simp (disch := (first|exact discB|fail)) only [push_cast, ↓reduceIte, reduceCtorEq, Nat.reduceAdd, Nat.reduceLT, Nat.reduceEqDiff, Nat.reduceLeDiff, Int.reduceAdd, Int.reduceLT, Int.reduceLE, Nat.reduceMul, b1, b3, b4, b5, b6, b7, e2s, e2t, hAl, hm, hFl, hget, hset, hgX, hsX, hq2]
    ·obtain rfl : n = t := by omega
     rw [kcv9]
     repeat' (first|refine nav ?_|(refine g0_ ?_; refine goD ?_)|(with_reducible refine gG ?_ ?_)|((with_reducible refine And.intro (fun h => ?_) (fun h => ?_)) <;> try (exfalso; omega))|(with_reducible refine andG ?_)|(refine And.intro ⟨[_], rfl⟩ ?_)|(refine And.intro ⟨[], by simp only [List.append_nil]⟩ ?_)|fail|simp (disch := (first|exact discB|fail)) only [push_cast, ↓reduceIte, reduceCtorEq, Nat.reduceAdd, Nat.reduceLT, Nat.reduceEqDiff, Nat.reduceLeDiff, Int.reduceAdd, Int.reduceLT, Int.reduceLE, Nat.reduceMul, b1, b3, b4, b5, b6, b7, hO, etO, edO, hTl, hgX, hsX])
     refine qa0 (n - (s + 1)) (by omega) (by first|exact wa0|fail) ⟨s + 1, by omega, rfl, by rw [← hsnO, ← hsnF], ?_⟩
     simp (disch := (first|exact discB|fail)) only [push_cast, ↓reduceIte, reduceCtorEq, Nat.reduceAdd, Nat.reduceLT, Nat.reduceEqDiff, Nat.reduceLeDiff, Int.reduceAdd, Int.reduceLT, Int.reduceLE, Nat.reduceMul, b1, b3, b4, b5, b6, b7, hO, etO, edO, hTl, hgX, hsX]
  ·obtain rfl : n = s := by omega
   repeat' (first|refine nav ?_|(refine g0_ ?_; refine goD ?_)|(with_reducible refine gG ?_ ?_)|((with_reducible refine And.intro (fun h => ?_) (fun h => ?_)) <;> try (exfalso; omega))|(with_reducible refine andG ?_)|(refine And.intro ⟨[_], rfl⟩ ?_)|(refine And.intro ⟨[], by simp only [List.append_nil]⟩ ?_)|fail|simp (disch := (first|exact discB|fail)) only [push_cast, ↓reduceIte, reduceCtorEq, Nat.reduceAdd, Nat.reduceLT, Nat.reduceEqDiff, Nat.reduceLeDiff, Int.reduceAdd, Int.reduceLT, Int.reduceLE, Nat.reduceMul, b1, b3, b4, b5])
   have hO := hO n
   have hgO := fun q (hq : q < n) => qaw9 (b0 := 2) (I := n) (N := n) (k := q) (some n) hq
   refine go_loop rfl (fun mz s' H' => ∃ (T : Nat → Nat → Bool) (more : Int), ApI δ acc A n T ∧ (more = 1 ∨ (more = 0 ∧ ∀ s t, s < n → t < n → T s t = false → ∀ a, a < A → T (δ s a) (δ t a) = false)) ∧ mz = (if more = 1 then cntT n T + 1 else 0) ∧ H' = (.row 3 36 [[.int .i64 A, .sl 1 RN c, .sl 1 BA ca]] :: .row 1 26 (ownR 2 n (some n) n) :: kf0 1 3 (rowT T n) n) ∧ s' 1 = .ptr 0 0 0 1 ∧ s' 3 = .int .i64 n ∧ s' 4 = .own 1 n n none ∧ s' 8 = .int .i64 more) (m := cntT n (firstT acc) + 1) (by first|exact wa0|fail) (Weak.refl _ _) ⟨firstT acc, 1, ⟨fun s t _ _ h => ⟨[], fun a ha => (by cases ha), by have h : (acc s != acc t) = true := h; show acc s ≠ acc t; simpa using h⟩, fun s t _ _ h => by have h : (acc s != acc t) = false := h; simpa using h⟩, .inl rfl, by rw [if_pos rfl], rfl, ?_⟩ ?_
   ·refine ⟨?_, ?_, ?_, ?_⟩
    all_goals simp (disch := (first|exact discB|fail)) only [push_cast, ↓reduceIte, reduceCtorEq, Nat.reduceAdd, Nat.reduceLT, Nat.reduceEqDiff, Nat.reduceLeDiff, Int.reduceAdd, Int.reduceLT, Int.reduceLE, Nat.reduceMul, b1, b3, b4, b5]
   ·rintro mz s' H' ⟨T0, more0, hap0, hm0, rfl, rfl, b1, b3, b4, b8⟩
    rcases hm0 with rfl|⟨rfl, hcl⟩
    rotate_left
    ·have hre := hrows T0 (htab T0 hap0 hcl)
     rw [hre]
     have hgH : ∀ s, s < n → (.row 3 36 [[.int .i64 A, .sl 1 RN c, .sl 1 BA ca]] :: .row 1 26 (ownR 2 n (some n) n) :: kf0 1 3 (rowT T0 n) n : List Blk)[s + 2]? = some (.row 1 3 (((List.range n).map (rowT T0 n)).getD s [])) := fun s hs => by
      rw [List.getElem?_cons_succ, List.getElem?_cons_succ, zbC9 hs]; simp [hs]
     have hgL : ∀ s, s < n → (((List.range n).map (rowT T0 n)).getD s []).length = n := fun s hs => by simp [hs, hTl]
     have hok1 := wdl9 (b0 := 2) (I := n) (N := n) (c := some n) hgH hgL (fun s hs => by simp [hs, hidT])
     have hcl1 := zbR9 (b0 := 2) (I := n) (N := n) (c := some n) hgH hgL
     have hfin : ((List.range n).map fun s => [AV.sl 1 (((List.range n).map (rowT T0 n)).getD s []) (some n)]) = (List.range n).map fun s => [AV.sl 1 (rowT T0 n s) (some n)] := List.map_congr_left fun s hs => by simp [List.mem_range.1 hs]
     rw [hfin] at hcl1
     repeat' (first|refine nav ?_|(refine g0_ ?_; refine goD ?_)|(with_reducible refine gG ?_ ?_)|((with_reducible refine And.intro (fun h => ?_) (fun h => ?_)) <;> try (exfalso; omega))|(with_reducible refine andG ?_)|(refine And.intro ⟨[_], rfl⟩ ?_)|(refine And.intro ⟨[], by simp only [List.append_nil]⟩ ?_)|fail|simp (disch := (first|exact discB|fail)) only [push_cast, ↓reduceIte, reduceCtorEq, Nat.reduceAdd, Nat.reduceLT, Nat.reduceEqDiff, Nat.reduceLeDiff, Int.reduceAdd, Int.reduceLT, Int.reduceLE, Nat.reduceMul, b1, b3, b4, b8, hO])
     all_goals first|exact ⟨hok1, hcl1⟩|exact hok1|exact hcl1
    ·rw [if_pos rfl]
     repeat' (first|refine nav ?_|(refine g0_ ?_; refine goD ?_)|(with_reducible refine gG ?_ ?_)|((with_reducible refine And.intro (fun h => ?_) (fun h => ?_)) <;> try (exfalso; omega))|(with_reducible refine andG ?_)|(refine And.intro ⟨[_], rfl⟩ ?_)|(refine And.intro ⟨[], by simp only [List.append_nil]⟩ ?_)|fail|simp (disch := (first|exact discB|fail)) only [push_cast, ↓reduceIte, reduceCtorEq, Nat.reduceAdd, Nat.reduceLT, Nat.reduceEqDiff, Nat.reduceLeDiff, Int.reduceAdd, Int.reduceLT, Int.reduceLE, Nat.reduceMul, b1, b3, b4, b8])
     refine go_loop rfl (fun mz s' H' => ∃ (s : Nat) (T : Nat → Nat → Bool) (more : Int), s ≤ n ∧ mz = n - s ∧ ApI δ acc A n T ∧ PassI δ A n T0 T more (fun s' t' => s' < s ∧ t' < n) ∧ H' = (.row 3 36 [[.int .i64 A, .sl 1 RN c, .sl 1 BA ca]] :: .row 1 26 (ownR 2 n (some n) n) :: kf0 1 3 (rowT T n) n) ∧ s' 1 = .ptr 0 0 0 1 ∧ s' 3 = .int .i64 n ∧ s' 4 = .own 1 n n none ∧ s' 8 = .int .i64 more ∧ s' 9 = .int .i64 s) (m := n) (by first|exact wa0|fail) (Weak.refl _ _) ⟨0, T0, 0, by omega, by omega, hap0, .inr ⟨rfl, rfl, fun s t h => by omega⟩, rfl, ?_⟩ ?_
     ·refine ⟨?_, ?_, ?_, ?_, ?_⟩
      all_goals simp (disch := (first|exact discB|fail)) only [push_cast, ↓reduceIte, reduceCtorEq, Nat.reduceAdd, Nat.reduceLT, Nat.reduceEqDiff, Nat.reduceLeDiff, Int.reduceAdd, Int.reduceLT, Int.reduceLE, Nat.reduceMul, b1, b3, b4, b8]
     ·clear b1 b3 b4 b8
      rintro mz s' H' ⟨s, T, more, hs, rfl, hap, hpa, rfl, b1, b3, b4, b8, b9⟩
      rcases Nat.lt_or_ge s n with hlt|hge
      ·skip
       repeat' (first|refine nav ?_|(refine g0_ ?_; refine goD ?_)|(with_reducible refine gG ?_ ?_)|((with_reducible refine And.intro (fun h => ?_) (fun h => ?_)) <;> try (exfalso; omega))|(with_reducible refine andG ?_)|(refine And.intro ⟨[_], rfl⟩ ?_)|(refine And.intro ⟨[], by simp only [List.append_nil]⟩ ?_)|fail|simp (disch := (first|exact discB|fail)) only [push_cast, ↓reduceIte, reduceCtorEq, Nat.reduceAdd, Nat.reduceLT, Nat.reduceEqDiff, Nat.reduceLeDiff, Int.reduceAdd, Int.reduceLT, Int.reduceLE, Nat.reduceMul, b1, b3, b4, b8, b9])
       refine go_loop rfl (fun mz s' H' => ∃ (t : Nat) (T : Nat → Nat → Bool) (more : Int), t ≤ n ∧ mz = n - t ∧ ApI δ acc A n T ∧ PassI δ A n T0 T more (fun s' t' => (s' < s ∧ t' < n) ∨ (s' = s ∧ t' < t)) ∧ H' = (.row 3 36 [[.int .i64 A, .sl 1 RN c, .sl 1 BA ca]] :: .row 1 26 (ownR 2 n (some n) n) :: kf0 1 3 (rowT T n) n) ∧ s' 1 = .ptr 0 0 0 1 ∧ s' 3 = .int .i64 n ∧ s' 4 = .own 1 n n none ∧ s' 8 = .int .i64 more ∧ s' 9 = .int .i64 s ∧ s' 10 = .int .i64 t) (m := n) (by first|exact wa0|fail) (Weak.refl _ _) ⟨0, T, more, by omega, by omega, hap, hpa.mono (fun s' t' h => .inl (by omega)), rfl, ?_⟩ ?_
       ·refine ⟨?_, ?_, ?_, ?_, ?_, ?_⟩
        all_goals simp (disch := (first|exact discB|fail)) only [push_cast, ↓reduceIte, reduceCtorEq, Nat.reduceAdd, Nat.reduceLT, Nat.reduceEqDiff, Nat.reduceLeDiff, Int.reduceAdd, Int.reduceLT, Int.reduceLE, Nat.reduceMul, b1, b3, b4, b8, b9]
       ·clear b1 b3 b4 b8 b9 hap hpa
        rintro mz s' H' ⟨t, T, more, ht, rfl, hap, hpa, rfl, b1, b3, b4, b8, b9, b10⟩
        rcases Nat.lt_or_ge t n with hlt2|hge2
        ·skip
         repeat' (first|refine nav ?_|(refine g0_ ?_; refine goD ?_)|(with_reducible refine gG ?_ ?_)|((with_reducible refine And.intro (fun h => ?_) (fun h => ?_)) <;> try (exfalso; omega))|(with_reducible refine andG ?_)|(refine And.intro ⟨[_], rfl⟩ ?_)|(refine And.intro ⟨[], by simp only [List.append_nil]⟩ ?_)|fail|simp (disch := (first|exact discB|fail)) only [push_cast, ↓reduceIte, reduceCtorEq, Nat.reduceAdd, Nat.reduceLT, Nat.reduceEqDiff, Nat.reduceLeDiff, Int.reduceAdd, Int.reduceLT, Int.reduceLE, Nat.reduceMul, b1, b3, b4, b8, b9, b10])
         refine go_loop rfl (fun mz s' H' => ∃ (a : Nat) (T : Nat → Nat → Bool) (more : Int), a ≤ A ∧ mz = A - a ∧ ApI δ acc A n T ∧ PassI δ A n T0 T more (fun s' t' => (s' < s ∧ t' < n) ∨ (s' = s ∧ t' < t)) ∧ (T s t = false → ∀ a', a' < a → T (δ s a') (δ t a') = false) ∧ H' = (.row 3 36 [[.int .i64 A, .sl 1 RN c, .sl 1 BA ca]] :: .row 1 26 (ownR 2 n (some n) n) :: kf0 1 3 (rowT T n) n) ∧ s' 1 = .ptr 0 0 0 1 ∧ s' 3 = .int .i64 n ∧ s' 4 = .own 1 n n none ∧ s' 8 = .int .i64 more ∧ s' 9 = .int .i64 s ∧ s' 10 = .int .i64 t ∧ s' 11 = .int .i64 a) (m := A) (by first|exact wa0|fail) (Weak.refl _ _) ⟨0, T, more, by omega, by omega, hap, hpa, fun _ a' h => by omega, rfl, ?_⟩ ?_
         ·refine ⟨?_, ?_, ?_, ?_, ?_, ?_, ?_⟩
          all_goals simp (disch := (first|exact discB|fail)) only [push_cast, ↓reduceIte, reduceCtorEq, Nat.reduceAdd, Nat.reduceLT, Nat.reduceEqDiff, Nat.reduceLeDiff, Int.reduceAdd, Int.reduceLT, Int.reduceLE, Nat.reduceMul, b1, b3, b4, b8, b9, b10]
         ·clear b1 b3 b4 b8 b9 b10 hap hpa
          rintro mz s' H' ⟨a, T, more, ha, rfl, hap, hpa, hcl, rfl, b1, b3, b4, b8, b9, b10, b11⟩
          have hgs := zbC9 (z := 1) (t := 3) (g := rowT T n) hlt
          have hgO1 := hgO s hlt
          have hget1 := zbI9 T n s t hlt2
          have hTl1 := hTl T
          cases hTs : T s t with
          | true =>
           rw [hTs, zaW9] at hget1
           have hpa2 := hpa.mono (done' := fun s' t' => (s' < s ∧ t' < n) ∨ (s' = s ∧ t' < t + 1)) (fun s' t' h => by
            by_cases e : s' = s ∧ t' = t
            ·obtain ⟨rfl, rfl⟩ := e
             exact .inr fun q => by rw [hTs] at q; cases q
            ·exact .inl (by omega))
           rcases Nat.lt_or_ge a A with hla|hga
           ·skip
            repeat' (first|refine nav ?_|(refine g0_ ?_; refine goD ?_)|(with_reducible refine gG ?_ ?_)|((with_reducible refine And.intro (fun h => ?_) (fun h => ?_)) <;> try (exfalso; omega))|(with_reducible refine andG ?_)|(refine And.intro ⟨[_], rfl⟩ ?_)|(refine And.intro ⟨[], by simp only [List.append_nil]⟩ ?_)|fail|simp (disch := (first|exact discB|fail)) only [push_cast, ↓reduceIte, reduceCtorEq, Nat.reduceAdd, Nat.reduceLT, Nat.reduceEqDiff, Nat.reduceLeDiff, Int.reduceAdd, Int.reduceLT, Int.reduceLE, Nat.reduceMul, b1, b3, b4, b8, b9, b10, b11, hO, hgO1, hgs, hget1, hTl1])
            refine qa0 (n - (t + 1)) (by omega) (by first|exact wa0|fail) ⟨t + 1, T, more, by omega, rfl, hap, hpa2, rfl, ?_, ?_, ?_, ?_, ?_, ?_⟩
            all_goals simp (disch := (first|exact discB|fail)) only [push_cast, ↓reduceIte, reduceCtorEq, Nat.reduceAdd, Nat.reduceLT, Nat.reduceEqDiff, Nat.reduceLeDiff, Int.reduceAdd, Int.reduceLT, Int.reduceLE, Nat.reduceMul, b1, b3, b4, b8, b9, b10, b11, hO, hgO1, hgs, hget1, hTl1]
           ·obtain rfl : A = a := by omega
            repeat' (first|refine nav ?_|(refine g0_ ?_; refine goD ?_)|(with_reducible refine gG ?_ ?_)|((with_reducible refine And.intro (fun h => ?_) (fun h => ?_)) <;> try (exfalso; omega))|(with_reducible refine andG ?_)|(refine And.intro ⟨[_], rfl⟩ ?_)|(refine And.intro ⟨[], by simp only [List.append_nil]⟩ ?_)|fail|simp (disch := (first|exact discB|fail)) only [push_cast, ↓reduceIte, reduceCtorEq, Nat.reduceAdd, Nat.reduceLT, Nat.reduceEqDiff, Nat.reduceLeDiff, Int.reduceAdd, Int.reduceLT, Int.reduceLE, Nat.reduceMul, b1, b3, b4, b8, b9, b10, b11, hO, hgO1, hgs, hget1, hTl1, Nat.lt_irrefl, decide_false, decide_true])
            refine qa0 (n - (t + 1)) (by omega) (by first|exact wa0|fail) ⟨t + 1, T, more, by omega, rfl, hap, hpa2, rfl, ?_, ?_, ?_, ?_, ?_, ?_⟩
            all_goals simp (disch := (first|exact discB|fail)) only [push_cast, ↓reduceIte, reduceCtorEq, Nat.reduceAdd, Nat.reduceLT, Nat.reduceEqDiff, Nat.reduceLeDiff, Int.reduceAdd, Int.reduceLT, Int.reduceLE, Nat.reduceMul, b1, b3, b4, b8, b9, b10, b11, hO, hgO1, hgs, hget1, hTl1, Nat.lt_irrefl, decide_false, decide_true]
          | false =>
           rw [hTs, zaA9] at hget1
           rcases Nat.lt_or_ge a A with hla|hga
           ·have e1s := e1 s hlt
            have e1t := e1 t hlt2
            have hrs := hrow s (by omega)
            have hrt := hrow t (by omega)
            have hds := hdl s a (by omega) (by omega)
            have hdt := hdl t a (by omega) (by omega)
            have hns := hnn0 s a (by omega) hla
            have hnt := hnn0 t a (by omega) hla
            have hls := hdlt s hlt a hla
            have hlt' := hdlt t hlt2 a hla
            have hset := hap.set (s := s) (t := t) hla hls hlt'
            have hpset := hpa.set hlt hlt2 hTs
            have hclo := hcl hTs
            have hcell := xcS9 T n s t
            have hrset := vcv9 T n s t n
            generalize l.getD s ([], none) = rs at *
            generalize l.getD t ([], none) = rt at *
            have e3 := wc0 rs.1 a (by omega)
            have e4 := wc0 rt.1 a (by omega)
            rw [show rs.1.getD a 0 = (δ s a : Nat) by omega] at e3
            rw [show rt.1.getD a 0 = (δ t a : Nat) by omega] at e4
            unfold lC at e1s e1t
            have hrl := za0 rs.1
            have hrl2 := za0 rt.1
            have hgO2 := hgO (δ s a) hls
            have hgs2 := zbC9 (z := 1) (t := 3) (g := rowT T n) hls
            have hget2 := zbI9 T n (δ s a) (δ t a) hlt'
            cases hTn : T (δ s a) (δ t a) with
            | true =>
             have hset2 := hset hTn
             rw [hTn, zaW9] at hget2
             generalize δ s a = p at *
             generalize δ t a = p' at *
             have hsetR := kck9 (z := 1) (t := 3) (g := rowT T n) (N := n) (q := s) (rowT (setT T s t) n s)
             rw [hrset] at hsetR
             repeat' (first|refine nav ?_|(refine g0_ ?_; refine goD ?_)|(with_reducible refine gG ?_ ?_)|((with_reducible refine And.intro (fun h => ?_) (fun h => ?_)) <;> try (exfalso; omega))|(with_reducible refine andG ?_)|(refine And.intro ⟨[_], rfl⟩ ?_)|(refine And.intro ⟨[], by simp only [List.append_nil]⟩ ?_)|fail|simp (disch := (first|exact discB|fail)) only [push_cast, ↓reduceIte, reduceCtorEq, Nat.reduceAdd, Nat.reduceLT, Nat.reduceEqDiff, Nat.reduceLeDiff, Int.reduceAdd, Int.reduceLT, Int.reduceLE, Nat.reduceMul, b1, b3, b4, b8, b9, b10, b11, hO, hgO1, hgs, hget1, hTl1, e1s, e1t, e3, e4, hRl, hrl, hrl2, hrs, hrt, hgO2, hgs2, hget2, hcell, hsetR])
             refine qa0 (A - (a + 1)) (by omega) (by first|exact wa0|fail) ⟨a + 1, setT T s t, 1, by omega, rfl, hset2, hpset _, fun q => by simp [setT] at q, rfl, ?_, ?_, ?_, ?_, ?_, ?_, ?_⟩
             all_goals simp (disch := (first|exact discB|fail)) only [push_cast, ↓reduceIte, reduceCtorEq, Nat.reduceAdd, Nat.reduceLT, Nat.reduceEqDiff, Nat.reduceLeDiff, Int.reduceAdd, Int.reduceLT, Int.reduceLE, Nat.reduceMul, b1, b3, b4, b8, b9, b10, b11, hO, hgO1, hgs, hget1, hTl1, e1s, e1t, e3, e4, hRl, hrl, hrl2, hrs, hrt, hgO2, hgs2, hget2, hcell, hsetR]
            | false =>
             have hclo2 := wV0 (P := fun a' => T (δ s a') (δ t a') = false) (k := a) hclo hTn
             rw [hTn, zaA9] at hget2
             generalize hp1 : δ s a = p at *
             generalize hp2 : δ t a = p' at *
             repeat' (first|refine nav ?_|(refine g0_ ?_; refine goD ?_)|(with_reducible refine gG ?_ ?_)|((with_reducible refine And.intro (fun h => ?_) (fun h => ?_)) <;> try (exfalso; omega))|(with_reducible refine andG ?_)|(refine And.intro ⟨[_], rfl⟩ ?_)|(refine And.intro ⟨[], by simp only [List.append_nil]⟩ ?_)|fail|simp (disch := (first|exact discB|fail)) only [push_cast, ↓reduceIte, reduceCtorEq, Nat.reduceAdd, Nat.reduceLT, Nat.reduceEqDiff, Nat.reduceLeDiff, Int.reduceAdd, Int.reduceLT, Int.reduceLE, Nat.reduceMul, b1, b3, b4, b8, b9, b10, b11, hO, hgO1, hgs, hget1, hTl1, e1s, e1t, e3, e4, hRl, hrl, hrl2, hrs, hrt, hgO2, hgs2, hget2])
             refine qa0 (A - (a + 1)) (by omega) (by first|exact wa0|fail) ⟨a + 1, T, more, by omega, rfl, hap, hpa, fun _ => hclo2, rfl, ?_, ?_, ?_, ?_, ?_, ?_, ?_⟩
             all_goals simp (disch := (first|exact discB|fail)) only [push_cast, ↓reduceIte, reduceCtorEq, Nat.reduceAdd, Nat.reduceLT, Nat.reduceEqDiff, Nat.reduceLeDiff, Int.reduceAdd, Int.reduceLT, Int.reduceLE, Nat.reduceMul, b1, b3, b4, b8, b9, b10, b11, hO, hgO1, hgs, hget1, hTl1, e1s, e1t, e3, e4, hRl, hrl, hrl2, hrs, hrt, hgO2, hgs2, hget2]
           ·obtain rfl : A = a := by omega
            have hpa2 := hpa.mono (done' := fun s' t' => (s' < s ∧ t' < n) ∨ (s' = s ∧ t' < t + 1)) (fun s' t' h => by
             by_cases e : s' = s ∧ t' = t
             ·obtain ⟨rfl, rfl⟩ := e
              exact .inr hcl
             ·exact .inl (by omega))
            repeat' (first|refine nav ?_|(refine g0_ ?_; refine goD ?_)|(with_reducible refine gG ?_ ?_)|((with_reducible refine And.intro (fun h => ?_) (fun h => ?_)) <;> try (exfalso; omega))|(with_reducible refine andG ?_)|(refine And.intro ⟨[_], rfl⟩ ?_)|(refine And.intro ⟨[], by simp only [List.append_nil]⟩ ?_)|fail|simp (disch := (first|exact discB|fail)) only [push_cast, ↓reduceIte, reduceCtorEq, Nat.reduceAdd, Nat.reduceLT, Nat.reduceEqDiff, Nat.reduceLeDiff, Int.reduceAdd, Int.reduceLT, Int.reduceLE, Nat.reduceMul, b1, b3, b4, b8, b9, b10, b11, hO, hgO1, hgs, hget1, hTl1, Nat.lt_irrefl, decide_false, decide_true])
            refine qa0 (n - (t + 1)) (by omega) (by first|exact wa0|fail) ⟨t + 1, T, more, by omega, rfl, hap, hpa2, rfl, ?_, ?_, ?_, ?_, ?_, ?_⟩
            all_goals simp (disch := (first|exact discB|fail)) only [push_cast, ↓reduceIte, reduceCtorEq, Nat.reduceAdd, Nat.reduceLT, Nat.reduceEqDiff, Nat.reduceLeDiff, Int.reduceAdd, Int.reduceLT, Int.reduceLE, Nat.reduceMul, b1, b3, b4, b8, b9, b10, b11, hO, hgO1, hgs, hget1, hTl1, Nat.lt_irrefl, decide_false, decide_true]
        ·obtain rfl : n = t := by omega
         repeat' (first|refine nav ?_|(refine g0_ ?_; refine goD ?_)|(with_reducible refine gG ?_ ?_)|((with_reducible refine And.intro (fun h => ?_) (fun h => ?_)) <;> try (exfalso; omega))|(with_reducible refine andG ?_)|(refine And.intro ⟨[_], rfl⟩ ?_)|(refine And.intro ⟨[], by simp only [List.append_nil]⟩ ?_)|fail|simp (disch := (first|exact discB|fail)) only [push_cast, ↓reduceIte, reduceCtorEq, Nat.reduceAdd, Nat.reduceLT, Nat.reduceEqDiff, Nat.reduceLeDiff, Int.reduceAdd, Int.reduceLT, Int.reduceLE, Nat.reduceMul, b1, b3, b4, b8, b9, b10])
         refine qa0 (n - (s + 1)) (by omega) (by first|exact wa0|fail) ⟨s + 1, T, more, by omega, rfl, hap, hpa.mono (fun s' t' h => .inl (by omega)), rfl, ?_, ?_, ?_, ?_, ?_⟩
         all_goals simp (disch := (first|exact discB|fail)) only [push_cast, ↓reduceIte, reduceCtorEq, Nat.reduceAdd, Nat.reduceLT, Nat.reduceEqDiff, Nat.reduceLeDiff, Int.reduceAdd, Int.reduceLT, Int.reduceLE, Nat.reduceMul, b1, b3, b4, b8, b9, b10]
      ·obtain rfl : n = s := by omega
       have hres : (more = 1 ∨ (more = 0 ∧ ∀ s t, s < n → t < n → T s t = false → ∀ a, a < A → T (δ s a) (δ t a) = false)) ∧ (if more = 1 then cntT n T + 1 else 0) < cntT n T0 + 1 := by
        rcases hpa with ⟨rfl, h⟩|⟨rfl, h2, h3⟩
        ·exact ⟨.inl rfl, by rw [if_pos rfl]; omega⟩
        ·exact ⟨.inr ⟨rfl, fun s t hs ht => h3 s t ⟨hs, ht⟩⟩, by rw [if_neg (by decide)]; omega⟩
       repeat' (first|refine nav ?_|(refine g0_ ?_; refine goD ?_)|(with_reducible refine gG ?_ ?_)|((with_reducible refine And.intro (fun h => ?_) (fun h => ?_)) <;> try (exfalso; omega))|(with_reducible refine andG ?_)|(refine And.intro ⟨[_], rfl⟩ ?_)|(refine And.intro ⟨[], by simp only [List.append_nil]⟩ ?_)|fail|simp (disch := (first|exact discB|fail)) only [push_cast, ↓reduceIte, reduceCtorEq, Nat.reduceAdd, Nat.reduceLT, Nat.reduceEqDiff, Nat.reduceLeDiff, Int.reduceAdd, Int.reduceLT, Int.reduceLE, Nat.reduceMul, b1, b3, b4, b8, b9])
       refine qa0 _ hres.2 (by first|exact wa0|fail) ⟨T, more, hap, hres.1, rfl, rfl, ?_, ?_, ?_, ?_⟩
       all_goals simp (disch := (first|exact discB|fail)) only [push_cast, ↓reduceIte, reduceCtorEq, Nat.reduceAdd, Nat.reduceLT, Nat.reduceEqDiff, Nat.reduceLeDiff, Int.reduceAdd, Int.reduceLT, Int.reduceLE, Nat.reduceMul, b1, b3, b4, b8, b9]
end Go.Proofs
