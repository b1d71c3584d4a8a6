import Derived.Test.YtcoakjnmnommpaaDoorA26
import Derived.Test.YtcoakjnmnommpaaDoorAR3
namespace Go.Proofs
open Go Go.V
set_option linter.unusedVariables false
set_option linter.unusedSimpArgs false
set_option maxHeartbeats 0
set_option maxRecDepth 100000 in
theorem qcS9 (A : Nat) (l : List LC) (c : Option Nat) (ac : List Bool) (ca : Option Nat) (hok : OkDv A (wf0 l) ac.length) (order : List Nat) (co : Option Nat) (hcl : ∀ s ∈ order, ∀ a, a < A → dlt l s a ∈ order) (hol : ∀ s ∈ order, s < l.length) (hon : order.length ≤ 256) (h0 : order ≠ []) (K : Nat)
  (hK : cntK (dlt l) (fun s => ac.getD s false) A order K = cntK (dlt l) (fun s => ac.getD s false) A order (K + 1)) (hKl : ∀ j, j < K → cntK (dlt l) (fun s => ac.getD s false) A order j < cntK (dlt l) (fun s => ac.getD s false) A order (j + 1)) :
  PC Tryd.prog G0 55 [dA A 1 l c 1 ac ca, .sl 1 (ints (intN order)) co] (.tup [.sl 1 (intF (clF (dlt l) (fun s => ac.getD s false) A order (K + 2)) l.length) (some l.length), .int .i64 (cntK (dlt l) (fun s => ac.getD s false) A order (K + 1))]) := by
 have hidR : ∀ p, idsE p (rowL l) = true := fun p => qc0 _ _
 have hidA : ∀ p, idsE p (vb0 ac) = true := fun p => zd0 _ _
 have hidO : ∀ p, idsE p (ints (intN order)) = true := fun p => qb0 _ _
 have hn := hok.n
 have hn1 := hok.n1
 have hA := hok.a2
 have hm := hok.m
 rw [qd0] at hn hn1 hm
 have hRl := wb0 l
 have hAl := xc0 ac
 have hOl : (ints (intN order)).length = order.length := by rw [za0, intN_len]
 have hOi := intN_len order
 have e1 := xg0 l
 have e2 := vm0 ac
 have hgO : ∀ k, k < order.length → (ints (intN order)).getD k [] = [.int .i64 (order.getD k 0 : Nat)] := fun k hk => by rw [wc0 _ _ (by rw [intN_len]; exact hk), qB0 _ k hk]
 have hdl := fun s a h ha => xaM9 (l := l) (s := s) (a := a) h ha
 have hnn0 := fun s a h ha => (hok.at (l := l) (s := s) (a := a) h ha).1
 have hrow := fun s h => hok.row (s := s) h
 have hpos : ∀ j, 1 ≤ cntK (dlt l) (fun s => ac.getD s false) A order j := fun j => qaV9 j h0
 have hcle : ∀ j, cntK (dlt l) (fun s => ac.getD s false) A order j ≤ order.length := fun j => kaU9 j
 generalize hacc : (fun s => ac.getD s false) = acc at *
 have hacs : ∀ s, ac.getD s false = acc s := fun s => by rw [← hacc]
 simp only [hacs] at e2
 clear hacc hacs
 generalize dlt l = δ at *
 have hsml := fun j => wam9 (δ := δ) (acc := acc) (A := A) hon hcl j
 have hnsm := fun j s hs => waM9 (δ := δ) (acc := acc) (A := A) hon hcl j s hs
 have hclt := fun j s hs => kcu9 (δ := δ) (acc := acc) (A := A) hon j s hs
 have hidF : ∀ f p, idsE p (intF f l.length) = true := fun f p => kad9 _ _ _
 have hFl : ∀ f, (intF f l.length).length = l.length := fun f => vad9 _ _
 unfold dA
 generalize rowL l = RN at *
 generalize vb0 ac = BA at *
 generalize hOR : ints (intN order) = OR at *
 clear hOR
 obtain ⟨n, hnl⟩ : ∃ n, n = l.length := ⟨_, rfl⟩
 rw [← hnl] at hn hn1 hm hRl hidF hFl ⊢
 have hz0 := kbk9 n
 refine wd0 1 98 [.tmp 4, .tmp 5] Tryd.func55 rfl rfl rfl (by simp) ?_
 intro s ⟨a0, a1, hz⟩
 simp only [Nat.zero_add, Nat.reduceAdd] at a1
 clear hz
 repeat' (first|refine nav ?_|(refine g0_ ?_; refine goD ?_)|(with_reducible refine gG ?_ ?_)|((with_reducible refine And.intro (fun h => ?_) (fun h => ?_)) <;> try (exfalso; omega))|(with_reducible refine andG ?_)|(refine And.intro ⟨[_], rfl⟩ ?_)|(refine And.intro ⟨[], by simp only [List.append_nil]⟩ ?_)|fail|simp (disch := (first|exact discB|fail)) only [push_cast, ↓reduceIte, reduceCtorEq, Nat.reduceAdd, Nat.reduceLT, Nat.reduceEqDiff, Nat.reduceLeDiff, Int.reduceAdd, Int.reduceLT, Int.reduceLE, Nat.reduceMul, a0, a1, hRl, hz0, hFl])
 refine go_loop rfl (fun mz s' H' => ∃ u : Nat, u ≤ n ∧ mz = n - u ∧ H' = [.row 3 36 [[.int .i64 A, .sl 1 RN c, .sl 1 BA ca]], .row 1 3 (intF (inF acc u) n)] ∧ s' 1 = .sl 1 OR co ∧ s' 2 = .ptr 0 0 0 1 ∧ s' 4 = .own 1 n n (some n) ∧ s' 5 = .int .i64 0 ∧ s' 20 = .own 1 n n (some n) ∧ s' 21 = .int .i64 n ∧ s' 22 = .int .i64 u) (m := n) (by first|exact wa0|fail) (Weak.refl _ _) ⟨0, by omega, by omega, by rw [vcR9], ?_⟩ ?_
 ·simp (disch := (first|exact discB|fail)) only [push_cast, ↓reduceIte, reduceCtorEq, Nat.reduceAdd, Nat.reduceLT, Nat.reduceEqDiff, Nat.reduceLeDiff, Int.reduceAdd, Int.reduceLT, Int.reduceLE, Nat.reduceMul, a0, a1, hRl, hz0, hFl]
 ·rintro mz s' H' ⟨u, hu, rfl, rfl, b1, b2, b4, b5, b20, b21, b22⟩
  rcases Nat.lt_or_ge u n with hlt|hge
  ·have e2u := e2 u (by omega)
   have hsu := kcR9 (acc := acc) u
   have hset := zaq9 (inF acc u) n u 1
   have hget := wH0 (inF acc u) n u hlt
   cases hq : acc u with
   | true =>
    rw [hq] at e2u
    rw [if_pos hq] at hsu
    repeat' (first|refine nav ?_|(refine g0_ ?_; refine goD ?_)|(with_reducible refine gG ?_ ?_)|((with_reducible refine And.intro (fun h => ?_) (fun h => ?_)) <;> try (exfalso; omega))|(with_reducible refine andG ?_)|(refine And.intro ⟨[_], rfl⟩ ?_)|(refine And.intro ⟨[], by simp only [List.append_nil]⟩ ?_)|fail|simp (disch := (first|exact discB|fail)) only [push_cast, ↓reduceIte, reduceCtorEq, Nat.reduceAdd, Nat.reduceLT, Nat.reduceEqDiff, Nat.reduceLeDiff, Int.reduceAdd, Int.reduceLT, Int.reduceLE, Nat.reduceMul, b1, b2, b4, b5, b20, b21, b22, e2u, hAl, hm, hFl, hget, hset])
    refine qa0 (n - (u + 1)) (by omega) (by first|exact wa0|fail) ⟨u + 1, by omega, rfl, by rw [hsu], ?_⟩
    simp (disch := (first|exact discB|fail)) only [push_cast, ↓reduceIte, reduceCtorEq, Nat.reduceAdd, Nat.reduceLT, Nat.reduceEqDiff, Nat.reduceLeDiff, Int.reduceAdd, Int.reduceLT, Int.reduceLE, Nat.reduceMul, b1, b2, b4, b5, b20, b21, b22, e2u, hAl, hm, hFl, hget, hset]
   | false =>
    rw [hq] at e2u
    rw [if_neg (by rw [hq]; simp)] at hsu
    repeat' (first|refine nav ?_|(refine g0_ ?_; refine goD ?_)|(with_reducible refine gG ?_ ?_)|((with_reducible refine And.intro (fun h => ?_) (fun h => ?_)) <;> try (exfalso; omega))|(with_reducible refine andG ?_)|(refine And.intro ⟨[_], rfl⟩ ?_)|(refine And.intro ⟨[], by simp only [List.append_nil]⟩ ?_)|fail|simp (disch := (first|exact discB|fail)) only [push_cast, ↓reduceIte, reduceCtorEq, Nat.reduceAdd, Nat.reduceLT, Nat.reduceEqDiff, Nat.reduceLeDiff, Int.reduceAdd, Int.reduceLT, Int.reduceLE, Nat.reduceMul, b1, b2, b4, b5, b20, b21, b22, e2u, hAl, hm])
    refine qa0 (n - (u + 1)) (by omega) (by first|exact wa0|fail) ⟨u + 1, by omega, rfl, by rw [hsu], ?_⟩
    simp (disch := (first|exact discB|fail)) only [push_cast, ↓reduceIte, reduceCtorEq, Nat.reduceAdd, Nat.reduceLT, Nat.reduceEqDiff, Nat.reduceLeDiff, Int.reduceAdd, Int.reduceLT, Int.reduceLE, Nat.reduceMul, b1, b2, b4, b5, b20, b21, b22, e2u, hAl, hm]
  ·obtain rfl : u = n := by omega
   repeat' (first|refine nav ?_|(refine g0_ ?_; refine goD ?_)|(with_reducible refine gG ?_ ?_)|((with_reducible refine And.intro (fun h => ?_) (fun h => ?_)) <;> try (exfalso; omega))|(with_reducible refine andG ?_)|(refine And.intro ⟨[_], rfl⟩ ?_)|(refine And.intro ⟨[], by simp only [List.append_nil]⟩ ?_)|fail|simp (disch := (first|exact discB|fail)) only [push_cast, ↓reduceIte, reduceCtorEq, Nat.reduceAdd, Nat.reduceLT, Nat.reduceEqDiff, Nat.reduceLeDiff, Int.reduceAdd, Int.reduceLT, Int.reduceLE, Nat.reduceMul, b1, b2, b4, b5, b20, b21, b22])
   have htk : (intF (inF acc u) u).take u = intF (inF acc u) u := List.take_of_length_le (by rw [hFl]; exact Nat.le_refl _)
   refine go_loop rfl (fun mz s' H' => ∃ j : Nat, j ≤ K + 1 ∧ mz = K + 2 - j ∧ H' = [.row 3 36 [[.int .i64 A, .sl 1 RN c, .sl 1 BA ca]]] ∧ s' 1 = .sl 1 OR co ∧ s' 2 = .ptr 0 0 0 1 ∧ s' 4 = .sl 1 (intF (clF δ acc A order j) u) (some u) ∧ s' 5 = .int .i64 (cntB δ acc A order j : Nat)) (m := K + 2) (by first|exact wa0|fail) ((xU0 (j := 1) (sz := 1) (t := 3) (es := intF (inF acc u) u) rfl).trans (wah9 (m := 1) (by omega) (by simp [frzH]) (by simp [frzH, frzB, frz, Blk.below, idsE, idsL, AV.ids, xi0, xe0, hidR, hidA]))) ⟨0, by omega, by omega, by simp [frzH, frzB, frz, xi0, hidR, hidA], ?_⟩ ?_
   ·rw [← wdq9 (δ := δ) (A := A) (order := order)]
    simp (disch := (first|exact discB|fail)) only [push_cast, ↓reduceIte, reduceCtorEq, Nat.reduceAdd, Nat.reduceLT, Nat.reduceEqDiff, Nat.reduceLeDiff, Int.reduceAdd, Int.reduceLT, Int.reduceLE, Nat.reduceMul, b1, b2, b4, b5, b20, b21, b22, scrub, frz, AV.ids, idsL, hidO, htk, hFl, hidF]
    rfl
   ·clear b1 b2 b4 b5 b20 b21 b22
    rintro mz s' H' ⟨j, hj, rfl, rfl, b1, b2, b4, b5⟩
    have hgc : ∀ s, s ∈ order → (intF (clF δ acc A order j) u).getD s [] = [.int .i64 (clK δ acc A order j s : Nat)] := fun s hs => by
     rw [wH0 _ _ _ (by rw [hnl]; exact hol s hs), clF, if_pos (.inr hs)]
    repeat' (first|refine nav ?_|(refine g0_ ?_; refine goD ?_)|(with_reducible refine gG ?_ ?_)|((with_reducible refine And.intro (fun h => ?_) (fun h => ?_)) <;> try (exfalso; omega))|(with_reducible refine andG ?_)|(refine And.intro ⟨[_], rfl⟩ ?_)|(refine And.intro ⟨[], by simp only [List.append_nil]⟩ ?_)|fail|simp (disch := (first|exact discB|fail)) only [push_cast, ↓reduceIte, reduceCtorEq, Nat.reduceAdd, Nat.reduceLT, Nat.reduceEqDiff, Nat.reduceLeDiff, Int.reduceAdd, Int.reduceLT, Int.reduceLE, Nat.reduceMul, b1, b2, b4, b5, hFl, hz0])
    refine go_loop rfl (fun mz s' H' => ∃ v : Nat, v ≤ order.length ∧ mz = order.length - v ∧ H' = [.row 3 36 [[.int .i64 A, .sl 1 RN c, .sl 1 BA ca]], .ob (.map 9 3 (mapB (namesC δ A order (clK δ acc A order j) v))), .row 1 3 (intF (nxF δ acc A order j v) u)] ∧ s' 1 = .sl 1 OR co ∧ s' 2 = .ptr 0 0 0 1 ∧ s' 4 = .sl 1 (intF (clF δ acc A order j) u) (some u) ∧ s' 5 = .int .i64 (cntB δ acc A order j : Nat) ∧ s' 7 = .mp 1 ∧ s' 8 = .own 2 u u (some u) ∧ s' 38 = .sl 1 OR co ∧ s' 39 = .int .i64 order.length ∧ s' 40 = .int .i64 v) (m := order.length) (by first|exact wa0|fail) (Weak.refl _ _) ⟨0, by omega, by omega, by rw [xcR9]; rfl, ?_⟩ ?_
    ·simp (disch := (first|exact discB|fail)) only [push_cast, ↓reduceIte, reduceCtorEq, Nat.reduceAdd, Nat.reduceLT, Nat.reduceEqDiff, Nat.reduceLeDiff, Int.reduceAdd, Int.reduceLT, Int.reduceLE, Nat.reduceMul, b1, b2, b4, b5, hFl, hz0]
     rw [hOl]
    ·clear b1 b2 b4 b5
     rintro mz s' H' ⟨v, hv, rfl, rfl, b1, b2, b4, b5, b7, b8, b38, b39, b40⟩
     have hmB := wbw9 (namesC δ A order (clK δ acc A order j) v)
     have hidM := fun p => kcQ9 p (namesC δ A order (clK δ acc A order j) v)
     rcases Nat.lt_or_ge v order.length with hvl|hvg
     ·have hgo := hgO v hvl
      have hso : order.getD v 0 ∈ order := kd0 hvl
      have hsn := hol _ hso
      have hns := zz0 (δ := δ) (A := A) (clK δ acc A order j) v hvl
      have hnold := qcv9 (δ := δ) (A := A) (cl := clK δ acc A order j) hvl
      have hnnew := zcv9 (δ := δ) (A := A) (cl := clK δ acc A order j) hvl
      have hnx := wcR9 (δ := δ) (acc := acc) (A := A) j v hvl
      have hsmv := hsml j v (by omega)
      have hnlen := vaM9 (δ := δ) (A := A) (clK δ acc A order j) v (by omega)
      have hlev := wax9 (eqv := eqL) (namesC δ A order (clK δ acc A order j) v) (qo0 δ A (clK δ acc A order j) (order.getD v 0))
      generalize order.getD v 0 = s at *
      have hcls := hclt j s hso
      have hgs := hgc s hso
      have e1s := e1 s hsn
      have hrows := hrow s hsn
      have hdls := fun a => hdl s a hsn
      have hnns := fun a => hnn0 s a hsn
      have hcs := hcl s hso
      have hnms := hnsm j s hso
      generalize l.getD s ([], none) = r at *
      have hrl := za0 r.1
      have e3 := wc0 r.1
      unfold lC at e1s
      have hws := wcv9 _ hcls
      have hb1 : [[AV.int .u8 (clK δ acc A order j s : Nat)]] = qp0 (bytM (qae9 δ (clK δ acc A order j) s 0)) := qbI9 [] _ hcls
      have hsu : s < u := by omega
      repeat' (first|(refine g0_ ?_; with_reducible refine zbf9 [] (p := [0, 1, 0, 0, 1, 1, 0, 0, 1, 0, 1, 1, 0, 0, 0, 1, 1, 1]) rfl rfl ?_)|(refine a0_ ?_; refine vaw9 rfl ?_)|refine nav ?_|(refine g0_ ?_; refine goD ?_)|(with_reducible refine gG ?_ ?_)|((with_reducible refine And.intro (fun h => ?_) (fun h => ?_)) <;> try (exfalso; omega))|(with_reducible refine andG ?_)|(refine And.intro ⟨[_], rfl⟩ ?_)|(refine And.intro ⟨[], by simp only [List.append_nil]⟩ ?_)|fail|simp (disch := (first|exact discB|fail)) only [push_cast, ↓reduceIte, reduceCtorEq, Nat.reduceAdd, Nat.reduceLT, Nat.reduceEqDiff, Nat.reduceLeDiff, Int.reduceAdd, Int.reduceLT, Int.reduceLE, Nat.reduceMul, b1, b2, b4, b5, b7, b8, b38, b39, b40, hgo, hgs, hws, hFl, hsu, hRl, e1s, hrl])
      refine go_loop rfl (fun mz s' H' => ∃ a : Nat, a ≤ A ∧ mz = A - a ∧ H' = [.row 3 36 [[.int .i64 A, .sl 1 RN c, .sl 1 BA ca]], .ob (.map 9 3 (mapB (namesC δ A order (clK δ acc A order j) v))), .row 1 3 (intF (nxF δ acc A order j v) u), .row 1 5 (qp0 (bytM (qae9 δ (clK δ acc A order j) s a)))] ∧ s' 1 = .sl 1 OR co ∧ s' 2 = .ptr 0 0 0 1 ∧ s' 4 = .sl 1 (intF (clF δ acc A order j) u) (some u) ∧ s' 5 = .int .i64 (cntB δ acc A order j : Nat) ∧ s' 7 = .mp 1 ∧ s' 8 = .own 2 u u (some u) ∧ s' 10 = .int .i64 s ∧ s' 11 = .own 3 (a + 1) (a + 1) none ∧ s' 38 = .sl 1 OR co ∧ s' 39 = .int .i64 order.length ∧ s' 40 = .int .i64 v ∧ s' 54 = .sl 1 (ints r.1) r.2 ∧ s' 55 = .int .i64 A ∧ s' 56 = .int .i64 a) (m := A) (by first|exact wa0|fail) (Weak.refl _ _) ⟨0, by omega, by omega, by rw [← hb1], ?_⟩ ?_
      ·simp (disch := (first|exact discB|fail)) only [push_cast, ↓reduceIte, reduceCtorEq, Nat.reduceAdd, Nat.reduceLT, Nat.reduceEqDiff, Nat.reduceLeDiff, Int.reduceAdd, Int.reduceLT, Int.reduceLE, Nat.reduceMul, b1, b2, b4, b5, b7, b8, b38, b39, b40, hgo, hgs, hws, hFl, hsu, hRl, e1s, hrl]
       rw [hrows]
      ·clear b1 b2 b4 b5 b7 b8 b38 b39 b40
       rintro mz s' H' ⟨a, ha, rfl, rfl, b1, b2, b4, b5, b7, b8, b10, b11, b38, b39, b40, b54, b55, b56⟩
       have hnl1 : (qp0 (bytM (qae9 δ (clK δ acc A order j) s a))).length = a + 1 := by rw [zaa9, bytM, List.length_map, qbl9]
       have hnl2 : (bytM (qae9 δ (clK δ acc A order j) s a)).length = a + 1 := by rw [bytM, List.length_map, qbl9]
       have etN : (qp0 (bytM (qae9 δ (clK δ acc A order j) s a))).take (a + 1) = qp0 (bytM (qae9 δ (clK δ acc A order j) s a)) := List.take_of_length_le (by omega)
       have edN : (qp0 (bytM (qae9 δ (clK δ acc A order j) s a))).drop (a + 1 + 1) = [] := List.drop_eq_nil_of_le (by omega)
       rcases Nat.lt_or_ge a A with hla|hga
       ·have e3a := e3 a (by omega)
        have hda := hdls a (by omega)
        have hna := hnns a hla
        have hto := hcs a hla
        rw [show r.1.getD a 0 = (δ s a : Nat) by omega] at e3a
        have hsuc := xbW9 (δ := δ) (clK δ acc A order j) s a
        generalize δ s a = to at *
        have hct := hclt j to hto
        have hgt := hgc to hto
        have hwt := wcv9 _ hct
        have hton : to < u := by have := hol to hto; omega
        have hsnb := qbI9 (qae9 δ (clK δ acc A order j) s a) _ hct
        rw [← hsuc] at hsnb
        repeat' (first|refine nav ?_|(refine g0_ ?_; refine goD ?_)|(with_reducible refine gG ?_ ?_)|((with_reducible refine And.intro (fun h => ?_) (fun h => ?_)) <;> try (exfalso; omega))|(with_reducible refine andG ?_)|(refine And.intro ⟨[_], rfl⟩ ?_)|(refine And.intro ⟨[], by simp only [List.append_nil]⟩ ?_)|fail|simp (disch := (first|exact discB|fail)) only [push_cast, ↓reduceIte, reduceCtorEq, Nat.reduceAdd, Nat.reduceLT, Nat.reduceEqDiff, Nat.reduceLeDiff, Int.reduceAdd, Int.reduceLT, Int.reduceLE, Nat.reduceMul, b1, b2, b4, b5, b7, b8, b10, b11, b38, b39, b40, b54, b55, b56, e3a, hrl, hrows, hFl, hgt, hwt, hton, hnl1, hnl2, etN, edN])
        refine qa0 (A - (a + 1)) (by omega) (by first|exact wa0|fail) ⟨a + 1, by omega, rfl, by rw [← hsnb], ?_⟩
        simp (disch := (first|exact discB|fail)) only [push_cast, ↓reduceIte, reduceCtorEq, Nat.reduceAdd, Nat.reduceLT, Nat.reduceEqDiff, Nat.reduceLeDiff, Int.reduceAdd, Int.reduceLT, Int.reduceLE, Nat.reduceMul, b1, b2, b4, b5, b7, b8, b10, b11, b38, b39, b40, b54, b55, b56, e3a, hrl, hrows, hFl, hgt, hwt, hton, hnl1, hnl2, etN, edN]
       ·obtain rfl : A = a := by omega
        rw [xcv9] at hnl1 hnl2 etN edN ⊢
        have hbA := qG0 (bytM (qo0 δ A (clK δ acc A order j) s))
        have hmok := wdF9 (namesC δ A order (clK δ acc A order j) v) (bytM (qo0 δ A (clK δ acc A order j) s))
        have hold := fun h => qcR9 hsmv hnms h (.int .i64 0)
        have hnew := fun h => zcR9 hsmv hnms h (.int .i64 0)
        have hsetv := fun q => zaq9 (nxF δ acc A order j v) u s q
        have hgetv := wH0 (nxF δ acc A order j v) u s hsu
        have hfz : (frzH 3 1 (qp0 (bytM (qo0 δ A (clK δ acc A order j) s))) [.row 3 36 [[.int .i64 A, .sl 1 RN c, .sl 1 BA ca]], .ob (.map 9 3 (mapB (namesC δ A order (clK δ acc A order j) v))), .row 1 3 (intF (nxF δ acc A order j v) u), .row 1 5 (qp0 (bytM (qo0 δ A (clK δ acc A order j) s)))]).take 3 = [.row 3 36 [[.int .i64 A, .sl 1 RN c, .sl 1 BA ca]], .ob (.map 9 3 (mapB (namesC δ A order (clK δ acc A order j) v))), .row 1 3 (intF (nxF δ acc A order j v) u)] := by
         simp [frzH, frzB, frz, xi0, hidR, hidA, hidF]
        refine vq0 (by trivial) ((xU0 (j := 3) (sz := 1) (t := 5) (es := qp0 (bytM (qo0 δ A (clK δ acc A order j) s))) rfl).trans (wah9 (m := 3) (by omega) (by simp [frzH]) (by rw [hfz]; simp [Blk.below, idsE, idsL, AV.ids, hidR, hidA, hidF, hidM]))) ?_
        rw [hfz]
        have hadd : addX eqL (namesC δ A order (clK δ acc A order j) v) (qo0 δ A (clK δ acc A order j) s) = if findX eqL (namesC δ A order (clK δ acc A order j) v) (qo0 δ A (clK δ acc A order j) s) = (namesC δ A order (clK δ acc A order j) v).length then namesC δ A order (clK δ acc A order j) v ++ [qo0 δ A (clK δ acc A order j) s] else namesC δ A order (clK δ acc A order j) v := rfl
        generalize hNM : namesC δ A order (clK δ acc A order j) v = NM at *
        generalize qo0 δ A (clK δ acc A order j) s = w at *
        generalize hq : findX eqL NM w = q at *
        rcases Nat.lt_or_ge q NM.length with hlq|hgq
        ·obtain ⟨f1, f2⟩ := hold hlq
         rw [if_neg (by omega)] at hadd
         rw [hadd] at hns
         rw [hnold hlq] at hnx
         repeat' (first|refine nav ?_|(refine g0_ ?_; refine goD ?_)|(with_reducible refine gG ?_ ?_)|((with_reducible refine And.intro (fun h => ?_) (fun h => ?_)) <;> try (exfalso; omega))|(with_reducible refine andG ?_)|(refine And.intro ⟨[_], rfl⟩ ?_)|(refine And.intro ⟨[], by simp only [List.append_nil]⟩ ?_)|fail|simp (disch := (first|exact discB|fail)) only [push_cast, ↓reduceIte, reduceCtorEq, Nat.reduceAdd, Nat.reduceLT, Nat.reduceEqDiff, Nat.reduceLeDiff, Int.reduceAdd, Int.reduceLT, Int.reduceLE, Nat.reduceMul, b1, b2, b4, b5, b7, b8, b10, b11, b38, b39, b40, b54, b55, b56, scrub, frz, AV.ids, idsL, hFl, hbA, hmok, f1, f2, zeroV3, hnl1, hnl2, etN, hsetv, hgetv, hsu, hidF, hidO])
         refine qa0 (order.length - (v + 1)) (by omega) (by first|exact wa0|fail) ⟨v + 1, by omega, rfl, by rw [hns, hnx], ?_⟩
         simp (disch := (first|exact discB|fail)) only [push_cast, ↓reduceIte, reduceCtorEq, Nat.reduceAdd, Nat.reduceLT, Nat.reduceEqDiff, Nat.reduceLeDiff, Int.reduceAdd, Int.reduceLT, Int.reduceLE, Nat.reduceMul, b1, b2, b4, b5, b7, b8, b10, b11, b38, b39, b40, b54, b55, b56, scrub, frz, AV.ids, idsL, hFl, hbA, hmok, f1, f2, zeroV3, hnl1, hnl2, etN, hsetv, hgetv, hsu, hidF, hidO]
        ·obtain rfl : q = NM.length := by omega
         obtain ⟨f1, f2, f3⟩ := hnew rfl
         rw [if_pos rfl] at hadd
         rw [hadd] at hns
         rw [hnnew rfl] at hnx
         repeat' (first|refine nav ?_|(refine g0_ ?_; refine goD ?_)|(with_reducible refine gG ?_ ?_)|((with_reducible refine And.intro (fun h => ?_) (fun h => ?_)) <;> try (exfalso; omega))|(with_reducible refine andG ?_)|(refine And.intro ⟨[_], rfl⟩ ?_)|(refine And.intro ⟨[], by simp only [List.append_nil]⟩ ?_)|fail|simp (disch := (first|exact discB|fail)) only [push_cast, ↓reduceIte, reduceCtorEq, Nat.reduceAdd, Nat.reduceLT, Nat.reduceEqDiff, Nat.reduceLeDiff, Int.reduceAdd, Int.reduceLT, Int.reduceLE, Nat.reduceMul, b1, b2, b4, b5, b7, b8, b10, b11, b38, b39, b40, b54, b55, b56, scrub, frz, AV.ids, idsL, hFl, hbA, hmok, hmB, f1, f2, f3, zeroV3, hnl1, hnl2, etN, hsetv, hgetv, hsu, hidF, hidO])
         refine qa0 (order.length - (v + 1)) (by omega) (by first|exact wa0|fail) ⟨v + 1, by omega, rfl, by rw [hns, hnx], ?_⟩
         simp (disch := (first|exact discB|fail)) only [push_cast, ↓reduceIte, reduceCtorEq, Nat.reduceAdd, Nat.reduceLT, Nat.reduceEqDiff, Nat.reduceLeDiff, Int.reduceAdd, Int.reduceLT, Int.reduceLE, Nat.reduceMul, b1, b2, b4, b5, b7, b8, b10, b11, b38, b39, b40, b54, b55, b56, scrub, frz, AV.ids, idsL, hFl, hbA, hmok, hmB, f1, f2, f3, zeroV3, hnl1, hnl2, etN, hsetv, hgetv, hsu, hidF, hidO]
     ·obtain rfl : v = order.length := by omega
      have hcnt : (namesC δ A order (clK δ acc A order j) order.length).length = cntK δ acc A order j := rfl
      rw [hcnt] at hmB
      have hcl2 := hcle j
      rw [xdq9]
      have hidM2 := hidM
      generalize mapB (namesC δ A order (clK δ acc A order j) order.length) = MB at *
      have htk2 : (intF (clF δ acc A order (j + 1)) u).take u = intF (clF δ acc A order (j + 1)) u := List.take_of_length_le (by rw [hFl]; exact Nat.le_refl _)
      by_cases hjK : j = K + 1
      ·subst hjK
       have hcb : cntB δ acc A order (K + 1) = cntK δ acc A order K := rfl
       rw [hcb] at b5
       rw [hK] at b5
       repeat' (first|refine nav ?_|(refine g0_ ?_; refine goD ?_)|(with_reducible refine gG ?_ ?_)|((with_reducible refine And.intro (fun h => ?_) (fun h => ?_)) <;> try (exfalso; omega))|(with_reducible refine andG ?_)|(refine And.intro ⟨[_], rfl⟩ ?_)|(refine And.intro ⟨[], by simp only [List.append_nil]⟩ ?_)|fail|simp (disch := (first|exact discB|fail)) only [push_cast, ↓reduceIte, reduceCtorEq, Nat.reduceAdd, Nat.reduceLT, Nat.reduceEqDiff, Nat.reduceLeDiff, Int.reduceAdd, Int.reduceLT, Int.reduceLE, Nat.reduceMul, b1, b2, b4, b5, b7, b8, b38, b39, b40, hFl, hmB, htk2])
       exact wy0 (kad9 _ _ _)
      ·have hne : ¬ cntK δ acc A order j = cntB δ acc A order j := by
        cases j with
        | zero => have := hpos 0; show ¬ cntK δ acc A order 0 = 0; omega
        | succ j => have := hKl j (by omega); show ¬ cntK δ acc A order (j + 1) = cntK δ acc A order j; omega
       have hne2 : ¬ (cntK δ acc A order j : Int) = cntB δ acc A order j := by omega
       have hcb : cntB δ acc A order (j + 1) = cntK δ acc A order j := rfl
       repeat' (first|refine nav ?_|(refine g0_ ?_; refine goD ?_)|(with_reducible refine gG ?_ ?_)|((with_reducible refine And.intro (fun h => ?_) (fun h => ?_)) <;> try (exfalso; omega))|(with_reducible refine andG ?_)|(refine And.intro ⟨[_], rfl⟩ ?_)|(refine And.intro ⟨[], by simp only [List.append_nil]⟩ ?_)|fail|simp (disch := (first|exact discB|fail)) only [push_cast, ↓reduceIte, reduceCtorEq, Nat.reduceAdd, Nat.reduceLT, Nat.reduceEqDiff, Nat.reduceLeDiff, Int.reduceAdd, Int.reduceLT, Int.reduceLE, Nat.reduceMul, b1, b2, b4, b5, b7, b8, b38, b39, b40, hFl, hmB, hne, hne2])
       refine xh0 (K + 2 - (j + 1)) 1 (j := 2) rfl (by omega) (by first|exact wa0|fail) (by omega) (by simp [frzH]) (by simp [frzH, frzB, frz, Blk.below, idsE, idsL, AV.ids, xi0, xe0, hidR, hidA]) ⟨j + 1, by omega, rfl, by simp [frzH, frzB, frz, xi0, hidR, hidA], ?_⟩
       rw [hcb]
       simp (disch := (first|exact discB|fail)) only [push_cast, ↓reduceIte, reduceCtorEq, Nat.reduceAdd, Nat.reduceLT, Nat.reduceEqDiff, Nat.reduceLeDiff, Int.reduceAdd, Int.reduceLT, Int.reduceLE, Nat.reduceMul, b1, b2, b4, b5, b7, b8, b38, b39, b40, scrub, frz, AV.ids, idsL, hidO, htk2, hFl, hidF]
end Go.Proofs
namespace Go.Proofs
open Go Go.V
set_option linter.unusedVariables false
set_option linter.unusedSimpArgs false
set_option maxHeartbeats 0
def b2i (b : Bool) : Int := if b = true then 1 else 0
def setT (T : Nat → Nat → Bool) (s t : Nat) : Nat → Nat → Bool := fun s' t' => if s' = s ∧ t' = t then true else T s' t'
def cntT (n : Nat) (T : Nat → Nat → Bool) : Nat := (List.range (n * n)).countP fun i => !T (i / n) (i % n)
theorem zcS9 (n : Nat) (T : Nat → Nat → Bool) (s t : Nat) (hs : s < n) (ht : t < n) (h : T s t = false) : cntT n (setT T s t) < cntT n T := by
 have hi : s * n + t < n * n := by
  have := Nat.mul_le_mul_right n (show s + 1 ≤ n from hs)
  rw [Nat.add_mul, Nat.one_mul] at this; omega
 have e1 : (s * n + t) / n = s := by rw [Nat.mul_comm, Nat.mul_add_div (by omega), Nat.div_eq_of_lt ht]; rfl
 have e2 : (s * n + t) % n = t := by rw [Nat.mul_comm, Nat.mul_add_mod, Nat.mod_eq_of_lt ht]
 have key : ∀ m, (List.range m).countP (fun i => !setT T s t (i / n) (i % n)) + (if s * n + t < m then 1 else 0) ≤ (List.range m).countP fun i => !T (i / n) (i % n) := by
  intro m
  induction m with
  | zero => simp
  | succ m ih =>
   rw [List.range_succ, List.countP_append, List.countP_append]
   simp only [List.countP_cons, List.countP_nil]
   by_cases e : m = s * n + t
   ·subst e
    rw [e1, e2, h]
    have : setT T s t s t = true := by simp [setT]
    rw [this]
    simp only [Nat.lt_irrefl, if_false, Nat.lt_succ_self, if_true, Bool.not_true, Bool.not_false, Bool.false_eq_true] at ih ⊢
    omega
   ·have h1 : setT T s t (m / n) (m % n) = false → T (m / n) (m % n) = false := fun q => by
     unfold setT at q
     split at q
     ·cases q
     ·exact q
    have h2 : (s * n + t < m + 1) ↔ (s * n + t < m) := by omega
    simp only [h2]
    cases q : setT T s t (m / n) (m % n) with
    | false => rw [h1 q]; simp; omega
    | true =>
     have hz : (if (!true) = true then 1 else 0) = 0 := rfl
     cases T (m / n) (m % n) <;> simp <;> omega
 have := key (n * n)
 rw [if_pos hi] at this
 unfold cntT; omega
structure ApI (δ : Nat → Nat → Nat) (acc : Nat → Bool) (A n : Nat) (T : Nat → Nat → Bool) : Prop where
 sound : ∀ s t, s < n → t < n → T s t = true → ∃ u, InA A u ∧ acc (runX δ s u) ≠ acc (runX δ t u)
 base : ∀ s t, s < n → t < n → T s t = false → acc s = acc t
def PassI (δ : Nat → Nat → Nat) (A n : Nat) (T0 T : Nat → Nat → Bool) (more : Int) (done : Nat → Nat → Prop) : Prop :=
 (more = 1 ∧ cntT n T < cntT n T0) ∨ (more = 0 ∧ T = T0 ∧ ∀ s t, done s t → T s t = false → ∀ a, a < A → T (δ s a) (δ t a) = false)
section
variable {δ : Nat → Nat → Nat} {acc : Nat → Bool} {A n : Nat} {T T0 : Nat → Nat → Bool} {more : Int}
theorem ApI.set (h : ApI δ acc A n T) {s t a : Nat} (ha : a < A) (hs : δ s a < n) (ht : δ t a < n) (h1 : T (δ s a) (δ t a) = true) : ApI δ acc A n (setT T s t) := by
 refine ⟨fun s' t' hs' ht' q => ?_, fun s' t' hs' ht' q => ?_⟩
 ·unfold setT at q
  split at q
  ·rename_i e
   obtain ⟨rfl, rfl⟩ := e
   obtain ⟨u, hu, hne⟩ := h.sound _ _ hs ht h1
   refine ⟨a :: u, fun b hb => ?_, hne⟩
   rcases List.mem_cons.1 hb with rfl|q
   ·exact ha
   ·exact hu b q
  ·exact h.sound s' t' hs' ht' q
 ·unfold setT at q
  split at q
  ·cases q
  ·exact h.base s' t' hs' ht' q
theorem PassI.set {done : Nat → Nat → Prop} (h : PassI δ A n T0 T more done) {s t : Nat} (hs : s < n) (ht : t < n) (h0 : T s t = false) (done' : Nat → Nat → Prop) : PassI δ A n T0 (setT T s t) 1 done' := by
 have := zcS9 n T s t hs ht h0
 rcases h with ⟨_, h⟩|⟨_, h, _⟩
 ·exact .inl ⟨rfl, by omega⟩
 ·subst h; exact .inl ⟨rfl, this⟩
theorem PassI.mono {done done' : Nat → Nat → Prop} (h : PassI δ A n T0 T more done) (hd : ∀ s t, done' s t → done s t ∨ (T s t = false → ∀ a, a < A → T (δ s a) (δ t a) = false)) : PassI δ A n T0 T more done' := by
 rcases h with h|⟨h1, h2, h3⟩
 ·exact .inl h
 ·exact .inr ⟨h1, h2, fun s t q => (hd s t q).elim (h3 s t) id⟩
end
def rowT (T : Nat → Nat → Bool) (n s : Nat) : List (List AV) := intF (fun t => b2i (T s t)) n
theorem xcS9 (T : Nat → Nat → Bool) (n s t : Nat) : (rowT T n s).set t [.int .i64 1] = rowT (setT T s t) n s := by
 rw [rowT, zaq9, rowT]
 refine qP0 fun t' _ => ?_
 unfold updI setT
 by_cases h : t' = t
 ·simp [h, b2i]
 ·simp [h]
theorem wcS9 (T : Nat → Nat → Bool) (n s : Nat) : (rowT T n s).length = n := vad9 _ _
theorem vcS9 (p : Nat → Bool) (T : Nat → Nat → Bool) (n s : Nat) : idsE p (rowT T n s) = true := kad9 _ _ _
theorem zbI9 (T : Nat → Nat → Bool) (n s t : Nat) (h : t < n) : (rowT T n s).getD t [] = [.int .i64 (b2i (T s t))] := wH0 _ _ _ h
theorem vcv9 (T : Nat → Nat → Bool) (n s t : Nat) (N : Nat) : kf0 1 3 (updF (rowT T n) s (rowT (setT T s t) n s)) N = kf0 1 3 (rowT (setT T s t) n) N := zs0 fun q _ => by
 unfold updF
 by_cases h : q = s
 ·rw [if_pos h, h]
 ·rw [if_neg h]
  refine qP0 fun t' _ => ?_
  simp [setT, h]
def firstT (acc : Nat → Bool) : Nat → Nat → Bool := fun s t => acc s != acc t
def zae9 (acc : Nat → Bool) (s u : Nat) : Nat → Int := fun t => if t < u ∧ (acc s != acc t) = true then 1 else 0
theorem wbW9 (acc : Nat → Bool) (s : Nat) : zae9 acc s 0 = fun _ => 0 := by funext t; simp [zae9]
theorem vbW9 (acc : Nat → Bool) (s u : Nat) : zae9 acc s (u + 1) = if (acc s != acc u) = true then updI (zae9 acc s u) u 1 else zae9 acc s u := by
 funext t
 by_cases h : (acc s != acc u) = true
 ·rw [if_pos h, updI, zae9, zae9]
  by_cases hs : t = u
  ·subst hs; simp [h]
  ·rw [if_neg hs]
   have : t < u + 1 ↔ t < u := by omega
   simp only [this]
 ·rw [if_neg h, zae9, zae9]
  by_cases hs : t = u
  ·subst hs; simp [h]
  ·have : t < u + 1 ↔ t < u := by omega
   simp only [this]
theorem kcv9 (acc : Nat → Bool) (s n : Nat) : intF (zae9 acc s n) n = rowT (firstT acc) n s := qP0 fun t ht => by
 by_cases h : (acc s != acc t) = true <;> simp [zae9, b2i, firstT, ht, h]
open Classical in
noncomputable def apL (δ : Nat → Nat → Nat) (acc : Nat → Bool) (A n : Nat) : List LC := (List.range n).map fun s => ((List.range n).map fun t => b2i (!eqW δ acc A s t), some n)
theorem kcS9 (δ : Nat → Nat → Nat) (acc : Nat → Bool) (A n : Nat) (T : Nat → Nat → Bool) (h : ∀ s t, s < n → t < n → T s t = !eqW δ acc A s t) : rowL (apL δ acc A n) = (List.range n).map fun s => [AV.sl 1 (rowT T n s) (some n)] := by
 rw [rowL, apL, List.map_map]
 refine List.map_congr_left fun s hs => ?_
 show [AV.sl 1 (ints _) _] = _
 have : rowT T n s = ints ((List.range n).map fun t => b2i (!eqW δ acc A s t)) := by
  rw [rowT, intF]; congr 1
  exact List.map_congr_left fun t ht => by rw [h s t (List.mem_range.1 hs) (List.mem_range.1 ht)]
 rw [this]
theorem qcT9 {δ : Nat → Nat → Nat} {acc : Nat → Bool} {A n : Nat} {T : Nat → Nat → Bool} (hδ : ∀ s, s < n → ∀ a, a < A → δ s a < n) (h : ApI δ acc A n T) (h2 : ∀ s t, s < n → t < n → T s t = false → ∀ a, a < A → T (δ s a) (δ t a) = false) (s t : Nat) (hs : s < n) (ht : t < n) : T s t = !eqW δ acc A s t := by
 have := apart_spec (δ := δ) (acc := acc) (A := A) n T hδ h.sound (fun s t hs ht q => ⟨h.base s t hs ht q, h2 s t hs ht q⟩) s t hs ht
 rw [← wu0] at this
 cases q : T s t with
 | false => rw [this.1 q]; rfl
 | true =>
  cases q2 : eqW δ acc A s t with
  | false => rfl
  | true => rw [this.2 q2] at q; cases q
end Go.Proofs
