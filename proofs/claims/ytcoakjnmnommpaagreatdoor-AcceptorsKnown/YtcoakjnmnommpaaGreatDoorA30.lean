import Derived.Test.YtcoakjnmnommpaaGreatDoorA26
import Derived.Test.YtcoakjnmnommpaaGreatDoorAR3
namespace Go.Proofs
open Go Go.V
set_option linter.unusedVariables false
set_option linter.unusedSimpArgs false
set_option maxHeartbeats 0
set_option maxRecDepth 100000 in
theorem xdp9 (A : Nat) (l : List LC) (c : Option Nat) (ac : List Bool) (ca : Option Nat) (hok : OkDv A (kd0 l) ac.length) (order : List Nat) (co : Option Nat) (hcl : ∀ s ∈ order, ∀ a, a < A → dlt l s a ∈ order) (hol : ∀ s ∈ order, s < l.length) (hon : order.length ≤ 256) (h0 : order ≠ []) (K : Nat)
  (hK : cntK (dlt l) (fun s => ac.getD s false) A order K = cntK (dlt l) (fun s => ac.getD s false) A order (K + 1)) (hKl : ∀ j, j < K → cntK (dlt l) (fun s => ac.getD s false) A order j < cntK (dlt l) (fun s => ac.getD s false) A order (j + 1)) :
  PC Tryz.prog G0 58 [dA A 1 l c 1 ac ca, .sl 1 (ints (intN order)) co] (.tup [.sl 1 (intF (clF (dlt l) (fun s => ac.getD s false) A order (K + 2)) l.length) (some l.length), .int .i64 (cntK (dlt l) (fun s => ac.getD s false) A order (K + 1))]) := by
 have hidR : ∀ p, idsE p (rowL l) = true := fun p => vc0 _ _;have hidA : ∀ p, idsE p (qb0 ac) = true := fun p => zd0 _ _;have hidO : ∀ p, idsE p (ints (intN order)) = true := fun p => wa0 _ _;have hn := hok.n;have hn1 := hok.n1;have hA := hok.a2;have hm := hok.m;rw [ve0] at hn hn1 hm;have hRl := zb0 l;have hAl := zc0 ac;have hOl : (ints (intN order)).length = order.length := by rw [xa0, kc0]
 have hOi := kc0 order;have e1 := xg0 l;have e2 := ql0 ac;have hgO : ∀ k, k < order.length → (ints (intN order)).getD k [] = [.int .i64 (order.getD k 0 : Nat)] := fun k hk => by rw [xc0 _ _ (by rw [kc0]; exact hk), wP0 _ k hk]
 have hdl := fun s a h ha => wbX9 (l := l) (s := s) (a := a) h ha;have hnn0 := fun s a h ha => (hok.at (l := l) (s := s) (a := a) h ha).1;have hrow := fun s h => hok.row (s := s) h;have hpos : ∀ j, 1 ≤ cntK (dlt l) (fun s => ac.getD s false) A order j := fun j => vbi9 j h0;have hcle : ∀ j, cntK (dlt l) (fun s => ac.getD s false) A order j ≤ order.length := fun j => wbi9 j;generalize hacc : (fun s => ac.getD s false) = acc at *;have hacs : ∀ s, ac.getD s false = acc s := fun s => by rw [← hacc]
 simp only [hacs] at e2;clear hacc hacs;generalize dlt l = δ at *;have hsml := fun j => zaw9 (δ := δ) (acc := acc) (A := A) hon hcl j;have hnsm := fun j s hs => kaY9 (δ := δ) (acc := acc) (A := A) hon hcl j s hs;have hclt := fun j s hs => kcO9 (δ := δ) (acc := acc) (A := A) hon j s hs;have hidF : ∀ f p, idsE p (intF f l.length) = true := fun f p => xbk9 _ _ _;have hFl : ∀ f, (intF f l.length).length = l.length := fun f => vbX9 _ _;unfold dA;generalize rowL l = RN at *;generalize qb0 ac = BA at *;generalize hOR : ints (intN order) = OR at *;clear hOR;obtain ⟨n, hnl⟩ : ∃ n, n = l.length := ⟨_, rfl⟩;rw [← hnl] at hn hn1 hm hRl hidF hFl ⊢;have hz0 := wcO9 n;refine qc0 1 98 [.tmp 4, .tmp 5] Tryz.func58 rfl rfl rfl (by simp) ?_;intro s ⟨a0, a1, hz⟩;simp only [l'm, Nat.reduceAdd] at a1;clear hz;repeat' (first|refine nv ?_|(with_reducible first|refine gG ?_ ?_|refine ⟨fun h => ?_, fun h => ?_⟩ <;> try omega|refine andG ?_)|simp (disch := try exact qa0) only [push_cast, simprocAttr, a0, a1, hRl, hz0, hFl])
 refine go_loop rfl (fun mz s' H' => ∃ u : Nat, u ≤ n ∧ mz = n - u ∧ H' = [.row 3 47 [[.int .i64 A, .sl 1 RN c, .sl 1 BA ca]], .row 1 3 (intF (inF acc u) n)] ∧ s' 1 = .sl 1 OR co ∧ s' 2 = .ptr 0 0 0 1 ∧ s' 4 = .own 1 n n (some n) ∧ s' 5 = .int .i64 0 ∧ s' 20 = .own 1 n n (some n) ∧ s' 21 = .int .i64 n ∧ s' 22 = .int .i64 u) (m := n) (by first|exact va0|fail) (Weak.refl _ _) ⟨0, by omega, by omega, by rw [qdp9], ?_⟩ ?_
 ·simp (disch := try exact qa0) only [push_cast, simprocAttr, a0, a1, hRl, hz0, hFl]
 ·rintro mz s' H' ⟨u, hu, rfl, rfl, b1, b2, b4, b5, b20, b21, b22⟩;rcases l'i u n with hlt|hge
  ·have e2u := e2 u (by omega);have hsu := zdp9 (acc := acc) u;have hset := kbX9 (inF acc u) n u 1;have hget := zaA9 (inF acc u) n u hlt;cases hq : acc u with
   | true =>
    rw [hq] at e2u;rw [if_pos hq] at hsu;repeat' (first|refine nv ?_|(with_reducible first|refine gG ?_ ?_|refine ⟨fun h => ?_, fun h => ?_⟩ <;> try omega|refine andG ?_)|simp (disch := try exact qa0) only [push_cast, simprocAttr, b1, b2, b4, b5, b20, b21, b22, e2u, hAl, hm, hFl, hget, hset])
    refine za0 (n - (u + 1)) (by omega) (by first|exact va0|fail) ⟨u + 1, by omega, rfl, by rw [hsu], ?_⟩;simp (disch := try exact qa0) only [push_cast, simprocAttr, b1, b2, b4, b5, b20, b21, b22, e2u, hAl, hm, hFl, hget, hset]
   | false =>
    rw [hq] at e2u;rw [if_neg (by rw [hq]; simp)] at hsu;repeat' (first|refine nv ?_|(with_reducible first|refine gG ?_ ?_|refine ⟨fun h => ?_, fun h => ?_⟩ <;> try omega|refine andG ?_)|simp (disch := try exact qa0) only [push_cast, simprocAttr, b1, b2, b4, b5, b20, b21, b22, e2u, hAl, hm])
    refine za0 (n - (u + 1)) (by omega) (by first|exact va0|fail) ⟨u + 1, by omega, rfl, by rw [hsu], ?_⟩;simp (disch := try exact qa0) only [push_cast, simprocAttr, b1, b2, b4, b5, b20, b21, b22, e2u, hAl, hm]
  ·obtain rfl : u = n := by omega
   repeat' (first|refine nv ?_|(with_reducible first|refine gG ?_ ?_|refine ⟨fun h => ?_, fun h => ?_⟩ <;> try omega|refine andG ?_)|simp (disch := try exact qa0) only [push_cast, simprocAttr, b1, b2, b4, b5, b20, b21, b22])
   have htk : (intF (inF acc u) u).take u = intF (inF acc u) u := l'k (by rw [hFl]; exact l'f _);refine go_loop rfl (fun mz s' H' => ∃ j : Nat, j ≤ K + 1 ∧ mz = K + 2 - j ∧ H' = [.row 3 47 [[.int .i64 A, .sl 1 RN c, .sl 1 BA ca]]] ∧ s' 1 = .sl 1 OR co ∧ s' 2 = .ptr 0 0 0 1 ∧ s' 4 = .sl 1 (intF (clF δ acc A order j) u) (some u) ∧ s' 5 = .int .i64 (cntB δ acc A order j : Nat)) (m := K + 2) (by first|exact va0|fail) ((vN0 (j := 1) (sz := 1) (t := 3) (es := intF (inF acc u) u) rfl).trans (vY0 (m := 1) (by omega) (by simp [frzH]) (by simp [frzH, frzB, frz, Blk.below, idsE, idsL, AV.ids, xn0, qg0, hidR, hidA]))) ⟨0, by omega, by omega, by simp [frzH, frzB, frz, xn0, hidR, hidA], ?_⟩ ?_
   ·rw [← kdR9 (δ := δ) (A := A) (order := order)];simp (disch := try exact qa0) only [push_cast, simprocAttr, b1, b2, b4, b5, b20, b21, b22, ki0, frz, AV.ids, idsL, hidO, htk, hFl, hidF];rfl
   ·clear b1 b2 b4 b5 b20 b21 b22;rintro mz s' H' ⟨j, hj, rfl, rfl, b1, b2, b4, b5⟩;have hgc : ∀ s, s ∈ order → (intF (clF δ acc A order j) u).getD s [] = [.int .i64 (clK δ acc A order j s : Nat)] := fun s hs => by
     rw [zaA9 _ _ _ (by rw [hnl]; exact hol s hs), clF, if_pos (.inr hs)]
    repeat' (first|refine nv ?_|(with_reducible first|refine gG ?_ ?_|refine ⟨fun h => ?_, fun h => ?_⟩ <;> try omega|refine andG ?_)|simp (disch := try exact qa0) only [push_cast, simprocAttr, b1, b2, b4, b5, hFl, hz0])
    refine go_loop rfl (fun mz s' H' => ∃ v : Nat, v ≤ order.length ∧ mz = order.length - v ∧ H' = [.row 3 47 [[.int .i64 A, .sl 1 RN c, .sl 1 BA ca]], .ob (.map 9 3 (mapB (namesC δ A order (clK δ acc A order j) v))), .row 1 3 (intF (nxF δ acc A order j v) u)] ∧ s' 1 = .sl 1 OR co ∧ s' 2 = .ptr 0 0 0 1 ∧ s' 4 = .sl 1 (intF (clF δ acc A order j) u) (some u) ∧ s' 5 = .int .i64 (cntB δ acc A order j : Nat) ∧ s' 7 = .mp 1 ∧ s' 8 = .own 2 u u (some u) ∧ s' 38 = .sl 1 OR co ∧ s' 39 = .int .i64 order.length ∧ s' 40 = .int .i64 v) (m := order.length) (by first|exact va0|fail) (Weak.refl _ _) ⟨0, by omega, by omega, by rw [vdo9]; rfl, ?_⟩ ?_
    ·simp (disch := try exact qa0) only [push_cast, simprocAttr, b1, b2, b4, b5, hFl, hz0];rw [hOl]
    ·clear b1 b2 b4 b5;rintro mz s' H' ⟨v, hv, rfl, rfl, b1, b2, b4, b5, b7, b8, b38, b39, b40⟩;have hmB := xbL9 (namesC δ A order (clK δ acc A order j) v);have hidM := fun p => zdo9 p (namesC δ A order (clK δ acc A order j) v);rcases l'i v order.length with hvl|hvg
     ·have hgo := hgO v hvl;have hso : order.getD v 0 ∈ order := wc0 hvl;have hsn := hol _ hso;have hns := xE0 (δ := δ) (A := A) (clK δ acc A order j) v hvl;have hnold := qcP9 (δ := δ) (A := A) (cl := clK δ acc A order j) hvl;have hnnew := zcP9 (δ := δ) (A := A) (cl := clK δ acc A order j) hvl;have hnx := kdo9 (δ := δ) (acc := acc) (A := A) j v hvl;have hsmv := hsml j v (by omega);have hnlen := qaZ9 (δ := δ) (A := A) (clK δ acc A order j) v (by omega);have hlev := qaJ9 (eqv := eqL) (namesC δ A order (clK δ acc A order j) v) (qs0 δ A (clK δ acc A order j) (order.getD v 0));generalize order.getD v 0 = s at *;have hcls := hclt j s hso;have hgs := hgc s hso;have e1s := e1 s hsn;have hrows := hrow s hsn;have hdls := fun a => hdl s a hsn;have hnns := fun a => hnn0 s a hsn;have hcs := hcl s hso;have hnms := hnsm j s hso;generalize l.getD s ([], none) = r at *;have hrl := xa0 r.1;have e3 := xc0 r.1;unfold lC at e1s;have hws := wrap_u8 _ hcls;have hb1 : [[AV.int .u8 (clK δ acc A order j s : Nat)]] = vt0 (bytM (van9 δ (clK δ acc A order j) s 0)) := xbY9 [] _ hcls;have hsu : s < u := by omega
      repeat' (first|(refine g0_ ?_; with_reducible refine qcE9 [] (p := [0, 1, 0, 0, 1, 1, 0, 0, 1, 0, 1, 1, 0, 0, 0, 1, 1, 1]) rfl rfl ?_)|(refine a0_ ?_; refine vbI9 rfl ?_)|refine nv ?_|(with_reducible first|refine gG ?_ ?_|refine ⟨fun h => ?_, fun h => ?_⟩ <;> try omega|refine andG ?_)|simp (disch := try exact qa0) only [push_cast, simprocAttr, b1, b2, b4, b5, b7, b8, b38, b39, b40, hgo, hgs, hws, hFl, hsu, hRl, e1s, hrl])
      refine go_loop rfl (fun mz s' H' => ∃ a : Nat, a ≤ A ∧ mz = A - a ∧ H' = [.row 3 47 [[.int .i64 A, .sl 1 RN c, .sl 1 BA ca]], .ob (.map 9 3 (mapB (namesC δ A order (clK δ acc A order j) v))), .row 1 3 (intF (nxF δ acc A order j v) u), .row 1 5 (vt0 (bytM (van9 δ (clK δ acc A order j) s a)))] ∧ s' 1 = .sl 1 OR co ∧ s' 2 = .ptr 0 0 0 1 ∧ s' 4 = .sl 1 (intF (clF δ acc A order j) u) (some u) ∧ s' 5 = .int .i64 (cntB δ acc A order j : Nat) ∧ s' 7 = .mp 1 ∧ s' 8 = .own 2 u u (some u) ∧ s' 10 = .int .i64 s ∧ s' 11 = .own 3 (a + 1) (a + 1) none ∧ s' 38 = .sl 1 OR co ∧ s' 39 = .int .i64 order.length ∧ s' 40 = .int .i64 v ∧ s' 54 = .sl 1 (ints r.1) r.2 ∧ s' 55 = .int .i64 A ∧ s' 56 = .int .i64 a) (m := A) (by first|exact va0|fail) (Weak.refl _ _) ⟨0, by omega, by omega, by rw [← hb1], ?_⟩ ?_
      ·simp (disch := try exact qa0) only [push_cast, simprocAttr, b1, b2, b4, b5, b7, b8, b38, b39, b40, hgo, hgs, hws, hFl, hsu, hRl, e1s, hrl];rw [hrows]
      ·clear b1 b2 b4 b5 b7 b8 b38 b39 b40;rintro mz s' H' ⟨a, ha, rfl, rfl, b1, b2, b4, b5, b7, b8, b10, b11, b38, b39, b40, b54, b55, b56⟩;have hnl1 : (vt0 (bytM (van9 δ (clK δ acc A order j) s a))).length = a + 1 := by rw [kak9, bytM, l'w, xbz9]
       have hnl2 : (bytM (van9 δ (clK δ acc A order j) s a)).length = a + 1 := by rw [bytM, l'w, xbz9]
       have etN : (vt0 (bytM (van9 δ (clK δ acc A order j) s a))).take (a + 1) = vt0 (bytM (van9 δ (clK δ acc A order j) s a)) := l'k (by omega);have edN : (vt0 (bytM (van9 δ (clK δ acc A order j) s a))).drop (a + 1 + 1) = [] := l'z (by omega);rcases l'i a A with hla|hga
       ·have e3a := e3 a (by omega);have hda := hdls a (by omega);have hna := hnns a hla;have hto := hcs a hla;rw [show r.1.getD a 0 = (δ s a : Nat) by omega] at e3a;have hsuc := xco9 (δ := δ) (clK δ acc A order j) s a;generalize δ s a = tq at *;have hct := hclt j tq hto;have hgt := hgc tq hto;have hwt := wrap_u8 _ hct;have hton : tq < u := by have := hol tq hto; omega
        have hsnb := xbY9 (van9 δ (clK δ acc A order j) s a) _ hct;rw [← hsuc] at hsnb;repeat' (first|refine nv ?_|(with_reducible first|refine gG ?_ ?_|refine ⟨fun h => ?_, fun h => ?_⟩ <;> try omega|refine andG ?_)|simp (disch := try exact qa0) only [push_cast, simprocAttr, b1, b2, b4, b5, b7, b8, b10, b11, b38, b39, b40, b54, b55, b56, e3a, hrl, hrows, hFl, hgt, hwt, hton, hnl1, hnl2, etN, edN])
        refine za0 (A - (a + 1)) (by omega) (by first|exact va0|fail) ⟨a + 1, by omega, rfl, by rw [← hsnb], ?_⟩;simp (disch := try exact qa0) only [push_cast, simprocAttr, b1, b2, b4, b5, b7, b8, b10, b11, b38, b39, b40, b54, b55, b56, e3a, hrl, hrows, hFl, hgt, hwt, hton, hnl1, hnl2, etN, edN]
       ·obtain rfl : A = a := by omega
        rw [xcP9] at hnl1 hnl2 etN edN ⊢;have hbA := zO0 (bytM (qs0 δ A (clK δ acc A order j) s));have hmok := vel9 (namesC δ A order (clK δ acc A order j) v) (bytM (qs0 δ A (clK δ acc A order j) s));have hold := fun h => xdo9 hsmv hnms h (.int .i64 0);have hnew := fun h => wdo9 hsmv hnms h (.int .i64 0);have hsetv := fun q => kbX9 (nxF δ acc A order j v) u s q;have hgetv := zaA9 (nxF δ acc A order j v) u s hsu;have hfz : (frzH 3 1 (vt0 (bytM (qs0 δ A (clK δ acc A order j) s))) [.row 3 47 [[.int .i64 A, .sl 1 RN c, .sl 1 BA ca]], .ob (.map 9 3 (mapB (namesC δ A order (clK δ acc A order j) v))), .row 1 3 (intF (nxF δ acc A order j v) u), .row 1 5 (vt0 (bytM (qs0 δ A (clK δ acc A order j) s)))]).take 3 = [.row 3 47 [[.int .i64 A, .sl 1 RN c, .sl 1 BA ca]], .ob (.map 9 3 (mapB (namesC δ A order (clK δ acc A order j) v))), .row 1 3 (intF (nxF δ acc A order j v) u)] := by
         simp [frzH, frzB, frz, xn0, hidR, hidA, hidF]
        refine vv0 (by trivial) ((vN0 (j := 3) (sz := 1) (t := 5) (es := vt0 (bytM (qs0 δ A (clK δ acc A order j) s))) rfl).trans (vY0 (m := 3) (by omega) (by simp [frzH]) (by rw [hfz]; simp [Blk.below, idsE, idsL, AV.ids, hidR, hidA, hidF, hidM]))) ?_;rw [hfz];have hadd : addX eqL (namesC δ A order (clK δ acc A order j) v) (qs0 δ A (clK δ acc A order j) s) = if findX eqL (namesC δ A order (clK δ acc A order j) v) (qs0 δ A (clK δ acc A order j) s) = (namesC δ A order (clK δ acc A order j) v).length then namesC δ A order (clK δ acc A order j) v ++ [qs0 δ A (clK δ acc A order j) s] else namesC δ A order (clK δ acc A order j) v := rfl
        generalize hNM : namesC δ A order (clK δ acc A order j) v = NM at *;generalize qs0 δ A (clK δ acc A order j) s = w at *;generalize hq : findX eqL NM w = q at *;rcases l'i q NM.length with hlq|hgq
        ·obtain ⟨f1, f2⟩ := hold hlq;rw [if_neg (by omega)] at hadd;rw [hadd] at hns;rw [hnold hlq] at hnx;repeat' (first|refine nv ?_|(with_reducible first|refine gG ?_ ?_|refine ⟨fun h => ?_, fun h => ?_⟩ <;> try omega|refine andG ?_)|simp (disch := try exact qa0) only [push_cast, simprocAttr, b1, b2, b4, b5, b7, b8, b10, b11, b38, b39, b40, b54, b55, b56, ki0, frz, AV.ids, idsL, hFl, hbA, hmok, f1, f2, qaM9, hnl1, hnl2, etN, hsetv, hgetv, hsu, hidF, hidO])
         refine za0 (order.length - (v + 1)) (by omega) (by first|exact va0|fail) ⟨v + 1, by omega, rfl, by rw [hns, hnx], ?_⟩;simp (disch := try exact qa0) only [push_cast, simprocAttr, b1, b2, b4, b5, b7, b8, b10, b11, b38, b39, b40, b54, b55, b56, ki0, frz, AV.ids, idsL, hFl, hbA, hmok, f1, f2, qaM9, hnl1, hnl2, etN, hsetv, hgetv, hsu, hidF, hidO]
        ·obtain rfl : q = NM.length := by omega
         obtain ⟨f1, f2, f3⟩ := hnew rfl;rw [if_pos rfl] at hadd;rw [hadd] at hns;rw [hnnew rfl] at hnx;repeat' (first|refine nv ?_|(with_reducible first|refine gG ?_ ?_|refine ⟨fun h => ?_, fun h => ?_⟩ <;> try omega|refine andG ?_)|simp (disch := try exact qa0) only [push_cast, simprocAttr, b1, b2, b4, b5, b7, b8, b10, b11, b38, b39, b40, b54, b55, b56, ki0, frz, AV.ids, idsL, hFl, hbA, hmok, hmB, f1, f2, f3, qaM9, hnl1, hnl2, etN, hsetv, hgetv, hsu, hidF, hidO])
         refine za0 (order.length - (v + 1)) (by omega) (by first|exact va0|fail) ⟨v + 1, by omega, rfl, by rw [hns, hnx], ?_⟩;simp (disch := try exact qa0) only [push_cast, simprocAttr, b1, b2, b4, b5, b7, b8, b10, b11, b38, b39, b40, b54, b55, b56, ki0, frz, AV.ids, idsL, hFl, hbA, hmok, hmB, f1, f2, f3, qaM9, hnl1, hnl2, etN, hsetv, hgetv, hsu, hidF, hidO]
     ·obtain rfl : v = order.length := by omega
      have hcnt : (namesC δ A order (clK δ acc A order j) order.length).length = cntK δ acc A order j := rfl;rw [hcnt] at hmB;have hcl2 := hcle j;rw [vdR9];have hidM2 := hidM;generalize mapB (namesC δ A order (clK δ acc A order j) order.length) = MB at *;have htk2 : (intF (clF δ acc A order (j + 1)) u).take u = intF (clF δ acc A order (j + 1)) u := l'k (by rw [hFl]; exact l'f _);by_cases hjK : j = K + 1
      ·subst hjK;have hcb : cntB δ acc A order (K + 1) = cntK δ acc A order K := rfl;rw [hcb] at b5;rw [hK] at b5;repeat' (first|refine nv ?_|(with_reducible first|refine gG ?_ ?_|refine ⟨fun h => ?_, fun h => ?_⟩ <;> try omega|refine andG ?_)|simp (disch := try exact qa0) only [push_cast, simprocAttr, b1, b2, b4, b5, b7, b8, b38, b39, b40, hFl, hmB, htk2])
       exact zw0 (xbk9 _ _ _)
      ·have hne : ¬ cntK δ acc A order j = cntB δ acc A order j := by
        cases j with
        | zero => have := hpos 0; show ¬ cntK δ acc A order 0 = 0; omega
        | succ j => have := hKl j (by omega); show ¬ cntK δ acc A order (j + 1) = cntK δ acc A order j; omega
       have hne2 : ¬ (cntK δ acc A order j : Int) = cntB δ acc A order j := by omega
       have hcb : cntB δ acc A order (j + 1) = cntK δ acc A order j := rfl;repeat' (first|refine nv ?_|(with_reducible first|refine gG ?_ ?_|refine ⟨fun h => ?_, fun h => ?_⟩ <;> try omega|refine andG ?_)|simp (disch := try exact qa0) only [push_cast, simprocAttr, b1, b2, b4, b5, b7, b8, b38, b39, b40, hFl, hmB, hne, hne2])
       refine zm0 (K + 2 - (j + 1)) 1 (j := 2) rfl (by omega) (by first|exact va0|fail) (by omega) (by simp [frzH]) (by simp [frzH, frzB, frz, Blk.below, idsE, idsL, AV.ids, xn0, qg0, hidR, hidA]) ⟨j + 1, by omega, rfl, by simp [frzH, frzB, frz, xn0, hidR, hidA], ?_⟩;rw [hcb];simp (disch := try exact qa0) only [push_cast, simprocAttr, b1, b2, b4, b5, b7, b8, b38, b39, b40, ki0, frz, AV.ids, idsL, hidO, htk2, hFl, hidF]
def b2i (b : Bool) : Int := if b = true then 1 else 0
def setT (T : Nat → Nat → Bool) (s t : Nat) : Nat → Nat → Bool := fun s' t' => if s' = s ∧ t' = t then true else T s' t'
def cntT (n : Nat) (T : Nat → Nat → Bool) : Nat := (List.range (n * n)).countP fun i => !T (i / n) (i % n)
theorem wdp9 (n : Nat) (T : Nat → Nat → Bool) (s t : Nat) (hs : s < n) (ht : t < n) (h : T s t = false) : cntT n (setT T s t) < cntT n T := by
 have hi : s * n + t < n * n := by
  have := l'J n (show s + 1 ≤ n from hs);rw [l'O, Nat.one_mul] at this; omega
 have e1 : (s * n + t) / n = s := by rw [n'U, Nat.mul_add_div (by omega), z'L ht]; rfl
 have e2 : (s * n + t) % n = t := by rw [n'U, Nat.mul_add_mod, l'U ht]
 have key : ∀ m, (List.range m).countP (fun i => !setT T s t (i / n) (i % n)) + (if s * n + t < m then 1 else 0) ≤ (List.range m).countP fun i => !T (i / n) (i % n) := by
  intro m;induction m with
  | zero => simp
  | succ m ih =>
   rw [l'Z, z'v, z'v];simp only [List.countP_cons, List.countP_nil];by_cases e : m = s * n + t
   ·subst e;rw [e1, e2, h];have : setT T s t s t = true := by simp [setT]
    rw [this];simp only [Nat.lt_irrefl, if_false, z'K, if_true, z'h, Bool.not_false, l'Y] at ih ⊢;omega
   ·have h1 : setT T s t (m / n) (m % n) = false → T (m / n) (m % n) = false := fun q => by
     unfold setT at q;split at q
     ·cases q
     ·exact q
    have h2 : (s * n + t < m + 1) ↔ (s * n + t < m) := by omega
    simp only [h2];cases q : setT T s t (m / n) (m % n) with
    | false => rw [h1 q]; simp; omega
    | true =>
     have hz : (if (!true) = true then 1 else 0) = 0 := rfl;cases T (m / n) (m % n) <;> simp <;> omega
 have := key (n * n);rw [if_pos hi] at this;unfold cntT; omega
structure ApI (δ : Nat → Nat → Nat) (acc : Nat → Bool) (A n : Nat) (T : Nat → Nat → Bool) : Prop where
 sound : ∀ s t, s < n → t < n → T s t = true → ∃ u, InA A u ∧ acc (runX δ s u) ≠ acc (runX δ t u)
 base : ∀ s t, s < n → t < n → T s t = false → acc s = acc t
def PassI (δ : Nat → Nat → Nat) (A n : Nat) (T0 T : Nat → Nat → Bool) (more : Int) (done : Nat → Nat → Prop) : Prop :=
 (more = 1 ∧ cntT n T < cntT n T0) ∨ (more = 0 ∧ T = T0 ∧ ∀ s t, done s t → T s t = false → ∀ a, a < A → T (δ s a) (δ t a) = false)
section
variable {δ : Nat → Nat → Nat} {acc : Nat → Bool} {A n : Nat} {T T0 : Nat → Nat → Bool} {more : Int}
theorem ApI.set (h : ApI δ acc A n T) {s t a : Nat} (ha : a < A) (hs : δ s a < n) (ht : δ t a < n) (h1 : T (δ s a) (δ t a) = true) : ApI δ acc A n (setT T s t) := by
 refine ⟨fun s' t' hs' ht' q => ?_, fun s' t' hs' ht' q => ?_⟩
 ·unfold setT at q;split at q
  ·rename_i e;obtain ⟨rfl, rfl⟩ := e;obtain ⟨u, hu, hne⟩ := h.sound _ _ hs ht h1;refine ⟨a :: u, fun b hb => ?_, hne⟩;rcases l'C.1 hb with rfl|q
   ·exact ha
   ·exact hu b q
  ·exact h.sound s' t' hs' ht' q
 ·unfold setT at q;split at q
  ·cases q
  ·exact h.base s' t' hs' ht' q
theorem PassI.set {done : Nat → Nat → Prop} (h : PassI δ A n T0 T more done) {s t : Nat} (hs : s < n) (ht : t < n) (h0 : T s t = false) (done' : Nat → Nat → Prop) : PassI δ A n T0 (setT T s t) 1 done' := by
 have := wdp9 n T s t hs ht h0;rcases h with ⟨_, h⟩|⟨_, h, _⟩
 ·exact .inl ⟨rfl, by omega⟩
 ·subst h; exact .inl ⟨rfl, this⟩
theorem PassI.mono {done done' : Nat → Nat → Prop} (h : PassI δ A n T0 T more done) (hd : ∀ s t, done' s t → done s t ∨ (T s t = false → ∀ a, a < A → T (δ s a) (δ t a) = false)) : PassI δ A n T0 T more done' := by
 rcases h with h|⟨h1, h2, h3⟩
 ·exact .inl h
 ·exact .inr ⟨h1, h2, fun s t q => (hd s t q).elim (h3 s t) id⟩
end
def rowT (T : Nat → Nat → Bool) (n s : Nat) : List (List AV) := intF (fun t => b2i (T s t)) n
def veE9 (acc : Nat → Bool) : Nat → Nat → Bool := fun s t => acc s != acc t
def qeG9 (acc : Nat → Bool) (s u : Nat) : Nat → Int := fun t => if t < u ∧ (acc s != acc t) = true then 1 else 0
open Classical in
noncomputable def apL (δ : Nat → Nat → Nat) (acc : Nat → Bool) (A n : Nat) : List LC := (List.range n).map fun s => ((List.range n).map fun t => b2i (!eqW δ acc A s t), some n)
def zeG9 (acc : Nat → Bool) (l : List Nat) (i : Nat) : List Bool := (l.take i).map acc
noncomputable def minH (A : Nat) (l : List LC) (ac : List Bool) (N : Nat) : AV :=
 dA A 1 (qcN9 (stX (dlt l) (eqW (dlt l) (fun s => ac.getD s false) A) A 0 N).2) none 1 ((stX (dlt l) (eqW (dlt l) (fun s => ac.getD s false) A) A 0 N).1.map fun s => ac.getD s false) none
end Go.Proofs
