import Derived.Test.YtcoakjnmnommpaaGreatDoorA30
import Derived.Test.YtcoakjnmnommpaaGreatDoorV70
namespace Go.Proofs
open Go Go.V
set_option linter.unusedVariables false
set_option linter.unusedSimpArgs false
set_option maxHeartbeats 0
def vy0 (δ : Nat → Nat → Nat) (cls : Nat → Nat) (s a : Nat) : List Nat := (List.range a).map fun a => cls (δ s a)
theorem wbL9 (δ : Nat → Nat → Nat) (cls : Nat → Nat) (s a : Nat) : vy0 δ cls s (a + 1) = vy0 δ cls s a ++ [cls (δ s a)] := by simp [vy0, l'Z]
theorem zaZ9 (δ : Nat → Nat → Nat) (cls : Nat → Nat) (s a : Nat) : (vy0 δ cls s a).length = a := by simp [vy0]
def zat9 (A : Nat) (r : List Nat) : List AV := [.sl 1 (ints (intN r)) (some A)]
def wu0 (δ : Nat → Nat → Nat) (cls : Nat → Nat) (A m : Nat) (F : List Nat) : List (List AV) := (F.map fun s => zat9 A (vy0 δ cls s A)) ++ List.replicate (m - F.length) [.lit (.slice none 0 0)]
section
variable {δ : Nat → Nat → Nat} {cls : Nat → Nat} {A m : Nat} {F : List Nat}
theorem wco9 (h : F.length ≤ m) : (wu0 δ cls A m F).length = m := by simp [wu0]; omega
theorem vco9 {k : Nat} (h : k < F.length) : (wu0 δ cls A m F).getD k [] = zat9 A (vy0 δ cls (F.getD k 0) A) := by
 rw [wu0, l'b, l'd (by simp; exact h)];simp [h]
theorem kco9 (h : F.length < m) : (wu0 δ cls A m F).getD F.length [] = [.lit (.slice none 0 0)] := by
 rw [wu0, l'b, l'r (by simp), l'w, n's];have e : m - F.length = (m - F.length - 1) + 1 := by omega
 rw [e, List.replicate_succ]; rfl
theorem qcp9 (h : F.length < m) (s : Nat) : (wu0 δ cls A m F).set F.length (zat9 A (vy0 δ cls s A)) = wu0 δ cls A m (F ++ [s]) := by
 have e : m - F.length = (m - (F ++ [s]).length) + 1 := by simp; omega
 rw [wu0, e, List.replicate_succ, n'l _ _ (by simp), l'w, n's, List.set_cons_zero, wu0];simp
theorem xaZ9 (p : Nat → Bool) : idsE p (wu0 δ cls A m F) = true := by
 rw [wu0, qaL9, xA0 _ _ fun x => by simp [zat9, idsL, AV.ids, wa0], n'o];generalize m - F.length = k;induction k with
 | zero => rfl
 | succ k ih => rw [List.replicate_succ, idsE, ih]; rfl
theorem vbL9 : List.replicate m [AV.lit (.slice none 0 0)] = wu0 δ cls A m [] := by simp [wu0]
theorem kbL9 (h : F.length = m) : wu0 δ cls A m F = rowL (dRow A (wr0 δ A cls F)) := by
 rw [wu0, h, n's, List.replicate_zero, l'R, rowL, dRow, wr0, n'k, n'k];rfl
end
def accM (acc : Nat → Bool) (m : Nat) (F : List Nat) : List Bool := F.map acc ++ List.replicate (m - F.length) false
section
variable {acc : Nat → Bool} {m : Nat} {F : List Nat}
theorem vdp9 (h : F.length ≤ m) : (qb0 (accM acc m F)).length = m := by rw [zc0]; simp [accM]; omega
theorem kdp9 (h : F.length < m) : (qb0 (accM acc m F)).getD F.length [] = [.bool false] := by
 rw [ql0 _ _ (by simp [accM]; omega), accM, l'b, l'r (by simp), l'w, n's];have e : m - F.length = (m - F.length - 1) + 1 := by omega
 rw [e, List.replicate_succ]; rfl
theorem qdq9 (h : F.length < m) (s : Nat) : (qb0 (accM acc m F)).set F.length [.bool (acc s)] = qb0 (accM acc m (F ++ [s])) := by
 have e : m - F.length = (m - (F ++ [s]).length) + 1 := by simp; omega
 rw [zby9, accM, e, List.replicate_succ, n'l _ _ (by simp), l'w, n's, List.set_cons_zero, accM];simp
theorem wcP9 : List.replicate m [AV.bool false] = qb0 (accM acc m []) := by simp [accM, qcI9]
theorem vcP9 (h : F.length = m) : accM acc m F = F.map acc := by rw [accM, h, n's]; simp
end
def minG (A : Nat) (l : List LC) (ac : List Bool) (order : List Nat) (K : Nat) : AV :=
 .tup [dA A 1 (dRow A (wr0 (dlt l) A (clK (dlt l) (fun s => ac.getD s false) A order (K + 2)) (firsts (vf0 (dlt l) (fun s => ac.getD s false) A order (K + 1)) order))) (some (cntK (dlt l) (fun s => ac.getD s false) A order (K + 1))) 1 ((firsts (vf0 (dlt l) (fun s => ac.getD s false) A order (K + 1)) order).map fun s => ac.getD s false) (some (cntK (dlt l) (fun s => ac.getD s false) A order (K + 1))), .int .i64 0]
def qdS9 (A : Nat) (l : List LC) (ac : List Bool) (order : List Nat) (K : Nat) : AV :=
 .tup [.agg [.int .i64 A, .sl 1 ((rowL (dRow A (wr0 (dlt l) A (clK (dlt l) (fun s => ac.getD s false) A order (K + 2)) (firsts (vf0 (dlt l) (fun s => ac.getD s false) A order (K + 1)) order)))).map fun e => e.map hdA) (some (cntK (dlt l) (fun s => ac.getD s false) A order (K + 1))), .sl 1 ((qb0 ((firsts (vf0 (dlt l) (fun s => ac.getD s false) A order (K + 1)) order).map fun s => ac.getD s false)).map fun e => e.map hdA) (some (cntK (dlt l) (fun s => ac.getD s false) A order (K + 1)))], .int .i64 0]
theorem zdS9 (k : IntKind) (n : Int) : hdA (.int k n) = .int k n := rfl
theorem wdB9 (l : List (List AV)) : (l.all fun e => e.all fun x => true) = true := by simp
theorem qbM9 (H : List Blk) : zal9 H 0 = hdA := funext fun v => by cases v <;> rfl
set_option maxRecDepth 100000 in
theorem waZ9 (A : Nat) (l : List LC) (c : Option Nat) (ac : List Bool) (ca : Option Nat) (hok : OkDv A (kd0 l) ac.length) (hsz : SizeD 1 l 1 ac) (M : Nat) (hM : (stX (dlt l) eqX A 0 M).1.length = M) (K : Nat)
  (hK : cntK (dlt l) (fun s => ac.getD s false) A (stX (dlt l) eqX A 0 M).1 K = cntK (dlt l) (fun s => ac.getD s false) A (stX (dlt l) eqX A 0 M).1 (K + 1)) (hKl : ∀ j, j < K → cntK (dlt l) (fun s => ac.getD s false) A (stX (dlt l) eqX A 0 M).1 j < cntK (dlt l) (fun s => ac.getD s false) A (stX (dlt l) eqX A 0 M).1 (j + 1)) :
  PC Tryz.prog G0 25 [dA A 1 l c 1 ac ca] (minG A l ac (stX (dlt l) eqX A 0 M).1 K) ∧ PCW Tryz.prog G0 25 [dA A 1 l c 1 ac ca] (qdS9 A l ac (stX (dlt l) eqX A 0 M).1 K) := by
 have hck := hsz.check (sym := A) (c := c) (ca := ca);rw [qcG9 hok] at hck;have hre := xcO9 A l c ac ca hok M hM;have hcl := wG0 (δ := dlt l) (A := A) M hM;have hol := zbk9 hok eqX M;have hon := wan9 hok eqX kZ0 M;have h0 : (stX (dlt l) eqX A 0 M).1 ≠ [] := fun q => by
  have := wO0 (step := dlt l) (eqv := eqX) (A := A) 0 M;rw [q] at this; cases this
 have hn := hok.n;have hn1 := hok.n1;have hA := hok.a2;have hA1 := hok.a1;have hm := hok.m;rw [ve0] at hn hn1 hm;unfold minG qdS9;generalize (stX (dlt l) eqX A 0 M).1 = order at *;have hrf := xdp9 A l c ac ca hok order none hcl hol (by omega) h0 K hK hKl;have hRl := zb0 l;have hAl := zc0 ac;have hidR : ∀ p, idsE p (rowL l) = true := fun p => vc0 _ _;have hidA : ∀ p, idsE p (qb0 ac) = true := fun p => zd0 _ _;have hidO : ∀ p, idsE p (ints (intN order)) = true := fun p => wa0 _ _;have e1 := xg0 l;have e2 := ql0 ac;have hdl := fun s a h ha => wbX9 (l := l) (s := s) (a := a) h ha;have hnn0 := fun s a h ha => (hok.at (l := l) (s := s) (a := a) h ha).1;have hrow := fun s h => hok.row (s := s) h;have hgO : ∀ k, k < order.length → (ints (intN order)).getD k [] = [.int .i64 (order.getD k 0 : Nat)] := fun k hk => by rw [xc0 _ _ (by rw [kc0]; exact hk), wP0 _ k hk]
 have hOl : (ints (intN order)).length = order.length := by rw [xa0, kc0]
 generalize hacc : (fun s => ac.getD s false) = acc at *;have hacs : ∀ s, ac.getD s false = acc s := fun s => by rw [← hacc]
 simp only [hacs] at e2;clear hacc hacs;generalize dlt l = δ at *;have hcm := vz0 (δ := δ) (acc := acc) (A := A) (order := order) (K + 1);have hcle := wbi9 (δ := δ) (acc := acc) (A := A) (order := order) (K + 1);have hcpos := vbi9 (δ := δ) (acc := acc) (A := A) (order := order) (K + 1) h0;have hclf : ∀ s, s ∈ order → clK δ acc A order (K + 2) s = findX (vf0 δ acc A order (K + 1)) (firsts (vf0 δ acc A order (K + 1)) order) s := fun s _ => kal9 (K + 1) s;have her : ∀ x, vf0 δ acc A order (K + 1) x x = true := qn0 (K + 1);have hcfo : ∀ s, s ∈ order → clF δ acc A order (K + 2) s = (clK δ acc A order (K + 2) s : Nat) := fun s hs => by rw [clF, if_pos (.inr hs)]
 generalize clF δ acc A order (K + 2) = cf at *;generalize clK δ acc A order (K + 2) = cls at *;generalize vf0 δ acc A order (K + 1) = e at *;generalize hmm : cntK δ acc A order (K + 1) = m at *;clear hKl hK;have hidF : ∀ f p, idsE p (intF f l.length) = true := fun f p => xbk9 _ _ _;have hFl : ∀ f, (intF f l.length).length = l.length := fun f => vbX9 _ _;have hgF : ∀ s, s ∈ order → (intF cf l.length).getD s [] = [.int .i64 (cls s : Nat)] := fun s hs => by rw [zaA9 _ _ _ (hol s hs), hcfo s hs]
 obtain ⟨n, hnl⟩ : ∃ n, n = l.length := ⟨_, rfl⟩;simp only [← hnl] at *;unfold dA at *;generalize rowL l = RN at *;generalize qb0 ac = BA at *;generalize hOR : ints (intN order) = OR at *;clear hOR;refine zei9 1 92 [.cell 2 47, .tmp 3] Tryz.func25 rfl rfl rfl (by simp) ?_;intro s ⟨a0, hz⟩;clear hz;repeat' (first|(first|(with_reducible refine xz0 (p := [0, 1, 1, 1, 1]) ?_)|refine nav ?_|(refine g0_ ?_; first|refine dN (p := [0, 1, 1, 1, 1]) [(28, 1), (29, 28)] [(31, none), (33, none)] [(7, 8)] ?_|refine dN (p := [0, 1, 1, 1, 1, 0, 0, 1, 1, 0, 0, 1, 0, 1, 1, 1, 1, 1]) [(60, 8), (61, 60)] [(65, none)] [] ?_|refine goD ?_))|(with_reducible first|refine gG ?_ ?_|refine ⟨fun h => ?_, fun h => ?_⟩ <;> try omega|refine andG ?_)|refine cp_ hck ?_ (hi := by (simp [idsL, idsE, AV.ids, hidR, hidA, hidO, hidF]))|refine cp_ hre ?_ (hi := by (simp [idsL, idsE, AV.ids, hidR, hidA, hidO, hidF]))|refine cp_ hrf ?_ (hi := by (simp [idsL, idsE, AV.ids, hidR, hidA, hidO, hidF]))|simp (disch := try exact qa0) only [push_cast, simprocAttr, a0])
 refine Halt.mk ?_;refine vv0 (by first|exact va0|fail) (kaV9 1 27) ?_;refine vv0 (by trivial) (kaV9 1 4) ?_;refine xt0 (dr := atQ) (p := [0, 1, 1, 1, 1]) [(28, 1), (29, 28)] [(31, some 31), (33, some 33)] [(7, 8)] rfl rfl mixed (by kernel_rfl) ?_;repeat' (first|(refine a0_ ?_; refine wbS9 (d := some 31) 2 rfl ?_)|(refine a0_ ?_; refine wbS9 (d := some 33) 3 rfl ?_)|(first|refine nav ?_|(refine g0_ ?_; first|refine dN (p := [0, 1, 1, 1, 1]) [(28, 1), (29, 28)] [(31, none), (33, none)] [(7, 8)] ?_|refine dN (p := [0, 1, 1, 1, 1, 0, 0, 1, 1, 0, 0, 1, 0, 1, 1, 1, 1, 1]) [(60, 8), (61, 60)] [(65, none)] [] ?_|refine goD ?_))|(with_reducible first|refine gG ?_ ?_|refine ⟨fun h => ?_, fun h => ?_⟩ <;> try omega|refine andG ?_)|simp (disch := try exact qa0) only [push_cast, simprocAttr, a0])
 refine go_loop rfl (fun mz s' H' => ∃ u : Nat, u ≤ order.length ∧ mz = order.length - u ∧ H' = [.row 3 47 [[.int .i64 A, .sl 1 RN c, .sl 1 BA ca]], .row 3 47 [[.int .i64 0, .sl 0 [] (some 0), .sl 0 [] (some 0)]], .row 1 27 (wu0 δ cls A m (firsts e (order.take u))), .row 1 4 (qb0 (accM acc m (firsts e (order.take u)))), .row 3 47 [[.int .i64 A, .own 2 m m (some m), .own 3 m m (some m)]]] ∧ s' 1 = .ptr 0 0 0 1 ∧ s' 2 = .ptr 1 0 0 1 ∧ s' 5 = .sl 1 OR none ∧ s' 6 = .sl 1 (intF cf n) (some n) ∧ s' 8 = .ptr 4 0 0 1 ∧ s' 35 = .sl 1 OR none ∧ s' 36 = .int .i64 order.length ∧ s' 37 = .int .i64 u) (m := order.length) (by first|exact va0|fail) (Weak.refl _ _) ⟨0, by omega, by omega, by rw [vbL9 (δ := δ) (cls := cls) (A := A), wcP9 (acc := acc)]; rfl, ?_⟩ ?_
 ·simp (disch := try exact qa0) only [push_cast, simprocAttr, a0];rw [hOl]
 ·rintro mz s' H' ⟨u, hu, rfl, rfl, b1, b2, b5, b6, b8, b35, b36, b37⟩;have hlen : (firsts e (order.take u)).length ≤ m := by
   obtain ⟨t, ht⟩ := vZ0 (e := e) (order.take u) (order.drop u);rw [l'Q] at ht;rw [hcm, ht]; simp
  have hCl := wco9 (δ := δ) (cls := cls) (A := A) hlen;have hBl := vdp9 (acc := acc) hlen;have hidC := fun p => xaZ9 (δ := δ) (cls := cls) (A := A) (m := m) (F := firsts e (order.take u)) p;have hidB : ∀ p, idsE p (qb0 (accM acc m (firsts e (order.take u)))) = true := fun p => zd0 _ _;rcases l'i u order.length with hlt|hge
  ·have hgo := hgO u hlt;have hso : order.getD u 0 ∈ order := wc0 hlt;have hso2 : order[u] = order.getD u 0 := by rw [l'b, l'e hlt]; rfl
   have hnew := wcH9 (e := e) her order u hlt;have hold := vcH9 (e := e) order u hlt;rw [hso2, ← hclf _ hso] at hnew hold;have hsn := hol _ hso;have hgs := hgF _ hso;have hcs := hcl _ hso;have hdls := fun a => hdl _ a hsn;have hnns := fun a => hnn0 _ a hsn;have hrows := hrow _ hsn;have e1s := e1 _ hsn;have e2s := e2 (order.getD u 0) (by omega);generalize order.getD u 0 = s at *;have hset := fun h => qcp9 (δ := δ) (cls := cls) (A := A) (m := m) (F := firsts e (order.take u)) h s;have haset := fun h => qdq9 (acc := acc) (m := m) (F := firsts e (order.take u)) h s;have hcold := fun k h => vco9 (δ := δ) (cls := cls) (A := A) (m := m) (F := firsts e (order.take u)) (k := k) h;have hcnew := fun h => kco9 (δ := δ) (cls := cls) (A := A) (m := m) (F := firsts e (order.take u)) h;have hanew := fun h => kdp9 (acc := acc) (m := m) (F := firsts e (order.take u)) h;by_cases hex : ∃ y ∈ firsts e (order.take u), e y s = true
   ·obtain ⟨q1, q2, q3⟩ := hold hex;rw [q1] at hgs;have hck2 := hcold _ q2;have hrl2 := zaZ9 δ cls ((firsts e (order.take u)).getD (findX e (firsts e (order.take u)) s) 0) A;unfold zat9 at hck2;generalize vy0 δ cls ((firsts e (order.take u)).getD (findX e (firsts e (order.take u)) s) 0) A = rw0 at *;obtain ⟨r0, r1, rfl⟩ : ∃ r0 r1, rw0 = r0 :: r1 := by
     cases rw0 with
     | nil => simp at hrl2; omega
     | cons r0 r1 => exact ⟨r0, r1, rfl⟩
    have hcons : ints (intN (r0 :: r1)) = [.int .i64 (r0 : Nat)] :: ints (intN r1) := rfl;rw [hcons] at hck2;have hqm : findX e (firsts e (order.take u)) s < m := by omega
    generalize hq0 : findX e (firsts e (order.take u)) s = q at *;repeat' (first|(first|refine nav ?_|(refine g0_ ?_; first|refine dN (p := [0, 1, 1, 1, 1]) [(28, 1), (29, 28)] [(31, none), (33, none)] [(7, 8)] ?_|refine dN (p := [0, 1, 1, 1, 1, 0, 0, 1, 1, 0, 0, 1, 0, 1, 1, 1, 1, 1]) [(60, 8), (61, 60)] [(65, none)] [] ?_|refine goD ?_))|(with_reducible first|refine gG ?_ ?_|refine ⟨fun h => ?_, fun h => ?_⟩ <;> try omega|refine andG ?_)|simp (disch := try exact qa0) only [push_cast, simprocAttr, b1, b2, b5, b6, b8, b35, b36, b37, hOl, hgo, hFl, hgs, hCl, hck2, hsn, hqm])
    refine za0 (order.length - (u + 1)) (by omega) (by first|exact va0|fail) ⟨u + 1, by omega, rfl, by rw [q3], ?_⟩;simp (disch := try exact qa0) only [push_cast, simprocAttr, b1, b2, b5, b6, b8, b35, b36, b37, hOl, hgo, hFl, hgs, hCl, hck2, hsn, hqm]
   ·obtain ⟨q1, q2⟩ := hnew hex;have hfm : (firsts e (order.take u)).length < m := by
     obtain ⟨t, ht⟩ := vZ0 (e := e) (order.take (u + 1)) (order.drop (u + 1));rw [l'Q] at ht;rw [hcm, ht, q2]; simp
    have hset := hset hfm;have haset := haset hfm;have hcnew := hcnew hfm;have hanew := hanew hfm;rw [q1] at hgs;rw [← q2] at hset haset;generalize hF1 : firsts e (order.take (u + 1)) = F1 at *;generalize firsts e (order.take u) = F at *;generalize hfl : F.length = f at *;generalize hCM : wu0 δ cls A m F = CM at *;generalize hBM : qb0 (accM acc m F) = BM at *;generalize l.getD s ([], none) = r at *;have hrl := xa0 r.1;have e3 := xc0 r.1;unfold lC at e1s;have hz0 := kbW9 A;have hzl := fun r h => vbW9 A r h;have hzl0 := hzl [] (n'X _);have hCg : ∀ X, (CM.set f X).getD f [] = X := fun X => by
     rw [l'b, l't (by omega)]; rfl
    have hCs : ∀ X Y, (CM.set f X).set f Y = CM.set f Y := fun X Y => List.set_set ..;have hCl2 : ∀ X, (CM.set f X).length = m := fun X => by rw [List.length_set]; exact hCl
    have hBl2 : ∀ X, (BM.set f X).length = m := fun X => by rw [List.length_set]; exact hBl
    repeat' (first|(first|refine nav ?_|(refine g0_ ?_; first|refine dN (p := [0, 1, 1, 1, 1]) [(28, 1), (29, 28)] [(31, none), (33, none)] [(7, 8)] ?_|refine dN (p := [0, 1, 1, 1, 1, 0, 0, 1, 1, 0, 0, 1, 0, 1, 1, 1, 1, 1]) [(60, 8), (61, 60)] [(65, none)] [] ?_|refine goD ?_))|(with_reducible first|refine gG ?_ ?_|refine ⟨fun h => ?_, fun h => ?_⟩ <;> try omega|refine andG ?_)|simp (disch := try exact qa0) only [push_cast, simprocAttr, b1, b2, b5, b6, b8, b35, b36, b37, hOl, hgo, hFl, hgs, hCl, hcnew, hanew, hBl, hsn, hfm, hz0, hRl, hAl, e1s, e2s, hrl, hm, haset, hzl0])
    refine go_loop rfl (fun mz s' H' => ∃ a : Nat, a ≤ A ∧ mz = A - a ∧ H' = [.row 3 47 [[.int .i64 A, .sl 1 RN c, .sl 1 BA ca]], .row 3 47 [[.int .i64 0, .sl 0 [] (some 0), .sl 0 [] (some 0)]], .row 1 27 (CM.set f [.own 5 A A (some A)]), .row 1 4 (qb0 (accM acc m F1)), .row 3 47 [[.int .i64 A, .own 2 m m (some m), .own 3 m m (some m)]], .row 1 3 (rowZ A (vy0 δ cls s a))] ∧ s' 1 = .ptr 0 0 0 1 ∧ s' 2 = .ptr 1 0 0 1 ∧ s' 5 = .sl 1 OR none ∧ s' 6 = .sl 1 (intF cf n) (some n) ∧ s' 8 = .ptr 4 0 0 1 ∧ s' 11 = .int .i64 f ∧ s' 35 = .sl 1 OR none ∧ s' 36 = .int .i64 order.length ∧ s' 37 = .int .i64 u ∧ s' 71 = .sl 1 (ints r.1) r.2 ∧ s' 72 = .int .i64 A ∧ s' 73 = .int .i64 a) (m := A) (by first|exact va0|fail) (Weak.refl _ _) ⟨0, by omega, by omega, rfl, ?_⟩ ?_
    ·simp (disch := try exact qa0) only [push_cast, simprocAttr, b1, b2, b5, b6, b8, b35, b36, b37, hOl, hgo, hFl, hgs, hCl, hcnew, hanew, hBl, hsn, hfm, hz0, hRl, hAl, e1s, e2s, hrl, hm, haset, hzl0];rw [hrows]
    ·clear b1 b2 b5 b6 b8 b35 b36 b37;rintro mz s' H' ⟨a, ha, rfl, rfl, b1, b2, b5, b6, b8, b11, b35, b36, b37, b71, b72, b73⟩;have hwl := zaZ9 δ cls s a;have hzla := hzl (vy0 δ cls s a) (by omega);have hCga := hCg [.own 5 A A (some A)];have hCla := hCl2 [.own 5 A A (some A)];rcases l'i a A with hla|hga
     ·have e3a := e3 a (by omega);have hda := hdls a (by omega);have hna := hnns a hla;have hto := hcs a hla;rw [show r.1.getD a 0 = (δ s a : Nat) by omega] at e3a;have hsu := wbL9 δ cls s a;have hgt := hgF _ hto;have hton := hol _ hto;have hzs := qbX9 A (vy0 δ cls s a) (cls (δ s a)) (by omega);have hzg := zbX9 A (vy0 δ cls s a) (by omega);rw [hwl] at hzs hzg;rw [← hsu] at hzs;generalize δ s a = tq at *;repeat' (first|(first|refine nav ?_|(refine g0_ ?_; first|refine dN (p := [0, 1, 1, 1, 1]) [(28, 1), (29, 28)] [(31, none), (33, none)] [(7, 8)] ?_|refine dN (p := [0, 1, 1, 1, 1, 0, 0, 1, 1, 0, 0, 1, 0, 1, 1, 1, 1, 1]) [(60, 8), (61, 60)] [(65, none)] [] ?_|refine goD ?_))|(with_reducible first|refine gG ?_ ?_|refine ⟨fun h => ?_, fun h => ?_⟩ <;> try omega|refine andG ?_)|simp (disch := try exact qa0) only [push_cast, simprocAttr, b1, b2, b5, b6, b8, b11, b35, b36, b37, b71, b72, b73, e3a, hrl, hrows, hFl, hgt, hton, hCga, hCla, hzla, hzg, hzs, hfm])
      refine za0 (A - (a + 1)) (by omega) (by first|exact va0|fail) ⟨a + 1, by omega, rfl, rfl, ?_⟩;simp (disch := try exact qa0) only [push_cast, simprocAttr, b1, b2, b5, b6, b8, b11, b35, b36, b37, b71, b72, b73, e3a, hrl, hrows, hFl, hgt, hton, hCga, hCla, hzla, hzg, hzs, hfm]
     ·obtain rfl : A = a := by omega
      rw [zbz9 A _ hwl] at hzla ⊢;have het : (ints (intN (vy0 δ cls s A))).take A = ints (intN (vy0 δ cls s A)) := l'k (by omega);have hidM : ∀ p, idsE p (ints (intN (vy0 δ cls s A))) = true := fun p => wa0 _ _;unfold zat9 at hset;have hmfz : (CM.set f [AV.own 5 A A (some A)]).map (fun x => x.map (frz 5 1 (ints (intN (vy0 δ cls s A))))) = wu0 δ cls A m F1 := by
       rw [← hset, List.map_set];congr 1
       ·exact xn0 (hidC _)
       ·simp [frz, hzla, het]
      have hCM1 : (CM.set f [AV.own 5 A A (some A)]).length = m := hCla;have hidC1 := fun p => xaZ9 (δ := δ) (cls := cls) (A := A) (m := m) (F := F1) p;have hidB1 : ∀ p, idsE p (qb0 (accM acc m F1)) = true := fun p => zd0 _ _;repeat' (first|(first|refine nav ?_|(refine g0_ ?_; first|refine dN (p := [0, 1, 1, 1, 1]) [(28, 1), (29, 28)] [(31, none), (33, none)] [(7, 8)] ?_|refine dN (p := [0, 1, 1, 1, 1, 0, 0, 1, 1, 0, 0, 1, 0, 1, 1, 1, 1, 1]) [(60, 8), (61, 60)] [(65, none)] [] ?_|refine goD ?_))|(with_reducible first|refine gG ?_ ?_|refine ⟨fun h => ?_, fun h => ?_⟩ <;> try omega|refine andG ?_)|simp (disch := try exact qa0) only [push_cast, simprocAttr, b1, b2, b5, b6, b8, b11, b35, b36, b37, b71, b72, b73, hrl, hrows])
      refine zm0 (order.length - (u + 1)) 5 (j := 5) rfl (by omega) (by first|exact va0|fail) (by omega) (by simp [frzH]) (by simp only [frzH, frzB, List.map_cons, List.map_nil, List.set_cons_succ, List.set_cons_zero, qg0, hmfz, List.take_succ_cons, List.take_zero, List.all_cons, List.all_nil, Blk.below]; simp [frz, idsE, idsL, AV.ids, xn0, hidR, hidA, hidC1, hidB1]) ⟨u + 1, by omega, rfl, ?_, ?_⟩
      ·simp only [frzH, frzB, List.map_cons, List.map_nil, List.set_cons_succ, List.set_cons_zero, qg0, hmfz, List.take_succ_cons, List.take_zero];simp [frz, xn0, hidR, hidA, hidB1, hF1]
      ·simp (disch := try exact qa0) only [push_cast, simprocAttr, b1, b2, b5, b6, b8, b35, b36, b37, ki0, frz, AV.ids, idsL, hidO, hidF]
  ·obtain rfl : u = order.length := by omega
   rw [l'x] at hlen hCl hBl hidC hidB ⊢;have hfull : (firsts e order).length = m := by omega
   rw [kbL9 hfull] at hCl hidC ⊢;rw [vcP9 hfull] at hBl hidB ⊢;have etC : (rowL (dRow A (wr0 δ A cls (firsts e order)))).take m = rowL (dRow A (wr0 δ A cls (firsts e order))) := l'k (by omega);have etB : (qb0 ((firsts e order).map acc)).take m = qb0 ((firsts e order).map acc) := l'k (by omega);repeat' (first|(first|refine nav ?_|(refine g0_ ?_; first|refine dN (p := [0, 1, 1, 1, 1]) [(28, 1), (29, 28)] [(31, none), (33, none)] [(7, 8)] ?_|refine dN (p := [0, 1, 1, 1, 1, 0, 0, 1, 1, 0, 0, 1, 0, 1, 1, 1, 1, 1]) [(60, 8), (61, 60)] [(65, none)] [] ?_|refine goD ?_))|(with_reducible first|refine gG ?_ ?_|refine ⟨fun h => ?_, fun h => ?_⟩ <;> try omega|refine andG ?_)|simp (disch := try exact qa0) only [push_cast, simprocAttr, b1, b2, b5, b6, b8, b35, b36, b37, hCl, hBl, etC, etB])
   refine kdj9 ?_ ?_
   ·simp (disch := try exact qa0) only [push_cast, simprocAttr, b1, b2, b5, b6, b8, b35, b36, b37, hCl, hBl, etC, etB]
   ·simp (disch := try exact qa0) only [push_cast, simprocAttr, b1, b2, b5, b6, b8, b35, b36, b37, hCl, hBl, etC, etB, okWR, okWA, okW, wU0, xU0, zal9, qbM9, zdS9];exact ⟨wdB9 _, wdB9 _⟩
set_option maxRecDepth 100000 in
theorem wbz9 (A : Nat) (l : List LC) (c : Option Nat) (ac : List Bool) (ca : Option Nat) (hok : OkDv A (kd0 l) ac.length) (hsz : SizeD 1 l 1 ac) (M : Nat) (hM : (stX (dlt l) eqX A 0 M).1.length = M) (K : Nat)
  (hK : cntK (dlt l) (fun s => ac.getD s false) A (stX (dlt l) eqX A 0 M).1 K = cntK (dlt l) (fun s => ac.getD s false) A (stX (dlt l) eqX A 0 M).1 (K + 1)) (hKl : ∀ j, j < K → cntK (dlt l) (fun s => ac.getD s false) A (stX (dlt l) eqX A 0 M).1 j < cntK (dlt l) (fun s => ac.getD s false) A (stX (dlt l) eqX A 0 M).1 (j + 1)) :
  PC Tryz.prog G0 25 [dA A 1 l c 1 ac ca] (minG A l ac (stX (dlt l) eqX A 0 M).1 K) := (waZ9 A l c ac ca hok hsz M hM K hK hKl).1
set_option maxRecDepth 100000 in
theorem kcP9 (z : Nat) (l : List Int) (c : Option Nat) (hz : l = [] ∨ z = 1) (hl : l.length ≤ 1000000) : PC Tryz.prog G0 35 [.sl z (ints l) c] (.sl 1 (ints l) (if l = [] then some 0 else none)) := by
 cases l with
 | nil =>
  rw [if_pos rfl, zu0];refine qc0 1 8 [.tmp 2] Tryz.func35 rfl rfl rfl (by simp) ?_;intro s ⟨a0, hz⟩;clear hz;repeat' (first|refine nv ?_|(with_reducible first|refine gG ?_ ?_|refine ⟨fun h => ?_, fun h => ?_⟩ <;> try omega|refine andG ?_)|simp (disch := try exact qa0) only [push_cast, simprocAttr, a0])
 | cons x l =>
  rw [if_neg (by simp)];obtain rfl := hz.resolve_left (by simp);have hc : ints (x :: l) = [.int .i64 x] :: ints l := rfl;have hil := xa0 l;have hll : l.length + 1 ≤ 1000000 := hl;have hidl : ∀ p, idsE p (ints l) = true := fun p => wa0 _ _;rw [hc];refine qc0 1 8 [.tmp 2] Tryz.func35 rfl rfl rfl (by simp) ?_;intro s ⟨a0, hz⟩;clear hz;repeat' (first|refine nv ?_|(with_reducible first|refine gG ?_ ?_|refine ⟨fun h => ?_, fun h => ?_⟩ <;> try omega|refine andG ?_)|simp (disch := try exact qa0) only [push_cast, simprocAttr, a0, hil])
  omega
theorem vaZ9 (z : Nat) (l : List Int) (H : List Blk) : wd0 Tryz.prog G0 34 [.sl 1 (ints l) (if l = [] then some 0 else none)] H (.sl 1 (ints l) (some l.length)) H := by
 have := kdA9 1 (ints l) (if l = [] then some 0 else none) H (.inr rfl) (fun p => wa0 _ _);rw [xa0] at this;exact this
def plF (p A n s : Nat) : List (List AV) := qj0 (fun t => if t < s then .own (t + p) A A (some A) else .sl 0 [] (some 0)) n
theorem qcQ9 (p A n s : Nat) : (plF p A n s).length = n := kN0 _ _
theorem wbY9 (p A n : Nat) : List.replicate n [AV.sl 0 [] (some 0)] = plF p A n 0 := by
 rw [wz0, plF];exact xf0 fun t _ => by rw [if_neg (by omega)]
theorem zcQ9 (p A n s : Nat) : (plF p A n s).set s [.own (s + p) A A (some A)] = plF p A n (s + 1) := by
 rw [plF, wJ0, plF];refine xf0 fun t _ => ?_;unfold updF;by_cases h : t = s
 ·subst h; rw [if_pos rfl, if_pos (by omega)]
 ·rw [if_neg h];have : t < s ↔ t < s + 1 := by omega
  simp only [this]
theorem xcQ9 (p A n s : Nat) (h : s < n) : (plF p A n s).getD s [] = [.sl 0 [] (some 0)] := by
 rw [plF, qaf9 h, if_neg (by omega)]
theorem wcQ9 (p A n : Nat) : plF p A n n = ownR p A (some A) n := by
 rw [plF, ownR, qj0];exact l'L fun t ht => by rw [if_pos (l'o.1 ht)]
def nils (A : Nat) : List (List AV) := List.replicate A [.sl 0 [] (some 0)]
set_option maxRecDepth 100000 in
theorem xdS9 (A n : Nat) (hA : A ≤ 16) (hn : n ≤ 256) (B0 B1 : Blk) : wd0 Tryz.prog G0 33 [.int .i64 A, .int .i64 n] [B0, B1] (.agg [.int .i64 A, .own 3 n n (some n), .sl 0 [] (some 0), .sl 0 [] (some 0)])
  (B0 :: B1 :: .row 4 29 [[.int .i64 A, .own 3 n n (some n), .sl 0 [] (some 0), .sl 0 [] (some 0)]] :: .row 1 44 (ownR 5 A (some A) n) :: .row 4 29 [[.int .i64 A, .own 3 n n (some n), .sl 0 [] (some 0), .sl 0 [] (some 0)]] :: qe0 1 27 (fun _ => nils A) n) := by
 have hz := wbY9 5 A n;have hzl := fun s => qcQ9 5 A n s;refine zJ0 25 [.cell 4 29] Tryz.func33 rfl rfl rfl (by simp) ?_;intro s ⟨a0, a1, hz⟩;simp only [l'm, Nat.reduceAdd] at a1;clear hz;repeat' (first|(first|refine nav ?_|(refine g0_ ?_; first|refine dN (p := [1, 0, 0, 1, 1, 0, 0, 1, 0, 1, 1]) [(17, 5), (18, 17)] [(21, none)] [] ?_|refine goD ?_))|(with_reducible first|refine gG ?_ ?_|refine ⟨fun h => ?_, fun h => ?_⟩ <;> try omega|refine andG ?_)|simp (disch := try exact qa0) only [push_cast, simprocAttr, a0, a1, hz, hzl])
 refine go_loop rfl (fun mz s' H' => ∃ s : Nat, s ≤ n ∧ mz = n - s ∧ H' = (B0 :: B1 :: .row 4 29 [[.int .i64 0, .sl 0 [] (some 0), .sl 0 [] (some 0), .sl 0 [] (some 0)]] :: .row 1 44 (plF 5 A n s) :: .row 4 29 [[.int .i64 A, .own 3 n n (some n), .sl 0 [] (some 0), .sl 0 [] (some 0)]] :: qe0 1 27 (fun _ => nils A) s) ∧ s' 0 = .int .i64 A ∧ s' 4 = .ptr 2 0 0 1 ∧ s' 5 = .ptr 4 0 0 1 ∧ s' 12 = .own 3 n n (some n) ∧ s' 13 = .int .i64 n ∧ s' 14 = .int .i64 s) (m := n) (by first|exact va0|fail) (Weak.refl _ _) ⟨0, by omega, by omega, by rw [vbH9], ?_⟩ ?_
 ·simp (disch := try exact qa0) only [push_cast, simprocAttr, a0, a1, hz, hzl]
 ·rintro mz s' H' ⟨s, hs, rfl, rfl, b0, b4, b5, b12, b13, b14⟩;have hrl := rf_len 1 27 (fun _ => nils A) s;have hni : List.replicate A [AV.sl 0 [] (some 0)] = nils A := rfl;rcases l'i s n with hlt|hge
  ·have hset := zcQ9 5 A n s;have hget := xcQ9 5 A n s hlt;have hsn := kbH9 (z := 1) (t := 27) (g := fun _ => nils A) (N := s);have hgX : ∀ X, (qe0 1 27 (fun _ => nils A) s ++ [X])[s]? = some X := fun X => by rw [wbu9]; rfl
   have hnl : (nils A).length = A := by simp [nils]
   have h5 : s + 1 + 1 + 1 + 1 + 1 = s + 5 := rfl;repeat' (first|(first|refine nav ?_|(refine g0_ ?_; first|refine dN (p := [1, 0, 0, 1, 1, 0, 0, 1, 0, 1, 1]) [(17, 5), (18, 17)] [(21, none)] [] ?_|refine goD ?_))|(with_reducible first|refine gG ?_ ?_|refine ⟨fun h => ?_, fun h => ?_⟩ <;> try omega|refine andG ?_)|simp (disch := try exact qa0) only [push_cast, simprocAttr, b0, b4, b5, b12, b13, b14, hzl, hrl, hget, hset, hni, hgX, hnl, h5])
   refine za0 (n - (s + 1)) (by omega) (by first|exact va0|fail) ⟨s + 1, by omega, rfl, by rw [← hsn], ?_⟩;simp (disch := try exact qa0) only [push_cast, simprocAttr, b0, b4, b5, b12, b13, b14, hzl, hrl, hget, hset, hni, hgX, hnl, h5]
  ·obtain rfl : n = s := by omega
   rw [wcQ9] at *;repeat' (first|(first|refine nav ?_|(refine g0_ ?_; first|refine dN (p := [1, 0, 0, 1, 1, 0, 0, 1, 0, 1, 1]) [(17, 5), (18, 17)] [(21, none)] [] ?_|refine goD ?_))|(with_reducible first|refine gG ?_ ?_|refine ⟨fun h => ?_, fun h => ?_⟩ <;> try omega|refine andG ?_)|simp (disch := try exact qa0) only [push_cast, simprocAttr, b0, b4, b5, b12, b13, b14])
set_option maxRecDepth 100000 in
theorem kel9 (A n : Nat) (hA : A ≤ 16) (hn : n ≤ 256) (B0 B1 B2 B3 B4 B5 B6 B7 B8 : Blk) : wd0 Tryz.prog G0 33 [.int .i64 A, .int .i64 n] [B0, B1, B2, B3, B4, B5, B6, B7, B8] (.agg [.int .i64 A, .own 10 n n (some n), .sl 0 [] (some 0), .sl 0 [] (some 0)])
  (B0 :: B1 :: B2 :: B3 :: B4 :: B5 :: B6 :: B7 :: B8 :: .row 4 29 [[.int .i64 A, .own 10 n n (some n), .sl 0 [] (some 0), .sl 0 [] (some 0)]] :: .row 1 44 (ownR 12 A (some A) n) :: .row 4 29 [[.int .i64 A, .own 10 n n (some n), .sl 0 [] (some 0), .sl 0 [] (some 0)]] :: qe0 1 27 (fun _ => nils A) n) := by
 have hz := wbY9 12 A n;have hzl := fun s => qcQ9 12 A n s;refine zJ0 25 [.cell 4 29] Tryz.func33 rfl rfl rfl (by simp) ?_;intro s ⟨a0, a1, hz⟩;simp only [l'm, Nat.reduceAdd] at a1;clear hz;repeat' (first|(first|refine nav ?_|(refine g0_ ?_; first|refine dN (p := [1, 0, 0, 1, 1, 0, 0, 1, 0, 1, 1]) [(17, 5), (18, 17)] [(21, none)] [] ?_|refine goD ?_))|(with_reducible first|refine gG ?_ ?_|refine ⟨fun h => ?_, fun h => ?_⟩ <;> try omega|refine andG ?_)|simp (disch := try exact qa0) only [push_cast, simprocAttr, a0, a1, hz, hzl])
 refine go_loop rfl (fun mz s' H' => ∃ s : Nat, s ≤ n ∧ mz = n - s ∧ H' = (B0 :: B1 :: B2 :: B3 :: B4 :: B5 :: B6 :: B7 :: B8 :: .row 4 29 [[.int .i64 0, .sl 0 [] (some 0), .sl 0 [] (some 0), .sl 0 [] (some 0)]] :: .row 1 44 (plF 12 A n s) :: .row 4 29 [[.int .i64 A, .own 10 n n (some n), .sl 0 [] (some 0), .sl 0 [] (some 0)]] :: qe0 1 27 (fun _ => nils A) s) ∧ s' 0 = .int .i64 A ∧ s' 4 = .ptr 9 0 0 1 ∧ s' 5 = .ptr 11 0 0 1 ∧ s' 12 = .own 10 n n (some n) ∧ s' 13 = .int .i64 n ∧ s' 14 = .int .i64 s) (m := n) (by first|exact va0|fail) (Weak.refl _ _) ⟨0, by omega, by omega, by rw [vbH9], ?_⟩ ?_
 ·simp (disch := try exact qa0) only [push_cast, simprocAttr, a0, a1, hz, hzl]
 ·rintro mz s' H' ⟨s, hs, rfl, rfl, b0, b4, b5, b12, b13, b14⟩;have hrl := rf_len 1 27 (fun _ => nils A) s;have hni : List.replicate A [AV.sl 0 [] (some 0)] = nils A := rfl;rcases l'i s n with hlt|hge
  ·have hset := zcQ9 12 A n s;have hget := xcQ9 12 A n s hlt;have hsn := kbH9 (z := 1) (t := 27) (g := fun _ => nils A) (N := s);have hgX : ∀ X, (qe0 1 27 (fun _ => nils A) s ++ [X])[s]? = some X := fun X => by rw [wbu9]; rfl
   have hnl : (nils A).length = A := by simp [nils]
   have h5 : s + 1 + 1 + 1 + 1 + 1 + 1 + 1 + 1 + 1 + 1 + 1 + 1 = s + 12 := rfl;repeat' (first|(first|refine nav ?_|(refine g0_ ?_; first|refine dN (p := [1, 0, 0, 1, 1, 0, 0, 1, 0, 1, 1]) [(17, 5), (18, 17)] [(21, none)] [] ?_|refine goD ?_))|(with_reducible first|refine gG ?_ ?_|refine ⟨fun h => ?_, fun h => ?_⟩ <;> try omega|refine andG ?_)|simp (disch := try exact qa0) only [push_cast, simprocAttr, b0, b4, b5, b12, b13, b14, hzl, hrl, hget, hset, hni, hgX, hnl, h5])
   refine za0 (n - (s + 1)) (by omega) (by first|exact va0|fail) ⟨s + 1, by omega, rfl, by rw [← hsn], ?_⟩;simp (disch := try exact qa0) only [push_cast, simprocAttr, b0, b4, b5, b12, b13, b14, hzl, hrl, hget, hset, hni, hgX, hnl, h5]
  ·obtain rfl : n = s := by omega
   rw [wcQ9] at *;repeat' (first|(first|refine nav ?_|(refine g0_ ?_; first|refine dN (p := [1, 0, 0, 1, 1, 0, 0, 1, 0, 1, 1]) [(17, 5), (18, 17)] [(21, none)] [] ?_|refine goD ?_))|(with_reducible first|refine gG ?_ ?_|refine ⟨fun h => ?_, fun h => ?_⟩ <;> try omega|refine andG ?_)|simp (disch := try exact qa0) only [push_cast, simprocAttr, b0, b4, b5, b12, b13, b14])
end Go.Proofs
