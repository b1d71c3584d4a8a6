import Derived.Test.YtcoakjnmnommpaaGreatDoorA29
import Derived.Test.YtcoakjnmnommpaaGreatDoorV59
namespace Go.Proofs
open Go Go.V
set_option linter.unusedVariables false
set_option linter.unusedSimpArgs false
set_option maxHeartbeats 0
def qej9 (acc : Nat → Bool) (l : List Nat) (i : Nat) : List Bool := (l.take i).map acc
noncomputable def minH (A : Nat) (l : List LC) (ac : List Bool) (N : Nat) : AV :=
 dA A 1 (zdQ9 (stX (dlt l) (eqW (dlt l) (fun s => ac.getD s false) A) A 0 N).2) none 1 ((stX (dlt l) (eqW (dlt l) (fun s => ac.getD s false) A) A 0 N).1.map fun s => ac.getD s false) none
end Go.Proofs
namespace Go.Proofs
open Go Go.V
set_option linter.unusedVariables false
set_option linter.unusedSimpArgs false
set_option maxHeartbeats 0
def kw0 (δ : Nat → Nat → Nat) (cls : Nat → Nat) (s a : Nat) : List Nat := (List.range a).map fun a => cls (δ s a)
theorem qbA9 (δ : Nat → Nat → Nat) (cls : Nat → Nat) (s a : Nat) : kw0 δ cls s (a + 1) = kw0 δ cls s a ++ [cls (δ s a)] := by simp [kw0, List.range_succ]
theorem vaP9 (δ : Nat → Nat → Nat) (cls : Nat → Nat) (s a : Nat) : (kw0 δ cls s a).length = a := by simp [kw0]
def waj9 (A : Nat) (r : List Nat) : List AV := [.sl 1 (ints (intN r)) (some A)]
def qt0 (δ : Nat → Nat → Nat) (cls : Nat → Nat) (A m : Nat) (F : List Nat) : List (List AV) := (F.map fun s => waj9 A (kw0 δ cls s A)) ++ List.replicate (m - F.length) [.lit (.slice none 0 0)]
section
variable {δ : Nat → Nat → Nat} {cls : Nat → Nat} {A m : Nat} {F : List Nat}
theorem zcd9 (h : F.length ≤ m) : (qt0 δ cls A m F).length = m := by simp [qt0]; omega
theorem xcd9 {k : Nat} (h : k < F.length) : (qt0 δ cls A m F).getD k [] = waj9 A (kw0 δ cls (F.getD k 0) A) := by
 rw [qt0, List.getD_eq_getElem?_getD, List.getElem?_append_left (by simp; exact h)]
 simp [h]
theorem wcd9 (h : F.length < m) : (qt0 δ cls A m F).getD F.length [] = [.lit (.slice none 0 0)] := by
 rw [qt0, List.getD_eq_getElem?_getD, List.getElem?_append_right (by simp), List.length_map, Nat.sub_self]
 have e : m - F.length = (m - F.length - 1) + 1 := by omega
 rw [e, List.replicate_succ]; rfl
theorem vcd9 (h : F.length < m) (s : Nat) : (qt0 δ cls A m F).set F.length (waj9 A (kw0 δ cls s A)) = qt0 δ cls A m (F ++ [s]) := by
 have e : m - F.length = (m - (F ++ [s]).length) + 1 := by simp; omega
 rw [qt0, e, List.replicate_succ, List.set_append_right _ _ (by simp), List.length_map, Nat.sub_self, List.set_cons_zero, qt0]
 simp
theorem kaP9 (p : Nat → Bool) : idsE p (qt0 δ cls A m F) = true := by
 rw [qt0, xaC9, zr0 _ _ fun x => by simp [waj9, idsL, AV.ids, va0], Bool.true_and]
 generalize m - F.length = k
 induction k with
 | zero => rfl
 | succ k ih => rw [List.replicate_succ, idsE, ih]; rfl
theorem zbA9 : List.replicate m [AV.lit (.slice none 0 0)] = qt0 δ cls A m [] := by simp [qt0]
theorem xbA9 (h : F.length = m) : qt0 δ cls A m F = rowL (dRow A (kaA9 δ A cls F)) := by
 rw [qt0, h, Nat.sub_self, List.replicate_zero, List.append_nil, rowL, dRow, kaA9, List.map_map, List.map_map]
 rfl
end
def accM (acc : Nat → Bool) (m : Nat) (F : List Nat) : List Bool := F.map acc ++ List.replicate (m - F.length) false
section
variable {acc : Nat → Bool} {m : Nat} {F : List Nat}
theorem wcZ9 (h : F.length ≤ m) : (kd0 (accM acc m F)).length = m := by rw [xg0]; simp [accM]; omega
theorem vcZ9 (h : F.length < m) : (kd0 (accM acc m F)).getD F.length [] = [.bool false] := by
 rw [ky0 _ _ (by simp [accM]; omega), accM, List.getD_eq_getElem?_getD, List.getElem?_append_right (by simp), List.length_map, Nat.sub_self]
 have e : m - F.length = (m - F.length - 1) + 1 := by omega
 rw [e, List.replicate_succ]; rfl
theorem kcZ9 (h : F.length < m) (s : Nat) : (kd0 (accM acc m F)).set F.length [.bool (acc s)] = kd0 (accM acc m (F ++ [s])) := by
 have e : m - F.length = (m - (F ++ [s]).length) + 1 := by simp; omega
 rw [xcv9, accM, e, List.replicate_succ, List.set_append_right _ _ (by simp), List.length_map, Nat.sub_self, List.set_cons_zero, accM]
 simp
theorem vcC9 : List.replicate m [AV.bool false] = kd0 (accM acc m []) := by simp [accM, wcv9]
theorem kcC9 (h : F.length = m) : accM acc m F = F.map acc := by rw [accM, h, Nat.sub_self]; simp
end
def minG (A : Nat) (l : List LC) (ac : List Bool) (order : List Nat) (K : Nat) : AV :=
 .tup [dA A 1 (dRow A (kaA9 (dlt l) A (clK (dlt l) (fun s => ac.getD s false) A order (K + 2)) (firsts (wR0 (dlt l) (fun s => ac.getD s false) A order (K + 1)) order))) (some (cntK (dlt l) (fun s => ac.getD s false) A order (K + 1))) 1 ((firsts (wR0 (dlt l) (fun s => ac.getD s false) A order (K + 1)) order).map fun s => ac.getD s false) (some (cntK (dlt l) (fun s => ac.getD s false) A order (K + 1))), .int .i64 0]
set_option maxRecDepth 100000 in
theorem qcD9 (A : Nat) (l : List LC) (c : Option Nat) (ac : List Bool) (ca : Option Nat) (hok : OkDv A (vm0 l) ac.length) (hsz : SizeD 1 l 1 ac) (M : Nat) (hM : (stX (dlt l) eqX A 0 M).1.length = M) (K : Nat)
  (hK : cntK (dlt l) (fun s => ac.getD s false) A (stX (dlt l) eqX A 0 M).1 K = cntK (dlt l) (fun s => ac.getD s false) A (stX (dlt l) eqX A 0 M).1 (K + 1)) (hKl : ∀ j, j < K → cntK (dlt l) (fun s => ac.getD s false) A (stX (dlt l) eqX A 0 M).1 j < cntK (dlt l) (fun s => ac.getD s false) A (stX (dlt l) eqX A 0 M).1 (j + 1)) :
  PC Tryz.prog G0 25 [dA A 1 l c 1 ac ca] (minG A l ac (stX (dlt l) eqX A 0 M).1 K) := by
 have hck := hsz.check (sym := A) (c := c) (ca := ca)
 rw [xct9 hok] at hck
 have hre := xcB9 A l c ac ca hok M hM
 have hcl := wbk9 (δ := dlt l) (A := A) M hM
 have hol := vaZ9 hok eqX M
 have hon := zbn9 hok eqX xar9 M
 have h0 : (stX (dlt l) eqX A 0 M).1 ≠ [] := fun q => by
  have := kaX9 (step := dlt l) (eqv := eqX) (A := A) 0 M
  rw [q] at this; cases this
 have hn := hok.n
 have hn1 := hok.n1
 have hA := hok.a2
 have hA1 := hok.a1
 have hm := hok.m
 rw [kg0] at hn hn1 hm
 unfold minG
 generalize (stX (dlt l) eqX A 0 M).1 = order at *
 have hrf := zcZ9 A l c ac ca hok order none hcl hol (by omega) h0 K hK hKl
 have hRl := zc0 l
 have hAl := xg0 ac
 have hidR : ∀ p, idsE p (rowL l) = true := fun p => vf0 _ _
 have hidA : ∀ p, idsE p (kd0 ac) = true := fun p => zi0 _ _
 have hidO : ∀ p, idsE p (ints (intN order)) = true := fun p => va0 _ _
 have e1 := zh0 l
 have e2 := ky0 ac
 have hdl := fun s a h ha => xbM9 (l := l) (s := s) (a := a) h ha
 have hnn0 := fun s a h ha => (hok.at (l := l) (s := s) (a := a) h ha).1
 have hrow := fun s h => hok.row (s := s) h
 have hgO : ∀ k, k < order.length → (ints (intN order)).getD k [] = [.int .i64 (order.getD k 0 : Nat)] := fun k hk => by rw [kc0 _ _ (by rw [zb0]; exact hk), qv0 _ k hk]
 have hOl : (ints (intN order)).length = order.length := by rw [ka0, zb0]
 generalize hacc : (fun s => ac.getD s false) = acc at *
 have hacs : ∀ s, ac.getD s false = acc s := fun s => by rw [← hacc]
 simp only [hacs] at e2
 clear hacc hacs
 generalize dlt l = δ at *
 have hcm := qaY9 (δ := δ) (acc := acc) (A := A) (order := order) (K + 1)
 have hcle := zby9 (δ := δ) (acc := acc) (A := A) (order := order) (K + 1)
 have hcpos := vbJ9 (δ := δ) (acc := acc) (A := A) (order := order) (K + 1) h0
 have hclf : ∀ s, s ∈ order → clK δ acc A order (K + 2) s = findX (wR0 δ acc A order (K + 1)) (firsts (wR0 δ acc A order (K + 1)) order) s := fun s _ => qbJ9 (K + 1) s
 have her : ∀ x, wR0 δ acc A order (K + 1) x x = true := qai9 (K + 1)
 have hcfo : ∀ s, s ∈ order → clF δ acc A order (K + 2) s = (clK δ acc A order (K + 2) s : Nat) := fun s hs => by rw [clF, if_pos (.inr hs)]
 generalize clF δ acc A order (K + 2) = cf at *
 generalize clK δ acc A order (K + 2) = cls at *
 generalize wR0 δ acc A order (K + 1) = e at *
 generalize hmm : cntK δ acc A order (K + 1) = m at *
 clear hKl hK
 have hidF : ∀ f p, idsE p (intF f l.length) = true := fun f p => kaZ9 _ _ _
 have hFl : ∀ f, (intF f l.length).length = l.length := fun f => wbM9 _ _
 have hgF : ∀ s, s ∈ order → (intF cf l.length).getD s [] = [.int .i64 (cls s : Nat)] := fun s hs => by rw [qas9 _ _ _ (hol s hs), hcfo s hs]
 obtain ⟨n, hnl⟩ : ∃ n, n = l.length := ⟨_, rfl⟩
 simp only [← hnl] at *
 unfold dA at *
 generalize rowL l = RN at *
 generalize kd0 ac = BA at *
 generalize hOR : ints (intN order) = OR at *
 clear hOR
 refine vd0 1 92 [.cell 2 47, .tmp 3] Tryz.func25 rfl rfl rfl (by simp) ?_
 intro s ⟨a0, hz⟩
 clear hz
 repeat' (first|(first|(with_reducible refine xax9 (p := [0, 1, 1, 1, 1]) ?_)|refine nav ?_|(refine g0_ ?_; first|refine wa0 (dr := allQ) (p := [0, 1, 1, 1, 1]) [(28, 1), (29, 28)] [(31, none), (33, none)] [(7, 8)] rfl rfl mixed (by kernel_rfl) ?_|refine wa0 (dr := allQ) (p := [0, 1, 1, 1, 1, 0, 0, 1, 1, 0, 0, 1, 0, 1, 1, 1, 1, 1]) [(60, 8), (61, 60)] [(65, none)] [] rfl rfl mixed (by kernel_rfl) ?_|refine goD ?_))|(with_reducible refine gG ?_ ?_)|((with_reducible refine And.intro (fun h => ?_) (fun h => ?_)) <;> try (exfalso; omega))|(with_reducible refine andG ?_)|(first|(refine ⟨_, _, qa0 (hck) (by (simp [idsL, idsE, AV.ids, hidR, hidA, hidO, hidF])) _, ?_⟩)|(refine ⟨_, qa0 (hck) (by (simp [idsL, idsE, AV.ids, hidR, hidA, hidO, hidF])) _, ?_⟩)|(refine ⟨_, fun _ => qa0 (hck) (by (simp [idsL, idsE, AV.ids, hidR, hidA, hidO, hidF])) _, ?_⟩)|(refine ⟨_, _, qa0 (hre) (by (simp [idsL, idsE, AV.ids, hidR, hidA, hidO, hidF])) _, ?_⟩)|(refine ⟨_, qa0 (hre) (by (simp [idsL, idsE, AV.ids, hidR, hidA, hidO, hidF])) _, ?_⟩)|(refine ⟨_, fun _ => qa0 (hre) (by (simp [idsL, idsE, AV.ids, hidR, hidA, hidO, hidF])) _, ?_⟩)|(refine ⟨_, _, qa0 (hrf) (by (simp [idsL, idsE, AV.ids, hidR, hidA, hidO, hidF])) _, ?_⟩)|(refine ⟨_, qa0 (hrf) (by (simp [idsL, idsE, AV.ids, hidR, hidA, hidO, hidF])) _, ?_⟩)|(refine ⟨_, fun _ => qa0 (hrf) (by (simp [idsL, idsE, AV.ids, hidR, hidA, hidO, hidF])) _, ?_⟩))|simp (disch := (first|exact za0|fail)) only [push_cast, simprocAttr, a0])
 refine Halt.mk ?_
 refine xE0 (by first|exact xb0|fail) (zaM9 1 27) ?_
 refine xE0 (by trivial) (zaM9 1 4) ?_
 refine wa0 (dr := atQ) (p := [0, 1, 1, 1, 1]) [(28, 1), (29, 28)] [(31, some 31), (33, some 33)] [(7, 8)] rfl rfl mixed (by kernel_rfl) ?_
 repeat' (first|(refine a0_ ?_; refine qbH9 (d := some 31) 2 rfl ?_)|(refine a0_ ?_; refine qbH9 (d := some 33) 3 rfl ?_)|(first|refine nav ?_|(refine g0_ ?_; first|refine wa0 (dr := allQ) (p := [0, 1, 1, 1, 1]) [(28, 1), (29, 28)] [(31, none), (33, none)] [(7, 8)] rfl rfl mixed (by kernel_rfl) ?_|refine wa0 (dr := allQ) (p := [0, 1, 1, 1, 1, 0, 0, 1, 1, 0, 0, 1, 0, 1, 1, 1, 1, 1]) [(60, 8), (61, 60)] [(65, none)] [] rfl rfl mixed (by kernel_rfl) ?_|refine goD ?_))|(with_reducible refine gG ?_ ?_)|((with_reducible refine And.intro (fun h => ?_) (fun h => ?_)) <;> try (exfalso; omega))|(with_reducible refine andG ?_)|fail|simp (disch := (first|exact za0|fail)) only [push_cast, simprocAttr, a0])
 refine go_loop rfl (fun mz s' H' => ∃ u : Nat, u ≤ order.length ∧ mz = order.length - u ∧ H' = [.row 3 47 [[.int .i64 A, .sl 1 RN c, .sl 1 BA ca]], .row 3 47 [[.int .i64 0, .sl 0 [] (some 0), .sl 0 [] (some 0)]], .row 1 27 (qt0 δ cls A m (firsts e (order.take u))), .row 1 4 (kd0 (accM acc m (firsts e (order.take u)))), .row 3 47 [[.int .i64 A, .own 2 m m (some m), .own 3 m m (some m)]]] ∧ s' 1 = .ptr 0 0 0 1 ∧ s' 2 = .ptr 1 0 0 1 ∧ s' 5 = .sl 1 OR none ∧ s' 6 = .sl 1 (intF cf n) (some n) ∧ s' 8 = .ptr 4 0 0 1 ∧ s' 35 = .sl 1 OR none ∧ s' 36 = .int .i64 order.length ∧ s' 37 = .int .i64 u) (m := order.length) (by first|exact xb0|fail) (Weak.refl _ _) ⟨0, by omega, by omega, by rw [zbA9 (δ := δ) (cls := cls) (A := A), vcC9 (acc := acc)]; rfl, ?_⟩ ?_
 ·simp (disch := (first|exact za0|fail)) only [push_cast, simprocAttr, a0]
  rw [hOl]
 ·rintro mz s' H' ⟨u, hu, rfl, rfl, b1, b2, b5, b6, b8, b35, b36, b37⟩
  have hlen : (firsts e (order.take u)).length ≤ m := by
   obtain ⟨t, ht⟩ := kP0 (e := e) (order.take u) (order.drop u)
   rw [List.take_append_drop] at ht
   rw [hcm, ht]; simp
  have hCl := zcd9 (δ := δ) (cls := cls) (A := A) hlen
  have hBl := wcZ9 (acc := acc) hlen
  have hidC := fun p => kaP9 (δ := δ) (cls := cls) (A := A) (m := m) (F := firsts e (order.take u)) p
  have hidB : ∀ p, idsE p (kd0 (accM acc m (firsts e (order.take u)))) = true := fun p => zi0 _ _
  rcases Nat.lt_or_ge u order.length with hlt|hge
  ·have hgo := hgO u hlt
   have hso : order.getD u 0 ∈ order := qd0 hlt
   have hso2 : order[u] = order.getD u 0 := by rw [List.getD_eq_getElem?_getD, List.getElem?_eq_getElem hlt]; rfl
   have hnew := kcu9 (e := e) her order u hlt
   have hold := qcv9 (e := e) order u hlt
   rw [hso2, ← hclf _ hso] at hnew hold
   have hsn := hol _ hso
   have hgs := hgF _ hso
   have hcs := hcl _ hso
   have hdls := fun a => hdl _ a hsn
   have hnns := fun a => hnn0 _ a hsn
   have hrows := hrow _ hsn
   have e1s := e1 _ hsn
   have e2s := e2 (order.getD u 0) (by omega)
   generalize order.getD u 0 = s at *
   have hset := fun h => vcd9 (δ := δ) (cls := cls) (A := A) (m := m) (F := firsts e (order.take u)) h s
   have haset := fun h => kcZ9 (acc := acc) (m := m) (F := firsts e (order.take u)) h s
   have hcold := fun k h => xcd9 (δ := δ) (cls := cls) (A := A) (m := m) (F := firsts e (order.take u)) (k := k) h
   have hcnew := fun h => wcd9 (δ := δ) (cls := cls) (A := A) (m := m) (F := firsts e (order.take u)) h
   have hanew := fun h => vcZ9 (acc := acc) (m := m) (F := firsts e (order.take u)) h
   by_cases hex : ∃ y ∈ firsts e (order.take u), e y s = true
   ·obtain ⟨q1, q2, q3⟩ := hold hex
    rw [q1] at hgs
    have hck2 := hcold _ q2
    have hrl2 := vaP9 δ cls ((firsts e (order.take u)).getD (findX e (firsts e (order.take u)) s) 0) A
    unfold waj9 at hck2
    generalize kw0 δ cls ((firsts e (order.take u)).getD (findX e (firsts e (order.take u)) s) 0) A = rw0 at *
    obtain ⟨r0, r1, rfl⟩ : ∃ r0 r1, rw0 = r0 :: r1 := by
     cases rw0 with
     | nil => simp at hrl2; omega
     | cons r0 r1 => exact ⟨r0, r1, rfl⟩
    have hcons : ints (intN (r0 :: r1)) = [.int .i64 (r0 : Nat)] :: ints (intN r1) := rfl
    rw [hcons] at hck2
    have hqm : findX e (firsts e (order.take u)) s < m := by omega
    generalize hq0 : findX e (firsts e (order.take u)) s = q at *
    repeat' (first|(first|refine nav ?_|(refine g0_ ?_; first|refine wa0 (dr := allQ) (p := [0, 1, 1, 1, 1]) [(28, 1), (29, 28)] [(31, none), (33, none)] [(7, 8)] rfl rfl mixed (by kernel_rfl) ?_|refine wa0 (dr := allQ) (p := [0, 1, 1, 1, 1, 0, 0, 1, 1, 0, 0, 1, 0, 1, 1, 1, 1, 1]) [(60, 8), (61, 60)] [(65, none)] [] rfl rfl mixed (by kernel_rfl) ?_|refine goD ?_))|(with_reducible refine gG ?_ ?_)|((with_reducible refine And.intro (fun h => ?_) (fun h => ?_)) <;> try (exfalso; omega))|(with_reducible refine andG ?_)|fail|simp (disch := (first|exact za0|fail)) only [push_cast, simprocAttr, b1, b2, b5, b6, b8, b35, b36, b37, hOl, hgo, hFl, hgs, hCl, hck2, hsn, hqm])
    refine xa0 (order.length - (u + 1)) (by omega) (by first|exact xb0|fail) ⟨u + 1, by omega, rfl, by rw [q3], ?_⟩
    simp (disch := (first|exact za0|fail)) only [push_cast, simprocAttr, b1, b2, b5, b6, b8, b35, b36, b37, hOl, hgo, hFl, hgs, hCl, hck2, hsn, hqm]
   ·obtain ⟨q1, q2⟩ := hnew hex
    have hfm : (firsts e (order.take u)).length < m := by
     obtain ⟨t, ht⟩ := kP0 (e := e) (order.take (u + 1)) (order.drop (u + 1))
     rw [List.take_append_drop] at ht
     rw [hcm, ht, q2]; simp
    have hset := hset hfm
    have haset := haset hfm
    have hcnew := hcnew hfm
    have hanew := hanew hfm
    rw [q1] at hgs
    rw [← q2] at hset haset
    generalize hF1 : firsts e (order.take (u + 1)) = F1 at *
    generalize firsts e (order.take u) = F at *
    generalize hfl : F.length = f at *
    generalize hCM : qt0 δ cls A m F = CM at *
    generalize hBM : kd0 (accM acc m F) = BM at *
    generalize l.getD s ([], none) = r at *
    have hrl := ka0 r.1
    have e3 := kc0 r.1
    unfold lC at e1s
    have hz0 := vbL9 A
    have hzl := fun r h => wbL9 A r h
    have hzl0 := hzl [] (Nat.zero_le _)
    have hCg : ∀ X, (CM.set f X).getD f [] = X := fun X => by
     rw [List.getD_eq_getElem?_getD, List.getElem?_set_self (by omega)]; rfl
    have hCs : ∀ X Y, (CM.set f X).set f Y = CM.set f Y := fun X Y => List.set_set ..
    have hCl2 : ∀ X, (CM.set f X).length = m := fun X => by rw [List.length_set]; exact hCl
    have hBl2 : ∀ X, (BM.set f X).length = m := fun X => by rw [List.length_set]; exact hBl
    repeat' (first|(first|refine nav ?_|(refine g0_ ?_; first|refine wa0 (dr := allQ) (p := [0, 1, 1, 1, 1]) [(28, 1), (29, 28)] [(31, none), (33, none)] [(7, 8)] rfl rfl mixed (by kernel_rfl) ?_|refine wa0 (dr := allQ) (p := [0, 1, 1, 1, 1, 0, 0, 1, 1, 0, 0, 1, 0, 1, 1, 1, 1, 1]) [(60, 8), (61, 60)] [(65, none)] [] rfl rfl mixed (by kernel_rfl) ?_|refine goD ?_))|(with_reducible refine gG ?_ ?_)|((with_reducible refine And.intro (fun h => ?_) (fun h => ?_)) <;> try (exfalso; omega))|(with_reducible refine andG ?_)|fail|simp (disch := (first|exact za0|fail)) only [push_cast, simprocAttr, b1, b2, b5, b6, b8, b35, b36, b37, hOl, hgo, hFl, hgs, hCl, hcnew, hanew, hBl, hsn, hfm, hz0, hRl, hAl, e1s, e2s, hrl, hm, haset, hzl0])
    refine go_loop rfl (fun mz s' H' => ∃ a : Nat, a ≤ A ∧ mz = A - a ∧ H' = [.row 3 47 [[.int .i64 A, .sl 1 RN c, .sl 1 BA ca]], .row 3 47 [[.int .i64 0, .sl 0 [] (some 0), .sl 0 [] (some 0)]], .row 1 27 (CM.set f [.own 5 A A (some A)]), .row 1 4 (kd0 (accM acc m F1)), .row 3 47 [[.int .i64 A, .own 2 m m (some m), .own 3 m m (some m)]], .row 1 3 (rowZ A (kw0 δ cls s a))] ∧ s' 1 = .ptr 0 0 0 1 ∧ s' 2 = .ptr 1 0 0 1 ∧ s' 5 = .sl 1 OR none ∧ s' 6 = .sl 1 (intF cf n) (some n) ∧ s' 8 = .ptr 4 0 0 1 ∧ s' 11 = .int .i64 f ∧ s' 35 = .sl 1 OR none ∧ s' 36 = .int .i64 order.length ∧ s' 37 = .int .i64 u ∧ s' 71 = .sl 1 (ints r.1) r.2 ∧ s' 72 = .int .i64 A ∧ s' 73 = .int .i64 a) (m := A) (by first|exact xb0|fail) (Weak.refl _ _) ⟨0, by omega, by omega, rfl, ?_⟩ ?_
    ·simp (disch := (first|exact za0|fail)) only [push_cast, simprocAttr, b1, b2, b5, b6, b8, b35, b36, b37, hOl, hgo, hFl, hgs, hCl, hcnew, hanew, hBl, hsn, hfm, hz0, hRl, hAl, e1s, e2s, hrl, hm, haset, hzl0]
     rw [hrows]
    ·clear b1 b2 b5 b6 b8 b35 b36 b37
     rintro mz s' H' ⟨a, ha, rfl, rfl, b1, b2, b5, b6, b8, b11, b35, b36, b37, b71, b72, b73⟩
     have hwl := vaP9 δ cls s a
     have hzla := hzl (kw0 δ cls s a) (by omega)
     have hCga := hCg [.own 5 A A (some A)]
     have hCla := hCl2 [.own 5 A A (some A)]
     rcases Nat.lt_or_ge a A with hla|hga
     ·have e3a := e3 a (by omega)
      have hda := hdls a (by omega)
      have hna := hnns a hla
      have hto := hcs a hla
      rw [show r.1.getD a 0 = (δ s a : Nat) by omega] at e3a
      have hsu := qbA9 δ cls s a
      have hgt := hgF _ hto
      have hton := hol _ hto
      have hzs := kbL9 A (kw0 δ cls s a) (cls (δ s a)) (by omega)
      have hzg := qbM9 A (kw0 δ cls s a) (by omega)
      rw [hwl] at hzs hzg
      rw [← hsu] at hzs
      generalize δ s a = to at *
      repeat' (first|(first|refine nav ?_|(refine g0_ ?_; first|refine wa0 (dr := allQ) (p := [0, 1, 1, 1, 1]) [(28, 1), (29, 28)] [(31, none), (33, none)] [(7, 8)] rfl rfl mixed (by kernel_rfl) ?_|refine wa0 (dr := allQ) (p := [0, 1, 1, 1, 1, 0, 0, 1, 1, 0, 0, 1, 0, 1, 1, 1, 1, 1]) [(60, 8), (61, 60)] [(65, none)] [] rfl rfl mixed (by kernel_rfl) ?_|refine goD ?_))|(with_reducible refine gG ?_ ?_)|((with_reducible refine And.intro (fun h => ?_) (fun h => ?_)) <;> try (exfalso; omega))|(with_reducible refine andG ?_)|fail|simp (disch := (first|exact za0|fail)) only [push_cast, simprocAttr, b1, b2, b5, b6, b8, b11, b35, b36, b37, b71, b72, b73, e3a, hrl, hrows, hFl, hgt, hton, hCga, hCla, hzla, hzg, hzs, hfm])
      refine xa0 (A - (a + 1)) (by omega) (by first|exact xb0|fail) ⟨a + 1, by omega, rfl, rfl, ?_⟩
      simp (disch := (first|exact za0|fail)) only [push_cast, simprocAttr, b1, b2, b5, b6, b8, b11, b35, b36, b37, b71, b72, b73, e3a, hrl, hrows, hFl, hgt, hton, hCga, hCla, hzla, hzg, hzs, hfm]
     ·obtain rfl : A = a := by omega
      rw [qbn9 A _ hwl] at hzla ⊢
      have het : (ints (intN (kw0 δ cls s A))).take A = ints (intN (kw0 δ cls s A)) := List.take_of_length_le (by omega)
      have hidM : ∀ p, idsE p (ints (intN (kw0 δ cls s A))) = true := fun p => va0 _ _
      unfold waj9 at hset
      have hmfz : (CM.set f [AV.own 5 A A (some A)]).map (fun x => x.map (frz 5 1 (ints (intN (kw0 δ cls s A))))) = qt0 δ cls A m F1 := by
       rw [← hset, List.map_set]
       congr 1
       ·exact qk0 (hidC _)
       ·simp [frz, hzla, het]
      have hCM1 : (CM.set f [AV.own 5 A A (some A)]).length = m := hCla
      have hidC1 := fun p => kaP9 (δ := δ) (cls := cls) (A := A) (m := m) (F := F1) p
      have hidB1 : ∀ p, idsE p (kd0 (accM acc m F1)) = true := fun p => zi0 _ _
      repeat' (first|(first|refine nav ?_|(refine g0_ ?_; first|refine wa0 (dr := allQ) (p := [0, 1, 1, 1, 1]) [(28, 1), (29, 28)] [(31, none), (33, none)] [(7, 8)] rfl rfl mixed (by kernel_rfl) ?_|refine wa0 (dr := allQ) (p := [0, 1, 1, 1, 1, 0, 0, 1, 1, 0, 0, 1, 0, 1, 1, 1, 1, 1]) [(60, 8), (61, 60)] [(65, none)] [] rfl rfl mixed (by kernel_rfl) ?_|refine goD ?_))|(with_reducible refine gG ?_ ?_)|((with_reducible refine And.intro (fun h => ?_) (fun h => ?_)) <;> try (exfalso; omega))|(with_reducible refine andG ?_)|fail|simp (disch := (first|exact za0|fail)) only [push_cast, simprocAttr, b1, b2, b5, b6, b8, b11, b35, b36, b37, b71, b72, b73, hrl, hrows])
      refine ql0 (order.length - (u + 1)) 5 (j := 5) rfl (by omega) (by first|exact xb0|fail) (by omega) (by simp [frzH]) (by simp only [frzH, frzB, List.map_cons, List.map_nil, List.set_cons_succ, List.set_cons_zero, qf0, hmfz, List.take_succ_cons, List.take_zero, List.all_cons, List.all_nil, Blk.below]; simp [frz, idsE, idsL, AV.ids, qk0, hidR, hidA, hidC1, hidB1]) ⟨u + 1, by omega, rfl, ?_, ?_⟩
      ·simp only [frzH, frzB, List.map_cons, List.map_nil, List.set_cons_succ, List.set_cons_zero, qf0, hmfz, List.take_succ_cons, List.take_zero]
       simp [frz, qk0, hidR, hidA, hidB1, hF1]
      ·simp (disch := (first|exact za0|fail)) only [push_cast, simprocAttr, b1, b2, b5, b6, b8, b35, b36, b37, xi0, frz, AV.ids, idsL, hidO, hidF]
  ·obtain rfl : u = order.length := by omega
   rw [List.take_length] at hlen hCl hBl hidC hidB ⊢
   have hfull : (firsts e order).length = m := by omega
   rw [xbA9 hfull] at hCl hidC ⊢
   rw [kcC9 hfull] at hBl hidB ⊢
   have etC : (rowL (dRow A (kaA9 δ A cls (firsts e order)))).take m = rowL (dRow A (kaA9 δ A cls (firsts e order))) := List.take_of_length_le (by omega)
   have etB : (kd0 ((firsts e order).map acc)).take m = kd0 ((firsts e order).map acc) := List.take_of_length_le (by omega)
   repeat' (first|(first|refine nav ?_|(refine g0_ ?_; first|refine wa0 (dr := allQ) (p := [0, 1, 1, 1, 1]) [(28, 1), (29, 28)] [(31, none), (33, none)] [(7, 8)] rfl rfl mixed (by kernel_rfl) ?_|refine wa0 (dr := allQ) (p := [0, 1, 1, 1, 1, 0, 0, 1, 1, 0, 0, 1, 0, 1, 1, 1, 1, 1]) [(60, 8), (61, 60)] [(65, none)] [] rfl rfl mixed (by kernel_rfl) ?_|refine goD ?_))|(with_reducible refine gG ?_ ?_)|((with_reducible refine And.intro (fun h => ?_) (fun h => ?_)) <;> try (exfalso; omega))|(with_reducible refine andG ?_)|fail|simp (disch := (first|exact za0|fail)) only [push_cast, simprocAttr, b1, b2, b5, b6, b8, b35, b36, b37, hCl, hBl, etC, etB])
end Go.Proofs
namespace Go.Proofs
open Go Go.V
set_option linter.unusedVariables false
set_option linter.unusedSimpArgs false
set_option maxHeartbeats 0
set_option maxRecDepth 100000 in
theorem zcD9 (z : Nat) (l : List Int) (c : Option Nat) (hz : l = [] ∨ z = 1) (hl : l.length ≤ 1000000) : PC Tryz.prog G0 35 [.sl z (ints l) c] (.sl 1 (ints l) (if l = [] then some 0 else none)) := by
 cases l with
 | nil =>
  rw [if_pos rfl, vn0]
  refine vd0 1 8 [.tmp 2] Tryz.func35 rfl rfl rfl (by simp) ?_
  intro s ⟨a0, hz⟩
  clear hz
  repeat' (first|refine nav ?_|(refine g0_ ?_; refine goD ?_)|(with_reducible refine gG ?_ ?_)|((with_reducible refine And.intro (fun h => ?_) (fun h => ?_)) <;> try (exfalso; omega))|(with_reducible refine andG ?_)|fail|simp (disch := (first|exact za0|fail)) only [push_cast, simprocAttr, a0])
 | cons x l =>
  rw [if_neg (by simp)]
  obtain rfl := hz.resolve_left (by simp)
  have hc : ints (x :: l) = [.int .i64 x] :: ints l := rfl
  have hil := ka0 l
  have hll : l.length + 1 ≤ 1000000 := hl
  have hidl : ∀ p, idsE p (ints l) = true := fun p => va0 _ _
  rw [hc]
  refine vd0 1 8 [.tmp 2] Tryz.func35 rfl rfl rfl (by simp) ?_
  intro s ⟨a0, hz⟩
  clear hz
  repeat' (first|refine nav ?_|(refine g0_ ?_; refine goD ?_)|(with_reducible refine gG ?_ ?_)|((with_reducible refine And.intro (fun h => ?_) (fun h => ?_)) <;> try (exfalso; omega))|(with_reducible refine andG ?_)|fail|simp (disch := (first|exact za0|fail)) only [push_cast, simprocAttr, a0, hil])
  omega
theorem qaQ9 (z : Nat) (l : List Int) (H : List Blk) : qe0 Tryz.prog G0 34 [.sl 1 (ints l) (if l = [] then some 0 else none)] H (.sl 1 (ints l) (some l.length)) H := by
 have := xdi9 1 (ints l) (if l = [] then some 0 else none) H (.inr rfl) (fun p => va0 _ _)
 rw [ka0] at this
 exact this
end Go.Proofs
