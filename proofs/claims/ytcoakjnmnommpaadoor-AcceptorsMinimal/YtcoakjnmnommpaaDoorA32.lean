import Derived.Test.YtcoakjnmnommpaaDoorA28
import Derived.Test.YtcoakjnmnommpaaDoorA30
import Derived.Test.YtcoakjnmnommpaaDoorV59
namespace Go.Proofs
open Go Go.V
set_option linter.unusedVariables false
set_option linter.unusedSimpArgs false
set_option maxHeartbeats 0
def vt0 (δ : Nat → Nat → Nat) (cls : Nat → Nat) (s a : Nat) : List Nat := (List.range a).map fun a => cls (δ s a)
theorem vbw9 (δ : Nat → Nat → Nat) (cls : Nat → Nat) (s a : Nat) : vt0 δ cls s (a + 1) = vt0 δ cls s a ++ [cls (δ s a)] := by simp [vt0, List.range_succ]
theorem kaM9 (δ : Nat → Nat → Nat) (cls : Nat → Nat) (s a : Nat) : (vt0 δ cls s a).length = a := by simp [vt0]
def vaj9 (A : Nat) (r : List Nat) : List AV := [.sl 1 (ints (intN r)) (some A)]
def qq0 (δ : Nat → Nat → Nat) (cls : Nat → Nat) (A m : Nat) (F : List Nat) : List (List AV) := (F.map fun s => vaj9 A (vt0 δ cls s A)) ++ List.replicate (m - F.length) [.lit (.slice none 0 0)]
section
variable {δ : Nat → Nat → Nat} {cls : Nat → Nat} {A m : Nat} {F : List Nat}
theorem xbX9 (h : F.length ≤ m) : (qq0 δ cls A m F).length = m := by simp [qq0]; omega
theorem wbX9 {k : Nat} (h : k < F.length) : (qq0 δ cls A m F).getD k [] = vaj9 A (vt0 δ cls (F.getD k 0) A) := by
 rw [qq0, List.getD_eq_getElem?_getD, List.getElem?_append_left (by simp; exact h)]
 simp [h]
theorem vbX9 (h : F.length < m) : (qq0 δ cls A m F).getD F.length [] = [.lit (.slice none 0 0)] := by
 rw [qq0, List.getD_eq_getElem?_getD, List.getElem?_append_right (by simp), List.length_map, Nat.sub_self]
 have e : m - F.length = (m - F.length - 1) + 1 := by omega
 rw [e, List.replicate_succ]; rfl
theorem kbX9 (h : F.length < m) (s : Nat) : (qq0 δ cls A m F).set F.length (vaj9 A (vt0 δ cls s A)) = qq0 δ cls A m (F ++ [s]) := by
 have e : m - F.length = (m - (F ++ [s]).length) + 1 := by simp; omega
 rw [qq0, e, List.replicate_succ, List.set_append_right _ _ (by simp), List.length_map, Nat.sub_self, List.set_cons_zero, qq0]
 simp
theorem qaN9 (p : Nat → Bool) : idsE p (qq0 δ cls A m F) = true := by
 rw [qq0, zaz9, vr0 _ _ fun x => by simp [vaj9, idsL, AV.ids, qb0], Bool.true_and]
 generalize m - F.length = k
 induction k with
 | zero => rfl
 | succ k ih => rw [List.replicate_succ, idsE, ih]; rfl
theorem kbw9 : List.replicate m [AV.lit (.slice none 0 0)] = qq0 δ cls A m [] := by simp [qq0]
theorem qbx9 (h : F.length = m) : qq0 δ cls A m F = rowL (dRow A (xu0 δ A cls F)) := by
 rw [qq0, h, Nat.sub_self, List.replicate_zero, List.append_nil, rowL, dRow, xu0, List.map_map, List.map_map]
 rfl
end
def accM (acc : Nat → Bool) (m : Nat) (F : List Nat) : List Bool := F.map acc ++ List.replicate (m - F.length) false
section
variable {acc : Nat → Bool} {m : Nat} {F : List Nat}
theorem wcT9 (h : F.length ≤ m) : (vb0 (accM acc m F)).length = m := by rw [xc0]; simp [accM]; omega
theorem vcT9 (h : F.length < m) : (vb0 (accM acc m F)).getD F.length [] = [.bool false] := by
 rw [vm0 _ _ (by simp [accM]; omega), accM, List.getD_eq_getElem?_getD, List.getElem?_append_right (by simp), List.length_map, Nat.sub_self]
 have e : m - F.length = (m - F.length - 1) + 1 := by omega
 rw [e, List.replicate_succ]; rfl
theorem kcT9 (h : F.length < m) (s : Nat) : (vb0 (accM acc m F)).set F.length [.bool (acc s)] = vb0 (accM acc m (F ++ [s])) := by
 have e : m - F.length = (m - (F ++ [s]).length) + 1 := by simp; omega
 rw [kco9, accM, e, List.replicate_succ, List.set_append_right _ _ (by simp), List.length_map, Nat.sub_self, List.set_cons_zero, accM]
 simp
theorem zcw9 : List.replicate m [AV.bool false] = vb0 (accM acc m []) := by simp [accM, qcp9]
theorem xcw9 (h : F.length = m) : accM acc m F = F.map acc := by rw [accM, h, Nat.sub_self]; simp
end
def minG (A : Nat) (l : List LC) (ac : List Bool) (order : List Nat) (K : Nat) : AV :=
 .tup [dA A 1 (dRow A (xu0 (dlt l) A (clK (dlt l) (fun s => ac.getD s false) A order (K + 2)) (firsts (we0 (dlt l) (fun s => ac.getD s false) A order (K + 1)) order))) (some (cntK (dlt l) (fun s => ac.getD s false) A order (K + 1))) 1 ((firsts (we0 (dlt l) (fun s => ac.getD s false) A order (K + 1)) order).map fun s => ac.getD s false) (some (cntK (dlt l) (fun s => ac.getD s false) A order (K + 1))), .int .i64 0]
set_option maxRecDepth 100000 in
theorem zbl9 (A : Nat) (l : List LC) (c : Option Nat) (ac : List Bool) (ca : Option Nat) (hok : OkDv A (wf0 l) ac.length) (hsz : SizeD 1 l 1 ac) (M : Nat) (hM : (stX (dlt l) eqX A 0 M).1.length = M) (K : Nat)
  (hK : cntK (dlt l) (fun s => ac.getD s false) A (stX (dlt l) eqX A 0 M).1 K = cntK (dlt l) (fun s => ac.getD s false) A (stX (dlt l) eqX A 0 M).1 (K + 1)) (hKl : ∀ j, j < K → cntK (dlt l) (fun s => ac.getD s false) A (stX (dlt l) eqX A 0 M).1 j < cntK (dlt l) (fun s => ac.getD s false) A (stX (dlt l) eqX A 0 M).1 (j + 1)) :
  PC Tryd.prog G0 21 [dA A 1 l c 1 ac ca] (minG A l ac (stX (dlt l) eqX A 0 M).1 K) := by
 have hck := hsz.check (sym := A) (c := c) (ca := ca)
 rw [vbh9 hok] at hck
 have hre := wcu9 A l c ac ca hok M hM
 have hcl := wA0 (δ := dlt l) (A := A) M hM
 have hol := qaq9 hok eqX M
 have hon := kL0 hok eqX xab9 M
 have h0 : (stX (dlt l) eqX A 0 M).1 ≠ [] := fun q => by
  have := zL0 (step := dlt l) (eqv := eqX) (A := A) 0 M
  rw [q] at this; cases this
 have hn := hok.n
 have hn1 := hok.n1
 have hA := hok.a2
 have hA1 := hok.a1
 have hm := hok.m
 rw [qd0] at hn hn1 hm
 unfold minG
 generalize (stX (dlt l) eqX A 0 M).1 = order at *
 have hrf := qcS9 A l c ac ca hok order none hcl hol (by omega) h0 K hK hKl
 have hRl := wb0 l
 have hAl := xc0 ac
 have hidR : ∀ p, idsE p (rowL l) = true := fun p => qc0 _ _
 have hidA : ∀ p, idsE p (vb0 ac) = true := fun p => zd0 _ _
 have hidO : ∀ p, idsE p (ints (intN order)) = true := fun p => qb0 _ _
 have e1 := xg0 l
 have e2 := vm0 ac
 have hdl := fun s a h ha => xaM9 (l := l) (s := s) (a := a) h ha
 have hnn0 := fun s a h ha => (hok.at (l := l) (s := s) (a := a) h ha).1
 have hrow := fun s h => hok.row (s := s) h
 have hgO : ∀ k, k < order.length → (ints (intN order)).getD k [] = [.int .i64 (order.getD k 0 : Nat)] := fun k hk => by rw [wc0 _ _ (by rw [intN_len]; exact hk), qB0 _ k hk]
 have hOl : (ints (intN order)).length = order.length := by rw [za0, intN_len]
 generalize hacc : (fun s => ac.getD s false) = acc at *
 have hacs : ∀ s, ac.getD s false = acc s := fun s => by rw [← hacc]
 simp only [hacs] at e2
 clear hacc hacs
 generalize dlt l = δ at *
 have hcm := xy0 (δ := δ) (acc := acc) (A := A) (order := order) (K + 1)
 have hcle := kaU9 (δ := δ) (acc := acc) (A := A) (order := order) (K + 1)
 have hcpos := qaV9 (δ := δ) (acc := acc) (A := A) (order := order) (K + 1) h0
 have hclf : ∀ s, s ∈ order → clK δ acc A order (K + 2) s = findX (we0 δ acc A order (K + 1)) (firsts (we0 δ acc A order (K + 1)) order) s := fun s _ => zab9 (K + 1) s
 have her : ∀ x, we0 δ acc A order (K + 1) x x = true := ql0 (K + 1)
 have hcfo : ∀ s, s ∈ order → clF δ acc A order (K + 2) s = (clK δ acc A order (K + 2) s : Nat) := fun s hs => by rw [clF, if_pos (.inr hs)]
 generalize clF δ acc A order (K + 2) = cf at *
 generalize clK δ acc A order (K + 2) = cls at *
 generalize we0 δ acc A order (K + 1) = e at *
 generalize hmm : cntK δ acc A order (K + 1) = m at *
 clear hKl hK
 have hidF : ∀ f p, idsE p (intF f l.length) = true := fun f p => kad9 _ _ _
 have hFl : ∀ f, (intF f l.length).length = l.length := fun f => vad9 _ _
 have hgF : ∀ s, s ∈ order → (intF cf l.length).getD s [] = [.int .i64 (cls s : Nat)] := fun s hs => by rw [wH0 _ _ _ (hol s hs), hcfo s hs]
 obtain ⟨n, hnl⟩ : ∃ n, n = l.length := ⟨_, rfl⟩
 simp only [← hnl] at *
 unfold dA at *
 generalize rowL l = RN at *
 generalize vb0 ac = BA at *
 generalize hOR : ints (intN order) = OR at *
 clear hOR
 refine wd0 1 92 [.cell 2 36, .tmp 3] Tryd.func21 rfl rfl rfl (by simp) ?_
 intro s ⟨a0, hz⟩
 clear hz
 repeat' (first|(first|(with_reducible refine wT0 (p := [0, 1, 1, 1, 1]) ?_)|refine nav ?_|(refine g0_ ?_; first|refine xa0 (dr := allQ) (p := [0, 1, 1, 1, 1]) [(28, 1), (29, 28)] [(31, none), (33, none)] [(7, 8)] rfl rfl mixed (by kernel_rfl) ?_|refine xa0 (dr := allQ) (p := [0, 1, 1, 1, 1, 0, 0, 1, 1, 0, 0, 1, 0, 1, 1, 1, 1, 1]) [(60, 8), (61, 60)] [(65, none)] [] rfl rfl mixed (by kernel_rfl) ?_|refine goD ?_))|(with_reducible refine gG ?_ ?_)|((with_reducible refine And.intro (fun h => ?_) (fun h => ?_)) <;> try (exfalso; omega))|(with_reducible refine andG ?_)|(refine And.intro ⟨[_], rfl⟩ ?_)|(refine And.intro ⟨[], by simp only [List.append_nil]⟩ ?_)|(first|(refine ⟨_, _, pc_lift (hck) (by (simp [idsL, idsE, AV.ids, hidR, hidA, hidO, hidF])) _, ?_⟩)|(refine ⟨_, pc_lift (hck) (by (simp [idsL, idsE, AV.ids, hidR, hidA, hidO, hidF])) _, ?_⟩)|(refine ⟨_, fun _ => pc_lift (hck) (by (simp [idsL, idsE, AV.ids, hidR, hidA, hidO, hidF])) _, ?_⟩)|(refine ⟨_, _, pc_lift (hre) (by (simp [idsL, idsE, AV.ids, hidR, hidA, hidO, hidF])) _, ?_⟩)|(refine ⟨_, pc_lift (hre) (by (simp [idsL, idsE, AV.ids, hidR, hidA, hidO, hidF])) _, ?_⟩)|(refine ⟨_, fun _ => pc_lift (hre) (by (simp [idsL, idsE, AV.ids, hidR, hidA, hidO, hidF])) _, ?_⟩)|(refine ⟨_, _, pc_lift (hrf) (by (simp [idsL, idsE, AV.ids, hidR, hidA, hidO, hidF])) _, ?_⟩)|(refine ⟨_, pc_lift (hrf) (by (simp [idsL, idsE, AV.ids, hidR, hidA, hidO, hidF])) _, ?_⟩)|(refine ⟨_, fun _ => pc_lift (hrf) (by (simp [idsL, idsE, AV.ids, hidR, hidA, hidO, hidF])) _, ?_⟩))|simp (disch := (first|exact discB|fail)) only [push_cast, ↓reduceIte, reduceCtorEq, Nat.reduceAdd, Nat.reduceLT, Nat.reduceEqDiff, Nat.reduceLeDiff, Int.reduceAdd, Int.reduceLT, Int.reduceLE, Nat.reduceMul, a0])
 refine Halt.mk ?_
 refine vq0 (by first|exact wa0|fail) (vaI9 1 26) ?_
 refine vq0 (by trivial) (vaI9 1 4) ?_
 refine xa0 (dr := atQ) (p := [0, 1, 1, 1, 1]) [(28, 1), (29, 28)] [(31, some 31), (33, some 33)] [(7, 8)] rfl rfl mixed (by kernel_rfl) ?_
 repeat' (first|(refine a0_ ?_; refine qbD9 (d := some 31) 2 rfl ?_)|(refine a0_ ?_; refine qbD9 (d := some 33) 3 rfl ?_)|(first|refine nav ?_|(refine g0_ ?_; first|refine xa0 (dr := allQ) (p := [0, 1, 1, 1, 1]) [(28, 1), (29, 28)] [(31, none), (33, none)] [(7, 8)] rfl rfl mixed (by kernel_rfl) ?_|refine xa0 (dr := allQ) (p := [0, 1, 1, 1, 1, 0, 0, 1, 1, 0, 0, 1, 0, 1, 1, 1, 1, 1]) [(60, 8), (61, 60)] [(65, none)] [] rfl rfl mixed (by kernel_rfl) ?_|refine goD ?_))|(with_reducible refine gG ?_ ?_)|((with_reducible refine And.intro (fun h => ?_) (fun h => ?_)) <;> try (exfalso; omega))|(with_reducible refine andG ?_)|(refine And.intro ⟨[_], rfl⟩ ?_)|(refine And.intro ⟨[], by simp only [List.append_nil]⟩ ?_)|fail|simp (disch := (first|exact discB|fail)) only [push_cast, ↓reduceIte, reduceCtorEq, Nat.reduceAdd, Nat.reduceLT, Nat.reduceEqDiff, Nat.reduceLeDiff, Int.reduceAdd, Int.reduceLT, Int.reduceLE, Nat.reduceMul, a0])
 refine go_loop rfl (fun mz s' H' => ∃ u : Nat, u ≤ order.length ∧ mz = order.length - u ∧ H' = [.row 3 36 [[.int .i64 A, .sl 1 RN c, .sl 1 BA ca]], .row 3 36 [[.int .i64 0, .sl 0 [] (some 0), .sl 0 [] (some 0)]], .row 1 26 (qq0 δ cls A m (firsts e (order.take u))), .row 1 4 (vb0 (accM acc m (firsts e (order.take u)))), .row 3 36 [[.int .i64 A, .own 2 m m (some m), .own 3 m m (some m)]]] ∧ s' 1 = .ptr 0 0 0 1 ∧ s' 2 = .ptr 1 0 0 1 ∧ s' 5 = .sl 1 OR none ∧ s' 6 = .sl 1 (intF cf n) (some n) ∧ s' 8 = .ptr 4 0 0 1 ∧ s' 35 = .sl 1 OR none ∧ s' 36 = .int .i64 order.length ∧ s' 37 = .int .i64 u) (m := order.length) (by first|exact wa0|fail) (Weak.refl _ _) ⟨0, by omega, by omega, by rw [kbw9 (δ := δ) (cls := cls) (A := A), zcw9 (acc := acc)]; rfl, ?_⟩ ?_
 ·simp (disch := (first|exact discB|fail)) only [push_cast, ↓reduceIte, reduceCtorEq, Nat.reduceAdd, Nat.reduceLT, Nat.reduceEqDiff, Nat.reduceLeDiff, Int.reduceAdd, Int.reduceLT, Int.reduceLE, Nat.reduceMul, a0]
  rw [hOl]
 ·rintro mz s' H' ⟨u, hu, rfl, rfl, b1, b2, b5, b6, b8, b35, b36, b37⟩
  have hlen : (firsts e (order.take u)).length ≤ m := by
   obtain ⟨t, ht⟩ := xO0 (e := e) (order.take u) (order.drop u)
   rw [List.take_append_drop] at ht
   rw [hcm, ht]; simp
  have hCl := xbX9 (δ := δ) (cls := cls) (A := A) hlen
  have hBl := wcT9 (acc := acc) hlen
  have hidC := fun p => qaN9 (δ := δ) (cls := cls) (A := A) (m := m) (F := firsts e (order.take u)) p
  have hidB : ∀ p, idsE p (vb0 (accM acc m (firsts e (order.take u)))) = true := fun p => zd0 _ _
  rcases Nat.lt_or_ge u order.length with hlt|hge
  ·have hgo := hgO u hlt
   have hso : order.getD u 0 ∈ order := kd0 hlt
   have hso2 : order[u] = order.getD u 0 := by rw [List.getD_eq_getElem?_getD, List.getElem?_eq_getElem hlt]; rfl
   have hnew := wco9 (e := e) her order u hlt
   have hold := vco9 (e := e) order u hlt
   rw [hso2, ← hclf _ hso] at hnew hold
   have hsn := hol _ hso
   have hgs := hgF _ hso
   have hcs := hcl _ hso
   have hdls := fun a => hdl _ a hsn
   have hnns := fun a => hnn0 _ a hsn
   have hrows := hrow _ hsn
   have e1s := e1 _ hsn
   have e2s := e2 (order.getD u 0) (by omega)
   generalize order.getD u 0 = s at *
   have hset := fun h => kbX9 (δ := δ) (cls := cls) (A := A) (m := m) (F := firsts e (order.take u)) h s
   have haset := fun h => kcT9 (acc := acc) (m := m) (F := firsts e (order.take u)) h s
   have hcold := fun k h => wbX9 (δ := δ) (cls := cls) (A := A) (m := m) (F := firsts e (order.take u)) (k := k) h
   have hcnew := fun h => vbX9 (δ := δ) (cls := cls) (A := A) (m := m) (F := firsts e (order.take u)) h
   have hanew := fun h => vcT9 (acc := acc) (m := m) (F := firsts e (order.take u)) h
   by_cases hex : ∃ y ∈ firsts e (order.take u), e y s = true
   ·obtain ⟨q1, q2, q3⟩ := hold hex
    rw [q1] at hgs
    have hck2 := hcold _ q2
    have hrl2 := kaM9 δ cls ((firsts e (order.take u)).getD (findX e (firsts e (order.take u)) s) 0) A
    unfold vaj9 at hck2
    generalize vt0 δ cls ((firsts e (order.take u)).getD (findX e (firsts e (order.take u)) s) 0) A = rw0 at *
    obtain ⟨r0, r1, rfl⟩ : ∃ r0 r1, rw0 = r0 :: r1 := by
     cases rw0 with
     | nil => simp at hrl2; omega
     | cons r0 r1 => exact ⟨r0, r1, rfl⟩
    have hcons : ints (intN (r0 :: r1)) = [.int .i64 (r0 : Nat)] :: ints (intN r1) := rfl
    rw [hcons] at hck2
    have hqm : findX e (firsts e (order.take u)) s < m := by omega
    generalize hq0 : findX e (firsts e (order.take u)) s = q at *
    repeat' (first|(first|refine nav ?_|(refine g0_ ?_; first|refine xa0 (dr := allQ) (p := [0, 1, 1, 1, 1]) [(28, 1), (29, 28)] [(31, none), (33, none)] [(7, 8)] rfl rfl mixed (by kernel_rfl) ?_|refine xa0 (dr := allQ) (p := [0, 1, 1, 1, 1, 0, 0, 1, 1, 0, 0, 1, 0, 1, 1, 1, 1, 1]) [(60, 8), (61, 60)] [(65, none)] [] rfl rfl mixed (by kernel_rfl) ?_|refine goD ?_))|(with_reducible refine gG ?_ ?_)|((with_reducible refine And.intro (fun h => ?_) (fun h => ?_)) <;> try (exfalso; omega))|(with_reducible refine andG ?_)|(refine And.intro ⟨[_], rfl⟩ ?_)|(refine And.intro ⟨[], by simp only [List.append_nil]⟩ ?_)|fail|simp (disch := (first|exact discB|fail)) only [push_cast, ↓reduceIte, reduceCtorEq, Nat.reduceAdd, Nat.reduceLT, Nat.reduceEqDiff, Nat.reduceLeDiff, Int.reduceAdd, Int.reduceLT, Int.reduceLE, Nat.reduceMul, b1, b2, b5, b6, b8, b35, b36, b37, hOl, hgo, hFl, hgs, hCl, hck2, hsn, hqm])
    refine qa0 (order.length - (u + 1)) (by omega) (by first|exact wa0|fail) ⟨u + 1, by omega, rfl, by rw [q3], ?_⟩
    simp (disch := (first|exact discB|fail)) only [push_cast, ↓reduceIte, reduceCtorEq, Nat.reduceAdd, Nat.reduceLT, Nat.reduceEqDiff, Nat.reduceLeDiff, Int.reduceAdd, Int.reduceLT, Int.reduceLE, Nat.reduceMul, b1, b2, b5, b6, b8, b35, b36, b37, hOl, hgo, hFl, hgs, hCl, hck2, hsn, hqm]
   ·obtain ⟨q1, q2⟩ := hnew hex
    have hfm : (firsts e (order.take u)).length < m := by
     obtain ⟨t, ht⟩ := xO0 (e := e) (order.take (u + 1)) (order.drop (u + 1))
     rw [List.take_append_drop] at ht
     rw [hcm, ht, q2]; simp
    have hset := hset hfm
    have haset := haset hfm
    have hcnew := hcnew hfm
    have hanew := hanew hfm
    rw [q1] at hgs
    rw [← q2] at hset haset
    generalize hF1 : firsts e (order.take (u + 1)) = F1 at *
    generalize firsts e (order.take u) = F at *
    generalize hfl : F.length = f at *
    generalize hCM : qq0 δ cls A m F = CM at *
    generalize hBM : vb0 (accM acc m F) = BM at *
    generalize l.getD s ([], none) = r at *
    have hrl := za0 r.1
    have e3 := wc0 r.1
    unfold lC at e1s
    have hz0 := zbH9 A
    have hzl := fun r h => qbH9 A r h
    have hzl0 := hzl [] (Nat.zero_le _)
    have hCg : ∀ X, (CM.set f X).getD f [] = X := fun X => by
     rw [List.getD_eq_getElem?_getD, List.getElem?_set_self (by omega)]; rfl
    have hCs : ∀ X Y, (CM.set f X).set f Y = CM.set f Y := fun X Y => List.set_set ..
    have hCl2 : ∀ X, (CM.set f X).length = m := fun X => by rw [List.length_set]; exact hCl
    have hBl2 : ∀ X, (BM.set f X).length = m := fun X => by rw [List.length_set]; exact hBl
    repeat' (first|(first|refine nav ?_|(refine g0_ ?_; first|refine xa0 (dr := allQ) (p := [0, 1, 1, 1, 1]) [(28, 1), (29, 28)] [(31, none), (33, none)] [(7, 8)] rfl rfl mixed (by kernel_rfl) ?_|refine xa0 (dr := allQ) (p := [0, 1, 1, 1, 1, 0, 0, 1, 1, 0, 0, 1, 0, 1, 1, 1, 1, 1]) [(60, 8), (61, 60)] [(65, none)] [] rfl rfl mixed (by kernel_rfl) ?_|refine goD ?_))|(with_reducible refine gG ?_ ?_)|((with_reducible refine And.intro (fun h => ?_) (fun h => ?_)) <;> try (exfalso; omega))|(with_reducible refine andG ?_)|(refine And.intro ⟨[_], rfl⟩ ?_)|(refine And.intro ⟨[], by simp only [List.append_nil]⟩ ?_)|fail|simp (disch := (first|exact discB|fail)) only [push_cast, ↓reduceIte, reduceCtorEq, Nat.reduceAdd, Nat.reduceLT, Nat.reduceEqDiff, Nat.reduceLeDiff, Int.reduceAdd, Int.reduceLT, Int.reduceLE, Nat.reduceMul, b1, b2, b5, b6, b8, b35, b36, b37, hOl, hgo, hFl, hgs, hCl, hcnew, hanew, hBl, hsn, hfm, hz0, hRl, hAl, e1s, e2s, hrl, hm, haset, hzl0])
    refine go_loop rfl (fun mz s' H' => ∃ a : Nat, a ≤ A ∧ mz = A - a ∧ H' = [.row 3 36 [[.int .i64 A, .sl 1 RN c, .sl 1 BA ca]], .row 3 36 [[.int .i64 0, .sl 0 [] (some 0), .sl 0 [] (some 0)]], .row 1 26 (CM.set f [.own 5 A A (some A)]), .row 1 4 (vb0 (accM acc m F1)), .row 3 36 [[.int .i64 A, .own 2 m m (some m), .own 3 m m (some m)]], .row 1 3 (rowZ A (vt0 δ cls s a))] ∧ s' 1 = .ptr 0 0 0 1 ∧ s' 2 = .ptr 1 0 0 1 ∧ s' 5 = .sl 1 OR none ∧ s' 6 = .sl 1 (intF cf n) (some n) ∧ s' 8 = .ptr 4 0 0 1 ∧ s' 11 = .int .i64 f ∧ s' 35 = .sl 1 OR none ∧ s' 36 = .int .i64 order.length ∧ s' 37 = .int .i64 u ∧ s' 71 = .sl 1 (ints r.1) r.2 ∧ s' 72 = .int .i64 A ∧ s' 73 = .int .i64 a) (m := A) (by first|exact wa0|fail) (Weak.refl _ _) ⟨0, by omega, by omega, rfl, ?_⟩ ?_
    ·simp (disch := (first|exact discB|fail)) only [push_cast, ↓reduceIte, reduceCtorEq, Nat.reduceAdd, Nat.reduceLT, Nat.reduceEqDiff, Nat.reduceLeDiff, Int.reduceAdd, Int.reduceLT, Int.reduceLE, Nat.reduceMul, b1, b2, b5, b6, b8, b35, b36, b37, hOl, hgo, hFl, hgs, hCl, hcnew, hanew, hBl, hsn, hfm, hz0, hRl, hAl, e1s, e2s, hrl, hm, haset, hzl0]
     rw [hrows]
    ·clear b1 b2 b5 b6 b8 b35 b36 b37
     rintro mz s' H' ⟨a, ha, rfl, rfl, b1, b2, b5, b6, b8, b11, b35, b36, b37, b71, b72, b73⟩
     have hwl := kaM9 δ cls s a
     have hzla := hzl (vt0 δ cls s a) (by omega)
     have hCga := hCg [.own 5 A A (some A)]
     have hCla := hCl2 [.own 5 A A (some A)]
     rcases Nat.lt_or_ge a A with hla|hga
     ·have e3a := e3 a (by omega)
      have hda := hdls a (by omega)
      have hna := hnns a hla
      have hto := hcs a hla
      rw [show r.1.getD a 0 = (δ s a : Nat) by omega] at e3a
      have hsu := vbw9 δ cls s a
      have hgt := hgF _ hto
      have hton := hol _ hto
      have hzs := xbH9 A (vt0 δ cls s a) (cls (δ s a)) (by omega)
      have hzg := wbH9 A (vt0 δ cls s a) (by omega)
      rw [hwl] at hzs hzg
      rw [← hsu] at hzs
      generalize δ s a = to at *
      repeat' (first|(first|refine nav ?_|(refine g0_ ?_; first|refine xa0 (dr := allQ) (p := [0, 1, 1, 1, 1]) [(28, 1), (29, 28)] [(31, none), (33, none)] [(7, 8)] rfl rfl mixed (by kernel_rfl) ?_|refine xa0 (dr := allQ) (p := [0, 1, 1, 1, 1, 0, 0, 1, 1, 0, 0, 1, 0, 1, 1, 1, 1, 1]) [(60, 8), (61, 60)] [(65, none)] [] rfl rfl mixed (by kernel_rfl) ?_|refine goD ?_))|(with_reducible refine gG ?_ ?_)|((with_reducible refine And.intro (fun h => ?_) (fun h => ?_)) <;> try (exfalso; omega))|(with_reducible refine andG ?_)|(refine And.intro ⟨[_], rfl⟩ ?_)|(refine And.intro ⟨[], by simp only [List.append_nil]⟩ ?_)|fail|simp (disch := (first|exact discB|fail)) only [push_cast, ↓reduceIte, reduceCtorEq, Nat.reduceAdd, Nat.reduceLT, Nat.reduceEqDiff, Nat.reduceLeDiff, Int.reduceAdd, Int.reduceLT, Int.reduceLE, Nat.reduceMul, b1, b2, b5, b6, b8, b11, b35, b36, b37, b71, b72, b73, e3a, hrl, hrows, hFl, hgt, hton, hCga, hCla, hzla, hzg, hzs, hfm])
      refine qa0 (A - (a + 1)) (by omega) (by first|exact wa0|fail) ⟨a + 1, by omega, rfl, rfl, ?_⟩
      simp (disch := (first|exact discB|fail)) only [push_cast, ↓reduceIte, reduceCtorEq, Nat.reduceAdd, Nat.reduceLT, Nat.reduceEqDiff, Nat.reduceLeDiff, Int.reduceAdd, Int.reduceLT, Int.reduceLE, Nat.reduceMul, b1, b2, b5, b6, b8, b11, b35, b36, b37, b71, b72, b73, e3a, hrl, hrows, hFl, hgt, hton, hCga, hCla, hzla, hzg, hzs, hfm]
     ·obtain rfl : A = a := by omega
      rw [zbk9 A _ hwl] at hzla ⊢
      have het : (ints (intN (vt0 δ cls s A))).take A = ints (intN (vt0 δ cls s A)) := List.take_of_length_le (by omega)
      have hidM : ∀ p, idsE p (ints (intN (vt0 δ cls s A))) = true := fun p => qb0 _ _
      unfold vaj9 at hset
      have hmfz : (CM.set f [AV.own 5 A A (some A)]).map (fun x => x.map (frz 5 1 (ints (intN (vt0 δ cls s A))))) = qq0 δ cls A m F1 := by
       rw [← hset, List.map_set]
       congr 1
       ·exact xi0 (hidC _)
       ·simp [frz, hzla, het]
      have hCM1 : (CM.set f [AV.own 5 A A (some A)]).length = m := hCla
      have hidC1 := fun p => qaN9 (δ := δ) (cls := cls) (A := A) (m := m) (F := F1) p
      have hidB1 : ∀ p, idsE p (vb0 (accM acc m F1)) = true := fun p => zd0 _ _
      repeat' (first|(first|refine nav ?_|(refine g0_ ?_; first|refine xa0 (dr := allQ) (p := [0, 1, 1, 1, 1]) [(28, 1), (29, 28)] [(31, none), (33, none)] [(7, 8)] rfl rfl mixed (by kernel_rfl) ?_|refine xa0 (dr := allQ) (p := [0, 1, 1, 1, 1, 0, 0, 1, 1, 0, 0, 1, 0, 1, 1, 1, 1, 1]) [(60, 8), (61, 60)] [(65, none)] [] rfl rfl mixed (by kernel_rfl) ?_|refine goD ?_))|(with_reducible refine gG ?_ ?_)|((with_reducible refine And.intro (fun h => ?_) (fun h => ?_)) <;> try (exfalso; omega))|(with_reducible refine andG ?_)|(refine And.intro ⟨[_], rfl⟩ ?_)|(refine And.intro ⟨[], by simp only [List.append_nil]⟩ ?_)|fail|simp (disch := (first|exact discB|fail)) only [push_cast, ↓reduceIte, reduceCtorEq, Nat.reduceAdd, Nat.reduceLT, Nat.reduceEqDiff, Nat.reduceLeDiff, Int.reduceAdd, Int.reduceLT, Int.reduceLE, Nat.reduceMul, b1, b2, b5, b6, b8, b11, b35, b36, b37, b71, b72, b73, hrl, hrows])
      refine xh0 (order.length - (u + 1)) 5 (j := 5) rfl (by omega) (by first|exact wa0|fail) (by omega) (by simp [frzH]) (by simp only [frzH, frzB, List.map_cons, List.map_nil, List.set_cons_succ, List.set_cons_zero, xe0, hmfz, List.take_succ_cons, List.take_zero, List.all_cons, List.all_nil, Blk.below]; simp [frz, idsE, idsL, AV.ids, xi0, hidR, hidA, hidC1, hidB1]) ⟨u + 1, by omega, rfl, ?_, ?_⟩
      ·simp only [frzH, frzB, List.map_cons, List.map_nil, List.set_cons_succ, List.set_cons_zero, xe0, hmfz, List.take_succ_cons, List.take_zero]
       simp [frz, xi0, hidR, hidA, hidB1, hF1]
      ·simp (disch := (first|exact discB|fail)) only [push_cast, ↓reduceIte, reduceCtorEq, Nat.reduceAdd, Nat.reduceLT, Nat.reduceEqDiff, Nat.reduceLeDiff, Int.reduceAdd, Int.reduceLT, Int.reduceLE, Nat.reduceMul, b1, b2, b5, b6, b8, b35, b36, b37, scrub, frz, AV.ids, idsL, hidO, hidF]
  ·obtain rfl : u = order.length := by omega
   rw [List.take_length] at hlen hCl hBl hidC hidB ⊢
   have hfull : (firsts e order).length = m := by omega
   rw [qbx9 hfull] at hCl hidC ⊢
   rw [xcw9 hfull] at hBl hidB ⊢
   have etC : (rowL (dRow A (xu0 δ A cls (firsts e order)))).take m = rowL (dRow A (xu0 δ A cls (firsts e order))) := List.take_of_length_le (by omega)
   have etB : (vb0 ((firsts e order).map acc)).take m = vb0 ((firsts e order).map acc) := List.take_of_length_le (by omega)
   repeat' (first|(first|refine nav ?_|(refine g0_ ?_; first|refine xa0 (dr := allQ) (p := [0, 1, 1, 1, 1]) [(28, 1), (29, 28)] [(31, none), (33, none)] [(7, 8)] rfl rfl mixed (by kernel_rfl) ?_|refine xa0 (dr := allQ) (p := [0, 1, 1, 1, 1, 0, 0, 1, 1, 0, 0, 1, 0, 1, 1, 1, 1, 1]) [(60, 8), (61, 60)] [(65, none)] [] rfl rfl mixed (by kernel_rfl) ?_|refine goD ?_))|(with_reducible refine gG ?_ ?_)|((with_reducible refine And.intro (fun h => ?_) (fun h => ?_)) <;> try (exfalso; omega))|(with_reducible refine andG ?_)|(refine And.intro ⟨[_], rfl⟩ ?_)|(refine And.intro ⟨[], by simp only [List.append_nil]⟩ ?_)|fail|simp (disch := (first|exact discB|fail)) only [push_cast, ↓reduceIte, reduceCtorEq, Nat.reduceAdd, Nat.reduceLT, Nat.reduceEqDiff, Nat.reduceLeDiff, Int.reduceAdd, Int.reduceLT, Int.reduceLE, Nat.reduceMul, b1, b2, b5, b6, b8, b35, b36, b37, hCl, hBl, etC, etB])
end Go.Proofs
namespace Go.Proofs
open Go Go.V
set_option linter.unusedVariables false
set_option linter.unusedSimpArgs false
set_option maxHeartbeats 0
set_option maxRecDepth 100000 in
theorem wcw9 (z : Nat) (l : List Int) (c : Option Nat) (hz : l = [] ∨ z = 1) (hl : l.length ≤ 1000000) : PC Tryd.prog G0 58 [.sl z (ints l) c] (.sl 1 (ints l) (if l = [] then some 0 else none)) := by
 cases l with
 | nil =>
  rw [if_pos rfl, ints_nil]
  refine wd0 1 8 [.tmp 2] Tryd.func58 rfl rfl rfl (by simp) ?_
  intro s ⟨a0, hz⟩
  clear hz
  repeat' (first|refine nav ?_|(refine g0_ ?_; refine goD ?_)|(with_reducible refine gG ?_ ?_)|((with_reducible refine And.intro (fun h => ?_) (fun h => ?_)) <;> try (exfalso; omega))|(with_reducible refine andG ?_)|(refine And.intro ⟨[_], rfl⟩ ?_)|(refine And.intro ⟨[], by simp only [List.append_nil]⟩ ?_)|fail|simp (disch := (first|exact discB|fail)) only [push_cast, ↓reduceIte, reduceCtorEq, Nat.reduceAdd, Nat.reduceLT, Nat.reduceEqDiff, Nat.reduceLeDiff, Int.reduceAdd, Int.reduceLT, Int.reduceLE, Nat.reduceMul, a0])
 | cons x l =>
  rw [if_neg (by simp)]
  obtain rfl := hz.resolve_left (by simp)
  have hc : ints (x :: l) = [.int .i64 x] :: ints l := rfl
  have hil := za0 l
  have hll : l.length + 1 ≤ 1000000 := hl
  have hidl : ∀ p, idsE p (ints l) = true := fun p => qb0 _ _
  rw [hc]
  refine wd0 1 8 [.tmp 2] Tryd.func58 rfl rfl rfl (by simp) ?_
  intro s ⟨a0, hz⟩
  clear hz
  repeat' (first|refine nav ?_|(refine g0_ ?_; refine goD ?_)|(with_reducible refine gG ?_ ?_)|((with_reducible refine And.intro (fun h => ?_) (fun h => ?_)) <;> try (exfalso; omega))|(with_reducible refine andG ?_)|(refine And.intro ⟨[_], rfl⟩ ?_)|(refine And.intro ⟨[], by simp only [List.append_nil]⟩ ?_)|fail|simp (disch := (first|exact discB|fail)) only [push_cast, ↓reduceIte, reduceCtorEq, Nat.reduceAdd, Nat.reduceLT, Nat.reduceEqDiff, Nat.reduceLeDiff, Int.reduceAdd, Int.reduceLT, Int.reduceLE, Nat.reduceMul, a0, hil])
  omega
theorem zaN9 (z : Nat) (l : List Int) (H : List Blk) : ze0 Tryd.prog G0 53 [.sl 1 (ints l) (if l = [] then some 0 else none)] H (.sl 1 (ints l) (some l.length)) H := by
 have := vdE9 1 (ints l) (if l = [] then some 0 else none) H (.inr rfl) (fun p => qb0 _ _)
 rw [za0] at this
 exact this
end Go.Proofs
