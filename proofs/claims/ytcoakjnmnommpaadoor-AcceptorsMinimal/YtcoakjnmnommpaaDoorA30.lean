import Derived.Test.YtcoakjnmnommpaaDoorA29
namespace Go.Proofs
open Go Go.V
set_option linter.unusedVariables false
set_option linter.unusedSimpArgs false
set_option maxHeartbeats 0
theorem qbX9 {e : Nat → Nat → Bool} {l : List Nat} {x k : Nat} (hk : k < l.length) (h : e (l.getD k 0) x = true) (hm : ∀ j, j < k → e (l.getD j 0) x = false) : findX e l x = k := by
 unfold findX
 rw [List.findIdx_eq hk]
 rw [List.getD_eq_getElem?_getD, List.getElem?_eq_getElem hk] at h
 refine ⟨h, fun j hj => ?_⟩
 have := hm j hj
 rw [List.getD_eq_getElem?_getD, List.getElem?_eq_getElem (by omega)] at this
 exact this
theorem zcT9 {e : Nat → Nat → Bool} {l : List Nat} {x : Nat} (hm : ∀ j, j < l.length → e (l.getD j 0) x = false) : findX e l x = l.length := by
 unfold findX
 rw [List.findIdx_eq_length]
 intro y hy
 obtain ⟨j, hj, rfl⟩ := List.getElem_of_mem hy
 have := hm j hj
 rw [List.getD_eq_getElem?_getD, List.getElem?_eq_getElem hj] at this
 exact this
def vH0 (acc : Nat → Bool) (l : List Nat) (i : Nat) : List Bool := (l.take i).map acc
theorem qcw9 (acc : Nat → Bool) (l : List Nat) (i : Nat) (h : i ≤ l.length) : (vH0 acc l i).length = i := by simp [vH0]; omega
theorem xaA9 (acc : Nat → Bool) (l r : List Nat) (i : Nat) (h : i ≤ l.length) : vH0 acc (l ++ r) i = vH0 acc l i := by
 rw [vH0, List.take_append_of_le_length h, vH0]
theorem zbX9 (acc : Nat → Bool) (l : List Nat) (i : Nat) (h : i < l.length) : vH0 acc l (i + 1) = vH0 acc l i ++ [acc (l.getD i 0)] := km0 acc l 0 i h
theorem vdq9 (δ : Nat → Nat → Nat) (acc : Nat → Bool) (A n s : Nat) (hs : s < n) : (rowL (apL δ acc A n)).getD s [] = [.sl 1 (intF (fun t => b2i (!eqW δ acc A s t)) n) (some n)] := by
 rw [xg0 _ _ (by simp [apL]; exact hs)]
 simp [apL, hs, lC, intF]
theorem kdq9 (δ : Nat → Nat → Nat) (acc : Nat → Bool) (A n : Nat) : (rowL (apL δ acc A n)).length = n := by rw [wb0]; simp [apL]
noncomputable def minH (A : Nat) (l : List LC) (ac : List Bool) (N : Nat) : AV :=
 dA A 1 (xl0 (stX (dlt l) (eqW (dlt l) (fun s => ac.getD s false) A) A 0 N).2) none 1 ((stX (dlt l) (eqW (dlt l) (fun s => ac.getD s false) A) A 0 N).1.map fun s => ac.getD s false) none
set_option maxRecDepth 100000 in
theorem xcT9 (A : Nat) (l : List LC) (c : Option Nat) (ac : List Bool) (ca : Option Nat) (hok : OkDv A (wf0 l) ac.length) (N : Nat) (hN : (stX (dlt l) (eqW (dlt l) (fun s => ac.getD s false) A) A 0 N).1.length = N) :
  PC Tryd.prog G0 22 [dA A 1 l c 1 ac ca] (minH A l ac N) := by
 have hidR : ∀ p, idsE p (rowL l) = true := fun p => qc0 _ _
 have hidA : ∀ p, idsE p (vb0 ac) = true := fun p => zd0 _ _
 have hap := kbW9 A l c ac ca hok
 have hn := hok.n
 have hn1 := hok.n1
 have hA := hok.a2
 have hA1 := hok.a1
 have hm := hok.m
 rw [qd0] at hn hn1 hm
 have hRl := wb0 l
 have hAl := xc0 ac
 have e1 := xg0 l
 have e2 := vm0 ac
 have hdl := fun s a h ha => xaM9 (l := l) (s := s) (a := a) h ha
 have hdlt := fun s h a ha => vbk9 hok (s := s) (a := a) h ha
 have hnn0 := fun s a h ha => (hok.at (l := l) (s := s) (a := a) h ha).1
 have hrow := fun s h => hok.row (s := s) h
 have hB := kL0 hok (eqW (dlt l) (fun s => ac.getD s false) A) zH0
 have hlt0 := qaq9 hok (eqW (dlt l) (fun s => ac.getD s false) A)
 unfold minH
 generalize hacc : (fun s => ac.getD s false) = acc at *
 have hacs : ∀ s, ac.getD s false = acc s := fun s => by rw [← hacc]
 simp only [hacs] at e2
 clear hacc hacs
 generalize dlt l = δ at *
 have hag := vdq9 δ acc A l.length
 have hal := kdq9 δ acc A l.length
 have hidP : ∀ p, idsE p (rowL (apL δ acc A l.length)) = true := fun p => qc0 _ _
 generalize eqW δ acc A = e at *
 generalize rowL (apL δ acc A l.length) = AP at *
 unfold dA at *
 generalize rowL l = RN at *
 generalize vb0 ac = BA at *
 have hidI : ∀ S p, idsE p (ints (intN S)) = true := fun S p => qb0 _ _
 refine wd0 1 91 [.cell 2 36] Tryd.func22 rfl rfl rfl (by simp) ?_
 intro s ⟨a0, hz⟩
 clear hz
 repeat' (first|(refine g0_ ?_; with_reducible refine zbf9 [] (p := [0, 1, 1, 1]) rfl rfl ?_)|(refine a0_ ?_; refine vaw9 rfl ?_)|(first|(with_reducible refine wT0 (p := [0, 0, 1, 1, 1, 1]) ?_)|refine nav ?_|(refine g0_ ?_; first|refine goD ?_))|(with_reducible refine gG ?_ ?_)|((with_reducible refine And.intro (fun h => ?_) (fun h => ?_)) <;> try (exfalso; omega))|(with_reducible refine andG ?_)|(refine And.intro ⟨[_], rfl⟩ ?_)|(refine And.intro ⟨[], by simp only [List.append_nil]⟩ ?_)|(first|(refine ⟨_, _, pc_lift (hap) (by (simp [idsL, idsE, AV.ids, hidR, hidA, hidP, hidI])) _, ?_⟩)|(refine ⟨_, pc_lift (hap) (by (simp [idsL, idsE, AV.ids, hidR, hidA, hidP, hidI])) _, ?_⟩)|(refine ⟨_, fun _ => pc_lift (hap) (by (simp [idsL, idsE, AV.ids, hidR, hidA, hidP, hidI])) _, ?_⟩))|simp (disch := (first|exact discB|fail)) only [push_cast, ↓reduceIte, reduceCtorEq, Nat.reduceAdd, Nat.reduceLT, Nat.reduceEqDiff, Nat.reduceLeDiff, Int.reduceAdd, Int.reduceLT, Int.reduceLE, Nat.reduceMul, a0])
 refine Halt.mk ?_
 refine vq0 (by first|exact wa0|fail) (ve0 (b := 2) (i := 0) (j := 1) (sz := 1) (ty := 26) rfl rfl rfl) ?_
 refine vq0 (by trivial) (ve0 (b := 2) (i := 0) (j := 2) (sz := 1) (ty := 4) rfl rfl rfl) ?_
 repeat' (first|refine nav ?_|(refine g0_ ?_; refine goD ?_)|(with_reducible refine gG ?_ ?_)|((with_reducible refine And.intro (fun h => ?_) (fun h => ?_)) <;> try (exfalso; omega))|(with_reducible refine andG ?_)|(refine And.intro ⟨[_], rfl⟩ ?_)|(refine And.intro ⟨[], by simp only [List.append_nil]⟩ ?_)|fail|simp (disch := (first|exact discB|fail)) only [push_cast, ↓reduceIte, reduceCtorEq, Nat.reduceAdd, Nat.reduceLT, Nat.reduceEqDiff, Nat.reduceLeDiff, Int.reduceAdd, Int.reduceLT, Int.reduceLE, Nat.reduceMul, a0])
 refine go_loop rfl (fun mz s' H' => ∃ i : Nat, i ≤ (stX δ e A 0 i).1.length ∧ mz = 257 - i ∧ H' = [.row 3 36 [[.int .i64 A, .sl 1 RN c, .sl 1 BA ca]], .row 3 36 [[.int .i64 0, .sl 0 [] (some 0), .sl 0 [] (some 0)]], .row 3 36 [[.int .i64 A, .own 4 i i none, .own 5 i i none]], .row 1 3 (ints (intN (stX δ e A 0 i).1)), .row 1 26 (rowL (xl0 (stX δ e A 0 i).2)), .row 1 4 (vb0 (vH0 acc (stX δ e A 0 i).1 i))] ∧ s' 1 = .ptr 0 0 0 1 ∧ s' 2 = .ptr 1 0 0 1 ∧ s' 3 = .sl 1 AP none ∧ s' 4 = .ptr 2 0 0 1 ∧ s' 5 = .own 3 (stX δ e A 0 i).1.length (stX δ e A 0 i).1.length none ∧ s' 6 = .int .i64 i) (m := 257) (by first|exact wa0|fail) (Weak.refl _ _) ⟨0, by simp [stX], by omega, by rfl, ?_⟩ ?_
 ·simp (disch := (first|exact discB|fail)) only [push_cast, ↓reduceIte, reduceCtorEq, Nat.reduceAdd, Nat.reduceLT, Nat.reduceEqDiff, Nat.reduceLeDiff, Int.reduceAdd, Int.reduceLT, Int.reduceLE, Nat.reduceMul, a0]
  simp [stX]
 ·rintro mz s' H' ⟨i, hi, rfl, rfl, b1, b2, b3, b4, b5, b6⟩
  have hi256 := hB i
  have hB1 := hB (i + 1)
  have hrl := kv0 δ e A 0 i hi
  have hnx := qaW9 δ e A 0 0 i
  have hacc1 := zbX9 acc (stX δ e A 0 i).1 i
  have haccl := qcw9 acc (stX δ e A 0 i).1 i hi
  have hend : i = (stX δ e A 0 i).1.length → N = i := fun h => qaz9 0 hN h.symm
  have hlt0 := hlt0 i
  generalize hnxt : stX δ e A 0 (i + 1) = NX at *
  generalize hT : stX δ e A 0 i = T at *
  obtain ⟨L, D⟩ := T
  simp only at *
  have hSl : (ints (intN L)).length = L.length := by rw [za0, intN_len]
  have hSi := intN_len L
  have hDl : (rowL (xl0 D)).length = i := by rw [wb0, wE0, hrl]
  have hBl : (vb0 (vH0 acc L i)).length = i := by rw [xc0, haccl]
  have etD : (rowL (xl0 D)).take i = rowL (xl0 D) := List.take_of_length_le (by omega)
  have edD : (rowL (xl0 D)).drop (i + 1) = [] := List.drop_eq_nil_of_le (by omega)
  have etB : (vb0 (vH0 acc L i)).take i = vb0 (vH0 acc L i) := List.take_of_length_le (by omega)
  have edB : (vb0 (vH0 acc L i)).drop (i + 1) = [] := List.drop_eq_nil_of_le (by omega)
  have hidD : ∀ p, idsE p (rowL (xl0 D)) = true := fun p => qc0 _ _
  have hidB : ∀ p, idsE p (vb0 (vH0 acc L i)) = true := fun p => zd0 _ _
  rcases Nat.lt_or_ge i L.length with hlt|hge
  ·have hnx := hnx hlt
   have hacc1 := hacc1 hlt
   have hgL : (ints (intN L)).getD i [] = [.int .i64 (L.getD i 0 : Nat)] := by rw [wc0 _ _ (by rw [intN_len]; exact hlt), qB0 _ _ hlt]
   have hs := hlt0 _ (kd0 (d := 0) hlt)
   have hgrow : ∀ a, a ≤ A → (rowX δ e L (L.getD i 0) a).1.length ≤ 256 := fun a ha => by
    have hmono : ∀ d, (rowX δ e L (L.getD i 0) a).1.length ≤ (rowX δ e L (L.getD i 0) (a + d)).1.length := fun d => by
     induction d with
     | zero => exact Nat.le_refl _
     | succ d ih => exact Nat.le_trans ih (xap9 e _ _)
    have := hmono (A - a)
    rw [Nat.add_sub_cancel' ha] at this
    rw [hnx] at hB1
    simp only at hB1
    omega
   have hall := fun a ha => waa9 δ e A (P := fun t => t < l.length) L (L.getD i 0) hlt0 (fun b hb => hdlt _ hs b hb) a ha
   generalize hS0 : L.getD i 0 = s at *
   have e1s := e1 s hs
   have e2s := e2 s (by omega)
   have hrows := hrow s hs
   have hdls := fun a => hdl s a hs
   have hdlts := hdlt s hs
   have hnns := fun a => hnn0 s a hs
   generalize l.getD s ([], none) = r at *
   have hrl2 := za0 r.1
   have e3 := wc0 r.1
   unfold lC at e1s
   repeat' (first|refine nav ?_|(refine g0_ ?_; refine goD ?_)|(with_reducible refine gG ?_ ?_)|((with_reducible refine And.intro (fun h => ?_) (fun h => ?_)) <;> try (exfalso; omega))|(with_reducible refine andG ?_)|(refine And.intro ⟨[_], rfl⟩ ?_)|(refine And.intro ⟨[], by simp only [List.append_nil]⟩ ?_)|fail|simp (disch := (first|exact discB|fail)) only [push_cast, ↓reduceIte, reduceCtorEq, Nat.reduceAdd, Nat.reduceLT, Nat.reduceEqDiff, Nat.reduceLeDiff, Int.reduceAdd, Int.reduceLT, Int.reduceLE, Nat.reduceMul, b1, b2, b3, b4, b5, b6, hSl, hSi])
   refine go_loop rfl (fun mz s' H' => ∃ a : Nat, a ≤ A ∧ mz = A - a ∧ H' = [.row 3 36 [[.int .i64 A, .sl 1 RN c, .sl 1 BA ca]], .row 3 36 [[.int .i64 0, .sl 0 [] (some 0), .sl 0 [] (some 0)]], .row 3 36 [[.int .i64 A, .own 4 i i none, .own 5 i i none]], .row 1 3 (ints (intN (rowX δ e L s a).1)), .row 1 26 (rowL (xl0 D)), .row 1 4 (vb0 (vH0 acc (rowX δ e L s a).1 i)), .row 1 3 (ints (intN (rowX δ e L s a).2))] ∧ s' 1 = .ptr 0 0 0 1 ∧ s' 2 = .ptr 1 0 0 1 ∧ s' 3 = .sl 1 AP none ∧ s' 4 = .ptr 2 0 0 1 ∧ s' 5 = .own 3 (rowX δ e L s a).1.length (rowX δ e L s a).1.length none ∧ s' 6 = .int .i64 i ∧ s' 7 = .own 6 a a none ∧ s' 8 = .int .i64 a) (m := A) (by first|exact wa0|fail) (xv0 (t := 7) (sz := 1) (ty := 3) rfl) ⟨0, by omega, by omega, rfl, ?_⟩ ?_
   ·simp (disch := (first|exact discB|fail)) only [push_cast, ↓reduceIte, reduceCtorEq, Nat.reduceAdd, Nat.reduceLT, Nat.reduceEqDiff, Nat.reduceLeDiff, Int.reduceAdd, Int.reduceLT, Int.reduceLE, Nat.reduceMul, b1, b2, b3, b4, b5, b6, hSl, hSi]
    simp [rowX]
   ·rintro mz s' H' ⟨a, ha, rfl, rfl, b1, b2, b3, b4, b5, b6, b7, b8⟩
    have hpre := xA0 δ e L s a
    have hwl := zG0 δ e L s a
    have hsucc : rowX δ e L s (a + 1) = (addX e (rowX δ e L s a).1 (δ s a), (rowX δ e L s a).2 ++ [findX e (rowX δ e L s a).1 (δ s a)]) := rfl
    have hg1 := hgrow a ha
    have hgrow1 := fun h => hgrow (a + 1) h
    have halla := hall a ha
    have hfull : a = A → NX = ((rowX δ e L s a).1, D ++ [(rowX δ e L s a).2]) := fun h => by rw [hnx, h]
    generalize hW1 : rowX δ e L s (a + 1) = W1 at *
    generalize hW0 : rowX δ e L s a = W at *
    obtain ⟨M, rr⟩ := W
    simp only at *
    obtain ⟨E, rfl⟩ := hpre
    have hiM : i < (L ++ E).length := by simp; omega
    have hSM : (L ++ E).getD i 0 = s := by rw [List.getD_eq_getElem?_getD, List.getElem?_append_left hlt, ← List.getD_eq_getElem?_getD, hS0]
    have hgM : ∀ k, k < (L ++ E).length → (ints (intN (L ++ E))).getD k [] = [.int .i64 ((L ++ E).getD k 0 : Nat)] := fun k hk => by rw [wc0 _ _ (by rw [intN_len]; exact hk), qB0 _ _ hk]
    have hgMi := hgM i hiM
    rw [hSM] at hgMi
    have haccM := xaA9 acc L E i hi
    have haccS := xaA9 acc L E (i + 1) hlt
    have haccN := fun U => (xaA9 acc (L ++ E) U i (by simp; omega)).trans haccM
    have hMl : (ints (intN (L ++ E))).length = (L ++ E).length := by rw [za0, intN_len]
    have hMi := intN_len (L ++ E)
    have hil : (ints (intN rr)).length = a := by rw [za0, intN_len, hwl]
    have hin : (intN rr).length = a := by rw [intN_len, hwl]
    have etr : (ints (intN rr)).take a = ints (intN rr) := List.take_of_length_le (by omega)
    have edr : (ints (intN rr)).drop (a + 1) = [] := List.drop_eq_nil_of_le (by omega)
    generalize L ++ E = M at *
    rcases Nat.lt_or_ge a A with hla|hga
    ·have hgrow1 := hgrow1 hla
     have e3a := e3 a (by omega)
     have hda := hdls a (by omega)
     have hna := hnns a hla
     have hto := hdlts a hla
     rw [show r.1.getD a 0 = (δ s a : Nat) by omega] at e3a
     have hfind := fun k => qbX9 (e := e) (l := M) (x := δ s a) (k := k)
     have hnone := zcT9 (e := e) (l := M) (x := δ s a)
     have hadd : addX e M (δ s a) = if findX e M (δ s a) = M.length then M ++ [δ s a] else M := rfl
     have hsn := vk0 (intN M) ((δ s a : Nat) : Int)
     rw [← kk0] at hsn
     generalize δ s a = to at *
     repeat' (first|refine nav ?_|(refine g0_ ?_; refine goD ?_)|(with_reducible refine gG ?_ ?_)|((with_reducible refine And.intro (fun h => ?_) (fun h => ?_)) <;> try (exfalso; omega))|(with_reducible refine andG ?_)|(refine And.intro ⟨[_], rfl⟩ ?_)|(refine And.intro ⟨[], by simp only [List.append_nil]⟩ ?_)|fail|simp (disch := (first|exact discB|fail)) only [push_cast, ↓reduceIte, reduceCtorEq, Nat.reduceAdd, Nat.reduceLT, Nat.reduceEqDiff, Nat.reduceLeDiff, Int.reduceAdd, Int.reduceLT, Int.reduceLE, Nat.reduceMul, b1, b2, b3, b4, b5, b6, b7, b8, hMl, hMi, hgMi, haccM, hiM, hRl, e1s, e3a, hrl2, hrows])
     refine go_loop rfl (fun mz s' H' => ∃ q : Nat, q ≤ M.length ∧ mz = M.length - q ∧ H' = [.row 3 36 [[.int .i64 A, .sl 1 RN c, .sl 1 BA ca]], .row 3 36 [[.int .i64 0, .sl 0 [] (some 0), .sl 0 [] (some 0)]], .row 3 36 [[.int .i64 A, .own 4 i i none, .own 5 i i none]], .row 1 3 (ints (intN M)), .row 1 26 (rowL (xl0 D)), .row 1 4 (vb0 (vH0 acc L i)), .row 1 3 (ints (intN rr))] ∧ s' 1 = .ptr 0 0 0 1 ∧ s' 2 = .ptr 1 0 0 1 ∧ s' 3 = .sl 1 AP none ∧ s' 4 = .ptr 2 0 0 1 ∧ s' 5 = .own 3 M.length M.length none ∧ s' 6 = .int .i64 i ∧ s' 7 = .own 6 a a none ∧ s' 8 = .int .i64 a ∧ s' 9 = .int .i64 to ∧ s' 10 = .int .i64 q ∧ ∀ j, j < q → e (M.getD j 0) to = false) (m := M.length) (by first|exact wa0|fail) (Weak.refl _ _) ⟨0, by omega, by omega, by rfl, ?_⟩ ?_
     ·refine ⟨?_, ?_, ?_, ?_, ?_, ?_, ?_, ?_, ?_, ?_, fun j hj => by omega⟩
      all_goals simp (disch := (first|exact discB|fail)) only [push_cast, ↓reduceIte, reduceCtorEq, Nat.reduceAdd, Nat.reduceLT, Nat.reduceEqDiff, Nat.reduceLeDiff, Int.reduceAdd, Int.reduceLT, Int.reduceLE, Nat.reduceMul, b1, b2, b3, b4, b5, b6, b7, b8, hMl, hMi, hgMi, haccM, hiM, hRl, e1s, e3a, hrl2, hrows]
     ·clear b1 b2 b3 b4 b5 b6 b7 b8
      rintro mz s' H' ⟨q, hq, rfl, rfl, b1, b2, b3, b4, b5, b6, b7, b8, b9, b10, hno⟩
      rcases Nat.lt_or_ge q M.length with hlq|hgq
      ·have hgq := hgM q hlq
       have hfq := fun h => hfind q hlq h hno
       have hsnq := wV0 (P := fun j => e (M.getD j 0) to = false) (k := q) hno
       have hYn := halla _ (kd0 (d := 0) hlq)
       generalize M.getD q 0 = Y at *
       have hagY := hag Y hYn
       have hagt := wH0 (fun t => b2i (!e Y t)) l.length to hto
       have hagl := vad9 (fun t => b2i (!e Y t)) l.length
       cases hYt : e Y to with
       | true =>
        rw [hfq hYt, if_neg (by omega)] at hadd
        rw [hadd, hfq hYt] at hsucc
        rw [hYt, Bool.not_true, zaA9] at hagt
        have hsnr := vk0 (intN rr) (q : Int)
        rw [← kk0] at hsnr
        repeat' (first|refine nav ?_|(refine g0_ ?_; refine goD ?_)|(with_reducible refine gG ?_ ?_)|((with_reducible refine And.intro (fun h => ?_) (fun h => ?_)) <;> try (exfalso; omega))|(with_reducible refine andG ?_)|(refine And.intro ⟨[_], rfl⟩ ?_)|(refine And.intro ⟨[], by simp only [List.append_nil]⟩ ?_)|fail|simp (disch := (first|exact discB|fail)) only [push_cast, ↓reduceIte, reduceCtorEq, Nat.reduceAdd, Nat.reduceLT, Nat.reduceEqDiff, Nat.reduceLeDiff, Int.reduceAdd, Int.reduceLT, Int.reduceLE, Nat.reduceMul, b1, b2, b3, b4, b5, b6, b7, b8, b9, b10, hMl, hMi, hgq, hal, hagY, hagt, hagl, hil, hin, etr, edr])
        refine qa0 (A - (a + 1)) (by omega) (by first|exact wa0|fail) ⟨a + 1, by omega, rfl, by rw [hW1, hsucc]; simp [haccM, hsnr], ?_⟩
        rw [hW1, hsucc]
        simp (disch := (first|exact discB|fail)) only [push_cast, ↓reduceIte, reduceCtorEq, Nat.reduceAdd, Nat.reduceLT, Nat.reduceEqDiff, Nat.reduceLeDiff, Int.reduceAdd, Int.reduceLT, Int.reduceLE, Nat.reduceMul, b1, b2, b3, b4, b5, b6, b7, b8, b9, b10, hMl, hMi, hgq, hal, hagY, hagt, hagl, hil, hin, etr, edr]
       | false =>
        have hsnq := hsnq hYt
        rw [hYt, Bool.not_false, zaW9] at hagt
        repeat' (first|refine nav ?_|(refine g0_ ?_; refine goD ?_)|(with_reducible refine gG ?_ ?_)|((with_reducible refine And.intro (fun h => ?_) (fun h => ?_)) <;> try (exfalso; omega))|(with_reducible refine andG ?_)|(refine And.intro ⟨[_], rfl⟩ ?_)|(refine And.intro ⟨[], by simp only [List.append_nil]⟩ ?_)|fail|simp (disch := (first|exact discB|fail)) only [push_cast, ↓reduceIte, reduceCtorEq, Nat.reduceAdd, Nat.reduceLT, Nat.reduceEqDiff, Nat.reduceLeDiff, Int.reduceAdd, Int.reduceLT, Int.reduceLE, Nat.reduceMul, b1, b2, b3, b4, b5, b6, b7, b8, b9, b10, hMl, hMi, hgq, hal, hagY, hagt, hagl])
        refine qa0 (M.length - (q + 1)) (by omega) (by first|exact wa0|fail) ⟨q + 1, by omega, rfl, rfl, ?_, ?_, ?_, ?_, ?_, ?_, ?_, ?_, ?_, ?_, hsnq⟩
        all_goals simp (disch := (first|exact discB|fail)) only [push_cast, ↓reduceIte, reduceCtorEq, Nat.reduceAdd, Nat.reduceLT, Nat.reduceEqDiff, Nat.reduceLeDiff, Int.reduceAdd, Int.reduceLT, Int.reduceLE, Nat.reduceMul, b1, b2, b3, b4, b5, b6, b7, b8, b9, b10, hMl, hMi, hgq, hal, hagY, hagt, hagl]
      ·obtain rfl : q = M.length := by omega
       have hnone := hnone hno
       rw [hnone, if_pos rfl] at hadd
       rw [hadd, hnone] at hsucc
       rw [hsucc] at hgrow1
       have hgrow2 : M.length + 1 ≤ 256 := by simpa using hgrow1
       have hsnr := vk0 (intN rr) (M.length : Int)
       rw [← kk0] at hsnr
       have etM : (ints (intN M)).take M.length = ints (intN M) := List.take_of_length_le (by omega)
       have edM : (ints (intN M)).drop (M.length + 1) = [] := List.drop_eq_nil_of_le (by omega)
       have haccM1 := haccN [to]
       repeat' (first|refine nav ?_|(refine g0_ ?_; refine goD ?_)|(with_reducible refine gG ?_ ?_)|((with_reducible refine And.intro (fun h => ?_) (fun h => ?_)) <;> try (exfalso; omega))|(with_reducible refine andG ?_)|(refine And.intro ⟨[_], rfl⟩ ?_)|(refine And.intro ⟨[], by simp only [List.append_nil]⟩ ?_)|(first|(refine ⟨AV.str [], ?_⟩; refine qau9 ?_))|simp (disch := (first|exact discB|fail)) only [push_cast, ↓reduceIte, reduceCtorEq, Nat.reduceAdd, Nat.reduceLT, Nat.reduceEqDiff, Nat.reduceLeDiff, Int.reduceAdd, Int.reduceLT, Int.reduceLE, Nat.reduceMul, b1, b2, b3, b4, b5, b6, b7, b8, b9, b10, hMl, hMi, hil, hin, etr, edr, etM, edM, Nat.lt_irrefl, decide_false, decide_true])
       refine qa0 (A - (a + 1)) (by omega) (by first|exact wa0|fail) ⟨a + 1, by omega, rfl, by rw [hW1, hsucc]; simp [haccM1, hsnr, hsn], ?_⟩
       rw [hW1, hsucc]
       simp (disch := (first|exact discB|fail)) only [push_cast, ↓reduceIte, reduceCtorEq, Nat.reduceAdd, Nat.reduceLT, Nat.reduceEqDiff, Nat.reduceLeDiff, Int.reduceAdd, Int.reduceLT, Int.reduceLE, Nat.reduceMul, b1, b2, b3, b4, b5, b6, b7, b8, b9, b10, hMl, hMi, hil, hin, etr, edr, etM, edM, Nat.lt_irrefl, decide_false, decide_true]
    ·obtain rfl : A = a := by omega
     have hfull := hfull rfl
     have hsnB := wai9 (vH0 acc L i) (acc s)
     rw [← hacc1] at hsnB
     have hsnD := zaM9 D rr
     have hidr := hidI rr
     have het : (ints (intN rr)).take A = ints (intN rr) := List.take_of_length_le (by omega)
     repeat' (first|refine nav ?_|(refine g0_ ?_; refine goD ?_)|(with_reducible refine gG ?_ ?_)|((with_reducible refine And.intro (fun h => ?_) (fun h => ?_)) <;> try (exfalso; omega))|(with_reducible refine andG ?_)|(refine And.intro ⟨[_], rfl⟩ ?_)|(refine And.intro ⟨[], by simp only [List.append_nil]⟩ ?_)|fail|simp (disch := (first|exact discB|fail)) only [push_cast, ↓reduceIte, reduceCtorEq, Nat.reduceAdd, Nat.reduceLT, Nat.reduceEqDiff, Nat.reduceLeDiff, Int.reduceAdd, Int.reduceLT, Int.reduceLE, Nat.reduceMul, b1, b2, b3, b4, b5, b6, b7, b8, hMl, hMi, hgMi, haccM, hDl, etD, edD, hBl, etB, edB, hiM, hin, hil, e2s, hAl, hm])
     refine xh0 (257 - (i + 1)) 6 (j := 6) rfl (by omega) (by first|exact wa0|fail) (by omega) (by simp [frzH]) (by simp [frzH, frzB, frz, Blk.below, idsE, idsL, AV.ids, xi0, xe0, hidR, hidA, hidI, hidP, hidD, hidB, hidr, hil, het]) ⟨i + 1, ?_, rfl, ?_, ?_⟩
     ·rw [hnxt, hfull]; exact hiM
     ·rw [hnxt, hfull]
      simp only
      rw [haccS, ← hsnB, ← hsnD]
      simp [frzH, frzB, frz, xi0, hidR, hidA, hidI, hidP, hidD, hidB, hidr, hil, het, lC]
     ·rw [hnxt, hfull]
      simp (disch := (first|exact discB|fail)) only [push_cast, ↓reduceIte, reduceCtorEq, Nat.reduceAdd, Nat.reduceLT, Nat.reduceEqDiff, Nat.reduceLeDiff, Int.reduceAdd, Int.reduceLT, Int.reduceLE, Nat.reduceMul, b1, b2, b3, b4, b5, b6, scrub, frz, AV.ids, idsL, hidP]
  ·obtain rfl := hend (by omega)
   rw [hT]
   obtain rfl : N = L.length := by omega
   have haF : vH0 acc L L.length = L.map acc := by rw [vH0, List.take_length]
   rw [haF] at hBl etB hidB ⊢
   repeat' (first|refine nav ?_|(refine g0_ ?_; refine goD ?_)|(with_reducible refine gG ?_ ?_)|((with_reducible refine And.intro (fun h => ?_) (fun h => ?_)) <;> try (exfalso; omega))|(with_reducible refine andG ?_)|(refine And.intro ⟨[_], rfl⟩ ?_)|(refine And.intro ⟨[], by simp only [List.append_nil]⟩ ?_)|fail|simp (disch := (first|exact discB|fail)) only [push_cast, ↓reduceIte, reduceCtorEq, Nat.reduceAdd, Nat.reduceLT, Nat.reduceEqDiff, Nat.reduceLeDiff, Int.reduceAdd, Int.reduceLT, Int.reduceLE, Nat.reduceMul, b1, b2, b3, b4, b5, b6, hSl, hSi, hDl, hBl, etD, etB])
end Go.Proofs
