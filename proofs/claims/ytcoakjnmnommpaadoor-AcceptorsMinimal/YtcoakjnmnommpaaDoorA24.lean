import Derived.Test.YtcoakjnmnommpaaDoorA23
import Derived.Test.YtcoakjnmnommpaaDoorAR3
namespace Go.Proofs
open Go Go.V
set_option linter.unusedVariables false
set_option linter.unusedSimpArgs false
set_option maxHeartbeats 0
theorem FiltF.len {n : Nat} {S : List Nat} (h : FiltF n S) : S.length ≤ n := by
 obtain ⟨p, rfl⟩ := h
 have := List.length_filter_le p (List.range n)
 rwa [List.length_range] at this
theorem wcQ9 {S T : List Nat} : intN S = intN T ↔ S = T := ⟨fun h => by rw [← zad9 S, h, zad9], fun h => by rw [h]⟩
theorem wct9 {l : List (List Nat)} {x : List Nat} {k : Nat} (hk : k < l.length) (h : l.getD k [] = x) (hm : ∀ j, j < k → ¬ l.getD j [] = x) : findX eqL l x = k := by
 unfold findX
 rw [List.findIdx_eq hk]
 rw [List.getD_eq_getElem?_getD, List.getElem?_eq_getElem hk] at h
 refine ⟨by simp [eqL]; exact h, fun j hj => ?_⟩
 have := hm j hj
 rw [List.getD_eq_getElem?_getD, List.getElem?_eq_getElem (by omega)] at this
 simp [eqL]; exact this
theorem kdp9 {l : List (List Nat)} {x : List Nat} (hm : ∀ j, j < l.length → ¬ l.getD j [] = x) : findX eqL l x = l.length := by
 unfold findX
 rw [List.findIdx_eq_length]
 intro y hy
 obtain ⟨j, hj, rfl⟩ := List.getElem_of_mem hy
 have := hm j hj
 rw [List.getD_eq_getElem?_getD, List.getElem?_eq_getElem hj] at this
 simp [eqL]; exact this
def zn0 (l : List (List Nat)) : List LC := l.map fun S => (intN S, none)
theorem qaA9 (l : List (List Nat)) : (rowL (zn0 l)).length = l.length := by rw [wb0]; simp [zn0]
theorem vV0 (l : List (List Nat)) (k : Nat) (h : k < l.length) : (rowL (zn0 l)).getD k [] = [.sl 1 (ints (intN (l.getD k []))) none] := by
 rw [xg0 _ _ (by simp [zn0]; exact h)]
 simp [zn0, h, lC]
theorem wbk9 (l : List (List Nat)) (S : List Nat) : rowL (zn0 l) ++ [[.sl 1 (ints (intN S)) none]] = rowL (zn0 (l ++ [S])) := by simp [zn0, rowL, lC]
def xl0 (l : List (List Nat)) : List LC := l.map fun r => (intN r, none)
theorem wE0 (l : List (List Nat)) : (xl0 l).length = l.length := by simp [xl0]
theorem zaM9 (l : List (List Nat)) (r : List Nat) : rowL (xl0 l) ++ [lC (intN r, none)] = rowL (xl0 (l ++ [r])) := by rw [wac9]; simp [xl0]
def anyF (F S : List Nat) (k : Nat) : Bool := (S.take k).any fun s => F.contains s
theorem vct9 (F S : List Nat) (k : Nat) (h : k < S.length) : anyF F S (k + 1) = (anyF F S k || F.contains (S.getD k 0)) := by
 rw [anyF, vg0 S 0 k h, List.any_append, ← anyF]; simp
def detH (A : Nat) (x : Nf) (N : Nat) : AV := dA A 1 (xl0 (detR x A N)) none 1 (detA x A N) none
set_option maxRecDepth 100000 in
theorem vcQ9 (A : Nat) (zr : Nat) (l : List RC) (c : Option Nat) (st : List Int) (za : Nat) (ac : List Int) (ca : Option Nat) (hsz : SizeN zr l 1 st za ac) (hok : OkNv A (rowsV l) st ac) (N : Nat)
  (hN : (detS (nfOf (rowsV l) st ac) A N).length = N) (hB : ∀ i, (detS (nfOf (rowsV l) st ac) A i).length ≤ 256) :
  PC Tryd.prog G0 13 [nA A zr l c 1 st none za ac ca] (detH A (nfOf (rowsV l) st ac) N) := by
 have hstep := fun (S : List Nat) hS hSl a ha zf cf hzf => xbV9 (c := c) (zs := 1) (cs := none) (za := za) (ca := ca) hsz.zl hok (fun s a hs ha => hsz.bi s a hs (by rw [hok.row hs]; exact ha)) (zf := zf) (S := S) (cf := cf) hzf hS hSl (a := a) ha
 have hhas := fun n => xdD9 za ac ca n hsz.zac hsz.bac
 have hnat := fun n => xcP9 (fun x hx => (zh0 hok.ac x hx).1) n
 have hF : natL ac = (nfOf (rowsV l) st ac).F := rfl
 rw [hF] at hnat
 have hS0 : natL st = (nfOf (rowsV l) st ac).S := rfl
 have hst0 : ints st = ints (intN (natL st)) := by rw [wbj9 (fun x hx => (zh0 hok.st x hx).1)]
 rw [hS0] at hst0
 have hNn : (nfOf (rowsV l) st ac).n = l.length := kb0 l
 have hidR : ∀ p, idsE p (kc0 l) = true := fun p => ke0 _ _
 have hidA : ∀ p, idsE p (ints ac) = true := fun p => qb0 _ _
 have hA1 := hok.a1
 have hA2 := hok.a2
 have hx0 : SrchS (nfOf (rowsV l) st ac).n A (stepN (nfOf (rowsV l) st ac)) (nfOf (rowsV l) st ac).S := ⟨hok.n, (qaj9 hok).1, fun S a => zay9 _ S a⟩
 have hacc0 : ∀ S, accN (nfOf (rowsV l) st ac) S = anyF (nfOf (rowsV l) st ac).F S S.length := fun S => by rw [anyF, List.take_length]; rfl
 unfold detS at hN hB
 unfold nA at *
 rw [hst0] at hstep ⊢
 unfold detH detR detA detS
 clear hF hS0 hst0
 generalize nfOf (rowsV l) st ac = X at *
 generalize X.S = x0 at *
 rw [hNn] at hx0
 have hn256 := hx0.n256
 generalize X.F = F at *
 generalize stepN X = step at *
 generalize accN X = acc at *
 clear hNn hok hsz
 generalize kc0 l = RN at *
 generalize hn0 : l.length = n at *
 have hidI : ∀ S p, idsE p (ints (intN S)) = true := fun S p => qb0 _ _
 have hidX := hidI x0
 generalize ints ac = IA at *
 refine wd0 1 100 [.cell 2 36] Tryd.func13 rfl rfl rfl (by simp) ?_
 intro s ⟨a0, hz⟩
 clear hz
 repeat' (first|(refine g0_ ?_; with_reducible refine zbf9 [] (p := [0, 1]) rfl rfl ?_)|(refine a0_ ?_; refine vaw9 rfl ?_)|(first|(with_reducible refine wT0 (p := [0, 0, 1, 1, 1]) ?_)|refine nav ?_|(refine g0_ ?_; first|refine goD ?_))|(with_reducible refine gG ?_ ?_)|((with_reducible refine And.intro (fun h => ?_) (fun h => ?_)) <;> try (exfalso; omega))|(with_reducible refine andG ?_)|(refine And.intro ⟨[_], rfl⟩ ?_)|(refine And.intro ⟨[], by simp only [List.append_nil]⟩ ?_)|fail|simp (disch := (first|exact discB|fail)) only [push_cast, ↓reduceIte, reduceCtorEq, Nat.reduceAdd, Nat.reduceLT, Nat.reduceEqDiff, Nat.reduceLeDiff, Int.reduceAdd, Int.reduceLT, Int.reduceLE, Nat.reduceMul, a0])
 refine Halt.mk ?_
 refine vq0 (by first|exact wa0|fail) (ve0 (b := 3) (i := 0) (j := 1) (sz := 1) (ty := 26) rfl rfl rfl) ?_
 refine vq0 (by trivial) (ve0 (b := 3) (i := 0) (j := 2) (sz := 1) (ty := 4) rfl rfl rfl) ?_
 repeat' (first|refine nav ?_|(refine g0_ ?_; refine goD ?_)|(with_reducible refine gG ?_ ?_)|((with_reducible refine And.intro (fun h => ?_) (fun h => ?_)) <;> try (exfalso; omega))|(with_reducible refine andG ?_)|(refine And.intro ⟨[_], rfl⟩ ?_)|(refine And.intro ⟨[], by simp only [List.append_nil]⟩ ?_)|fail|simp (disch := (first|exact discB|fail)) only [push_cast, ↓reduceIte, reduceCtorEq, Nat.reduceAdd, Nat.reduceLT, Nat.reduceEqDiff, Nat.reduceLeDiff, Int.reduceAdd, Int.reduceLT, Int.reduceLE, Nat.reduceMul, a0])
 refine go_loop rfl (fun mz s' H' => ∃ i : Nat, i ≤ (stX step eqL A x0 i).1.length ∧ mz = 257 - i ∧ H' = [.row 4 28 [[.int .i64 A, .sl zr RN c, .sl 1 (ints (intN x0)) none, .sl za IA ca]], .row 3 36 [[.int .i64 0, .sl 0 [] (some 0), .sl 0 [] (some 0)]], .row 1 26 (rowL (zn0 (stX step eqL A x0 i).1)), .row 3 36 [[.int .i64 A, .own 4 i i none, .own 5 i i none]], .row 1 26 (rowL (xl0 (stX step eqL A x0 i).2)), .row 1 4 (vb0 (zo0 acc (stX step eqL A x0 i).1 i))] ∧ s' 1 = .ptr 0 0 0 1 ∧ s' 2 = .ptr 1 0 0 1 ∧ s' 3 = .own 2 (stX step eqL A x0 i).1.length (stX step eqL A x0 i).1.length none ∧ s' 4 = .ptr 3 0 0 1 ∧ s' 5 = .int .i64 i) (m := 257) (by first|exact wa0|fail) (Weak.refl _ _) ⟨0, by simp [stX], by omega, by rfl, ?_⟩ ?_
 ·simp (disch := (first|exact discB|fail)) only [push_cast, ↓reduceIte, reduceCtorEq, Nat.reduceAdd, Nat.reduceLT, Nat.reduceEqDiff, Nat.reduceLeDiff, Int.reduceAdd, Int.reduceLT, Int.reduceLE, Nat.reduceMul, a0]
  simp [stX]
 ·rintro mz s' H' ⟨i, hi, rfl, rfl, b1, b2, b3, b4, b5⟩
  have hi256 := hB i
  have hB1 := hB (i + 1)
  have hrl := kv0 step eqL A x0 i hi
  have hf := hx0.st i
  have hfr := fun S a (ha : a ≤ A) => hx0.row i a S ha
  have hnx := qaW9 step eqL A x0 [] i
  have hacc1 := qaM9 acc (stX step eqL A x0 i).1 i
  have haccl := xbk9 acc (stX step eqL A x0 i).1 i hi
  have hend : i = (stX step eqL A x0 i).1.length → N = i := fun h => qaz9 x0 hN h.symm
  have hgrow : ∀ a, a ≤ A → i < (stX step eqL A x0 i).1.length → (rowX step eqL (stX step eqL A x0 i).1 ((stX step eqL A x0 i).1.getD i []) a).1.length ≤ 256 := fun a ha hlt => by
   rw [hnx hlt] at hB1
   have : ∀ d, (rowX step eqL (stX step eqL A x0 i).1 ((stX step eqL A x0 i).1.getD i []) a).1.length ≤ (rowX step eqL (stX step eqL A x0 i).1 ((stX step eqL A x0 i).1.getD i []) (a + d)).1.length := fun d => by
    induction d with
    | zero => exact Nat.le_refl _
    | succ d ih => exact Nat.le_trans ih (xap9 eqL _ _)
   have := this (A - a)
   rw [Nat.add_sub_cancel' ha] at this
   exact Nat.le_trans this hB1
  clear hB1
  generalize hnxt : stX step eqL A x0 (i + 1) = NX at *
  generalize hT : stX step eqL A x0 i = T at *
  obtain ⟨L, D⟩ := T
  simp only at *
  have hSl := qaA9 L
  have hDl : (rowL (xl0 D)).length = i := by rw [wb0, wE0, hrl]
  have hBl : (vb0 (zo0 acc L i)).length = i := by rw [xc0, haccl]
  have etD : (rowL (xl0 D)).take i = rowL (xl0 D) := List.take_of_length_le (by omega)
  have edD : (rowL (xl0 D)).drop (i + 1) = [] := List.drop_eq_nil_of_le (by omega)
  have etB : (vb0 (zo0 acc L i)).take i = vb0 (zo0 acc L i) := List.take_of_length_le (by omega)
  have edB : (vb0 (zo0 acc L i)).drop (i + 1) = [] := List.drop_eq_nil_of_le (by omega)
  have hidD : ∀ p, idsE p (rowL (xl0 D)) = true := fun p => qc0 _ _
  have hidB : ∀ p, idsE p (vb0 (zo0 acc L i)) = true := fun p => zd0 _ _
  have hidRS : ∀ M p, idsE p (rowL (zn0 M)) = true := fun M p => qc0 _ _
  rcases Nat.lt_or_ge i L.length with hlt|hge
  ·have hnx := hnx hlt
   have hacc1 := hacc1 hlt
   have hgS := vV0 L i hlt
   have hSf : FiltF n (L.getD i []) := hf _ (kd0 hlt)
   have hfr := hfr (L.getD i [])
   have hSlen := hSf.len
   have hstep := fun a ha => hstep (L.getD i []) (fun s hs => hSf.lt hs) (by omega) a ha 1 none (.inr rfl)
   have hgrow := fun a ha => hgrow a ha hlt
   generalize hS0 : L.getD i [] = S at *
   repeat' (first|refine nav ?_|(refine g0_ ?_; refine goD ?_)|(with_reducible refine gG ?_ ?_)|((with_reducible refine And.intro (fun h => ?_) (fun h => ?_)) <;> try (exfalso; omega))|(with_reducible refine andG ?_)|(refine And.intro ⟨[_], rfl⟩ ?_)|(refine And.intro ⟨[], by simp only [List.append_nil]⟩ ?_)|fail|simp (disch := (first|exact discB|fail)) only [push_cast, ↓reduceIte, reduceCtorEq, Nat.reduceAdd, Nat.reduceLT, Nat.reduceEqDiff, Nat.reduceLeDiff, Int.reduceAdd, Int.reduceLT, Int.reduceLE, Nat.reduceMul, b1, b2, b3, b4, b5, hSl])
   refine go_loop rfl (fun mz s' H' => ∃ a : Nat, a ≤ A ∧ mz = A - a ∧ H' = [.row 4 28 [[.int .i64 A, .sl zr RN c, .sl 1 (ints (intN x0)) none, .sl za IA ca]], .row 3 36 [[.int .i64 0, .sl 0 [] (some 0), .sl 0 [] (some 0)]], .row 1 26 (rowL (zn0 (rowX step eqL L S a).1)), .row 3 36 [[.int .i64 A, .own 4 i i none, .own 5 i i none]], .row 1 26 (rowL (xl0 D)), .row 1 4 (vb0 (zo0 acc (rowX step eqL L S a).1 i)), .row 1 3 (ints (intN (rowX step eqL L S a).2))] ∧ s' 1 = .ptr 0 0 0 1 ∧ s' 2 = .ptr 1 0 0 1 ∧ s' 3 = .own 2 (rowX step eqL L S a).1.length (rowX step eqL L S a).1.length none ∧ s' 4 = .ptr 3 0 0 1 ∧ s' 5 = .int .i64 i ∧ s' 6 = .own 6 a a none ∧ s' 7 = .int .i64 a) (m := A) (by first|exact wa0|fail) (xv0 (t := 6) (sz := 1) (ty := 3) rfl) ⟨0, by omega, by omega, rfl, ?_⟩ ?_
   ·simp (disch := (first|exact discB|fail)) only [push_cast, ↓reduceIte, reduceCtorEq, Nat.reduceAdd, Nat.reduceLT, Nat.reduceEqDiff, Nat.reduceLeDiff, Int.reduceAdd, Int.reduceLT, Int.reduceLE, Nat.reduceMul, b1, b2, b3, b4, b5, hSl]
    simp [rowX]
   ·rintro mz s' H' ⟨a, ha, rfl, rfl, b1, b2, b3, b4, b5, b6, b7⟩
    have hfw := hfr a ha
    have hpre := xA0 step eqL L S a
    have hwl := zG0 step eqL L S a
    have hsucc : rowX step eqL L S (a + 1) = (addX eqL (rowX step eqL L S a).1 (step S a), (rowX step eqL L S a).2 ++ [findX eqL (rowX step eqL L S a).1 (step S a)]) := rfl
    have hg1 := hgrow a ha
    have hgrow1 := fun h => hgrow (a + 1) h
    have hfull : a = A → NX = ((rowX step eqL L S a).1, D ++ [(rowX step eqL L S a).2]) := fun h => by rw [hnx, h]
    generalize hW1 : rowX step eqL L S (a + 1) = W1 at *
    generalize hW0 : rowX step eqL L S a = W at *
    obtain ⟨M, r⟩ := W
    simp only at *
    obtain ⟨E, rfl⟩ := hpre
    have hiM : i < (L ++ E).length := by simp; omega
    have hgM := vV0 (L ++ E) i hiM
    have hSM : (L ++ E).getD i [] = S := by rw [List.getD_eq_getElem?_getD, List.getElem?_append_left hlt, ← List.getD_eq_getElem?_getD, hS0]
    rw [hSM] at hgM
    have haccM := xE0 acc L E i hi
    have haccS := xE0 acc L E (i + 1) hlt
    have haccN := fun U => (xE0 acc (L ++ E) U i (by simp; omega)).trans haccM
    have hSl := qaA9 (L ++ E)
    have hget := vV0 (L ++ E)
    have hil : (ints (intN r)).length = a := by rw [za0, intN_len, hwl]
    have hin : (intN r).length = a := by rw [intN_len, hwl]
    have etr : (ints (intN r)).take a = ints (intN r) := List.take_of_length_le (by omega)
    have edr : (ints (intN r)).drop (a + 1) = [] := List.drop_eq_nil_of_le (by omega)
    generalize L ++ E = M at *
    rcases Nat.lt_or_ge a A with hla|hga
    ·have hgrow1 := hgrow1 hla
     have hst := hstep a hla
     have hfT := (hx0.fs S a).len
     have hfind := fun k => wct9 (l := M) (x := step S a) (k := k)
     have hnone := kdp9 (l := M) (x := step S a)
     have hadd : addX eqL M (step S a) = if findX eqL M (step S a) = M.length then M ++ [step S a] else M := rfl
     have hsn := wbk9 M (step S a)
     have hsame := fun j (hj : j < M.length) => zbj9 1 (intN (M.getD j [])) none 1 (intN (step S a)) none (.inr rfl) (.inr rfl) (by rw [intN_len]; have := (hfw _ (kd0 (d := []) hj)).len; omega) (by rw [intN_len]; omega)
     simp only [wcQ9] at hsame
     generalize step S a = to at *
     repeat' (first|refine nav ?_|(refine g0_ ?_; refine goD ?_)|(with_reducible refine gG ?_ ?_)|((with_reducible refine And.intro (fun h => ?_) (fun h => ?_)) <;> try (exfalso; omega))|(with_reducible refine andG ?_)|(refine And.intro ⟨[_], rfl⟩ ?_)|(refine And.intro ⟨[], by simp only [List.append_nil]⟩ ?_)|(first|(refine ⟨_, _, pc_lift (hst) (by (simp [idsL, idsE, AV.ids, hidR, hidA, hidI, hidX, hidRS, hidD, hidB])) _, ?_⟩)|(refine ⟨_, pc_lift (hst) (by (simp [idsL, idsE, AV.ids, hidR, hidA, hidI, hidX, hidRS, hidD, hidB])) _, ?_⟩)|(refine ⟨_, fun _ => pc_lift (hst) (by (simp [idsL, idsE, AV.ids, hidR, hidA, hidI, hidX, hidRS, hidD, hidB])) _, ?_⟩))|simp (disch := (first|exact discB|fail)) only [push_cast, ↓reduceIte, reduceCtorEq, Nat.reduceAdd, Nat.reduceLT, Nat.reduceEqDiff, Nat.reduceLeDiff, Int.reduceAdd, Int.reduceLT, Int.reduceLE, Nat.reduceMul, b1, b2, b3, b4, b5, b6, b7, hSl, hgM, haccM, hiM])
     refine go_loop rfl (fun mz s' H' => ∃ q : Nat, q ≤ M.length ∧ mz = M.length - q ∧ H' = [.row 4 28 [[.int .i64 A, .sl zr RN c, .sl 1 (ints (intN x0)) none, .sl za IA ca]], .row 3 36 [[.int .i64 0, .sl 0 [] (some 0), .sl 0 [] (some 0)]], .row 1 26 (rowL (zn0 M)), .row 3 36 [[.int .i64 A, .own 4 i i none, .own 5 i i none]], .row 1 26 (rowL (xl0 D)), .row 1 4 (vb0 (zo0 acc L i)), .row 1 3 (ints (intN r))] ∧ s' 1 = .ptr 0 0 0 1 ∧ s' 2 = .ptr 1 0 0 1 ∧ s' 3 = .own 2 M.length M.length none ∧ s' 4 = .ptr 3 0 0 1 ∧ s' 5 = .int .i64 i ∧ s' 6 = .own 6 a a none ∧ s' 7 = .int .i64 a ∧ s' 8 = .sl 1 (ints (intN to)) none ∧ s' 9 = .int .i64 q ∧ ∀ j, j < q → ¬ M.getD j [] = to) (m := M.length) (by first|exact wa0|fail) (Weak.refl _ _) ⟨0, by omega, by omega, by rfl, ?_⟩ ?_
     ·refine ⟨?_, ?_, ?_, ?_, ?_, ?_, ?_, ?_, ?_, fun j hj => by omega⟩
      all_goals simp (disch := (first|exact discB|fail)) only [push_cast, ↓reduceIte, reduceCtorEq, Nat.reduceAdd, Nat.reduceLT, Nat.reduceEqDiff, Nat.reduceLeDiff, Int.reduceAdd, Int.reduceLT, Int.reduceLE, Nat.reduceMul, b1, b2, b3, b4, b5, b6, b7, hSl, hgM, haccM, hiM]
     ·rintro mz s' H' ⟨q, hq, rfl, rfl, b1, b2, b3, b4, b5, b6, b7, b8, b9, hno⟩
      rcases Nat.lt_or_ge q M.length with hlq|hgq
      ·have hsm := hsame q hlq
       have hgq := hget q hlq
       have hfq := fun h => hfind q hlq h hno
       have hsnq := wV0 (P := fun j => ¬ M.getD j [] = to) (k := q) hno
       generalize M.getD q [] = Y at *
       by_cases hYt : Y = to
       ·rw [if_pos hYt] at hsm
        rw [hfq hYt, if_neg (by omega)] at hadd
        rw [hadd, hfq hYt] at hsucc
        have hsnr := vk0 (intN r) (q : Int)
        rw [← kk0] at hsnr
        repeat' (first|refine nav ?_|(refine g0_ ?_; refine goD ?_)|(with_reducible refine gG ?_ ?_)|((with_reducible refine And.intro (fun h => ?_) (fun h => ?_)) <;> try (exfalso; omega))|(with_reducible refine andG ?_)|(refine And.intro ⟨[_], rfl⟩ ?_)|(refine And.intro ⟨[], by simp only [List.append_nil]⟩ ?_)|(first|(refine ⟨_, _, pc_lift (hsm) (by (simp [idsL, idsE, AV.ids, hidR, hidA, hidI, hidX, hidRS, hidD, hidB])) _, ?_⟩)|(refine ⟨_, pc_lift (hsm) (by (simp [idsL, idsE, AV.ids, hidR, hidA, hidI, hidX, hidRS, hidD, hidB])) _, ?_⟩)|(refine ⟨_, fun _ => pc_lift (hsm) (by (simp [idsL, idsE, AV.ids, hidR, hidA, hidI, hidX, hidRS, hidD, hidB])) _, ?_⟩))|simp (disch := (first|exact discB|fail)) only [push_cast, ↓reduceIte, reduceCtorEq, Nat.reduceAdd, Nat.reduceLT, Nat.reduceEqDiff, Nat.reduceLeDiff, Int.reduceAdd, Int.reduceLT, Int.reduceLE, Nat.reduceMul, b1, b2, b3, b4, b5, b6, b7, b8, b9, hSl, hgq, hil, hin, etr, edr])
        refine qa0 (A - (a + 1)) (by omega) (by first|exact wa0|fail) ⟨a + 1, by omega, rfl, by rw [hW1, hsucc]; simp [haccM, hsnr], ?_⟩
        rw [hW1, hsucc]
        simp (disch := (first|exact discB|fail)) only [push_cast, ↓reduceIte, reduceCtorEq, Nat.reduceAdd, Nat.reduceLT, Nat.reduceEqDiff, Nat.reduceLeDiff, Int.reduceAdd, Int.reduceLT, Int.reduceLE, Nat.reduceMul, b1, b2, b3, b4, b5, b6, b7, b8, b9, hSl, hgq, hil, hin, etr, edr]
       ·rw [if_neg hYt] at hsm
        have hsnq := hsnq hYt
        repeat' (first|refine nav ?_|(refine g0_ ?_; refine goD ?_)|(with_reducible refine gG ?_ ?_)|((with_reducible refine And.intro (fun h => ?_) (fun h => ?_)) <;> try (exfalso; omega))|(with_reducible refine andG ?_)|(refine And.intro ⟨[_], rfl⟩ ?_)|(refine And.intro ⟨[], by simp only [List.append_nil]⟩ ?_)|(first|(refine ⟨_, _, pc_lift (hsm) (by (simp [idsL, idsE, AV.ids, hidR, hidA, hidI, hidX, hidRS, hidD, hidB])) _, ?_⟩)|(refine ⟨_, pc_lift (hsm) (by (simp [idsL, idsE, AV.ids, hidR, hidA, hidI, hidX, hidRS, hidD, hidB])) _, ?_⟩)|(refine ⟨_, fun _ => pc_lift (hsm) (by (simp [idsL, idsE, AV.ids, hidR, hidA, hidI, hidX, hidRS, hidD, hidB])) _, ?_⟩))|simp (disch := (first|exact discB|fail)) only [push_cast, ↓reduceIte, reduceCtorEq, Nat.reduceAdd, Nat.reduceLT, Nat.reduceEqDiff, Nat.reduceLeDiff, Int.reduceAdd, Int.reduceLT, Int.reduceLE, Nat.reduceMul, b1, b2, b3, b4, b5, b6, b7, b8, b9, hSl, hgq])
        refine qa0 (M.length - (q + 1)) (by omega) (by first|exact wa0|fail) ⟨q + 1, by omega, rfl, rfl, ?_, ?_, ?_, ?_, ?_, ?_, ?_, ?_, ?_, hsnq⟩
        all_goals simp (disch := (first|exact discB|fail)) only [push_cast, ↓reduceIte, reduceCtorEq, Nat.reduceAdd, Nat.reduceLT, Nat.reduceEqDiff, Nat.reduceLeDiff, Int.reduceAdd, Int.reduceLT, Int.reduceLE, Nat.reduceMul, b1, b2, b3, b4, b5, b6, b7, b8, b9, hSl, hgq]
      ·obtain rfl : q = M.length := by omega
       have hnone := hnone hno
       rw [hnone, if_pos rfl] at hadd
       rw [hadd, hnone] at hsucc
       rw [hsucc] at hgrow1
       have hgrow2 : M.length + 1 ≤ 256 := by simpa using hgrow1
       have hsnr := vk0 (intN r) (M.length : Int)
       rw [← kk0] at hsnr
       have etM : (rowL (zn0 M)).take M.length = rowL (zn0 M) := List.take_of_length_le (by omega)
       have edM : (rowL (zn0 M)).drop (M.length + 1) = [] := List.drop_eq_nil_of_le (by omega)
       have haccM1 := haccN [to]
       repeat' (first|refine nav ?_|(refine g0_ ?_; refine goD ?_)|(with_reducible refine gG ?_ ?_)|((with_reducible refine And.intro (fun h => ?_) (fun h => ?_)) <;> try (exfalso; omega))|(with_reducible refine andG ?_)|(refine And.intro ⟨[_], rfl⟩ ?_)|(refine And.intro ⟨[], by simp only [List.append_nil]⟩ ?_)|(first|(refine ⟨AV.str [], ?_⟩; refine qau9 ?_))|simp (disch := (first|exact discB|fail)) only [push_cast, ↓reduceIte, reduceCtorEq, Nat.reduceAdd, Nat.reduceLT, Nat.reduceEqDiff, Nat.reduceLeDiff, Int.reduceAdd, Int.reduceLT, Int.reduceLE, Nat.reduceMul, b1, b2, b3, b4, b5, b6, b7, b8, b9, hSl, hil, hin, etr, edr, etM, edM, Nat.lt_irrefl, decide_false, decide_true])
       refine qa0 (A - (a + 1)) (by omega) (by first|exact wa0|fail) ⟨a + 1, by omega, rfl, by rw [hW1, hsucc]; simp [haccM1, hsnr, hsn], ?_⟩
       rw [hW1, hsucc]
       simp (disch := (first|exact discB|fail)) only [push_cast, ↓reduceIte, reduceCtorEq, Nat.reduceAdd, Nat.reduceLT, Nat.reduceEqDiff, Nat.reduceLeDiff, Int.reduceAdd, Int.reduceLT, Int.reduceLE, Nat.reduceMul, b1, b2, b3, b4, b5, b6, b7, b8, b9, hSl, hil, hin, etr, edr, etM, edM, Nat.lt_irrefl, decide_false, decide_true]
    ·obtain rfl : A = a := by omega
     have hfull := hfull rfl
     have hsnB := wai9 (zo0 acc L i) (acc S)
     rw [← hacc1] at hsnB
     have hsnD := zaM9 D r
     repeat' (first|refine nav ?_|(refine g0_ ?_; refine goD ?_)|(with_reducible refine gG ?_ ?_)|((with_reducible refine And.intro (fun h => ?_) (fun h => ?_)) <;> try (exfalso; omega))|(with_reducible refine andG ?_)|(refine And.intro ⟨[_], rfl⟩ ?_)|(refine And.intro ⟨[], by simp only [List.append_nil]⟩ ?_)|fail|simp (disch := (first|exact discB|fail)) only [push_cast, ↓reduceIte, reduceCtorEq, Nat.reduceAdd, Nat.reduceLT, Nat.reduceEqDiff, Nat.reduceLeDiff, Int.reduceAdd, Int.reduceLT, Int.reduceLE, Nat.reduceMul, b1, b2, b3, b4, b5, b6, b7, hSl, hgM, haccM, hDl, etD, edD, hiM, hin, hil])
     refine go_loop rfl (fun mz s' H' => ∃ k : Nat, k ≤ S.length ∧ mz = S.length - k ∧ H' = [.row 4 28 [[.int .i64 A, .sl zr RN c, .sl 1 (ints (intN x0)) none, .sl za IA ca]], .row 3 36 [[.int .i64 0, .sl 0 [] (some 0), .sl 0 [] (some 0)]], .row 1 26 (rowL (zn0 M)), .row 3 36 [[.int .i64 A, .own 4 (i + 1) (i + 1) none, .own 5 i i none]], .row 1 26 (rowL (xl0 D) ++ [[.own 6 A A none]]), .row 1 4 (vb0 (zo0 acc L i)), .row 1 3 (ints (intN r))] ∧ s' 1 = .ptr 0 0 0 1 ∧ s' 2 = .ptr 1 0 0 1 ∧ s' 3 = .own 2 M.length M.length none ∧ s' 4 = .ptr 3 0 0 1 ∧ s' 5 = .int .i64 i ∧ s' 10 = .bool (anyF F S k) ∧ s' 11 = .int .i64 k) (m := S.length) (by first|exact wa0|fail) (Weak.refl _ _) ⟨0, by omega, by omega, by rfl, ?_⟩ ?_
     ·simp (disch := (first|exact discB|fail)) only [push_cast, ↓reduceIte, reduceCtorEq, Nat.reduceAdd, Nat.reduceLT, Nat.reduceEqDiff, Nat.reduceLeDiff, Int.reduceAdd, Int.reduceLT, Int.reduceLE, Nat.reduceMul, b1, b2, b3, b4, b5, b6, b7, hSl, hgM, haccM, hDl, etD, edD, hiM, hin, hil]
      rfl
     ·rintro mz s' H' ⟨k, hk, rfl, rfl, b1, b2, b3, b4, b5, b10, b11⟩
      have hSl2 : (ints (intN S)).length = S.length := by rw [za0, intN_len]
      have hSi : (intN S).length = S.length := intN_len S
      rcases Nat.lt_or_ge k S.length with hlk|hgk
      ·have hgk : (ints (intN S)).getD k [] = [.int .i64 (S.getD k 0 : Nat)] := by rw [wc0 _ _ (by rw [intN_len]; exact hlk), qB0 _ _ hlk]
       have hsu := vct9 F S k hlk
       have hh := hhas (S.getD k 0 : Nat)
       rw [← hnat] at hh
       generalize S.getD k 0 = s at *
       cases hq : anyF F S k with
       | true =>
        rw [hq, Bool.true_or] at hsu
        rw [hq] at b10
        repeat' (first|refine nav ?_|(refine g0_ ?_; refine goD ?_)|(with_reducible refine gG ?_ ?_)|((with_reducible refine And.intro (fun h => ?_) (fun h => ?_)) <;> try (exfalso; omega))|(with_reducible refine andG ?_)|(refine And.intro ⟨[_], rfl⟩ ?_)|(refine And.intro ⟨[], by simp only [List.append_nil]⟩ ?_)|(first|(refine ⟨AV.str [], ?_⟩; refine qau9 ?_))|simp (disch := (first|exact discB|fail)) only [push_cast, ↓reduceIte, reduceCtorEq, Nat.reduceAdd, Nat.reduceLT, Nat.reduceEqDiff, Nat.reduceLeDiff, Int.reduceAdd, Int.reduceLT, Int.reduceLE, Nat.reduceMul, b1, b2, b3, b4, b5, b10, b11, hSl, hgM, hiM, hSl2, hSi, hgk])
        refine qa0 (S.length - (k + 1)) (by omega) (by first|exact wa0|fail) ⟨k + 1, by omega, rfl, rfl, ?_⟩
        rw [hsu]
        simp (disch := (first|exact discB|fail)) only [push_cast, ↓reduceIte, reduceCtorEq, Nat.reduceAdd, Nat.reduceLT, Nat.reduceEqDiff, Nat.reduceLeDiff, Int.reduceAdd, Int.reduceLT, Int.reduceLE, Nat.reduceMul, b1, b2, b3, b4, b5, b10, b11, hSl, hgM, hiM, hSl2, hSi, hgk]
       | false =>
        rw [hq, Bool.false_or] at hsu
        rw [hq] at b10
        cases hF : F.contains s with
        | true =>
         rw [hF] at hh hsu
         rw [if_pos rfl] at hh
         repeat' (first|refine nav ?_|(refine g0_ ?_; refine goD ?_)|(with_reducible refine gG ?_ ?_)|((with_reducible refine And.intro (fun h => ?_) (fun h => ?_)) <;> try (exfalso; omega))|(with_reducible refine andG ?_)|(refine And.intro ⟨[_], rfl⟩ ?_)|(refine And.intro ⟨[], by simp only [List.append_nil]⟩ ?_)|(first|(refine ⟨_, _, pc_lift (hh) (by (simp [idsL, idsE, AV.ids, hidR, hidA, hidI, hidX, hidRS, hidD, hidB])) _, ?_⟩)|(refine ⟨_, pc_lift (hh) (by (simp [idsL, idsE, AV.ids, hidR, hidA, hidI, hidX, hidRS, hidD, hidB])) _, ?_⟩)|(refine ⟨_, fun _ => pc_lift (hh) (by (simp [idsL, idsE, AV.ids, hidR, hidA, hidI, hidX, hidRS, hidD, hidB])) _, ?_⟩))|simp (disch := (first|exact discB|fail)) only [push_cast, ↓reduceIte, reduceCtorEq, Nat.reduceAdd, Nat.reduceLT, Nat.reduceEqDiff, Nat.reduceLeDiff, Int.reduceAdd, Int.reduceLT, Int.reduceLE, Nat.reduceMul, b1, b2, b3, b4, b5, b10, b11, hSl, hgM, hiM, hSl2, hSi, hgk])
         refine qa0 (S.length - (k + 1)) (by omega) (by first|exact wa0|fail) ⟨k + 1, by omega, rfl, rfl, ?_⟩
         rw [hsu]
         simp (disch := (first|exact discB|fail)) only [push_cast, ↓reduceIte, reduceCtorEq, Nat.reduceAdd, Nat.reduceLT, Nat.reduceEqDiff, Nat.reduceLeDiff, Int.reduceAdd, Int.reduceLT, Int.reduceLE, Nat.reduceMul, b1, b2, b3, b4, b5, b10, b11, hSl, hgM, hiM, hSl2, hSi, hgk]
        | false =>
         rw [hF] at hh hsu
         rw [if_neg (by simp)] at hh
         repeat' (first|refine nav ?_|(refine g0_ ?_; refine goD ?_)|(with_reducible refine gG ?_ ?_)|((with_reducible refine And.intro (fun h => ?_) (fun h => ?_)) <;> try (exfalso; omega))|(with_reducible refine andG ?_)|(refine And.intro ⟨[_], rfl⟩ ?_)|(refine And.intro ⟨[], by simp only [List.append_nil]⟩ ?_)|(first|(refine ⟨_, _, pc_lift (hh) (by (simp [idsL, idsE, AV.ids, hidR, hidA, hidI, hidX, hidRS, hidD, hidB])) _, ?_⟩)|(refine ⟨_, pc_lift (hh) (by (simp [idsL, idsE, AV.ids, hidR, hidA, hidI, hidX, hidRS, hidD, hidB])) _, ?_⟩)|(refine ⟨_, fun _ => pc_lift (hh) (by (simp [idsL, idsE, AV.ids, hidR, hidA, hidI, hidX, hidRS, hidD, hidB])) _, ?_⟩))|simp (disch := (first|exact discB|fail)) only [push_cast, ↓reduceIte, reduceCtorEq, Nat.reduceAdd, Nat.reduceLT, Nat.reduceEqDiff, Nat.reduceLeDiff, Int.reduceAdd, Int.reduceLT, Int.reduceLE, Nat.reduceMul, b1, b2, b3, b4, b5, b10, b11, hSl, hgM, hiM, hSl2, hSi, hgk])
         refine qa0 (S.length - (k + 1)) (by omega) (by first|exact wa0|fail) ⟨k + 1, by omega, rfl, rfl, ?_⟩
         rw [hsu]
         simp (disch := (first|exact discB|fail)) only [push_cast, ↓reduceIte, reduceCtorEq, Nat.reduceAdd, Nat.reduceLT, Nat.reduceEqDiff, Nat.reduceLeDiff, Int.reduceAdd, Int.reduceLT, Int.reduceLE, Nat.reduceMul, b1, b2, b3, b4, b5, b10, b11, hSl, hgM, hiM, hSl2, hSi, hgk]
         rfl
      ·obtain rfl : k = S.length := by omega
       rw [← hacc0] at b10
       have hidr := hidI r
       have het : (ints (intN r)).take A = ints (intN r) := List.take_of_length_le (by omega)
       repeat' (first|refine nav ?_|(refine g0_ ?_; refine goD ?_)|(with_reducible refine gG ?_ ?_)|((with_reducible refine And.intro (fun h => ?_) (fun h => ?_)) <;> try (exfalso; omega))|(with_reducible refine andG ?_)|(refine And.intro ⟨[_], rfl⟩ ?_)|(refine And.intro ⟨[], by simp only [List.append_nil]⟩ ?_)|fail|simp (disch := (first|exact discB|fail)) only [push_cast, ↓reduceIte, reduceCtorEq, Nat.reduceAdd, Nat.reduceLT, Nat.reduceEqDiff, Nat.reduceLeDiff, Int.reduceAdd, Int.reduceLT, Int.reduceLE, Nat.reduceMul, b1, b2, b3, b4, b5, b10, b11, hSl, hgM, hiM, hSl2, hSi, hBl, etB, edB])
       refine xh0 (257 - (i + 1)) 6 (j := 6) rfl (by omega) (by first|exact wa0|fail) (by omega) (by simp [frzH]) (by simp [frzH, frzB, frz, Blk.below, idsE, idsL, AV.ids, xi0, xe0, hidR, hidA, hidI, hidX, hidRS, hidD, hidB, hidr, hil, het]) ⟨i + 1, ?_, rfl, ?_, ?_⟩
       ·rw [hnxt, hfull]; exact hiM
       ·rw [hnxt, hfull]
        simp only
        rw [haccS, ← hsnB, ← hsnD]
        simp [frzH, frzB, frz, xi0, hidR, hidA, hidI, hidX, hidRS, hidD, hidB, hidr, hil, het, lC]
       ·rw [hnxt, hfull]
        simp (disch := (first|exact discB|fail)) only [push_cast, ↓reduceIte, reduceCtorEq, Nat.reduceAdd, Nat.reduceLT, Nat.reduceEqDiff, Nat.reduceLeDiff, Int.reduceAdd, Int.reduceLT, Int.reduceLE, Nat.reduceMul, b1, b2, b3, b4, b5, scrub, frz, AV.ids, idsL]
  ·obtain rfl := hend (by omega)
   rw [hT]
   obtain rfl : N = L.length := by omega
   have haF : zo0 acc L L.length = L.map acc := by rw [zo0, List.take_length]
   rw [haF] at hBl etB hidB ⊢
   unfold dA
   repeat' (first|refine nav ?_|(refine g0_ ?_; refine goD ?_)|(with_reducible refine gG ?_ ?_)|((with_reducible refine And.intro (fun h => ?_) (fun h => ?_)) <;> try (exfalso; omega))|(with_reducible refine andG ?_)|(refine And.intro ⟨[_], rfl⟩ ?_)|(refine And.intro ⟨[], by simp only [List.append_nil]⟩ ?_)|fail|simp (disch := (first|exact discB|fail)) only [push_cast, ↓reduceIte, reduceCtorEq, Nat.reduceAdd, Nat.reduceLT, Nat.reduceEqDiff, Nat.reduceLeDiff, Int.reduceAdd, Int.reduceLT, Int.reduceLE, Nat.reduceMul, b1, b2, b3, b4, b5, hSl, hDl, hBl, etD, etB])
end Go.Proofs
