import Derived.Test.YtcoakjnmnommpaaGreatDoorA24
import Derived.Test.YtcoakjnmnommpaaGreatDoorA12
import Derived.Test.YtcoakjnmnommpaaGreatDoorAR3
import Derived.Test.YtcoakjnmnommpaaGreatDoorV59
namespace Go.Proofs
open Go Go.V
set_option linter.unusedVariables false
set_option linter.unusedSimpArgs false
set_option maxHeartbeats 0
def dlt (l : List LC) (s a : Nat) : Nat := ((rowsDN l).getD s []).getD a 0
theorem dlt_at {l : List LC} {s a : Nat} (hs : s < l.length) (ha : a < (l.getD s ([], none)).1.length) : dlt l s a = ((l.getD s ([], none)).1.getD a 0).toNat := rowsDN_get l s a hs ha
theorem dlt_lt {A : Nat} {l : List LC} {m : Nat} (h : OkDv A (rowsD l) m) {s a : Nat} (hs : s < l.length) (ha : a < A) : dlt l s a < l.length := by
 rw [dlt_at hs (by rw [h.row hs]; exact ha)]
 have := h.at hs ha
 omega
theorem reach_lt {A : Nat} {l : List LC} {m : Nat} (h : OkDv A (rowsD l) m) (e : Nat → Nat → Bool) (i : Nat) : ∀ s ∈ (stX (dlt l) e A 0 i).1, s < l.length := by
 have hn := h.n1
 rw [rowsD_len] at hn
 exact stX_all (dlt l) e A (P := fun s => s < l.length) 0 hn (fun s hs a ha => dlt_lt h hs ha) i
theorem reach_len {A : Nat} {l : List LC} {m : Nat} (h : OkDv A (rowsD l) m) (e : Nat → Nat → Bool) (he : ∀ s, e s s = true) (i : Nat) : (stX (dlt l) e A 0 i).1.length ≤ l.length :=
 apart_bound (eqv := e) id l.length _ (reach_lt h e i) (fun s _ t _ q => by have : s = t := q; subst this; exact he s) (stX_apart (dlt l) e A 0 i)
theorem PS_put (L : List Nat) (t : Nat) : setL (fun n => pS L n || inL [(t : Int)] n) = PS (L ++ [t]) := by
 have : (fun n => pS L n || inL [(t : Int)] n) = pS (L ++ [t]) := by
  funext n
  rw [Bool.eq_iff_iff]
  simp [pS, inL, Int.natCast_inj]
 rw [this]; rfl
theorem PS_none : PS [] = [.int .u64 0, .int .u64 0, .int .u64 0, .int .u64 0] := by
 rw [PS, ← setL_none]; rfl
theorem meets_one (L : List Nat) (t : Nat) (ht : t < 256) : ((List.range 256).any fun n => pS L n && inL [(t : Int)] n) = L.contains t := by
 rw [Bool.eq_iff_iff, List.any_eq_true]
 constructor
 ·rintro ⟨n, _, h⟩
  simp [pS, inL, Int.natCast_inj] at h
  obtain ⟨h1, rfl⟩ := h
  simpa using h1
 ·intro h
  exact ⟨t, List.mem_range.2 ht, by simp [pS, inL] at h ⊢; exact h⟩
theorem findQ_old {L : List Nat} {t : Nat} (h : L.contains t = true) : addX eqX L t = L :=
 add_in ⟨t, List.contains_iff_mem.1 h, eqX_refl t⟩
theorem findQ_new {L : List Nat} {t : Nat} (h : L.contains t = false) : addX eqX L t = L ++ [t] :=
 add_out (by
  rintro ⟨y, hy, e⟩
  have : y = t := by simpa [eqX] using e
  subst this
  rw [List.contains_iff_mem.2 hy] at h; cases h)
theorem put_one (b : Nat) (H : List Blk) (L : List Nat) (t : Nat) (ht : t < 256) (hb : H[b]? = some (.row 4 68 [PS L])) :
  ACalls Tryz.prog G0 67 [.ptr b 0 0 1, .sl 1 [[.int .i64 (t : Nat)]] (some 1)] H (.tup []) (H.set b (.row 4 68 [PS (L ++ [t])])) := by
 have := put63 b 1 [(t : Int)] (some 1) H (pS L) (.inr rfl) (by simp) (fun x hx => by simp at hx; omega) hb
 rw [PS_put] at this
 exact this
theorem of_one (t : Nat) (ht : t < 256) : PC Tryz.prog G0 41 [.sl 1 [[.int .i64 (t : Nat)]] (some 1)] (.agg (setL (inL [(t : Int)]))) :=
 of32 1 [(t : Int)] (some 1) (.inr rfl) (by simp) (fun x hx => by simp at hx; omega)
theorem meets_L (L : List Nat) (t : Nat) (ht : t < 256) : PC Tryz.prog G0 40 [.agg (PS L), .agg (setL (inL [(t : Int)]))] (.bool (L.contains t)) := by
 have := meets34 (pS L) (inL [(t : Int)])
 rw [meets_one L t ht] at this
 exact this
set_option maxRecDepth 100000 in
theorem reached54 (A : Nat) (l : List LC) (c : Option Nat) (ac : List Bool) (ca : Option Nat) (hok : OkDv A (rowsD l) ac.length) (N : Nat) (hN : (stX (dlt l) eqX A 0 N).1.length = N) :
  PC Tryz.prog G0 57 [dA A 1 l c 1 ac ca] (.sl 1 (ints (intN (stX (dlt l) eqX A 0 N).1)) none) := by
 have hidR : ∀ p, idsE p (rowL l) = true := fun p => idsE_rowL _ _
 have hidA : ∀ p, idsE p (bools ac) = true := fun p => idsE_bools _ _
 have hn := hok.n
 have hn1 := hok.n1
 have hA := hok.a2
 rw [rowsD_len] at hn hn1
 have hRl := length_rowL l
 have e1 := getD_rowL l
 have hB := reach_len hok eqX eqX_refl
 have hlt0 := reach_lt hok eqX
 have hrow := fun s h => hok.row (s := s) h
 have hdl := fun s a h ha => dlt_at (l := l) (s := s) (a := a) h ha
 have hdlt := fun s a h ha => dlt_lt hok (s := s) (a := a) h ha
 have hp0 := put_one 2 [.row 3 47 [[.int .i64 A, .sl 1 (rowL l) c, .sl 1 (bools ac) ca]], .row 1 3 [[.int .i64 0]], .row 4 68 [PS []]] [] 0 (by decide) rfl
 rw [PS_none] at hp0
 have hidP : ∀ L f, idsL f (PS L) = true := fun L f => PS_ids _ _
 unfold dA
 generalize rowL l = RN at *
 generalize bools ac = BA at *
 generalize dlt l = δ at *
 refine pc_go 1 45 [.tmp 2] Tryz.func57 rfl rfl rfl (by simp) ?_
 intro s ⟨a0, hz⟩
 clear hz
 repeat' (first|(refine g0_ ?_; with_reducible refine go_own [] (p := [0, 1]) rfl rfl ?_)|(refine a0_ ?_; refine acc_own rfl ?_)|(first|(with_reducible refine stop_at (p := [0, 0, 1, 1, 1, 1]) ?_)|refine nav ?_|(refine g0_ ?_; first|refine goD ?_))|(with_reducible refine gG ?_ ?_)|((with_reducible refine And.intro (fun h => ?_) (fun h => ?_)) <;> try (exfalso; omega))|(with_reducible refine andG ?_)|refine appG ?_|(first|(refine ⟨_, _, hp0, ?_⟩)|(refine ⟨_, hp0, ?_⟩)|(refine ⟨_, fun _ => hp0, ?_⟩))|simp (disch := (first|exact discB|fail)) only [push_cast, ↓reduceIte, reduceIte, reduceCtorEq, Nat.reduceAdd, Nat.reduceLT, Nat.reduceEqDiff, Nat.reduceLeDiff, Int.reduceAdd, Int.reduceLT, Int.reduceLE, Nat.reduceMul, a0])
 refine Halt.mk ?_
 repeat' (first|refine nav ?_|(refine g0_ ?_; refine goD ?_)|(with_reducible refine gG ?_ ?_)|((with_reducible refine And.intro (fun h => ?_) (fun h => ?_)) <;> try (exfalso; omega))|(with_reducible refine andG ?_)|refine appG ?_|fail|simp (disch := (first|exact discB|fail)) only [push_cast, ↓reduceIte, reduceIte, reduceCtorEq, Nat.reduceAdd, Nat.reduceLT, Nat.reduceEqDiff, Nat.reduceLeDiff, Int.reduceAdd, Int.reduceLT, Int.reduceLE, Nat.reduceMul, a0])
 refine go_loop rfl (fun mz s' H' => ∃ i : Nat, i ≤ (stX δ eqX A 0 i).1.length ∧ mz = 257 - i ∧ H' = [.row 3 47 [[.int .i64 A, .sl 1 RN c, .sl 1 BA ca]], .row 1 3 (ints (intN (stX δ eqX A 0 i).1)), .row 4 68 [PS (stX δ eqX A 0 i).1]] ∧ s' 1 = .ptr 0 0 0 1 ∧ s' 3 = .own 1 (stX δ eqX A 0 i).1.length (stX δ eqX A 0 i).1.length none ∧ s' 4 = .ptr 2 0 0 1 ∧ s' 5 = .int .i64 i) (m := 257) (by first|exact sideB|fail) (Weak.refl _ _) ⟨0, by simp [stX], by omega, by rfl, ?_⟩ ?_
 ·simp (disch := (first|exact discB|fail)) only [push_cast, ↓reduceIte, reduceIte, reduceCtorEq, Nat.reduceAdd, Nat.reduceLT, Nat.reduceEqDiff, Nat.reduceLeDiff, Int.reduceAdd, Int.reduceLT, Int.reduceLE, Nat.reduceMul, a0]
  simp [stX]
 ·rintro mz s' H' ⟨i, hi, rfl, rfl, b1, b3, b4, b5⟩
  have hi256 := hB i
  have hB1 := hB (i + 1)
  have hnx := st_next δ eqX A 0 0 i
  have hend : i = (stX δ eqX A 0 i).1.length → N = i := fun h => st_one 0 hN h.symm
  have hlt0 := hlt0 i
  generalize hnxt : stX δ eqX A 0 (i + 1) = NX at *
  generalize hT : stX δ eqX A 0 i = T at *
  obtain ⟨L, D⟩ := T
  simp only at *
  have hSl : (ints (intN L)).length = L.length := by rw [length_ints, intN_len]
  have hSi := intN_len L
  rcases Nat.lt_or_ge i L.length with hlt|hge
  ·have hnx := hnx hlt
   have hgL : (ints (intN L)).getD i [] = [.int .i64 (L.getD i 0 : Nat)] := by rw [getD_ints _ _ (by rw [intN_len]; exact hlt), intN_get _ _ hlt]
   have hs := hlt0 _ (getD_mem (d := 0) hlt)
   generalize L.getD i 0 = s at *
   have e1 := e1 s hs
   have hrow := hrow s hs
   have hdl := fun a => hdl s a hs
   have hdlt := fun a => hdlt s a hs
   have hnn0 := fun a ha => (hok.at hs (a := a) ha).1
   generalize l.getD s ([], none) = r at *
   have hrl := length_ints r.1
   have e2 := getD_ints r.1
   unfold lC at e1
   have hall := fun a ha => rowX_all δ eqX A (P := fun t => t < l.length) L s hlt0 (fun b hb => hdlt b hb) a ha
   have hgrow : ∀ a, a ≤ A → (rowX δ eqX L s a).1.length ≤ 256 := fun a ha => by
    have hmono : ∀ d, (rowX δ eqX L s a).1.length ≤ (rowX δ eqX L s (a + d)).1.length := fun d => by
     induction d with
     | zero => exact Nat.le_refl _
     | succ d ih => exact Nat.le_trans ih (addX_len eqX _ _)
    have := hmono (A - a)
    rw [Nat.add_sub_cancel' ha] at this
    rw [hnx] at hB1
    simp only at hB1
    omega
   repeat' (first|refine nav ?_|(refine g0_ ?_; refine goD ?_)|(with_reducible refine gG ?_ ?_)|((with_reducible refine And.intro (fun h => ?_) (fun h => ?_)) <;> try (exfalso; omega))|(with_reducible refine andG ?_)|refine appG ?_|fail|simp (disch := (first|exact discB|fail)) only [push_cast, ↓reduceIte, reduceIte, reduceCtorEq, Nat.reduceAdd, Nat.reduceLT, Nat.reduceEqDiff, Nat.reduceLeDiff, Int.reduceAdd, Int.reduceLT, Int.reduceLE, Nat.reduceMul, b1, b3, b4, b5, hSl, hSi, hgL, hRl, e1, hrl])
   refine go_loop rfl (fun mz s' H' => ∃ a : Nat, a ≤ A ∧ mz = A - a ∧ H' = [.row 3 47 [[.int .i64 A, .sl 1 RN c, .sl 1 BA ca]], .row 1 3 (ints (intN (rowX δ eqX L s a).1)), .row 4 68 [PS (rowX δ eqX L s a).1]] ∧ s' 1 = .ptr 0 0 0 1 ∧ s' 3 = .own 1 (rowX δ eqX L s a).1.length (rowX δ eqX L s a).1.length none ∧ s' 4 = .ptr 2 0 0 1 ∧ s' 5 = .int .i64 i ∧ s' 24 = .sl 1 (ints r.1) r.2 ∧ s' 25 = .int .i64 A ∧ s' 26 = .int .i64 a) (m := A) (by first|exact sideB|fail) (Weak.refl _ _) ⟨0, by omega, by omega, by rfl, ?_⟩ ?_
   ·rw [← hrow]
    simp (disch := (first|exact discB|fail)) only [push_cast, ↓reduceIte, reduceIte, reduceCtorEq, Nat.reduceAdd, Nat.reduceLT, Nat.reduceEqDiff, Nat.reduceLeDiff, Int.reduceAdd, Int.reduceLT, Int.reduceLE, Nat.reduceMul, b1, b3, b4, b5, hSl, hSi, hgL, hRl, e1, hrl]
    simp [rowX]
   ·rintro mz s' H' ⟨a, ha, rfl, rfl, b1, b3, b4, b5, b24, b25, b26⟩
    have hsucc : (rowX δ eqX L s (a + 1)).1 = addX eqX (rowX δ eqX L s a).1 (δ s a) := rfl
    have hpre := rowX_pre δ eqX L s a
    have hg1 := hgrow a ha
    have hg2 := fun h => hgrow (a + 1) h
    have hfull : a = A → NX.1 = (rowX δ eqX L s a).1 := fun h => by rw [hnx, h]
    generalize hW1 : (rowX δ eqX L s (a + 1)).1 = W1 at *
    generalize (rowX δ eqX L s a).1 = M at *
    have hMl : (ints (intN M)).length = M.length := by rw [length_ints, intN_len]
    have hMi := intN_len M
    have etM : (ints (intN M)).take M.length = ints (intN M) := List.take_of_length_le (by omega)
    have edM : (ints (intN M)).drop (M.length + 1) = [] := List.drop_eq_nil_of_le (by omega)
    rcases Nat.lt_or_ge a A with hla|hga
    ·have e3 := e2 a (by omega)
     have hda := hdl a (by omega)
     have hto := hdlt a hla
     have hnn : r.1.getD a 0 = (δ s a : Nat) := by
      have := hnn0 a hla
      omega
     rw [hnn] at e3
     generalize δ s a = to at *
     have hof := of_one to (by omega)
     have hme := meets_L M to (by omega)
     cases hq : M.contains to with
     | true =>
      rw [hq] at hme
      rw [findQ_old hq] at hsucc
      repeat' (first|refine nav ?_|(refine g0_ ?_; refine goD ?_)|(with_reducible refine gG ?_ ?_)|((with_reducible refine And.intro (fun h => ?_) (fun h => ?_)) <;> try (exfalso; omega))|(with_reducible refine andG ?_)|refine appG ?_|(first|(refine ⟨_, _, pc_lift (hof) (by (simp [idsL, idsE, AV.ids, hidR, hidA, hidP, idsL_set])) _, ?_⟩)|(refine ⟨_, pc_lift (hof) (by (simp [idsL, idsE, AV.ids, hidR, hidA, hidP, idsL_set])) _, ?_⟩)|(refine ⟨_, fun _ => pc_lift (hof) (by (simp [idsL, idsE, AV.ids, hidR, hidA, hidP, idsL_set])) _, ?_⟩)|(refine ⟨_, _, pc_lift (hme) (by (simp [idsL, idsE, AV.ids, hidR, hidA, hidP, idsL_set])) _, ?_⟩)|(refine ⟨_, pc_lift (hme) (by (simp [idsL, idsE, AV.ids, hidR, hidA, hidP, idsL_set])) _, ?_⟩)|(refine ⟨_, fun _ => pc_lift (hme) (by (simp [idsL, idsE, AV.ids, hidR, hidA, hidP, idsL_set])) _, ?_⟩))|simp (disch := (first|exact discB|fail)) only [push_cast, ↓reduceIte, reduceIte, reduceCtorEq, Nat.reduceAdd, Nat.reduceLT, Nat.reduceEqDiff, Nat.reduceLeDiff, Int.reduceAdd, Int.reduceLT, Int.reduceLE, Nat.reduceMul, b1, b3, b4, b5, b24, b25, b26, e3, hrl, hrow])
      refine out_round (A - (a + 1)) (by omega) (by first|exact sideB|fail) ⟨a + 1, by omega, rfl, by rw [hW1, hsucc], ?_⟩
      rw [hW1, hsucc]
      simp (disch := (first|exact discB|fail)) only [push_cast, ↓reduceIte, reduceIte, reduceCtorEq, Nat.reduceAdd, Nat.reduceLT, Nat.reduceEqDiff, Nat.reduceLeDiff, Int.reduceAdd, Int.reduceLT, Int.reduceLE, Nat.reduceMul, b1, b3, b4, b5, b24, b25, b26, e3, hrl, hrow]
     | false =>
      rw [hq] at hme
      rw [findQ_new hq] at hsucc
      have hpu := put_one 2 [.row 3 47 [[.int .i64 A, .sl 1 RN c, .sl 1 BA ca]], .row 1 3 (ints (intN M)), .row 4 68 [PS M]] M to (by omega) rfl
      have hsn := ints_snoc (intN M) (to : Int)
      rw [← intN_snoc] at hsn
      repeat' (first|refine nav ?_|(refine g0_ ?_; refine goD ?_)|(with_reducible refine gG ?_ ?_)|((with_reducible refine And.intro (fun h => ?_) (fun h => ?_)) <;> try (exfalso; omega))|(with_reducible refine andG ?_)|refine appG ?_|(first|(refine ⟨_, _, pc_lift (hof) (by (simp [idsL, idsE, AV.ids, hidR, hidA, hidP, idsL_set])) _, ?_⟩)|(refine ⟨_, pc_lift (hof) (by (simp [idsL, idsE, AV.ids, hidR, hidA, hidP, idsL_set])) _, ?_⟩)|(refine ⟨_, fun _ => pc_lift (hof) (by (simp [idsL, idsE, AV.ids, hidR, hidA, hidP, idsL_set])) _, ?_⟩)|(refine ⟨_, _, pc_lift (hme) (by (simp [idsL, idsE, AV.ids, hidR, hidA, hidP, idsL_set])) _, ?_⟩)|(refine ⟨_, pc_lift (hme) (by (simp [idsL, idsE, AV.ids, hidR, hidA, hidP, idsL_set])) _, ?_⟩)|(refine ⟨_, fun _ => pc_lift (hme) (by (simp [idsL, idsE, AV.ids, hidR, hidA, hidP, idsL_set])) _, ?_⟩)|(refine ⟨_, _, hpu, ?_⟩)|(refine ⟨_, hpu, ?_⟩)|(refine ⟨_, fun _ => hpu, ?_⟩))|simp (disch := (first|exact discB|fail)) only [push_cast, ↓reduceIte, reduceIte, reduceCtorEq, Nat.reduceAdd, Nat.reduceLT, Nat.reduceEqDiff, Nat.reduceLeDiff, Int.reduceAdd, Int.reduceLT, Int.reduceLE, Nat.reduceMul, b1, b3, b4, b5, b24, b25, b26, e3, hrl, hrow, hMl, hMi, etM, edM])
      refine out_round (A - (a + 1)) (by omega) (by first|exact sideB|fail) ⟨a + 1, by omega, rfl, by rw [hW1, hsucc, ← hsn], ?_⟩
      rw [hW1, hsucc]
      simp (disch := (first|exact discB|fail)) only [push_cast, ↓reduceIte, reduceIte, reduceCtorEq, Nat.reduceAdd, Nat.reduceLT, Nat.reduceEqDiff, Nat.reduceLeDiff, Int.reduceAdd, Int.reduceLT, Int.reduceLE, Nat.reduceMul, b1, b3, b4, b5, b24, b25, b26, e3, hrl, hrow, hMl, hMi, etM, edM]
    ·obtain rfl : A = a := by omega
     have hfull := hfull rfl
     have hiM : i + 1 ≤ M.length := by
      obtain ⟨E, hE⟩ := hpre
      rw [hE]; simp; omega
     repeat' (first|refine nav ?_|(refine g0_ ?_; refine goD ?_)|(with_reducible refine gG ?_ ?_)|((with_reducible refine And.intro (fun h => ?_) (fun h => ?_)) <;> try (exfalso; omega))|(with_reducible refine andG ?_)|refine appG ?_|fail|simp (disch := (first|exact discB|fail)) only [push_cast, ↓reduceIte, reduceIte, reduceCtorEq, Nat.reduceAdd, Nat.reduceLT, Nat.reduceEqDiff, Nat.reduceLeDiff, Int.reduceAdd, Int.reduceLT, Int.reduceLE, Nat.reduceMul, b1, b3, b4, b5, b24, b25, b26, hrl, hrow])
     refine out_round (257 - (i + 1)) (by omega) (by first|exact sideB|fail) ⟨i + 1, by rw [hnxt, hfull]; exact hiM, rfl, by rw [hnxt, hfull], ?_⟩
     rw [hnxt, hfull]
     simp (disch := (first|exact discB|fail)) only [push_cast, ↓reduceIte, reduceIte, reduceCtorEq, Nat.reduceAdd, Nat.reduceLT, Nat.reduceEqDiff, Nat.reduceLeDiff, Int.reduceAdd, Int.reduceLT, Int.reduceLE, Nat.reduceMul, b1, b3, b4, b5, b24, b25, b26, hrl, hrow]
  ·obtain rfl := hend (by omega)
   rw [hT]
   have etL : (ints (intN L)).take L.length = ints (intN L) := List.take_of_length_le (by omega)
   repeat' (first|refine nav ?_|(refine g0_ ?_; refine goD ?_)|(with_reducible refine gG ?_ ?_)|((with_reducible refine And.intro (fun h => ?_) (fun h => ?_)) <;> try (exfalso; omega))|(with_reducible refine andG ?_)|refine appG ?_|fail|simp (disch := (first|exact discB|fail)) only [push_cast, ↓reduceIte, reduceIte, reduceCtorEq, Nat.reduceAdd, Nat.reduceLT, Nat.reduceEqDiff, Nat.reduceLeDiff, Int.reduceAdd, Int.reduceLT, Int.reduceLE, Nat.reduceMul, b1, b3, b4, b5, hSl, hSi, etL])
end Go.Proofs
namespace Go.Proofs
open Go Go.V
set_option linter.unusedVariables false
set_option linter.unusedSimpArgs false
set_option maxHeartbeats 0
def intF (f : Nat → Int) (n : Nat) : List (List AV) := ints ((List.range n).map f)
theorem intF_len (f : Nat → Int) (n : Nat) : (intF f n).length = n := by rw [intF, length_ints]; simp
theorem intF_ids (p : Nat → Bool) (f : Nat → Int) (n : Nat) : idsE p (intF f n) = true := idsE_ints _ _
theorem intF_get (f : Nat → Int) (n k : Nat) (h : k < n) : (intF f n).getD k [] = [.int .i64 (f k)] := by rw [intF, getD_ints _ _ (by simp; exact h)]; simp [h]
def updI (f : Nat → Int) (k : Nat) (v : Int) : Nat → Int := fun t => if t = k then v else f t
theorem intF_congr {f g : Nat → Int} {n : Nat} (h : ∀ s, s < n → f s = g s) : intF f n = intF g n := by
 rw [intF, intF]; congr 1; exact List.map_congr_left fun s hs => h s (List.mem_range.1 hs)
theorem intF_set (f : Nat → Int) (n k : Nat) (v : Int) : (intF f n).set k [.int .i64 v] = intF (updI f k v) n := by
 rw [intF, ints_set, intF]
 congr 1
 refine List.ext_getElem (by simp) fun j h1 h2 => ?_
 rw [List.getElem_set]
 simp only [List.getElem_map, List.getElem_range, updI]
 by_cases h : k = j
 ·rw [if_pos h, if_pos h.symm]
 ·rw [if_neg h, if_neg (fun q => h q.symm)]
theorem intF_zero (n : Nat) : List.replicate n [AV.int .i64 0] = intF (fun _ => 0) n := by
 rw [intF, ints_rep]; congr 1
 refine List.ext_getElem (by simp) fun j h1 h2 => by simp
def bytM (w : List Nat) : List UInt8 := w.map UInt8.ofNat
def Small (w : List Nat) : Prop := ∀ x ∈ w, x < 256
theorem bytM_inj {v w : List Nat} (hv : Small v) (hw : Small w) (h : bytM v = bytM w) : v = w := by
 have key : ∀ u : List Nat, Small u → (bytM u).map UInt8.toNat = u := fun u hu => by
  rw [bytM, List.map_map]
  refine (List.map_congr_left fun x hx => ?_).trans (List.map_id u)
  show (UInt8.ofNat x).toNat = x
  rw [UInt8.toNat_ofNat']
  exact Nat.mod_eq_of_lt (hu x hx)
 rw [← key v hv, h, key w hw]
def kB (w : List UInt8) : AV := .str w
theorem sameK_kB (x y : List UInt8) : sameK (kB x) (kB y) = (x == y) := by
 simp only [kB, sameK, sameA]
def mapB (l : List (List Nat)) : List (AV × AV) := nmapG kB 0 (l.map bytM)
theorem length_mapB (l : List (List Nat)) : (mapB l).length = l.length := by rw [mapB, length_nmapG, List.length_map]
theorem all_mapB (p : Nat → Bool) (l : List (List Nat)) : ((mapB l).all fun x => AV.ids p x.1 && AV.ids p x.2) = true := ids_nmapG p (fun _ => rfl) _ 0
theorem eqTy9 : eqTy Tryz.prog 8 9 = true := by kernel_rfl
theorem keyA9 (x : List UInt8) : keyA Tryz.prog 8 9 (kB x) = true := by kernel_rfl
theorem eqA9 (x y : List UInt8) : eqA Tryz.prog 8 9 (kB x) (kB y) = (true, sameK (kB x) (kB y)) := by
 rw [sameK_kB]
 have : eqA Tryz.prog 8 9 (kB x) (kB y) = (true, decide (x = y)) := by kernel_rfl
 rw [this, Prod.mk.injEq]
 refine ⟨rfl, ?_⟩
 rw [Bool.eq_iff_iff]; simp
theorem mapOkB (l : List (List Nat)) (x : List UInt8) : mapOk Tryz.prog 9 (mapB l) (.str x) = true := mapOk_nmapG (kA := kB) x eqTy9 (keyA9 _) (fun y => eqA9 _ _) _ 0
theorem bytM_mem {l : List (List Nat)} (hl : ∀ w ∈ l, Small w) {w : List Nat} (hw : Small w) : bytM w ∈ l.map bytM ↔ findX eqL l w < l.length := by
 unfold findX
 rw [List.findIdx_lt_length, List.mem_map]
 constructor
 ·rintro ⟨T, hT, e⟩; exact ⟨T, hT, by rw [bytM_inj (hl T hT) hw e]; exact eqL_refl w⟩
 ·rintro ⟨T, hT, e⟩; exact ⟨T, hT, by rw [eqL_eq e]⟩
theorem byt_idx : ∀ {l : List (List Nat)} (hl : ∀ w ∈ l, Small w) {w : List Nat} (hw : Small w), (l.map bytM).idxOf (bytM w) = findX eqL l w
 | [], _, _, _ => rfl
 | T :: l, hl, w, hw => by
  have ih := byt_idx (l := l) (fun U hU => hl U (List.mem_cons_of_mem _ hU)) hw
  unfold findX at *
  rw [List.map_cons, List.idxOf_cons, List.findIdx_cons, ih]
  have : (bytM T == bytM w) = eqL T w := by
   rw [Bool.eq_iff_iff, beq_iff_eq]
   simp only [eqL, decide_eq_true_eq]
   exact ⟨bytM_inj (hl T List.mem_cons_self) hw, fun h => by rw [h]⟩
  rw [this]
theorem mapB_old {l : List (List Nat)} (hl : ∀ w ∈ l, Small w) {w : List Nat} (hw : Small w) (h : findX eqL l w < l.length) (z : AV) : hasA (mapB l) (.str (bytM w)) = true ∧ lookA z (mapB l) (.str (bytM w)) = .int .i64 (findX eqL l w : Nat) := by
 have hm := (bytM_mem hl hw).2 h
 have h1 := hasA_nmapG sameK_kB (bytM w) (l.map bytM) 0
 have h2 := lookA_nmapG sameK_kB z (bytM w) (l.map bytM) 0
 rw [if_pos hm, byt_idx hl hw, Nat.zero_add] at h2
 exact ⟨h1.trans (decide_eq_true hm), h2⟩
theorem mapB_new {l : List (List Nat)} (hl : ∀ w ∈ l, Small w) {w : List Nat} (hw : Small w) (h : findX eqL l w = l.length) (z : AV) : hasA (mapB l) (.str (bytM w)) = false ∧ lookA z (mapB l) (.str (bytM w)) = z ∧ updA (mapB l) (.str (bytM w)) (.int .i64 (l.length : Nat)) = mapB (l ++ [w]) := by
 have hm : ¬ bytM w ∈ l.map bytM := fun q => by have := (bytM_mem hl hw).1 q; omega
 have h1 := hasA_nmapG sameK_kB (bytM w) (l.map bytM) 0
 have h2 := lookA_nmapG sameK_kB z (bytM w) (l.map bytM) 0
 have hu := updA_nmapG sameK_kB (bytM w) (l.map bytM) 0 hm
 rw [List.length_map, Nat.zero_add] at hu
 rw [if_neg hm] at h2
 refine ⟨h1.trans (decide_eq_false hm), h2, ?_⟩
 rw [mapB, mapB, List.map_append]
 exact hu
section
variable {δ : Nat → Nat → Nat} {acc : Nat → Bool} {A : Nat} {order : List Nat}
theorem clK_lt (hl : order.length ≤ 256) (j s : Nat) (hs : s ∈ order) : clK δ acc A order j s < 256 := by
 cases j with
 | zero => rw [clK]; split <;> omega
 | succ k =>
  rw [clK_find]
  have h1 := find_lt.2 (firsts_of (e := likeK δ acc A order k) (likeK_refl k) hs)
  have h2 := cntK_le (δ := δ) (acc := acc) (A := A) (order := order) k
  rw [cntK_eq] at h2
  omega
theorem name_small (hl : order.length ≤ 256) (hcl : ∀ s ∈ order, ∀ a, a < A → δ s a ∈ order) (j s : Nat) (hs : s ∈ order) : Small (nameC δ A (clK δ acc A order j) s) := by
 intro x hx
 unfold nameC at hx
 rcases List.mem_cons.1 hx with rfl|hx
 ·exact clK_lt hl j s hs
 ·obtain ⟨a, ha, rfl⟩ := List.mem_map.1 hx
  exact clK_lt hl j _ (hcl s hs a (List.mem_range.1 ha))
theorem namesC_succ (cl : Nat → Nat) (u : Nat) (h : u < order.length) : namesC δ A order cl (u + 1) = addX eqL (namesC δ A order cl u) (nameC δ A cl (order.getD u 0)) := by
 rw [namesC, take_succ_map _ _ 0 u h, List.foldl_append, ← namesC]; rfl
theorem namesC_small (hl : order.length ≤ 256) (hcl : ∀ s ∈ order, ∀ a, a < A → δ s a ∈ order) (j : Nat) : ∀ u, u ≤ order.length → ∀ w ∈ namesC δ A order (clK δ acc A order j) u, Small w
 | 0, _, w, hw => by simp [namesC] at hw
 | u + 1, h, w, hw => by
  rw [namesC_succ _ u h] at hw
  exact addX_all eqL (P := Small) _ _ (namesC_small hl hcl j u (by omega)) (name_small hl hcl j _ (getD_mem h)) w hw
theorem namesC_pre (cl : Nat → Nat) (u : Nat) : ∀ d, u + d ≤ order.length → ∃ r, namesC δ A order cl (u + d) = namesC δ A order cl u ++ r
 | 0, _ => ⟨[], by simp⟩
 | d + 1, h => by
  obtain ⟨r, hr⟩ := namesC_pre cl u d (by omega)
  obtain ⟨q, hq⟩ := addX_pre eqL (namesC δ A order cl (u + d)) (nameC δ A cl (order.getD (u + d) 0))
  refine ⟨r ++ q, ?_⟩
  rw [← Nat.add_assoc, namesC_succ cl (u + d) (by omega), hq, hr, List.append_assoc]
theorem namesC_len (cl : Nat → Nat) : ∀ u, u ≤ order.length → (namesC δ A order cl u).length ≤ u
 | 0, _ => by simp [namesC]
 | u + 1, h => by
  rw [namesC_succ cl u h]
  have := namesC_len cl u (by omega)
  unfold addX
  split <;> simp <;> omega
theorem nextC_old {cl : Nat → Nat} {u : Nat} (h : u < order.length) (hf : findX eqL (namesC δ A order cl u) (nameC δ A cl (order.getD u 0)) < (namesC δ A order cl u).length) : nextC δ A order cl (order.getD u 0) = findX eqL (namesC δ A order cl u) (nameC δ A cl (order.getD u 0)) := by
 obtain ⟨r, hr⟩ := namesC_pre (δ := δ) (A := A) (order := order) cl u (order.length - u) (by omega)
 rw [Nat.add_sub_cancel' (by omega)] at hr
 rw [nextC, hr]
 exact find_ext r hf
theorem nextC_new {cl : Nat → Nat} {u : Nat} (h : u < order.length) (hf : findX eqL (namesC δ A order cl u) (nameC δ A cl (order.getD u 0)) = (namesC δ A order cl u).length) : nextC δ A order cl (order.getD u 0) = (namesC δ A order cl u).length := by
 obtain ⟨r, hr⟩ := namesC_pre (δ := δ) (A := A) (order := order) cl (u + 1) (order.length - (u + 1)) (by omega)
 rw [Nat.add_sub_cancel' (by omega), namesC_succ cl u h] at hr
 have h1 := find_add (eqv := eqL) (namesC δ A order cl u) (nameC δ A cl (order.getD u 0)) (eqL_refl _)
 rw [nextC, hr, find_ext r (by rw [h1.1]; exact h1.2), h1.1, hf]
def clF (δ : Nat → Nat → Nat) (acc : Nat → Bool) (A : Nat) (order : List Nat) (j : Nat) : Nat → Int := fun s => if j = 0 ∨ s ∈ order then (clK δ acc A order j s : Int) else 0
def nxF (δ : Nat → Nat → Nat) (acc : Nat → Bool) (A : Nat) (order : List Nat) (j u : Nat) : Nat → Int := fun s => if s ∈ order.take u then (clK δ acc A order (j + 1) s : Int) else 0
theorem nxF_all (j : Nat) : nxF δ acc A order j order.length = clF δ acc A order (j + 1) := by
 funext s
 rw [nxF, clF, List.take_length]
 simp
theorem nxF_zero (j : Nat) : nxF δ acc A order j 0 = fun _ => 0 := by funext s; simp [nxF]
theorem nxF_succ (j u : Nat) (h : u < order.length) : updI (nxF δ acc A order j u) (order.getD u 0) (nextC δ A order (clK δ acc A order j) (order.getD u 0) : Nat) = nxF δ acc A order j (u + 1) := by
 funext s
 rw [updI, nxF, nxF, take_succ_snoc order 0 u h]
 by_cases hs : s = order.getD u 0
 ·subst hs
  rw [if_pos rfl, if_pos (by simp)]; rfl
 ·rw [if_neg hs]
  simp only [List.mem_append, List.mem_singleton, hs, or_false]
def inF (acc : Nat → Bool) (u : Nat) : Nat → Int := fun s => if s < u ∧ acc s = true then 1 else 0
theorem inF_zero : inF acc 0 = fun _ => 0 := by funext s; simp [inF]
theorem inF_succ (u : Nat) : inF acc (u + 1) = if acc u = true then updI (inF acc u) u 1 else inF acc u := by
 funext s
 by_cases h : acc u = true
 ·rw [if_pos h, updI, inF, inF]
  by_cases hs : s = u
  ·subst hs; simp [h]
  ·rw [if_neg hs]
   have : s < u + 1 ↔ s < u := by omega
   simp only [this]
 ·rw [if_neg h, inF, inF]
  by_cases hs : s = u
  ·subst hs; simp [h]
  ·have : s < u + 1 ↔ s < u := by omega
   simp only [this]
theorem inF_all (n : Nat) : intF (inF acc n) n = intF (clF δ acc A order 0) n := intF_congr fun s hs => by
 simp only [inF, clF, clK, true_or, if_true]
 by_cases h : acc s = true
 ·simp [hs, h]
 ·simp [h]
def cntB (δ : Nat → Nat → Nat) (acc : Nat → Bool) (A : Nat) (order : List Nat) : Nat → Nat
 | 0 => 0
 | j + 1 => cntK δ acc A order j
def nameB (δ : Nat → Nat → Nat) (cl : Nat → Nat) (s k : Nat) : List Nat := cl s :: (List.range k).map fun a => cl (δ s a)
theorem nameB_succ (cl : Nat → Nat) (s k : Nat) : nameB δ cl s (k + 1) = nameB δ cl s k ++ [cl (δ s k)] := by simp [nameB, List.range_succ]
theorem nameB_len (cl : Nat → Nat) (s k : Nat) : (nameB δ cl s k).length = k + 1 := by simp [nameB]
theorem nameB_all (cl : Nat → Nat) (s : Nat) : nameB δ cl s A = nameC δ A cl s := rfl
end
theorem byt_snoc (w : List Nat) (x : Nat) (hx : x < 256) : bytesL (bytM w) ++ [[.int .u8 (x : Nat)]] = bytesL (bytM (w ++ [x])) := by
 have e : ((UInt8.ofNat x).toNat : Nat) = x := by rw [UInt8.toNat_ofNat']; exact Nat.mod_eq_of_lt hx
 have := bytesL_snoc (bytM w) (UInt8.ofNat x)
 rw [e] at this
 rw [this]; simp [bytM]
theorem wrap_u8 (x : Nat) (hx : x < 256) : IntKind.u8.wrap (x : Int) = x := by
 have : ∀ x : Fin 256, IntKind.u8.wrap (((x.1 : Nat)) : Int) = ((x.1 : Nat) : Int) := by decide +kernel
 exact this ⟨x, hx⟩
end Go.Proofs
