import Derived.Test.YtbgdagokjfmcbaaGreatDoorD35
import Derived.Test.YtbgdagokjfmcbaaGreatDoorD33
import Derived.Test.YtbgdagokjfmcbaaGreatDoorD30
namespace Go.Proofs
open Go Go.V
set_option linter.unusedVariables false
set_option linter.unusedSimpArgs false
def goL : Rs → List Ed → Option Rs
 | R, [] => some R
 | R, x :: ed => (stepA R x).bind fun T => goL T ed
theorem goL_snoc (R : Rs) (ed : List Ed) (x : Ed) : goL R (ed ++ [x]) = (goL R ed).bind fun T => stepA T x := by
 induction ed generalizing R with
 | nil => simp only [List.nil_append, goL, Option.bind_some]; cases stepA R x <;> rfl
 | cons y ed ih =>
  simp only [List.cons_append, goL]
  cases stepA R y with
  | none => rfl
  | some T => simp only [Option.bind_some, ih]
theorem goA_take (R : Rs) (ed : List Ed) : ∀ k, k ≤ ed.length → goA R ed k = goL R (ed.take k)
 | 0, _ => rfl
 | k + 1, h => by
  rw [goA, goA_take R ed k (by omega), List.take_add_one, List.getElem?_eq_getElem (by omega), Option.toList_some, goL_snoc]
  rw [List.getD_eq_getElem?_getD, List.getElem?_eq_getElem (by omega)]; rfl
theorem goA_all (R : Rs) (ed : List Ed) : goA R ed ed.length = goL R ed := by
 rw [goA_take R ed _ (Nat.le_refl _), List.take_length]
def mixR (l r : List Row) (I S q : Nat) : Rs := (List.range S).map fun s => (List.range I).map fun i => if s * I + i < q then edgeM r s i else edgeM l s i
theorem mixR_zero (l r : List Row) (I S : Nat) : mixR l r I S 0 = rows0 l I S := by simp [mixR, rows0, rowE]
theorem mixR_all (l r : List Row) (I S : Nat) : mixR l r I S (S * I) = rows0 r I S := by
 unfold mixR rows0 rowE
 refine List.map_congr_left fun s hs => List.map_congr_left fun i hi => ?_
 rw [if_pos (place_lt (List.mem_range.1 hs) (List.mem_range.1 hi))]
theorem mixR_get (l r : List Row) (I S q s i : Nat) (hs : s < S) (hi : i < I) : ((mixR l r I S q).getD s []).getD i (0, 0) = if s * I + i < q then edgeM r s i else edgeM l s i := by
 simp [mixR, hs, hi]
theorem mixR_step (l r : List Row) (I S q s i : Nat) (hs : s < S) (hi : i < I) (hq : q = s * I + i) : (mixR l r I S q).set s (((mixR l r I S q).getD s []).set i (edgeM r s i)) = mixR l r I S (q + 1) := by
 refine List.ext_getElem (by simp [mixR]) fun a h1 h2 => ?_
 have ha : a < S := by simpa [mixR] using h2
 rw [List.getElem_set]
 by_cases has : s = a
 ·subst has
  rw [if_pos rfl]
  simp only [mixR, List.getD_eq_getElem?_getD, List.getElem?_map, List.getElem?_range hs, Option.map_some, Option.getD_some, List.getElem_map, List.getElem_range]
  refine List.ext_getElem (by simp) fun b g1 g2 => ?_
  have hb : b < I := by simpa using g2
  rw [List.getElem_set]
  simp only [List.getElem_map, List.getElem_range]
  by_cases hib : i = b
  ·subst hib
   rw [if_pos rfl, if_pos (by omega)]
  ·rw [if_neg hib]
   by_cases hlt : s * I + b < q
   ·rw [if_pos hlt, if_pos (by omega)]
   ·rw [if_neg hlt, if_neg (by omega)]
 ·rw [if_neg has]
  simp only [mixR, List.getElem_map, List.getElem_range]
  refine List.map_congr_left fun b hb => ?_
  have hb := List.mem_range.1 hb
  have hne : ¬ a * I + b = q := by
   intro he
   have e1 : (a * I + b) / I = a := by rw [Nat.mul_comm, Nat.mul_add_div (by omega), Nat.div_eq_of_lt hb, Nat.add_zero]
   have e2 : (s * I + i) / I = s := by rw [Nat.mul_comm, Nat.mul_add_div (by omega), Nat.div_eq_of_lt hi, Nat.add_zero]
   rw [he, hq, e2] at e1
   omega
  by_cases hlt : a * I + b < q
  ·rw [if_pos hlt, if_pos (by omega)]
  ·rw [if_neg hlt, if_neg (by omega)]
theorem stepA_yes {R : Rs} {x : Ed} (h : (R.getD x.s.toNat []).getD x.i.toNat (0, 0) = x.old) : stepA R x = some (R.set x.s.toNat ((R.getD x.s.toNat []).set x.i.toNat x.new)) := if_pos h
theorem goL_seq (l r : List Row) (I S : Nat) (hI : 1 ≤ I) : ∀ q, q ≤ S * I → goL (rows0 l I S) (seqE l r I q) = some (mixR l r I S q)
 | 0, _ => by rw [seqE_zero, goL, mixR_zero]
 | q + 1, h => by
  have hs : q / I < S := Nat.div_lt_of_lt_mul (by rw [Nat.mul_comm]; omega)
  have hi : q % I < I := Nat.mod_lt _ (by omega)
  have hq : q = q / I * I + q % I := by have := Nat.div_add_mod q I; rw [Nat.mul_comm] at this; omega
  have hst := mixR_step l r I S q (q / I) (q % I) hs hi hq
  have hg := mixR_get l r I S q (q / I) (q % I) hs hi
  rw [if_neg (by omega)] at hg
  rw [seqE_succ]
  cases hd : differs (seqAt l r I q) with
  | true =>
   rw [cond_true, goL_snoc, goL_seq l r I S hI q (by omega), Option.bind_some]
   exact (stepA_yes (x := seqAt l r I q) hg).trans (congrArg some hst)
  | false =>
   rw [cond_false, List.append_nil, goL_seq l r I S hI q (by omega), ← hst]
   congr 1
   have he : edgeM l (q / I : Nat) (q % I : Nat) = edgeM r (q / I : Nat) (q % I : Nat) := by
    have h1 : ¬ (seqAt l r I q).old ≠ (seqAt l r I q).new := fun hne => by rw [← differs_iff, hd] at hne; cases hne
    exact Classical.not_not.1 h1
   rw [← he, ← hg]
   refine List.ext_getElem (by simp) fun a h1 h2 => ?_
   rw [List.getElem_set]
   by_cases ha : q / I = a
   ·subst ha
    rw [if_pos rfl]
    generalize hM : mixR l r I S q = M at *
    have hM2 : M.getD (q / I) [] = M[q / I] := by rw [List.getD_eq_getElem?_getD, List.getElem?_eq_getElem h1]; rfl
    rw [hM2]
    refine List.ext_getElem (by simp) fun b g1 g2 => ?_
    rw [List.getElem_set]
    by_cases hb : q % I = b
    ·subst hb
     rw [if_pos rfl, List.getD_eq_getElem?_getD, List.getElem?_eq_getElem g1]; rfl
    ·rw [if_neg hb]
   ·rw [if_neg ha]
theorem rows0_eq {i : Int} {r : List Row} (I : Nat) (hi : i = I) (hw : Wide i r) (n : Nat) (hn : n ≤ r.length) : rows0 r I n = (edgesOf r).take n := by
 refine List.ext_getElem (by simp [rows0, edgesOf]; omega) fun a h1 h2 => ?_
 have ha : a < n := by simpa [rows0] using h1
 have hwa := hw a (by omega)
 simp only [rows0, List.getElem_map, List.getElem_range, rowE, List.getElem_take, edgesOf]
 have hra : r.getD a ([], none) = r[a] := by rw [List.getD_eq_getElem?_getD, List.getElem?_eq_getElem (by omega)]; rfl
 rw [hra] at hwa
 refine List.ext_getElem (by simp; omega) fun b g1 g2 => ?_
 simp only [List.getElem_map, List.getElem_range, edgeM]
 rw [if_neg (by omega), Int.toNat_natCast, Int.toNat_natCast, hra, List.getD_eq_getElem?_getD, List.getElem?_eq_getElem g2]; rfl
theorem rows0_take (l : List Row) (I S n : Nat) (h : n ≤ S) : (rows0 l I S).take n = rows0 l I n := by
 rw [rows0, ← List.map_take, List.take_range, Nat.min_eq_left h]; rfl
theorem applyM_diff {i o o' : Int} {l r : List Row} (hl : machOk i o l = 0) (hr : machOk i o' r = 0) : applyM i l (diffM i o l o' r) = (edgesOf r, 0) := by
 obtain ⟨h1, h2, h3, h4, h5⟩ := machOk_zero hl
 obtain ⟨g1, g2, g3, g4, g5⟩ := machOk_zero hr
 obtain ⟨I, rfl⟩ : ∃ I : Nat, i = I := ⟨i.toNat, by omega⟩
 obtain ⟨S, hS⟩ : ∃ S : Nat, S = max l.length r.length := ⟨_, rfl⟩
 have hm : (max (l.length : Int) (r.length : Int)).toNat = S := by omega
 have he : diffEds l r S I = seqE l r I (S * I) := (seqE_all l r I S).symm
 have hg := goL_seq l r I S (by omega) (S * I) (Nat.le_refl _)
 rw [mixR_all] at hg
 unfold applyM diffM
 dsimp only
 rw [goA_all, Int.toNat_natCast, hm, ← hS, he, hg, applyT]
 have hf : fitsAll (rows0 r I S) ⟨I, o, o', l.length, r.length, seqE l r I (S * I)⟩ = true := by
  refine fitsAll_yes (rows0_wide r I S) fun s j hs hj => ?_
  rw [rows0_len] at hs
  have : ((rows0 r I S).getD s []).getD j (0, 0) = edgeM r s j := by simp [rows0, rowE, hs, hj]
  rw [this]
  exact edgeM_side hr s j (by omega)
 rw [if_pos hf, Int.toNat_natCast, rows0_take _ _ _ _ (by omega), rows0_eq I rfl g4 r.length (Nat.le_refl _), List.take_of_length_le (by simp [edgesOf])]
end Go.Proofs
namespace Go.Proofs
open Go Go.V
set_option linter.unusedVariables false
set_option linter.unusedSimpArgs false
set_option maxHeartbeats 0
def rowsI (T : Rs) (I : Nat) : List Row := T.map fun r => (r, some I)
theorem edgesOf_rowsI (T : Rs) (I : Nat) : edgesOf (rowsI T I) = T := by simp [edgesOf, rowsI, Function.comp_def]
theorem apply_diff (i o o' : Int) (l r : List Row) (c : Option Nat) (d : Option Nat) (hl : machOk i o l = 0) (hr : machOk i o' r = 0) :
  PC Tryz.prog G0 13 [mA i o l c, pA (diffM i o l o' r) 6 d] (.tup [mA i o' (rowsI (edgesOf r) i.toNat) (some r.length), .int .i64 0]) := by
 have hm := diff_small hl hr
 have h := apply32 i o l c (diffM i o l o' r) 6 d hl (diffM_ok hl hr) (by rw [fitsM]; simp [diffM]) (.inr rfl) (by omega)
 rw [applyM_diff hl hr] at h
 have e : resM i (diffM i o l o' r).o1 (edgesOf r) i.toNat 0 = .tup [mA i o' (rowsI (edgesOf r) i.toNat) (some r.length), .int .i64 0] := by
  rw [resM, if_pos rfl]
  have : (edgesOf r).length = r.length := by simp [edgesOf]
  rw [this]; rfl
 rw [e] at h
 exact h
theorem same_mach (i o : Int) (l r : List Row) (c d : Option Nat) (hl : machOk i o l = 0) (he : edgesOf r = edgesOf l) : PC Tryz.prog G0 14 [mA i o r c, mA i o l d] (.bool true) := by
 obtain ⟨h1, h2, h3, h4, h5⟩ := machOk_zero hl
 have hlen : r.length = l.length := by have := congrArg List.length he; simpa [edgesOf] using this
 have hw : ∀ j, j < l.length → (l.getD j ([], none)).1.length ≤ 1000000 := fun j hj => by have := h4 j hj; omega
 have h := refSame21 i o r 1 c i o l 1 d (.inr rfl) (.inr rfl) (by omega) (by omega) (fun j hj => by
  rw [← getD_edgesOf, he, getD_edgesOf]; exact hw j (by omega)) hw
 rw [decide_eq_true ⟨rfl, rfl, he⟩] at h
 exact h
end Go.Proofs
