import Derived.Test.YtbgdagokjfmcbaaGreatDoorD28
import Derived.Test.YtbgdagokjfmcbaaGreatDoorV42
import Derived.Test.YtbgdagokjfmcbaaGreatDoorD13
import Derived.Test.YtbgdagokjfmcbaaGreatDoorD29
namespace Go.Proofs
open Go Go.V
set_option linter.unusedVariables false
set_option linter.unusedSimpArgs false
set_option maxHeartbeats 0
def rowE (l : List Row) (s k : Nat) : List Edg := (List.range k).map fun i : Nat => edgeM l s i
def rows0 (l : List Row) (I k : Nat) : Rs := (List.range k).map fun s => rowE l s I
theorem rowE_len (l : List Row) (s k : Nat) : (rowE l s k).length = k := by simp [rowE]
theorem rows0_len (l : List Row) (I k : Nat) : (rows0 l I k).length = k := by simp [rows0]
theorem rows0_succ (l : List Row) (I k : Nat) : rows0 l I (k + 1) = rows0 l I k ++ [rowE l k I] := by simp [rows0, List.range_succ]
theorem rows0_zero (l : List Row) (I : Nat) : rows0 l I 0 = [] := rfl
theorem rowA_rep (I : Nat) : rowA (List.replicate I (0, 0)) = List.replicate I [.int .i64 0, .int .i64 0] := by simp [rowA, eA]
theorem getD_snoc {α : Type} {R : List (List α)} {n : Nat} (h : R.length = n) (r : List α) : (R ++ [r]).getD n [] = r := by
 subst h; simp
theorem set_snoc {α : Type} {R : List (List α)} {n : Nat} (h : R.length = n) (r r' : List α) : (R ++ [r]).set n r' = R ++ [r'] := by
 subst h; simp
theorem rowA_setE (r : List Edg) (v : Nat) (e : Edg) : (rowA r).set v (eA e) = rowA (r.set v e) := by rw [rowA, rowA, List.map_set]
theorem rows0_wide (l : List Row) (I k : Nat) : WideR I (rows0 l I k) := fun s hs => by
 rw [rows0_len] at hs
 simp [rows0, hs, rowE_len]
def partE (l : List Row) (s I i : Nat) : List Edg := rowE l s i ++ List.replicate (I - i) (0, 0)
theorem partE_zero (l : List Row) (s I : Nat) : partE l s I 0 = List.replicate I (0, 0) := by simp [partE, rowE]
theorem partE_all (l : List Row) (s I : Nat) : partE l s I I = rowE l s I := by simp [partE]
theorem partE_len (l : List Row) (s I i : Nat) (h : i ≤ I) : (partE l s I i).length = I := by simp [partE, rowE_len]; omega
theorem partE_set (l : List Row) (s I i : Nat) (h : i < I) : (partE l s I i).set i (edgeM l s i) = partE l s I (i + 1) := by
 have e : I - i = (I - (i + 1)) + 1 := by omega
 rw [partE, List.set_append_right _ _ (by rw [rowE_len]; omega), rowE_len, Nat.sub_self, e, List.replicate_succ, List.set_cons_zero, partE]
 have : rowE l s (i + 1) = rowE l s i ++ [edgeM l s i] := by simp [rowE, List.range_succ]
 rw [this, List.append_assoc]; rfl
def mixO (I S k : Nat) : List (List AV) := ownR 4 I (some I) k ++ List.replicate (S - k) [.sl 0 [] (some 0)]
theorem mixO_len (I S k : Nat) (h : k ≤ S) : (mixO I S k).length = S := by simp [mixO, length_ownR]; omega
theorem mixO_zero (I S : Nat) : mixO I S 0 = List.replicate S [.sl 0 [] (some 0)] := by simp [mixO, ownR_nil]
theorem mixO_all (I S : Nat) : mixO I S S = ownR 4 I (some I) S := by simp [mixO]
theorem mixO_get (I S k : Nat) (h : k < S) : (mixO I S k).getD k [] = [.sl 0 [] (some 0)] := by
 rw [mixO, List.getD_eq_getElem?_getD, List.getElem?_append_right (by rw [length_ownR]; omega), length_ownR, Nat.sub_self]
 have : 0 < S - k := by omega
 simp [this]
theorem mixO_set (I S k : Nat) (h : k < S) : (mixO I S k).set k [.own (k + 4) I I (some I)] = mixO I S (k + 1) := by
 have e : S - k = (S - (k + 1)) + 1 := by omega
 rw [mixO, List.set_append_right _ _ (by rw [length_ownR]; omega), length_ownR, Nat.sub_self, e, List.replicate_succ, List.set_cons_zero, mixO, ← ownR_snoc, List.append_assoc]; rfl
theorem mixO_own (I S k : Nat) (h : k < S) : (mixO I S (k + 1)).getD k [] = [.own (k + 4) I I (some I)] := by
 rw [mixO, List.getD_eq_getElem?_getD, List.getElem?_append_left (by rw [length_ownR]; omega), ← List.getD_eq_getElem?_getD, getD_ownR (some I) (by omega)]
def aH (i o : Int) (l : List Row) (c : Option Nat) (p : Pt) (z : Nat) (d : Option Nat) (X : List (List AV)) (rss : List (List (List AV))) : List Blk :=
 .row 3 30 [[.int .i64 i, .int .i64 o, .sl 1 (rowsA l) c]] :: .row 6 36 [[.int .i64 p.inp, .int .i64 p.o0, .int .i64 p.o1, .int .i64 p.s0, .int .i64 p.s1, .sl z (edsA p.ed) d]] :: .row 3 30 [[.int .i64 0, .int .i64 0, .sl 0 [] (some 0)]] :: .row 1 98 X :: rowBs 2 58 rss
def resM (i o : Int) (R : Rs) (I : Nat) (e : Int) : AV := if e = 0 then .tup [mA i o (R.map fun r => (r, some I)) (some R.length), .int .i64 0] else .tup [.agg [.int .i64 0, .int .i64 0, .sl 0 [] (some 0)], .int .i64 e]
def stepA (R : Rs) (x : Ed) : Option Rs := if (R.getD x.s.toNat []).getD x.i.toNat (0, 0) = x.old then some (R.set x.s.toNat ((R.getD x.s.toNat []).set x.i.toNat x.new)) else none
def goA (R : Rs) (ed : List Ed) : Nat → Option Rs
 | 0 => some R
 | k + 1 => (goA R ed k).bind fun T => stepA T (ed.getD k eD)
theorem goA_none {R : Rs} {ed : List Ed} {k : Nat} (h : goA R ed k = none) : ∀ m, k ≤ m → goA R ed m = none := by
 intro m hm
 obtain ⟨d, rfl⟩ : ∃ d, m = k + d := ⟨m - k, by omega⟩
 clear hm
 induction d with
 | zero => exact h
 | succ d ih => rw [← Nat.add_assoc, goA, ih]; rfl
theorem stepA_len {R T : Rs} {x : Ed} (h : stepA R x = some T) : T.length = R.length := by
 unfold stepA at h
 split at h
 ·injection h with h; rw [← h, List.length_set]
 ·cases h
theorem stepA_wide {I : Nat} {R T : Rs} {x : Ed} (h : stepA R x = some T) (hw : WideR I R) : WideR I T := by
 have hl := stepA_len h
 unfold stepA at h
 split at h
 ·injection h with h
  intro s hs
  rw [hl] at hs
  rw [← h, List.getD_eq_getElem?_getD, List.getElem?_set]
  by_cases hq : x.s.toNat = s
  ·rw [if_pos hq, if_pos (by omega)]
   simp only [Option.getD_some, List.length_set]
   subst hq; exact hw _ hs
  ·rw [if_neg hq, ← List.getD_eq_getElem?_getD]; exact hw s hs
 ·cases h
def fitsAll (T : Rs) (p : Pt) : Bool := (List.range T.length).all fun s => (T.getD s []).all fun e => sideM s e p.s1 p.o1
def applyT (p : Pt) : Option Rs → Rs × Int
 | none => ([], 18)
 | some T => if fitsAll T p = true then (T.take p.s1.toNat, 0) else ([], 18)
def applyM (i : Int) (l : List Row) (p : Pt) : Rs × Int := applyT p (goA (rows0 l i.toNat (max p.s0 p.s1).toNat) p.ed p.ed.length)
theorem take4 {N : Nat} (b0 b1 b2 b3 : Blk) (X K : List Blk) (h : X.length = N) : (b0 :: b1 :: b2 :: b3 :: (X ++ K)).take (N + 4) = b0 :: b1 :: b2 :: b3 :: X := by
 subst h
 simp only [List.take_succ_cons, List.take_append_of_le_length (Nat.le_refl _), List.take_length]
theorem aH_below (i o : Int) (l : List Row) (c : Option Nat) (p : Pt) (z : Nat) (d : Option Nat) (N I : Nat) (R : Rs) : (aH i o l c p z d (ownR 4 I (some I) N) (R.map rowA)).all (Blk.below (N + 4)) = true := by
 have h := rb_below (z := 2) (t := 58) (m := N + 4) (rss := R.map rowA) fun es hes => by
  obtain ⟨r, _, rfl⟩ := List.mem_map.1 hes
  exact idsE_rowA _ _
 have h2 := ownR_ids (b0 := 4) (I := I) (N := N) (m := N + 4) (some I) (Nat.le_refl _)
 unfold aH
 rw [List.all_cons, List.all_cons, List.all_cons, List.all_cons, h]
 simp [Blk.below, idsE, idsL, AV.ids, h2]
theorem resM_bad (o : Int) (I : Nat) : (AV.tup [.agg [.int .i64 0, .int .i64 0, .sl 0 [] (some 0)], .int .i64 18]).eqv (resM I o [] I 18) := by
 simp [resM, eqv_tup, eqv_agg, eqvL, eqv1, eqv_int, eqv_sl]
theorem fitsAll_no {T : Rs} {p : Pt} {s j I : Nat} (hw : WideR I T) (hs : s < T.length) (hj : j < I) (h : sideM s ((T.getD s []).getD j (0, 0)) p.s1 p.o1 = false) : fitsAll T p = false := by
 have hl := hw s hs
 rw [Bool.eq_false_iff]
 intro hh
 rw [fitsAll, List.all_eq_true] at hh
 have h1 := hh s (List.mem_range.2 hs)
 rw [List.all_eq_true] at h1
 have h2 := h1 ((T.getD s []).getD j (0, 0)) (by
  generalize T.getD s [] = r at *
  rw [List.getD_eq_getElem?_getD, List.getElem?_eq_getElem (by omega)]; exact List.getElem_mem _)
 rw [h] at h2; cases h2
theorem fitsAll_yes {T : Rs} {p : Pt} {I : Nat} (hw : WideR I T) (h : ∀ s j, s < T.length → j < I → sideM s ((T.getD s []).getD j (0, 0)) p.s1 p.o1 = true) : fitsAll T p = true := by
 rw [fitsAll, List.all_eq_true]
 intro s hs
 have hs := List.mem_range.1 hs
 rw [List.all_eq_true]
 intro e he
 obtain ⟨j, hj, rfl⟩ := List.getElem_of_mem he
 have h1 := h s j hs (by have := hw s hs; omega)
 rwa [List.getD_eq_getElem?_getD (l := T.getD s []), List.getElem?_eq_getElem hj] at h1
def rowsC (T : Rs) (c : Option Nat) : List (List AV) := rowsA (T.map fun r => (r, c))
theorem rowsC_len (T : Rs) (c : Option Nat) : (rowsC T c).length = T.length := by simp [rowsC, rowsA]
theorem rowsC_take (T : Rs) (c : Option Nat) (n : Nat) : (rowsC T c).take n = rowsC (T.take n) c := by simp [rowsC, rowsA, List.map_take]
theorem idsE_rowsC (p : Nat → Bool) (T : Rs) (c : Option Nat) : idsE p (rowsC T c) = true := by unfold rowsC; exact idsE_rowsA p _
attribute [push_cast] idsE_rowsC
theorem rowsC_all (T : Rs) (c : Option Nat) : ((rowsC T c).all fun e => e.all fun x => AV.ids none_ x) = true := by
 simp [rowsC, rowsA, AV.ids, idsE_rowA]
theorem rowsC_eq (T : Rs) (c : Option Nat) : ((T.map rowA).map fun es => [AV.sl 2 es c]) = rowsC T c := by simp [rowsC, rowsA]
set_option maxRecDepth 100000 in
theorem clone70 (r : List Edg) (T : Rs) (c c' : Option Nat) (hT : T.length ≤ 1000) : PC Tryz.prog G0 45 [.sl 1 (rowsC (r :: T) c) c'] (.sl 1 (rowsC (r :: T) c) none) := by
 have e : rowsC (r :: T) c = [.sl 2 (rowA r) c] :: rowsC T c := rfl
 have hl := rowsC_len T c
 have hi : ∀ p, idsE p (rowsC T c) = true := fun p => by unfold rowsC; exact idsE_rowsA p _
 have hi2 : ∀ p, idsE p (rowA r) = true := fun p => idsE_rowA p r
 rw [e]
 refine pc_go 1 8 [.tmp 2] Tryz.func45 rfl rfl rfl (by simp) ?_
 intro s ⟨a0, hz⟩
 clear hz
 repeat' (first|(first|(refine a0_ ?_; first|refine a1_ rfl rfl ?_|refine a2_ rfl ?_|refine a3_ rfl rfl ?_|refine a4_ rfl ?_|refine a5_ rfl rfl rfl ?_|refine a6_ rfl rfl ?_)|(refine g0_ ?_; first|refine g1_ rfl ?_|refine g2_ rfl rfl ?_|refine go_draw (dr := allQ) rfl rfl mixed (by first|assumption|kernel_rfl) ?_|refine g4_ rfl ?_|refine g5_ rfl ?_|refine g6_ rfl ?_|refine g7_ rfl ?_|refine g8_ rfl ?_)|(refine o0_ ?_; first|refine o1_ ?_|refine o2_ ?_|refine o3_ ?_|refine o4_ ?_|refine o5_ ?_|refine o6_ rfl ?_|refine o7_ rfl ?_|refine o8_ ?_|refine o9_ ?_|refine oa_ ?_|refine ob_ ?_|refine oc_ ?_|refine od_ ?_|refine oe_ ?_|refine of_ ?_|refine og_ ?_))|refine at_go ?_|(with_reducible refine And.intro (at_go ?_) (at_go ?_))|((with_reducible refine And.intro (fun h => ?_) (fun h => ?_)) <;> try (exfalso; omega))|(with_reducible refine And.intro (by first|omega|(simp only [maxLen]; omega)) ?_)|fail|simp (disch := first|omega|(simp only [length_edsA, length_rowsA, length_rowA, length_ownR, rb_len, List.length_set, List.length_reverse, List.length_replicate, List.length_append, List.length_cons, List.length_nil, List.length_map]; omega)) only [push_cast, ↓reduceIte, reduceIte, reduceCtorEq, Nat.reduceAdd, Nat.reduceLT, Nat.reduceEqDiff, Nat.reduceLeDiff, Int.reduceAdd, Int.reduceLT, Int.reduceLE, Nat.reduceMul, a0, hl, hi, hi2, rowsC_all])
 omega
theorem clip69 (es : List (List AV)) (c : Option Nat) (hi : ∀ p, idsE p es = true) : PC Tryz.prog G0 44 [.sl 1 es c] (.sl 1 es (some es.length)) := by
 refine pc_go 0 9 [.tmp 2] Tryz.func44 rfl rfl rfl (by simp) ?_
 intro s ⟨a0, hz⟩
 clear hz
 repeat' (first|(first|(refine a0_ ?_; first|refine a1_ rfl rfl ?_|refine a2_ rfl ?_|refine a3_ rfl rfl ?_|refine a4_ rfl ?_|refine a5_ rfl rfl rfl ?_|refine a6_ rfl rfl ?_)|(refine g0_ ?_; first|refine g1_ rfl ?_|refine g2_ rfl rfl ?_|refine go_draw (dr := allQ) rfl rfl mixed (by first|assumption|kernel_rfl) ?_|refine g4_ rfl ?_|refine g5_ rfl ?_|refine g6_ rfl ?_|refine g7_ rfl ?_|refine g8_ rfl ?_)|(refine o0_ ?_; first|refine o1_ ?_|refine o2_ ?_|refine o3_ ?_|refine o4_ ?_|refine o5_ ?_|refine o6_ rfl ?_|refine o7_ rfl ?_|refine o8_ ?_|refine o9_ ?_|refine oa_ ?_|refine ob_ ?_|refine oc_ ?_|refine od_ ?_|refine oe_ ?_|refine of_ ?_|refine og_ ?_))|refine at_go ?_|(with_reducible refine And.intro (at_go ?_) (at_go ?_))|((with_reducible refine And.intro (fun h => ?_) (fun h => ?_)) <;> try (exfalso; omega))|(with_reducible refine And.intro (by first|omega|(simp only [maxLen]; omega)) ?_)|fail|simp (disch := first|omega|(simp only [length_edsA, length_rowsA, length_rowA, length_ownR, rb_len, List.length_set, List.length_reverse, List.length_replicate, List.length_append, List.length_cons, List.length_nil, List.length_map]; omega)) only [push_cast, ↓reduceIte, reduceIte, reduceCtorEq, Nat.reduceAdd, Nat.reduceLT, Nat.reduceEqDiff, Nat.reduceLeDiff, Int.reduceAdd, Int.reduceLT, Int.reduceLE, Nat.reduceMul, a0, hi])
set_option maxRecDepth 100000 in
theorem apply_chk (I : Nat) (o : Int) (l : List Row) (c : Option Nat) (p : Pt) (z : Nat) (d : Option Nat) (T : Rs) (S : Nat) (s : Nat → AV) (hI : 1 ≤ I ∧ I ≤ 16) (hS : 1 ≤ S ∧ S ≤ 64) (hT : T.length = S) (hw : WideR I T) (hs1 : 1 ≤ p.s1 ∧ p.s1 ≤ S)
  (q2 : s 2 = .ptr 0 0 0 1) (q3 : s 3 = .ptr 1 0 0 1) (q4 : s 4 = .ptr 2 0 0 1) (q7 : s 7 = .own 3 S S (some S)) (q93 : s 93 = .own 3 S S (some S)) (q94 : s 94 = .int .i64 S) (q95 : s 95 = .int .i64 0) :
  Go false Tryz.prog G0 0 132 (bodyOf Tryz.f13) [0, 1, 0, 1, 1, 1, 1, 1] (inBlockS 6 (thenC false Tryz.prog G0 0 132 (bodyOf Tryz.f13) [1, 1, 1, 1, 1, 1] (DoneS Tryz.prog 132 [ResultVar.cell 4 30, ResultVar.tmp 5] 2 (resM I p.o1 (applyT p (some T)).1 I (applyT p (some T)).2)))) True s (aH I o l c p z d (ownR 4 I (some I) S) (T.map rowA)) := by
 have hN : (T.map rowA).length = S := by rw [List.length_map, hT]
 have k0 := fun A K => rb_at0 (z := 2) (t := 58) A K hN
 have s0 := fun A B K => rb_setAt0 (z := 2) (t := 58) A B K hN
 refine go_loop rfl (fun m s' H' => ∃ (k : Nat), k ≤ S ∧ m = S - k ∧ (∀ a b, a < k → b < I → sideM a ((T.getD a []).getD b (0, 0)) p.s1 p.o1 = true) ∧ H' = aH I o l c p z d (ownR 4 I (some I) S) (T.map rowA) ∧ s' 2 = .ptr 0 0 0 1 ∧ s' 3 = .ptr 1 0 0 1 ∧ s' 4 = .ptr 2 0 0 1 ∧ s' 7 = .own 3 S S (some S) ∧ s' 93 = .own 3 S S (some S) ∧ s' 94 = .int .i64 S ∧ s' 95 = .int .i64 k) (m := S) (by (first|trivial|((repeat' apply And.intro) <;> first|trivial|assumption|omega|(simp only [maxLen]; omega)|(simp only [length_edsA, length_rowsA, length_rowA, length_ownR, rb_len, List.length_replicate, List.length_append, List.length_cons, List.length_nil, List.length_map, List.length_take, List.length_drop, List.length_set, List.length_reverse, maxLen] <;> omega)))) (Weak.refl _ _) ⟨0, by omega, by omega, fun a b ha => by omega, rfl, ?_⟩ ?_
 ·simp (disch := first|omega|(simp only [length_edsA, length_rowsA, length_rowA, length_ownR, rb_len, List.length_set, List.length_reverse, List.length_replicate, List.length_append, List.length_cons, List.length_nil, List.length_map]; omega)) only [push_cast, ↓reduceIte, reduceIte, reduceCtorEq, Nat.reduceAdd, Nat.reduceLT, Nat.reduceEqDiff, Nat.reduceLeDiff, Int.reduceAdd, Int.reduceLT, Int.reduceLE, Nat.reduceMul, q2, q3, q4, q7, q93, q94, q95]
 ·rintro m s' H' ⟨k, hk, rfl, hg, rfl, b2, b3, b4, b7, b93, b94, b95⟩
  unfold aH
  rcases Nat.lt_or_ge k S with hlt|hge
  ·have er := getD_mapA T k
   have el : (T.getD k []).length = I := hw k (by omega)
   have g1 := fun K => rb_getK (z := 2) (t := 58) K hN hlt
   have g1' := rb_get (z := 2) (t := 58) hN hlt
   have oe := getD_ownR (b0 := 4) (I := I) (N := S) (some I) hlt
   repeat' (first|(((first|(refine a0_ ?_; first|refine a1_ rfl rfl ?_|refine a2_ rfl ?_|refine a3_ rfl rfl ?_|refine a4_ rfl ?_|refine a5_ rfl rfl rfl ?_|refine a6_ rfl rfl ?_)|(refine g0_ ?_; first|refine g1_ rfl ?_|refine g2_ rfl rfl ?_|refine go_draw (dr := allQ) rfl rfl mixed (by first|assumption|kernel_rfl) ?_|refine g4_ rfl ?_|refine g5_ rfl ?_|refine g6_ rfl ?_|refine g7_ rfl ?_|refine g8_ rfl ?_)|(refine o0_ ?_; first|refine o1_ ?_|refine o2_ ?_|refine o3_ ?_|refine o4_ ?_|refine o5_ ?_|refine o6_ rfl ?_|refine o7_ rfl ?_|refine o8_ ?_|refine o9_ ?_|refine oa_ ?_|refine ob_ ?_|refine oc_ ?_|refine od_ ?_|refine oe_ ?_|refine of_ ?_|refine og_ ?_))) <;> (try simp (disch := first|omega|(simp only [length_edsA, length_rowsA, length_rowA, length_ownR, rb_len, List.length_set, List.length_reverse, List.length_replicate, List.length_append, List.length_cons, List.length_nil, List.length_map]; omega)) only [push_cast, ↓reduceIte, reduceIte, reduceCtorEq, Nat.reduceAdd, Nat.reduceLT, Nat.reduceEqDiff, Nat.reduceLeDiff, Int.reduceAdd, Int.reduceLT, Int.reduceLE, Nat.reduceMul, b2, b3, b4, b7, b93, b94, b95, er, el, g1, g1', k0, oe, rb_len, hN, length_rowA, length_ownR]))|refine at_go ?_|(with_reducible refine And.intro (at_go ?_) (at_go ?_))|((with_reducible refine And.intro (fun h => ?_) (fun h => ?_)) <;> try (exfalso; omega))|(with_reducible refine And.intro (by first|omega|(simp only [maxLen]; omega)) ?_)|fail|simp (disch := first|omega|(simp only [length_edsA, length_rowsA, length_rowA, length_ownR, rb_len, List.length_set, List.length_reverse, List.length_replicate, List.length_append, List.length_cons, List.length_nil, List.length_map]; omega)) only [push_cast, ↓reduceIte, reduceIte, reduceCtorEq, Nat.reduceAdd, Nat.reduceLT, Nat.reduceEqDiff, Nat.reduceLeDiff, Int.reduceAdd, Int.reduceLT, Int.reduceLE, Nat.reduceMul, b2, b3, b4, b7, b93, b94, b95, er, el, g1, g1', k0, oe, rb_len, hN, length_rowA, length_ownR])
   refine go_loop rfl (fun m s' H' => ∃ (j : Nat), j ≤ I ∧ m = I - j ∧ (∀ b, b < j → sideM k ((T.getD k []).getD b (0, 0)) p.s1 p.o1 = true) ∧ H' = aH I o l c p z d (ownR 4 I (some I) S) (T.map rowA) ∧ s' 2 = .ptr 0 0 0 1 ∧ s' 3 = .ptr 1 0 0 1 ∧ s' 4 = .ptr 2 0 0 1 ∧ s' 7 = .own 3 S S (some S) ∧ s' 93 = .own 3 S S (some S) ∧ s' 94 = .int .i64 S ∧ s' 95 = .int .i64 k ∧ s' 12 = .int .i64 k ∧ s' 100 = .own (k + 4) I I (some I) ∧ s' 101 = .int .i64 I ∧ s' 102 = .int .i64 j) (m := I) (by (first|trivial|((repeat' apply And.intro) <;> first|trivial|assumption|omega|(simp only [maxLen]; omega)|(simp only [length_edsA, length_rowsA, length_rowA, length_ownR, rb_len, List.length_replicate, List.length_append, List.length_cons, List.length_nil, List.length_map, List.length_take, List.length_drop, List.length_set, List.length_reverse, maxLen] <;> omega)))) (Weak.refl _ _) ⟨0, by omega, by omega, fun b hb => by omega, rfl, ?_⟩ ?_
   ·simp (disch := first|omega|(simp only [length_edsA, length_rowsA, length_rowA, length_ownR, rb_len, List.length_set, List.length_reverse, List.length_replicate, List.length_append, List.length_cons, List.length_nil, List.length_map]; omega)) only [push_cast, ↓reduceIte, reduceIte, reduceCtorEq, Nat.reduceAdd, Nat.reduceLT, Nat.reduceEqDiff, Nat.reduceLeDiff, Int.reduceAdd, Int.reduceLT, Int.reduceLE, Nat.reduceMul, b2, b3, b4, b7, b93, b94, b95, er, el, g1, g1', k0, oe, rb_len, hN, length_rowA, length_ownR]
   ·rintro m s' H' ⟨j, hj, rfl, hg2, rfl, b2, b3, b4, b7, b93, b94, b95, b12, b100, b101, b102⟩
    unfold aH
    rcases Nat.lt_or_ge j I with hlt2|hge2
    ·have ee := getD_rowA (T.getD k []) j (by omega)
     have hf := fits68 k ((T.getD k []).getD j (0, 0)) p.s1 p.o1
     have hsd : sideM k ((T.getD k []).getD j (0, 0)) p.s1 p.o1 = sideM k ((T.getD k []).getD j (0, 0)) p.s1 p.o1 := rfl
     generalize hold : (T.getD k []).getD j (0, 0) = e at *
     generalize hu : sideM k e p.s1 p.o1 = u at hf
     obtain ⟨e1, e2⟩ := e
     simp only [eA] at ee hf
     cases u
     ·have hno := fitsAll_no (p := p) (s := k) (j := j) hw (by omega) hlt2 (by rw [hold]; exact hu)
      rw [applyT, if_neg (by rw [hno]; simp)]
      repeat' (first|(((first|(refine a0_ ?_; first|refine a1_ rfl rfl ?_|refine a2_ rfl ?_|refine a3_ rfl rfl ?_|refine a4_ rfl ?_|refine a5_ rfl rfl rfl ?_|refine a6_ rfl rfl ?_)|(refine g0_ ?_; first|refine g1_ rfl ?_|refine g2_ rfl rfl ?_|refine go_draw (dr := allQ) rfl rfl mixed (by first|assumption|kernel_rfl) ?_|refine g4_ rfl ?_|refine g5_ rfl ?_|refine g6_ rfl ?_|refine g7_ rfl ?_|refine g8_ rfl ?_)|(refine o0_ ?_; first|refine o1_ ?_|refine o2_ ?_|refine o3_ ?_|refine o4_ ?_|refine o5_ ?_|refine o6_ rfl ?_|refine o7_ rfl ?_|refine o8_ ?_|refine o9_ ?_|refine oa_ ?_|refine ob_ ?_|refine oc_ ?_|refine od_ ?_|refine oe_ ?_|refine of_ ?_|refine og_ ?_))) <;> (try simp (disch := first|omega|(simp only [length_edsA, length_rowsA, length_rowA, length_ownR, rb_len, List.length_set, List.length_reverse, List.length_replicate, List.length_append, List.length_cons, List.length_nil, List.length_map]; omega)) only [push_cast, ↓reduceIte, reduceIte, reduceCtorEq, Nat.reduceAdd, Nat.reduceLT, Nat.reduceEqDiff, Nat.reduceLeDiff, Int.reduceAdd, Int.reduceLT, Int.reduceLE, Nat.reduceMul, b2, b3, b4, b7, b93, b94, b95, b12, b100, b101, b102, er, el, ee, g1, g1', k0, s0, oe, rb_len, hN, length_rowA, length_ownR]))|refine at_go ?_|(with_reducible refine And.intro (at_go ?_) (at_go ?_))|((with_reducible refine And.intro (fun h => ?_) (fun h => ?_)) <;> try (exfalso; omega))|(with_reducible refine And.intro (by first|omega|(simp only [maxLen]; omega)) ?_)|(first|(refine ⟨_, _, pc_lift (hf) (by (simp [idsL, idsE, AV.ids, Nat.add_zero])) _, ?_⟩)|(refine ⟨_, pc_lift (hf) (by (simp [idsL, idsE, AV.ids, Nat.add_zero])) _, ?_⟩)|(refine ⟨_, fun _ => pc_lift (hf) (by (simp [idsL, idsE, AV.ids, Nat.add_zero])) _, ?_⟩))|simp (disch := first|omega|(simp only [length_edsA, length_rowsA, length_rowA, length_ownR, rb_len, List.length_set, List.length_reverse, List.length_replicate, List.length_append, List.length_cons, List.length_nil, List.length_map]; omega)) only [push_cast, ↓reduceIte, reduceIte, reduceCtorEq, Nat.reduceAdd, Nat.reduceLT, Nat.reduceEqDiff, Nat.reduceLeDiff, Int.reduceAdd, Int.reduceLT, Int.reduceLE, Nat.reduceMul, b2, b3, b4, b7, b93, b94, b95, b12, b100, b101, b102, er, el, ee, g1, g1', k0, s0, oe, rb_len, hN, length_rowA, length_ownR])
      all_goals exact resM_bad _ _
     ·repeat' (first|(((first|(refine a0_ ?_; first|refine a1_ rfl rfl ?_|refine a2_ rfl ?_|refine a3_ rfl rfl ?_|refine a4_ rfl ?_|refine a5_ rfl rfl rfl ?_|refine a6_ rfl rfl ?_)|(refine g0_ ?_; first|refine g1_ rfl ?_|refine g2_ rfl rfl ?_|refine go_draw (dr := allQ) rfl rfl mixed (by first|assumption|kernel_rfl) ?_|refine g4_ rfl ?_|refine g5_ rfl ?_|refine g6_ rfl ?_|refine g7_ rfl ?_|refine g8_ rfl ?_)|(refine o0_ ?_; first|refine o1_ ?_|refine o2_ ?_|refine o3_ ?_|refine o4_ ?_|refine o5_ ?_|refine o6_ rfl ?_|refine o7_ rfl ?_|refine o8_ ?_|refine o9_ ?_|refine oa_ ?_|refine ob_ ?_|refine oc_ ?_|refine od_ ?_|refine oe_ ?_|refine of_ ?_|refine og_ ?_))) <;> (try simp (disch := first|omega|(simp only [length_edsA, length_rowsA, length_rowA, length_ownR, rb_len, List.length_set, List.length_reverse, List.length_replicate, List.length_append, List.length_cons, List.length_nil, List.length_map]; omega)) only [push_cast, ↓reduceIte, reduceIte, reduceCtorEq, Nat.reduceAdd, Nat.reduceLT, Nat.reduceEqDiff, Nat.reduceLeDiff, Int.reduceAdd, Int.reduceLT, Int.reduceLE, Nat.reduceMul, b2, b3, b4, b7, b93, b94, b95, b12, b100, b101, b102, er, el, ee, g1, g1', k0, s0, oe, rb_len, hN, length_rowA, length_ownR]))|refine at_go ?_|(with_reducible refine And.intro (at_go ?_) (at_go ?_))|((with_reducible refine And.intro (fun h => ?_) (fun h => ?_)) <;> try (exfalso; omega))|(with_reducible refine And.intro (by first|omega|(simp only [maxLen]; omega)) ?_)|(first|(refine ⟨_, _, pc_lift (hf) (by (simp [idsL, idsE, AV.ids, Nat.add_zero])) _, ?_⟩)|(refine ⟨_, pc_lift (hf) (by (simp [idsL, idsE, AV.ids, Nat.add_zero])) _, ?_⟩)|(refine ⟨_, fun _ => pc_lift (hf) (by (simp [idsL, idsE, AV.ids, Nat.add_zero])) _, ?_⟩))|simp (disch := first|omega|(simp only [length_edsA, length_rowsA, length_rowA, length_ownR, rb_len, List.length_set, List.length_reverse, List.length_replicate, List.length_append, List.length_cons, List.length_nil, List.length_map]; omega)) only [push_cast, ↓reduceIte, reduceIte, reduceCtorEq, Nat.reduceAdd, Nat.reduceLT, Nat.reduceEqDiff, Nat.reduceLeDiff, Int.reduceAdd, Int.reduceLT, Int.reduceLE, Nat.reduceMul, b2, b3, b4, b7, b93, b94, b95, b12, b100, b101, b102, er, el, ee, g1, g1', k0, s0, oe, rb_len, hN, length_rowA, length_ownR])
      have g4 : (rowBs 2 58 (T.map rowA)).length = S := by rw [rb_len, hN]
      refine out_round_take (I - (j + 1)) (S + 4) (by omega) (by (first|trivial|((repeat' apply And.intro) <;> first|trivial|assumption|omega|(simp only [maxLen]; omega)|(simp only [length_edsA, length_rowsA, length_rowA, length_ownR, rb_len, List.length_replicate, List.length_append, List.length_cons, List.length_nil, List.length_map, List.length_take, List.length_drop, List.length_set, List.length_reverse, maxLen] <;> omega)))) (by omega) (by first|(simp [rb_len]; done)|(simp [rb_len]; omega)) (by rw [take4 _ _ _ _ _ _ g4]; exact aH_below I o l c p z d S I _) ⟨j + 1, by omega, rfl, fun b hb => ?_, by rw [take4 _ _ _ _ _ _ g4], ?_⟩
      ·rcases Nat.lt_or_ge b j with q|q
       ·exact hg2 b q
       ·obtain rfl : b = j := by omega
        rw [hold]; exact hu
      simp (disch := first|omega|(simp only [length_edsA, length_rowsA, length_rowA, length_ownR, rb_len, List.length_set, List.length_reverse, List.length_replicate, List.length_append, List.length_cons, List.length_nil, List.length_map]; omega)) only [push_cast, ↓reduceIte, reduceIte, reduceCtorEq, Nat.reduceAdd, Nat.reduceLT, Nat.reduceEqDiff, Nat.reduceLeDiff, Int.reduceAdd, Int.reduceLT, Int.reduceLE, Nat.reduceMul, b2, b3, b4, b7, b93, b94, b95, b12, b100, b101, b102, scrub, AV.ids, idsL]
      simp [hlt]
    ·obtain rfl : j = I := by omega
     repeat' (first|(((first|(refine a0_ ?_; first|refine a1_ rfl rfl ?_|refine a2_ rfl ?_|refine a3_ rfl rfl ?_|refine a4_ rfl ?_|refine a5_ rfl rfl rfl ?_|refine a6_ rfl rfl ?_)|(refine g0_ ?_; first|refine g1_ rfl ?_|refine g2_ rfl rfl ?_|refine go_draw (dr := allQ) rfl rfl mixed (by first|assumption|kernel_rfl) ?_|refine g4_ rfl ?_|refine g5_ rfl ?_|refine g6_ rfl ?_|refine g7_ rfl ?_|refine g8_ rfl ?_)|(refine o0_ ?_; first|refine o1_ ?_|refine o2_ ?_|refine o3_ ?_|refine o4_ ?_|refine o5_ ?_|refine o6_ rfl ?_|refine o7_ rfl ?_|refine o8_ ?_|refine o9_ ?_|refine oa_ ?_|refine ob_ ?_|refine oc_ ?_|refine od_ ?_|refine oe_ ?_|refine of_ ?_|refine og_ ?_))) <;> (try simp (disch := first|omega|(simp only [length_edsA, length_rowsA, length_rowA, length_ownR, rb_len, List.length_set, List.length_reverse, List.length_replicate, List.length_append, List.length_cons, List.length_nil, List.length_map]; omega)) only [push_cast, ↓reduceIte, reduceIte, reduceCtorEq, Nat.reduceAdd, Nat.reduceLT, Nat.reduceEqDiff, Nat.reduceLeDiff, Int.reduceAdd, Int.reduceLT, Int.reduceLE, Nat.reduceMul, b2, b3, b4, b7, b93, b94, b95, b12, b100, b101, b102, rb_len, hN, length_rowA, length_ownR]))|refine at_go ?_|(with_reducible refine And.intro (at_go ?_) (at_go ?_))|((with_reducible refine And.intro (fun h => ?_) (fun h => ?_)) <;> try (exfalso; omega))|(with_reducible refine And.intro (by first|omega|(simp only [maxLen]; omega)) ?_)|fail|simp (disch := first|omega|(simp only [length_edsA, length_rowsA, length_rowA, length_ownR, rb_len, List.length_set, List.length_reverse, List.length_replicate, List.length_append, List.length_cons, List.length_nil, List.length_map]; omega)) only [push_cast, ↓reduceIte, reduceIte, reduceCtorEq, Nat.reduceAdd, Nat.reduceLT, Nat.reduceEqDiff, Nat.reduceLeDiff, Int.reduceAdd, Int.reduceLT, Int.reduceLE, Nat.reduceMul, b2, b3, b4, b7, b93, b94, b95, b12, b100, b101, b102, rb_len, hN, length_rowA, length_ownR])
     refine out_round (S - (k + 1)) (by omega) (by (first|trivial|((repeat' apply And.intro) <;> first|trivial|assumption|omega|(simp only [maxLen]; omega)|(simp only [length_edsA, length_rowsA, length_rowA, length_ownR, rb_len, List.length_replicate, List.length_append, List.length_cons, List.length_nil, List.length_map, List.length_take, List.length_drop, List.length_set, List.length_reverse, maxLen] <;> omega)))) ⟨k + 1, by omega, rfl, fun a b ha hb => ?_, rfl, ?_⟩
     ·rcases Nat.lt_or_ge a k with q|q
      ·exact hg a b q hb
      ·obtain rfl : a = k := by omega
       exact hg2 b hb
     ·simp (disch := first|omega|(simp only [length_edsA, length_rowsA, length_rowA, length_ownR, rb_len, List.length_set, List.length_reverse, List.length_replicate, List.length_append, List.length_cons, List.length_nil, List.length_map]; omega)) only [push_cast, ↓reduceIte, reduceIte, reduceCtorEq, Nat.reduceAdd, Nat.reduceLT, Nat.reduceEqDiff, Nat.reduceLeDiff, Int.reduceAdd, Int.reduceLT, Int.reduceLE, Nat.reduceMul, b2, b3, b4, b7, b93, b94, b95, b12, b100, b101, b102, rb_len, hN, length_rowA, length_ownR]
  ·obtain rfl : k = S := by omega
   have hyes : fitsAll T p = true := fitsAll_yes hw (fun a b ha hb => hg a b (by omega) hb)
   rw [applyT, if_pos hyes]
   obtain ⟨n, hn⟩ : ∃ n : Nat, n = p.s1.toNat := ⟨_, rfl⟩
   have hn1 : p.s1 = (n : Int) := by omega
   have bn : 1 ≤ n ∧ n ≤ k := by omega
   have hlt0 : (T.take n).length = n := by rw [List.length_take]; omega
   obtain ⟨r0, T0, e0⟩ : ∃ r0 T0, T.take n = r0 :: T0 := by
    cases hq : T.take n with
    | nil => rw [hq] at hlt0; simp at hlt0; omega
    | cons r0 T0 => exact ⟨r0, T0, rfl⟩
   have h1 := clone70 r0 T0 (some I) (some k) (by rw [e0] at hlt0; simp at hlt0; omega)
   have h2 := clip69 (rowsC (r0 :: T0) (some I)) none (fun p => idsE_rowsC p _ _)
   rw [← e0] at h1 h2
   rw [rowsC_len, hlt0] at h2
   have htk : ((rowsC T (some I)).take n) = rowsC (T.take n) (some I) := rowsC_take ..
   have hlk : (rowsC T (some I)).length = k := by rw [rowsC_len, hT]
   have hlk2 : (rowsC (T.take n) (some I)).length = n := by rw [rowsC_len, hlt0]
   obtain ⟨s2, w, w1, w2⟩ := freeze_rows (n := 132) (N := 3) (z2 := 1) (t2 := 98) (z := 2) (t := 58) (I := I) (c := some I) (B := [.row 3 30 [[.int .i64 I, .int .i64 o, .sl 1 (rowsA l) c]], .row 6 36 [[.int .i64 p.inp, .int .i64 p.o0, .int .i64 p.o1, .int .i64 p.s0, .int .i64 p.s1, .sl z (edsA p.ed) d]], .row 3 30 [[.int .i64 0, .int .i64 0, .sl 0 [] (some 0)]]]) s' rfl (by simp) (by simp [Blk.below, idsE, idsL, AV.ids]) hN (fun es he => by
    obtain ⟨r, hr, rfl⟩ := List.mem_map.1 he
    obtain ⟨q, hq, rfl⟩ := List.getElem_of_mem hr
    have := hw q hq
    rw [length_rowA, ← this]; simp [hq]) (fun es he p => by
    obtain ⟨r, hr, rfl⟩ := List.mem_map.1 he
    exact idsE_rowA p r)
   rw [rowsC_eq] at w2
   have f2 : s2 2 = .ptr 0 0 0 1 := by rw [w1 2 (by rw [b2]; simp [AV.ids]), b2]
   have f3 : s2 3 = .ptr 1 0 0 1 := by rw [w1 3 (by rw [b3]; simp [AV.ids]), b3]
   have f4 : s2 4 = .ptr 2 0 0 1 := by rw [w1 4 (by rw [b4]; simp [AV.ids]), b4]
   have f7 : s2 7 = .sl 1 (rowsC T (some I)) (some k) := by rw [w2 7 k (some k) b7, List.take_of_length_le (by omega)]
   have f94 : s2 94 = .int .i64 k := by rw [w1 94 (by rw [b94]; simp [AV.ids]), b94]
   have f95 : s2 95 = .int .i64 k := by rw [w1 95 (by rw [b95]; simp [AV.ids]), b95]
   refine go_weak (by (first|trivial|((repeat' apply And.intro) <;> first|trivial|assumption|omega|(simp only [maxLen]; omega)|(simp only [length_edsA, length_rowsA, length_rowA, length_ownR, rb_len, List.length_replicate, List.length_append, List.length_cons, List.length_nil, List.length_map, List.length_take, List.length_drop, List.length_set, List.length_reverse, maxLen] <;> omega)))) w ?_
   rw [← hn]
   rw [hn1] at *
   repeat' (first|(((first|(refine a0_ ?_; first|refine a1_ rfl rfl ?_|refine a2_ rfl ?_|refine a3_ rfl rfl ?_|refine a4_ rfl ?_|refine a5_ rfl rfl rfl ?_|refine a6_ rfl rfl ?_)|(refine g0_ ?_; first|refine g1_ rfl ?_|refine g2_ rfl rfl ?_|refine go_draw (dr := allQ) rfl rfl mixed (by first|assumption|kernel_rfl) ?_|refine g4_ rfl ?_|refine g5_ rfl ?_|refine g6_ rfl ?_|refine g7_ rfl ?_|refine g8_ rfl ?_)|(refine o0_ ?_; first|refine o1_ ?_|refine o2_ ?_|refine o3_ ?_|refine o4_ ?_|refine o5_ ?_|refine o6_ rfl ?_|refine o7_ rfl ?_|refine o8_ ?_|refine o9_ ?_|refine oa_ ?_|refine ob_ ?_|refine oc_ ?_|refine od_ ?_|refine oe_ ?_|refine of_ ?_|refine og_ ?_))) <;> (try simp (disch := first|omega|(simp only [length_edsA, length_rowsA, length_rowA, length_ownR, rb_len, List.length_set, List.length_reverse, List.length_replicate, List.length_append, List.length_cons, List.length_nil, List.length_map]; omega)) only [push_cast, ↓reduceIte, reduceIte, reduceCtorEq, Nat.reduceAdd, Nat.reduceLT, Nat.reduceEqDiff, Nat.reduceLeDiff, Int.reduceAdd, Int.reduceLT, Int.reduceLE, Nat.reduceMul, f2, f3, f4, f7, f94, f95, htk, hlk, hlk2, idsE_rowsC]))|refine at_go ?_|(with_reducible refine And.intro (at_go ?_) (at_go ?_))|((with_reducible refine And.intro (fun h => ?_) (fun h => ?_)) <;> try (exfalso; omega))|(with_reducible refine And.intro (by first|omega|(simp only [maxLen]; omega)) ?_)|(first|(refine ⟨_, _, pc_lift (h1) (by (simp [idsL, idsE, AV.ids, idsE_rowsC])) _, ?_⟩)|(refine ⟨_, pc_lift (h1) (by (simp [idsL, idsE, AV.ids, idsE_rowsC])) _, ?_⟩)|(refine ⟨_, fun _ => pc_lift (h1) (by (simp [idsL, idsE, AV.ids, idsE_rowsC])) _, ?_⟩)|(refine ⟨_, _, pc_lift (h2) (by (simp [idsL, idsE, AV.ids, idsE_rowsC])) _, ?_⟩)|(refine ⟨_, pc_lift (h2) (by (simp [idsL, idsE, AV.ids, idsE_rowsC])) _, ?_⟩)|(refine ⟨_, fun _ => pc_lift (h2) (by (simp [idsL, idsE, AV.ids, idsE_rowsC])) _, ?_⟩))|simp (disch := first|omega|(simp only [length_edsA, length_rowsA, length_rowA, length_ownR, rb_len, List.length_set, List.length_reverse, List.length_replicate, List.length_append, List.length_cons, List.length_nil, List.length_map]; omega)) only [push_cast, ↓reduceIte, reduceIte, reduceCtorEq, Nat.reduceAdd, Nat.reduceLT, Nat.reduceEqDiff, Nat.reduceLeDiff, Int.reduceAdd, Int.reduceLT, Int.reduceLE, Nat.reduceMul, f2, f3, f4, f7, f94, f95, htk, hlk, hlk2, idsE_rowsC])
   unfold resM mA
   rw [if_pos rfl, hlt0]
   simp [eqv_tup, eqv_agg, eqvL, eqv1, eqv_int, eqv_sl, rowsC]
set_option maxRecDepth 100000 in
theorem apply_ed (I : Nat) (o : Int) (l : List Row) (c : Option Nat) (p : Pt) (z : Nat) (d : Option Nat) (R0 : Rs) (S : Nat) (s : Nat → AV) (hI : 1 ≤ I ∧ I ≤ 16) (hS : 1 ≤ S ∧ S ≤ 64) (hs1 : 1 ≤ p.s1 ∧ p.s1 ≤ S) (hR : R0.length = S) (hw0 : WideR I R0) (hz : p.ed = [] ∨ z = 6) (hl : p.ed.length ≤ 1000000) (hx : ∀ k, k < p.ed.length → (0 ≤ (p.ed.getD k eD).s ∧ (p.ed.getD k eD).s < S) ∧ 0 ≤ (p.ed.getD k eD).i ∧ (p.ed.getD k eD).i < I)
  (q2 : s 2 = .ptr 0 0 0 1) (q3 : s 3 = .ptr 1 0 0 1) (q4 : s 4 = .ptr 2 0 0 1) (q7 : s 7 = .own 3 S S (some S)) (q63 : s 63 = .sl z (edsA p.ed) d) (q64 : s 64 = .int .i64 p.ed.length) (q65 : s 65 = .int .i64 0) :
  Go false Tryz.prog G0 0 132 (bodyOf Tryz.f13) [0, 1, 0, 1, 1, 1, 1] (inBlockS 4 (thenC false Tryz.prog G0 0 132 (bodyOf Tryz.f13) [1, 1, 1, 1, 1] (DoneS Tryz.prog 132 [ResultVar.cell 4 30, ResultVar.tmp 5] 2 (resM I p.o1 (applyT p (goA R0 p.ed p.ed.length)).1 I (applyT p (goA R0 p.ed p.ed.length)).2)))) True s (aH I o l c p z d (ownR 4 I (some I) S) (R0.map rowA)) := by
 refine go_loop rfl (fun m s' H' => ∃ (k : Nat) (T : Rs), k ≤ p.ed.length ∧ m = p.ed.length - k ∧ goA R0 p.ed k = some T ∧ T.length = S ∧ WideR I T ∧ H' = aH I o l c p z d (ownR 4 I (some I) S) (T.map rowA) ∧ s' 2 = .ptr 0 0 0 1 ∧ s' 3 = .ptr 1 0 0 1 ∧ s' 4 = .ptr 2 0 0 1 ∧ s' 7 = .own 3 S S (some S) ∧ s' 63 = .sl z (edsA p.ed) d ∧ s' 64 = .int .i64 p.ed.length ∧ s' 65 = .int .i64 k) (m := p.ed.length) (by (first|trivial|((repeat' apply And.intro) <;> first|trivial|assumption|omega|(simp only [maxLen]; omega)|(simp only [length_edsA, length_rowsA, length_rowA, length_ownR, rb_len, List.length_replicate, List.length_append, List.length_cons, List.length_nil, List.length_map, List.length_take, List.length_drop, List.length_set, List.length_reverse, maxLen] <;> omega)))) (Weak.refl _ _) ⟨0, R0, by omega, by omega, rfl, hR, hw0, rfl, ?_⟩ ?_
 ·simp (disch := first|omega|(simp only [length_edsA, length_rowsA, length_rowA, length_ownR, rb_len, List.length_set, List.length_reverse, List.length_replicate, List.length_append, List.length_cons, List.length_nil, List.length_map]; omega)) only [push_cast, ↓reduceIte, reduceIte, reduceCtorEq, Nat.reduceAdd, Nat.reduceLT, Nat.reduceEqDiff, Nat.reduceLeDiff, Int.reduceAdd, Int.reduceLT, Int.reduceLE, Nat.reduceMul, q2, q3, q4, q7, q63, q64, q65]
 ·rintro m s' H' ⟨k, T, hk, rfl, hg, hT, hw, rfl, b2, b3, b4, b7, b63, b64, b65⟩
  have hN : (T.map rowA).length = S := by rw [List.length_map, hT]
  have k0 := fun A K => rb_at0 (z := 2) (t := 58) A K hN
  have s0 := fun A B K => rb_setAt0 (z := 2) (t := 58) A B K hN
  unfold aH
  rcases Nat.lt_or_ge k p.ed.length with hlt|hge
  ·obtain rfl := hz.resolve_left (by rintro h; rw [h] at hlt; simp at hlt)
   have e1 : (edsA p.ed).getD k [] = xA (p.ed.getD k eD) := getD_edsA p.ed k hlt
   obtain ⟨⟨x1, x2⟩, x3, x4⟩ := hx k hlt
   have hstep : goA R0 p.ed (k + 1) = stepA T (p.ed.getD k eD) := by rw [goA, hg]; rfl
   generalize p.ed.getD k eD = x at *
   obtain ⟨xs, xi, ⟨xo1, xo2⟩, xn1, xn2⟩ := x
   dsimp only at x1 x2 x3 x4 e1
   obtain ⟨u, rfl⟩ : ∃ u : Nat, xs = (u : Int) := ⟨xs.toNat, by omega⟩
   obtain ⟨v, rfl⟩ : ∃ v : Nat, xi = (v : Int) := ⟨xi.toNat, by omega⟩
   have hu : u < S := by omega
   have hv : v < I := by omega
   have er := getD_mapA T u
   have el : (T.getD u []).length = I := hw u (by omega)
   have ee := getD_rowA (T.getD u []) v (by omega)
   have g1 := fun K => rb_getK (z := 2) (t := 58) K hN hu
   have g2 := fun es K => rb_setK (z := 2) (t := 58) es K hN hu
   have g3 : (T.map rowA).set u ((rowA (T.getD u [])).set v [.int .i64 xn1, .int .i64 xn2]) = (T.set u ((T.getD u []).set v (xn1, xn2))).map rowA := by rw [rowA_set, mapA_set]
   rw [stepA] at hstep
   simp only [Int.toNat_natCast] at hstep
   generalize hold : (T.getD u []).getD v (0, 0) = old at *
   obtain ⟨o1, o2⟩ := old
   simp only [eA] at ee
   have oe := getD_ownR (b0 := 4) (I := I) (N := S) (some I) hu
   repeat' (first|(((first|(refine a0_ ?_; first|refine a1_ rfl rfl ?_|refine a2_ rfl ?_|refine a3_ rfl rfl ?_|refine a4_ rfl ?_|refine a5_ rfl rfl rfl ?_|refine a6_ rfl rfl ?_)|(refine g0_ ?_; first|refine g1_ rfl ?_|refine g2_ rfl rfl ?_|refine go_draw (dr := allQ) rfl rfl mixed (by first|assumption|kernel_rfl) ?_|refine g4_ rfl ?_|refine g5_ rfl ?_|refine g6_ rfl ?_|refine g7_ rfl ?_|refine g8_ rfl ?_)|(refine o0_ ?_; first|refine o1_ ?_|refine o2_ ?_|refine o3_ ?_|refine o4_ ?_|refine o5_ ?_|refine o6_ rfl ?_|refine o7_ rfl ?_|refine o8_ ?_|refine o9_ ?_|refine oa_ ?_|refine ob_ ?_|refine oc_ ?_|refine od_ ?_|refine oe_ ?_|refine of_ ?_|refine og_ ?_))) <;> (try simp (disch := first|omega|(simp only [length_edsA, length_rowsA, length_rowA, length_ownR, rb_len, List.length_set, List.length_reverse, List.length_replicate, List.length_append, List.length_cons, List.length_nil, List.length_map]; omega)) only [push_cast, ↓reduceIte, reduceIte, reduceCtorEq, Nat.reduceAdd, Nat.reduceLT, Nat.reduceEqDiff, Nat.reduceLeDiff, Int.reduceAdd, Int.reduceLT, Int.reduceLE, Nat.reduceMul, b2, b3, b4, b7, b63, b64, b65, e1, xA, eA, er, el, ee, g1, g2, g3, k0, s0, oe, rb_len, hN, length_rowA, length_ownR, length_edsA]))|refine at_go ?_|(with_reducible refine And.intro (at_go ?_) (at_go ?_))|((with_reducible refine And.intro (fun h => ?_) (fun h => ?_)) <;> try (exfalso; omega))|(with_reducible refine And.intro (by first|omega|(simp only [maxLen]; omega)) ?_)|fail|simp (disch := first|omega|(simp only [length_edsA, length_rowsA, length_rowA, length_ownR, rb_len, List.length_set, List.length_reverse, List.length_replicate, List.length_append, List.length_cons, List.length_nil, List.length_map]; omega)) only [push_cast, ↓reduceIte, reduceIte, reduceCtorEq, Nat.reduceAdd, Nat.reduceLT, Nat.reduceEqDiff, Nat.reduceLeDiff, Int.reduceAdd, Int.reduceLT, Int.reduceLE, Nat.reduceMul, b2, b3, b4, b7, b63, b64, b65, e1, xA, eA, er, el, ee, g1, g2, g3, k0, s0, oe, rb_len, hN, length_rowA, length_ownR, length_edsA])
   ·rw [if_neg (by intro hh; injection hh with h1 h2; omega)] at hstep
    rw [goA_none hstep p.ed.length hlt]
    exact resM_bad _ _
   ·obtain ⟨rfl, rfl⟩ := h
    rw [if_pos rfl] at hstep
    have g4 : (rowBs 2 58 ((T.set u ((T.getD u []).set v (xn1, xn2))).map rowA)).length = S := by rw [rb_len, List.length_map, List.length_set, hT]
    have hT2 : (T.set u ((T.getD u []).set v (xn1, xn2))).length = S := by rw [List.length_set, hT]
    have hw2 : WideR I (T.set u ((T.getD u []).set v (xn1, xn2))) := stepA_wide (x := ⟨u, v, (o1, o2), (xn1, xn2)⟩) (by rw [stepA, if_pos (by simpa using hold)]; simp) hw
    refine out_round_take (p.ed.length - (k + 1)) (S + 4) (by omega) (by (first|trivial|((repeat' apply And.intro) <;> first|trivial|assumption|omega|(simp only [maxLen]; omega)|(simp only [length_edsA, length_rowsA, length_rowA, length_ownR, rb_len, List.length_replicate, List.length_append, List.length_cons, List.length_nil, List.length_map, List.length_take, List.length_drop, List.length_set, List.length_reverse, maxLen] <;> omega)))) (by omega) (by first|(simp [rb_len]; done)|(simp [rb_len]; omega)) (by rw [take4 _ _ _ _ _ _ g4]; exact aH_below I o l c p 6 d S I _) ⟨k + 1, _, hlt, rfl, hstep, hT2, hw2, by rw [take4 _ _ _ _ _ _ g4], ?_⟩
    simp (disch := first|omega|(simp only [length_edsA, length_rowsA, length_rowA, length_ownR, rb_len, List.length_set, List.length_reverse, List.length_replicate, List.length_append, List.length_cons, List.length_nil, List.length_map]; omega)) only [push_cast, ↓reduceIte, reduceIte, reduceCtorEq, Nat.reduceAdd, Nat.reduceLT, Nat.reduceEqDiff, Nat.reduceLeDiff, Int.reduceAdd, Int.reduceLT, Int.reduceLE, Nat.reduceMul, b2, b3, b4, b7, b63, b64, b65, scrub, AV.ids, idsL, idsE_edsA]
    simp
  ·obtain rfl : k = p.ed.length := by omega
   repeat' (first|(((first|(refine a0_ ?_; first|refine a1_ rfl rfl ?_|refine a2_ rfl ?_|refine a3_ rfl rfl ?_|refine a4_ rfl ?_|refine a5_ rfl rfl rfl ?_|refine a6_ rfl rfl ?_)|(refine g0_ ?_; first|refine g1_ rfl ?_|refine g2_ rfl rfl ?_|refine go_draw (dr := allQ) rfl rfl mixed (by first|assumption|kernel_rfl) ?_|refine g4_ rfl ?_|refine g5_ rfl ?_|refine g6_ rfl ?_|refine g7_ rfl ?_|refine g8_ rfl ?_)|(refine o0_ ?_; first|refine o1_ ?_|refine o2_ ?_|refine o3_ ?_|refine o4_ ?_|refine o5_ ?_|refine o6_ rfl ?_|refine o7_ rfl ?_|refine o8_ ?_|refine o9_ ?_|refine oa_ ?_|refine ob_ ?_|refine oc_ ?_|refine od_ ?_|refine oe_ ?_|refine of_ ?_|refine og_ ?_))) <;> (try simp (disch := first|omega|(simp only [length_edsA, length_rowsA, length_rowA, length_ownR, rb_len, List.length_set, List.length_reverse, List.length_replicate, List.length_append, List.length_cons, List.length_nil, List.length_map]; omega)) only [push_cast, ↓reduceIte, reduceIte, reduceCtorEq, Nat.reduceAdd, Nat.reduceLT, Nat.reduceEqDiff, Nat.reduceLeDiff, Int.reduceAdd, Int.reduceLT, Int.reduceLE, Nat.reduceMul, b2, b3, b4, b7, b63, b64, b65, rb_len, hN, length_rowA, length_ownR, length_edsA]))|refine at_go ?_|(with_reducible refine And.intro (at_go ?_) (at_go ?_))|((with_reducible refine And.intro (fun h => ?_) (fun h => ?_)) <;> try (exfalso; omega))|(with_reducible refine And.intro (by first|omega|(simp only [maxLen]; omega)) ?_)|fail|simp (disch := first|omega|(simp only [length_edsA, length_rowsA, length_rowA, length_ownR, rb_len, List.length_set, List.length_reverse, List.length_replicate, List.length_append, List.length_cons, List.length_nil, List.length_map]; omega)) only [push_cast, ↓reduceIte, reduceIte, reduceCtorEq, Nat.reduceAdd, Nat.reduceLT, Nat.reduceEqDiff, Nat.reduceLeDiff, Int.reduceAdd, Int.reduceLT, Int.reduceLE, Nat.reduceMul, b2, b3, b4, b7, b63, b64, b65, rb_len, hN, length_rowA, length_ownR, length_edsA])
   rw [hg]
   refine apply_chk I o l c p z d T S _ hI hS hT hw hs1 ?_ ?_ ?_ ?_ ?_ ?_ ?_
   all_goals
    simp (disch := first|omega|(simp only [length_edsA, length_rowsA, length_rowA, length_ownR, rb_len, List.length_set, List.length_reverse, List.length_replicate, List.length_append, List.length_cons, List.length_nil, List.length_map]; omega)) only [push_cast, ↓reduceIte, reduceIte, reduceCtorEq, Nat.reduceAdd, Nat.reduceLT, Nat.reduceEqDiff, Nat.reduceLeDiff, Int.reduceAdd, Int.reduceLT, Int.reduceLE, Nat.reduceMul, b2, b3, b4, b7, b63, b64, b65, rb_len, hN, length_rowA, length_ownR, length_edsA]
set_option maxRecDepth 100000 in
theorem apply32 (i o : Int) (l : List Row) (c : Option Nat) (p : Pt) (z : Nat) (d : Option Nat) (hm : machOk i o l = 0) (hc : checkP p = 0) (hf : fitsM i o l.length p = 0) (hz : p.ed = [] ∨ z = 6) (hl : p.ed.length ≤ 1000000) :
  PC Tryz.prog G0 13 [mA i o l c, pA p z d] (resM i p.o1 (applyM i l p).1 i.toNat (applyM i l p).2) := by
 obtain ⟨m1, m2, m3, m4, m5⟩ := machOk_zero hm
 have h1 := fit58 i o l 1 c p z d (.inr rfl) (by omega) (fun j hj => by have := m4 j hj; omega) hz hl
 rw [if_neg (by rw [hm]; simp), if_neg (by rw [hc]; simp), hf] at h1
 have hs0 : p.s0 = l.length := by
  unfold fitsM at hf
  split at hf
  ·omega
  ·split at hf <;> omega
 have hck : headK p 2 = true := by
  unfold checkP at hc
  split at hc
  ·rename_i h; exact h.1
  ·omega
 have hh := (headK_iff p).1 hck
 obtain ⟨S, hS⟩ : ∃ S : Nat, S = (max p.s0 p.s1).toNat := ⟨_, rfl⟩
 have bS : 1 ≤ S ∧ S ≤ 64 := by omega
 have fS1 : (if p.s0 < p.s1 then p.s1 else p.s0) = (S : Int) := by split <;> omega
 have fS2 : (if p.s1 > p.s0 then p.s1 else p.s0) = (S : Int) := by split <;> omega
 obtain ⟨I, hI⟩ : ∃ I : Nat, I = i.toNat := ⟨_, rfl⟩
 obtain rfl : i = (I : Int) := by omega
 have hE : ∀ s j : Nat, s < 64 → j < I → PC Tryz.prog G0 42 [mA I o l c, .int .i64 s, .int .i64 j] (.agg (eA (edgeM l s j))) := fun s j _ hj => edge67 I o l c s j (by omega) (by omega) (fun hs => by
  have := m4 s (by omega)
  rw [rowLen, Int.toNat_natCast]
  omega)
 unfold mA pA at *
 refine pc_go 2 132 [.cell 4 30, .tmp 5] Tryz.func13 rfl rfl rfl (by simp) ?_
 intro s ⟨a0, a1, hz⟩
 simp only [Nat.zero_add, Nat.reduceAdd] at a1
 clear hz
 repeat' (first|(first|(refine a0_ ?_; first|refine a1_ rfl rfl ?_|refine a2_ rfl ?_|refine a3_ rfl rfl ?_|refine a4_ rfl ?_|refine a5_ rfl rfl rfl ?_|refine a6_ rfl rfl ?_)|(refine g0_ ?_; first|refine g1_ rfl ?_|refine g2_ rfl rfl ?_|refine go_draw (dr := allQ) rfl rfl mixed (by first|assumption|kernel_rfl) ?_|refine g4_ rfl ?_|refine g5_ rfl ?_|refine g6_ rfl ?_|refine g7_ rfl ?_|refine g8_ rfl ?_)|(refine o0_ ?_; first|refine o1_ ?_|refine o2_ ?_|refine o3_ ?_|refine o4_ ?_|refine o5_ ?_|refine o6_ rfl ?_|refine o7_ rfl ?_|refine o8_ ?_|refine o9_ ?_|refine oa_ ?_|refine ob_ ?_|refine oc_ ?_|refine od_ ?_|refine oe_ ?_|refine of_ ?_|refine og_ ?_))|refine at_go ?_|(with_reducible refine And.intro (at_go ?_) (at_go ?_))|((with_reducible refine And.intro (fun h => ?_) (fun h => ?_)) <;> try (exfalso; omega))|(with_reducible refine And.intro (by first|omega|(simp only [maxLen]; omega)) ?_)|(first|(refine ⟨_, _, pc_lift (h1) (by (simp [idsL, idsE, AV.ids, idsE_rowsC])) _, ?_⟩)|(refine ⟨_, pc_lift (h1) (by (simp [idsL, idsE, AV.ids, idsE_rowsC])) _, ?_⟩)|(refine ⟨_, fun _ => pc_lift (h1) (by (simp [idsL, idsE, AV.ids, idsE_rowsC])) _, ?_⟩))|simp (disch := first|omega|(simp only [length_edsA, length_rowsA, length_rowA, length_ownR, rb_len, List.length_set, List.length_reverse, List.length_replicate, List.length_append, List.length_cons, List.length_nil, List.length_map]; omega)) only [push_cast, ↓reduceIte, reduceIte, reduceCtorEq, Nat.reduceAdd, Nat.reduceLT, Nat.reduceEqDiff, Nat.reduceLeDiff, Int.reduceAdd, Int.reduceLT, Int.reduceLE, Nat.reduceMul, a0, a1, fS1, fS2])
 refine go_loop rfl (fun mz s' H' => ∃ s : Nat, s ≤ S ∧ mz = S - s ∧ H' = aH I o l c p z d (mixO I S s) ((rows0 l I s).map rowA) ∧ s' 2 = .ptr 0 0 0 1 ∧ s' 3 = .ptr 1 0 0 1 ∧ s' 4 = .ptr 2 0 0 1 ∧ s' 7 = .own 3 S S (some S) ∧ s' 32 = .int .i64 S ∧ s' 33 = .int .i64 s) (m := S) (by (first|trivial|((repeat' apply And.intro) <;> first|trivial|assumption|omega|(simp only [maxLen]; omega)|(simp only [length_edsA, length_rowsA, length_rowA, length_ownR, rb_len, List.length_replicate, List.length_append, List.length_cons, List.length_nil, List.length_map, List.length_take, List.length_drop, List.length_set, List.length_reverse, maxLen] <;> omega)))) (Weak.refl _ _) ⟨0, by omega, by omega, (by first|rfl|simp [mixO_zero, rows0_zero, List.map_nil, rb_nil]), ?_⟩ ?_
 ·simp (disch := first|omega|(simp only [length_edsA, length_rowsA, length_rowA, length_ownR, rb_len, List.length_set, List.length_reverse, List.length_replicate, List.length_append, List.length_cons, List.length_nil, List.length_map]; omega)) only [push_cast, ↓reduceIte, reduceIte, reduceCtorEq, Nat.reduceAdd, Nat.reduceLT, Nat.reduceEqDiff, Nat.reduceLeDiff, Int.reduceAdd, Int.reduceLT, Int.reduceLE, Nat.reduceMul, a0, a1, fS1, fS2]
 ·rintro mz s' H' ⟨s, hs, rfl, rfl, b2, b3, b4, b7, b32, b33⟩
  have hN : ((rows0 l I s).map rowA).length = s := by rw [List.length_map, rows0_len]
  unfold aH
  rcases Nat.lt_or_ge s S with hlt|hge
  ·have e1 := mixO_get I S s hlt
   have e2 := mixO_set I S s hlt
   have e3 := mixO_len I S (s + 1) (by omega)
   have e3' := mixO_len I S s (by omega)
   have e5 := mixO_own I S s hlt
   have e4 : rowBs 2 58 ((rows0 l I s).map rowA) ++ [.row 2 58 (List.replicate I [.int .i64 0, .int .i64 0])] = rowBs 2 58 ((rows0 l I s ++ [partE l s I 0]).map rowA) := by
    rw [rb_snoc, List.map_append, partE_zero, List.map_singleton, rowA_rep]
   have k0 := fun A K => rb_at0 (z := 2) (t := 58) A K hN
   repeat' (first|(((first|(refine a0_ ?_; first|refine a1_ rfl rfl ?_|refine a2_ rfl ?_|refine a3_ rfl rfl ?_|refine a4_ rfl ?_|refine a5_ rfl rfl rfl ?_|refine a6_ rfl rfl ?_)|(refine g0_ ?_; first|refine g1_ rfl ?_|refine g2_ rfl rfl ?_|refine go_draw (dr := allQ) rfl rfl mixed (by first|assumption|kernel_rfl) ?_|refine g4_ rfl ?_|refine g5_ rfl ?_|refine g6_ rfl ?_|refine g7_ rfl ?_|refine g8_ rfl ?_)|(refine o0_ ?_; first|refine o1_ ?_|refine o2_ ?_|refine o3_ ?_|refine o4_ ?_|refine o5_ ?_|refine o6_ rfl ?_|refine o7_ rfl ?_|refine o8_ ?_|refine o9_ ?_|refine oa_ ?_|refine ob_ ?_|refine oc_ ?_|refine od_ ?_|refine oe_ ?_|refine of_ ?_|refine og_ ?_))) <;> (try simp (disch := first|omega|(simp only [length_edsA, length_rowsA, length_rowA, length_ownR, rb_len, List.length_set, List.length_reverse, List.length_replicate, List.length_append, List.length_cons, List.length_nil, List.length_map]; omega)) only [push_cast, ↓reduceIte, reduceIte, reduceCtorEq, Nat.reduceAdd, Nat.reduceLT, Nat.reduceEqDiff, Nat.reduceLeDiff, Int.reduceAdd, Int.reduceLT, Int.reduceLE, Nat.reduceMul, b2, b3, b4, b7, b32, b33, e1, e2, e3, e3', e5, rb_len, hN, k0, List.length_replicate]))|refine at_go ?_|(with_reducible refine And.intro (at_go ?_) (at_go ?_))|((with_reducible refine And.intro (fun h => ?_) (fun h => ?_)) <;> try (exfalso; omega))|(with_reducible refine And.intro (by first|omega|(simp only [maxLen]; omega)) ?_)|fail|simp (disch := first|omega|(simp only [length_edsA, length_rowsA, length_rowA, length_ownR, rb_len, List.length_set, List.length_reverse, List.length_replicate, List.length_append, List.length_cons, List.length_nil, List.length_map]; omega)) only [push_cast, ↓reduceIte, reduceIte, reduceCtorEq, Nat.reduceAdd, Nat.reduceLT, Nat.reduceEqDiff, Nat.reduceLeDiff, Int.reduceAdd, Int.reduceLT, Int.reduceLE, Nat.reduceMul, b2, b3, b4, b7, b32, b33, e1, e2, e3, e3', e5, rb_len, hN, k0, List.length_replicate])
   rw [e4]
   have hN1 : ((rows0 l I s ++ [partE l s I 0]).map rowA).length = s + 1 := by rw [List.length_map, List.length_append, rows0_len]; rfl
   refine go_loop rfl (fun mz s' H' => ∃ j : Nat, j ≤ I ∧ mz = I - j ∧ H' = aH I o l c p z d (mixO I S (s + 1)) ((rows0 l I s ++ [partE l s I j]).map rowA) ∧ s' 2 = .ptr 0 0 0 1 ∧ s' 3 = .ptr 1 0 0 1 ∧ s' 4 = .ptr 2 0 0 1 ∧ s' 7 = .own 3 S S (some S) ∧ s' 32 = .int .i64 S ∧ s' 33 = .int .i64 s ∧ s' 8 = .int .i64 s ∧ s' 46 = .int .i64 I ∧ s' 47 = .int .i64 j) (m := I) (by (first|trivial|((repeat' apply And.intro) <;> first|trivial|assumption|omega|(simp only [maxLen]; omega)|(simp only [length_edsA, length_rowsA, length_rowA, length_ownR, rb_len, List.length_replicate, List.length_append, List.length_cons, List.length_nil, List.length_map, List.length_take, List.length_drop, List.length_set, List.length_reverse, maxLen] <;> omega)))) (Weak.refl _ _) ⟨0, by omega, by omega, (by first|rfl|simp [mixO_zero, rows0_zero, List.map_nil, rb_nil]), ?_⟩ ?_
   ·simp (disch := first|omega|(simp only [length_edsA, length_rowsA, length_rowA, length_ownR, rb_len, List.length_set, List.length_reverse, List.length_replicate, List.length_append, List.length_cons, List.length_nil, List.length_map]; omega)) only [push_cast, ↓reduceIte, reduceIte, reduceCtorEq, Nat.reduceAdd, Nat.reduceLT, Nat.reduceEqDiff, Nat.reduceLeDiff, Int.reduceAdd, Int.reduceLT, Int.reduceLE, Nat.reduceMul, b2, b3, b4, b7, b32, b33, e1, e2, e3, e3', e5, rb_len, hN, k0, List.length_replicate]
   ·rintro mz s' H' ⟨j, hj, rfl, rfl, b2, b3, b4, b7, b32, b33, b8, b46, b47⟩
    unfold aH
    have hN2 : ((rows0 l I s ++ [partE l s I j]).map rowA).length = s + 1 := by rw [List.length_map, List.length_append, rows0_len]; rfl
    rcases Nat.lt_or_ge j I with hlt2|hge2
    ·have er := getD_mapA (rows0 l I s ++ [partE l s I j]) s
     have e6 : (rows0 l I s ++ [partE l s I j]).getD s [] = partE l s I j := getD_snoc (rows0_len l I s) _
     rw [e6] at er
     have el := partE_len l s I j (by omega)
     have g1 := rb_get (z := 2) (t := 58) hN2 (q := s) (by omega)
     have g2 := rb_set (z := 2) (t := 58) (rss := (rows0 l I s ++ [partE l s I j]).map rowA) (q := s)
     have g3 : ((rows0 l I s ++ [partE l s I j]).map rowA).set s ((rowA (partE l s I j)).set j (eA (edgeM l s j))) = (rows0 l I s ++ [partE l s I (j + 1)]).map rowA := by
      rw [rowA_setE, mapA_set, set_snoc (rows0_len l I s), partE_set l s I j hlt2]
     have hd := hE s j (by omega) (by omega)
     have ee := getD_rowA (partE l s I j) j (by omega)
     generalize (partE l s I j).getD j (0, 0) = e0 at *
     obtain ⟨e01, e02⟩ := e0
     simp only [eA] at ee
     generalize edgeM l s j = e at *
     obtain ⟨e1', e2'⟩ := e
     simp only [eA] at g3 hd
     repeat' (first|(((first|(refine a0_ ?_; first|refine a1_ rfl rfl ?_|refine a2_ rfl ?_|refine a3_ rfl rfl ?_|refine a4_ rfl ?_|refine a5_ rfl rfl rfl ?_|refine a6_ rfl rfl ?_)|(refine g0_ ?_; first|refine g1_ rfl ?_|refine g2_ rfl rfl ?_|refine go_draw (dr := allQ) rfl rfl mixed (by first|assumption|kernel_rfl) ?_|refine g4_ rfl ?_|refine g5_ rfl ?_|refine g6_ rfl ?_|refine g7_ rfl ?_|refine g8_ rfl ?_)|(refine o0_ ?_; first|refine o1_ ?_|refine o2_ ?_|refine o3_ ?_|refine o4_ ?_|refine o5_ ?_|refine o6_ rfl ?_|refine o7_ rfl ?_|refine o8_ ?_|refine o9_ ?_|refine oa_ ?_|refine ob_ ?_|refine oc_ ?_|refine od_ ?_|refine oe_ ?_|refine of_ ?_|refine og_ ?_))) <;> (try simp (disch := first|omega|(simp only [length_edsA, length_rowsA, length_rowA, length_ownR, rb_len, List.length_set, List.length_reverse, List.length_replicate, List.length_append, List.length_cons, List.length_nil, List.length_map]; omega)) only [push_cast, ↓reduceIte, reduceIte, reduceCtorEq, Nat.reduceAdd, Nat.reduceLT, Nat.reduceEqDiff, Nat.reduceLeDiff, Int.reduceAdd, Int.reduceLT, Int.reduceLE, Nat.reduceMul, b2, b3, b4, b7, b32, b33, b8, b46, b47, hlt2, e3, e5, g1, g2, er, el, ee, g3, length_rowA, rb_len, hN2]))|refine at_go ?_|(with_reducible refine And.intro (at_go ?_) (at_go ?_))|((with_reducible refine And.intro (fun h => ?_) (fun h => ?_)) <;> try (exfalso; omega))|(with_reducible refine And.intro (by first|omega|(simp only [maxLen]; omega)) ?_)|(first|(refine ⟨_, _, pc_lift (hd) (by (simp [idsL, idsE, AV.ids, idsE_rowsC])) _, ?_⟩)|(refine ⟨_, pc_lift (hd) (by (simp [idsL, idsE, AV.ids, idsE_rowsC])) _, ?_⟩)|(refine ⟨_, fun _ => pc_lift (hd) (by (simp [idsL, idsE, AV.ids, idsE_rowsC])) _, ?_⟩))|simp (disch := first|omega|(simp only [length_edsA, length_rowsA, length_rowA, length_ownR, rb_len, List.length_set, List.length_reverse, List.length_replicate, List.length_append, List.length_cons, List.length_nil, List.length_map]; omega)) only [push_cast, ↓reduceIte, reduceIte, reduceCtorEq, Nat.reduceAdd, Nat.reduceLT, Nat.reduceEqDiff, Nat.reduceLeDiff, Int.reduceAdd, Int.reduceLT, Int.reduceLE, Nat.reduceMul, b2, b3, b4, b7, b32, b33, b8, b46, b47, hlt2, e3, e5, g1, g2, er, el, ee, g3, length_rowA, rb_len, hN2])
     refine out_round (I - (j + 1)) (by omega) (by (first|trivial|((repeat' apply And.intro) <;> first|trivial|assumption|omega|(simp only [maxLen]; omega)|(simp only [length_edsA, length_rowsA, length_rowA, length_ownR, rb_len, List.length_replicate, List.length_append, List.length_cons, List.length_nil, List.length_map, List.length_take, List.length_drop, List.length_set, List.length_reverse, maxLen] <;> omega)))) ⟨j + 1, by omega, rfl, rfl, ?_⟩
     simp (disch := first|omega|(simp only [length_edsA, length_rowsA, length_rowA, length_ownR, rb_len, List.length_set, List.length_reverse, List.length_replicate, List.length_append, List.length_cons, List.length_nil, List.length_map]; omega)) only [push_cast, ↓reduceIte, reduceIte, reduceCtorEq, Nat.reduceAdd, Nat.reduceLT, Nat.reduceEqDiff, Nat.reduceLeDiff, Int.reduceAdd, Int.reduceLT, Int.reduceLE, Nat.reduceMul, b2, b3, b4, b7, b32, b33, b8, b46, b47, hlt2, e3, e5, g1, g2, er, el, ee, g3, length_rowA, rb_len, hN2]
    ·obtain rfl : j = I := by omega
     have e7 : rows0 l j s ++ [partE l s j j] = rows0 l j (s + 1) := by rw [partE_all, rows0_succ]
     rw [e7] at hN2 ⊢
     repeat' (first|(((first|(refine a0_ ?_; first|refine a1_ rfl rfl ?_|refine a2_ rfl ?_|refine a3_ rfl rfl ?_|refine a4_ rfl ?_|refine a5_ rfl rfl rfl ?_|refine a6_ rfl rfl ?_)|(refine g0_ ?_; first|refine g1_ rfl ?_|refine g2_ rfl rfl ?_|refine go_draw (dr := allQ) rfl rfl mixed (by first|assumption|kernel_rfl) ?_|refine g4_ rfl ?_|refine g5_ rfl ?_|refine g6_ rfl ?_|refine g7_ rfl ?_|refine g8_ rfl ?_)|(refine o0_ ?_; first|refine o1_ ?_|refine o2_ ?_|refine o3_ ?_|refine o4_ ?_|refine o5_ ?_|refine o6_ rfl ?_|refine o7_ rfl ?_|refine o8_ ?_|refine o9_ ?_|refine oa_ ?_|refine ob_ ?_|refine oc_ ?_|refine od_ ?_|refine oe_ ?_|refine of_ ?_|refine og_ ?_))) <;> (try simp (disch := first|omega|(simp only [length_edsA, length_rowsA, length_rowA, length_ownR, rb_len, List.length_set, List.length_reverse, List.length_replicate, List.length_append, List.length_cons, List.length_nil, List.length_map]; omega)) only [push_cast, ↓reduceIte, reduceIte, reduceCtorEq, Nat.reduceAdd, Nat.reduceLT, Nat.reduceEqDiff, Nat.reduceLeDiff, Int.reduceAdd, Int.reduceLT, Int.reduceLE, Nat.reduceMul, b2, b3, b4, b7, b32, b33, b8, b46, b47, rb_len, hN2, e3]))|refine at_go ?_|(with_reducible refine And.intro (at_go ?_) (at_go ?_))|((with_reducible refine And.intro (fun h => ?_) (fun h => ?_)) <;> try (exfalso; omega))|(with_reducible refine And.intro (by first|omega|(simp only [maxLen]; omega)) ?_)|fail|simp (disch := first|omega|(simp only [length_edsA, length_rowsA, length_rowA, length_ownR, rb_len, List.length_set, List.length_reverse, List.length_replicate, List.length_append, List.length_cons, List.length_nil, List.length_map]; omega)) only [push_cast, ↓reduceIte, reduceIte, reduceCtorEq, Nat.reduceAdd, Nat.reduceLT, Nat.reduceEqDiff, Nat.reduceLeDiff, Int.reduceAdd, Int.reduceLT, Int.reduceLE, Nat.reduceMul, b2, b3, b4, b7, b32, b33, b8, b46, b47, rb_len, hN2, e3])
     refine out_round (S - (s + 1)) (by omega) (by (first|trivial|((repeat' apply And.intro) <;> first|trivial|assumption|omega|(simp only [maxLen]; omega)|(simp only [length_edsA, length_rowsA, length_rowA, length_ownR, rb_len, List.length_replicate, List.length_append, List.length_cons, List.length_nil, List.length_map, List.length_take, List.length_drop, List.length_set, List.length_reverse, maxLen] <;> omega)))) ⟨s + 1, by omega, rfl, rfl, ?_⟩
     simp (disch := first|omega|(simp only [length_edsA, length_rowsA, length_rowA, length_ownR, rb_len, List.length_set, List.length_reverse, List.length_replicate, List.length_append, List.length_cons, List.length_nil, List.length_map]; omega)) only [push_cast, ↓reduceIte, reduceIte, reduceCtorEq, Nat.reduceAdd, Nat.reduceLT, Nat.reduceEqDiff, Nat.reduceLeDiff, Int.reduceAdd, Int.reduceLT, Int.reduceLE, Nat.reduceMul, b2, b3, b4, b7, b32, b33, b8, b46, b47, rb_len, hN2, e3]
  ·obtain rfl : s = S := by omega
   repeat' (first|(((first|(refine a0_ ?_; first|refine a1_ rfl rfl ?_|refine a2_ rfl ?_|refine a3_ rfl rfl ?_|refine a4_ rfl ?_|refine a5_ rfl rfl rfl ?_|refine a6_ rfl rfl ?_)|(refine g0_ ?_; first|refine g1_ rfl ?_|refine g2_ rfl rfl ?_|refine go_draw (dr := allQ) rfl rfl mixed (by first|assumption|kernel_rfl) ?_|refine g4_ rfl ?_|refine g5_ rfl ?_|refine g6_ rfl ?_|refine g7_ rfl ?_|refine g8_ rfl ?_)|(refine o0_ ?_; first|refine o1_ ?_|refine o2_ ?_|refine o3_ ?_|refine o4_ ?_|refine o5_ ?_|refine o6_ rfl ?_|refine o7_ rfl ?_|refine o8_ ?_|refine o9_ ?_|refine oa_ ?_|refine ob_ ?_|refine oc_ ?_|refine od_ ?_|refine oe_ ?_|refine of_ ?_|refine og_ ?_))) <;> (try simp (disch := first|omega|(simp only [length_edsA, length_rowsA, length_rowA, length_ownR, rb_len, List.length_set, List.length_reverse, List.length_replicate, List.length_append, List.length_cons, List.length_nil, List.length_map]; omega)) only [push_cast, ↓reduceIte, reduceIte, reduceCtorEq, Nat.reduceAdd, Nat.reduceLT, Nat.reduceEqDiff, Nat.reduceLeDiff, Int.reduceAdd, Int.reduceLT, Int.reduceLE, Nat.reduceMul, b2, b3, b4, b7, b32, b33, mixO_all, rb_len, hN, length_ownR]))|refine at_go ?_|(with_reducible refine And.intro (at_go ?_) (at_go ?_))|((with_reducible refine And.intro (fun h => ?_) (fun h => ?_)) <;> try (exfalso; omega))|(with_reducible refine And.intro (by first|omega|(simp only [maxLen]; omega)) ?_)|fail|simp (disch := first|omega|(simp only [length_edsA, length_rowsA, length_rowA, length_ownR, rb_len, List.length_set, List.length_reverse, List.length_replicate, List.length_append, List.length_cons, List.length_nil, List.length_map]; omega)) only [push_cast, ↓reduceIte, reduceIte, reduceCtorEq, Nat.reduceAdd, Nat.reduceLT, Nat.reduceEqDiff, Nat.reduceLeDiff, Int.reduceAdd, Int.reduceLT, Int.reduceLE, Nat.reduceMul, b2, b3, b4, b7, b32, b33, mixO_all, rb_len, hN, length_ownR])
   have hx : ∀ k, k < p.ed.length → (0 ≤ (p.ed.getD k eD).s ∧ (p.ed.getD k eD).s < s) ∧ 0 ≤ (p.ed.getD k eD).i ∧ (p.ed.getD k eD).i < I := fun k hk => by
    have hok : okAt p k = true := by
     unfold checkP at hc
     split at hc
     ·rename_i h; exact h.2 k hk
     ·omega
    have hp : p.inp = I := by
     unfold fitsM at hf
     split at hf
     ·omega
     ·omega
    simp only [okAt, okX, Bool.and_eq_true, Bool.not_eq_true', Bool.or_eq_false_iff, decide_eq_false_iff_not] at hok
    obtain ⟨⟨⟨⟨⟨⟨⟨h1, h2⟩, h3⟩, h4⟩, h5⟩, h6⟩, h7⟩, h8⟩ := hok
    rw [fS1] at h2
    rw [hp] at h4
    have e : p.ed.getD k eD = p.ed.getD k xD := rfl
    rw [e]
    exact ⟨by omega, by omega⟩
   unfold applyM
   rw [Int.toNat_natCast, ← hS]
   refine apply_ed I o l c p z d (rows0 l I s) s _ (by omega) (by omega) (by omega) (rows0_len l I s) (rows0_wide l I s) hz hl hx ?_ ?_ ?_ ?_ ?_ ?_ ?_
   all_goals
    simp (disch := first|omega|(simp only [length_edsA, length_rowsA, length_rowA, length_ownR, rb_len, List.length_set, List.length_reverse, List.length_replicate, List.length_append, List.length_cons, List.length_nil, List.length_map]; omega)) only [push_cast, ↓reduceIte, reduceIte, reduceCtorEq, Nat.reduceAdd, Nat.reduceLT, Nat.reduceEqDiff, Nat.reduceLeDiff, Int.reduceAdd, Int.reduceLT, Int.reduceLE, Nat.reduceMul, b2, b3, b4, b7, b32, b33, mixO_all, rb_len, hN, length_ownR]
end Go.Proofs
