import Derived.Test.YtcoakjnmnommpaaDoorA17
import Derived.Test.YtcoakjnmnommpaaDoorA13
import Derived.Test.YtcoakjnmnommpaaDoorA15
import Derived.Test.YtcoakjnmnommpaaDoorAR3
namespace Go.Proofs
open Go Go.V
set_option linter.unusedVariables false
set_option linter.unusedSimpArgs false
set_option maxHeartbeats 0
def nmapG {α : Type} (kA : α → AV) : Nat → List α → List (AV × AV)
 | _, [] => []
 | n, x :: d => (kA x, .int .i64 n) :: nmapG kA (n + 1) d
theorem length_nmapG {α : Type} {kA : α → AV} : ∀ (d : List α) (n : Nat), (nmapG kA n d).length = d.length
 | [], _ => rfl
 | _ :: d, n => by rw [nmapG, List.length_cons, List.length_cons, length_nmapG d]
theorem lookA_nmapG {α : Type} [BEq α] [LawfulBEq α] {kA : α → AV} (hs : ∀ x y, sameK (kA x) (kA y) = (x == y)) (z : AV) (x : α) : ∀ (d : List α) (n : Nat), lookA z (nmapG kA n d) (kA x) = if x ∈ d then .int .i64 ((n + d.idxOf x : Nat) : Int) else z
 | [], n => by simp [lookA, nmapG]
 | y :: d, n => by
  have ih := lookA_nmapG hs z x d (n + 1)
  simp only [lookA, nmapG, List.find?_cons, hs] at ih ⊢
  by_cases h : x = y
  ·subst h; simp
  ·have h' : ¬ y = x := fun q => h q.symm
   rw [beq_eq_false_iff_ne.2 h]
   simp only [List.mem_cons, h, false_or, List.idxOf_cons, beq_eq_false_iff_ne.2 h', cond_false] at ih ⊢
   rw [ih]
   split
   ·congr 2; omega
   ·rfl
theorem hasA_nmapG {α : Type} [BEq α] [LawfulBEq α] {kA : α → AV} (hs : ∀ x y, sameK (kA x) (kA y) = (x == y)) (x : α) : ∀ (d : List α) (n : Nat), hasA (nmapG kA n d) (kA x) = decide (x ∈ d)
 | [], n => by simp [hasA, nmapG]
 | y :: d, n => by
  have ih := hasA_nmapG hs x d (n + 1)
  simp only [hasA, nmapG, List.any_cons, hs] at ih ⊢
  rw [ih, Bool.eq_iff_iff]
  simp
theorem updA_nmapG {α : Type} [BEq α] [LawfulBEq α] {kA : α → AV} (hs : ∀ x y, sameK (kA x) (kA y) = (x == y)) (x : α) : ∀ (d : List α) (n : Nat), ¬ x ∈ d → updA (nmapG kA n d) (kA x) (.int .i64 ((n + d.length : Nat) : Int)) = nmapG kA n (d ++ [x])
 | [], n, _ => by simp [updA, nmapG]
 | y :: d, n, h => by
  simp only [List.mem_cons, not_or] at h
  have ih := updA_nmapG hs x d (n + 1) h.2
  simp only [nmapG, updA, hs, beq_eq_false_iff_ne.2 h.1, Bool.false_eq_true, if_false, List.cons_append]
  rw [← ih]
  congr 4
  simp only [List.length_cons]; omega
theorem ids_nmapG {α : Type} {kA : α → AV} (p : Nat → Bool) (h : ∀ x, AV.ids p (kA x) = true) : ∀ (d : List α) (n : Nat), ((nmapG kA n d).all fun x => AV.ids p x.1 && AV.ids p x.2) = true
 | [], _ => rfl
 | x :: d, n => by rw [nmapG, List.all_cons, ids_nmapG p h d]; simp [h, AV.ids]
theorem mapOk_nmapG {α : Type} {kA : α → AV} {kT : TypeId} (x : α) (h1 : eqTy Tryd.prog 8 kT = true) (h2 : keyA Tryd.prog 8 kT (kA x) = true) (h3 : ∀ y, (eqA Tryd.prog 8 kT (kA x) (kA y)) = (true, sameK (kA x) (kA y))) : ∀ (d : List α) (n : Nat), mapOk Tryd.prog kT (nmapG kA n d) (kA x) = true := fun d n => by
 simp only [mapOk, h1, h2, Bool.true_and]
 have : ∀ (d : List α) (n : Nat), ((nmapG kA n d).all fun p => (eqA Tryd.prog 8 kT (kA x) p.1).1 && ((eqA Tryd.prog 8 kT (kA x) p.1).2 == sameK (kA x) p.1)) = true := fun d => by
  induction d with
  | nil => intro n; rfl
  | cons y d ih => intro n; rw [nmapG, List.all_cons, ih]; simp [h3]
 exact this d n
structure W4 where
 a : Nat
 b : Nat
 c : Nat
 d : Nat
instance : DecidableEq W4 := fun x y => decidable_of_iff (x.a = y.a ∧ x.b = y.b ∧ x.c = y.c ∧ x.d = y.d) (by cases x; cases y; simp)
def w4 (p : Nat → Bool) : W4 := ⟨wP p 0, wP p 1, wP p 2, wP p 3⟩
def k4 (x : W4) : AV := .agg [.int .u64 (x.a : Nat), .int .u64 (x.b : Nat), .int .u64 (x.c : Nat), .int .u64 (x.d : Nat)]
theorem sameK_k4 (x y : W4) : sameK (k4 x) (k4 y) = (x == y) := by
 rw [show (x == y) = decide (x = y) from rfl]
 obtain ⟨a, b, c, d⟩ := x
 obtain ⟨a', b', c', d'⟩ := y
 simp only [k4, sameK, sameL, sameA, Bool.and_true]
 rw [show (IntKind.u64 == IntKind.u64) = true from rfl]
 simp only [Bool.true_and]
 rw [Bool.eq_iff_iff, decide_eq_true_eq, W4.mk.injEq]; simp [Int.natCast_inj]
theorem k4_ids (p : Nat → Bool) (x : W4) : AV.ids p (k4 x) = true := by simp [k4, AV.ids, idsL]
def pS (S : List Nat) (t : Nat) : Bool := S.contains t
def wS (S : List Nat) : W4 := w4 (pS S)
theorem set_pS {n : Nat} {S : List Nat} (h : FiltF n S) : SetIs n (pS S) S := ⟨fun t _ => by rw [pS, List.contains_iff_mem], h⟩
theorem setL_pS {n : Nat} {p : Nat → Bool} {S : List Nat} (h : SetIs n p S) : setL p = setL (pS S) := by
 refine setL_ext fun t ht => ?_
 rw [Bool.eq_iff_iff, pS, List.contains_iff_mem]; exact h.mem t ht
theorem wS_inj {n : Nat} {S T : List Nat} (hS : FiltF n S) (hT : FiltF n T) (hn : n ≤ 256) : wS S = wS T ↔ S = T := by
 rw [← set_unique (set_pS hS) (set_pS hT) hn]
 simp only [wS, w4, W4.mk.injEq]
 constructor
 ·rintro ⟨a, b, c, d⟩ i hi
  have : i = 0 ∨ i = 1 ∨ i = 2 ∨ i = 3 := by omega
  rcases this with rfl|rfl|rfl|rfl <;> assumption
 ·exact fun h => ⟨h 0 (by decide), h 1 (by decide), h 2 (by decide), h 3 (by decide)⟩
theorem wS_mem {n : Nat} (hn : n ≤ 256) {l : List (List Nat)} (hl : ∀ T ∈ l, FiltF n T) {S : List Nat} (hS : FiltF n S) : wS S ∈ l.map wS ↔ findX eqL l S < l.length := by
 unfold findX
 rw [List.findIdx_lt_length, List.mem_map]
 constructor
 ·rintro ⟨T, hT, e⟩; exact ⟨T, hT, by rw [(wS_inj (hl T hT) hS hn).1 e]; exact eqL_refl S⟩
 ·rintro ⟨T, hT, e⟩; exact ⟨T, hT, by rw [eqL_eq e]⟩
theorem wS_idx {n : Nat} (hn : n ≤ 256) : ∀ {l : List (List Nat)} (hl : ∀ T ∈ l, FiltF n T) {S : List Nat} (hS : FiltF n S), (l.map wS).idxOf (wS S) = findX eqL l S
 | [], _, _, _ => rfl
 | T :: l, hl, S, hS => by
  have ih := wS_idx hn (l := l) (fun U hU => hl U (List.mem_cons_of_mem _ hU)) hS
  unfold findX at *
  rw [List.map_cons, List.idxOf_cons, List.findIdx_cons, ih]
  have : (wS T == wS S) = eqL T S := by
   rw [Bool.eq_iff_iff, beq_iff_eq, wS_inj (hl T List.mem_cons_self) hS hn]; simp [eqL]
  rw [this]
def PS (S : List Nat) : List AV := setL (pS S)
theorem PS_len (S : List Nat) : (PS S).length = 4 := rfl
theorem PS_take (S : List Nat) : (PS S).take 4 = PS S := rfl
theorem PS_drop (S : List Nat) : (PS S).drop 4 = [] := rfl
theorem PS_ids (p : Nat → Bool) (S : List Nat) : idsL p (PS S) = true := idsL_set _ _
theorem PS_key (S : List Nat) : AV.agg (PS S) = k4 (wS S) := rfl
def setsL (l : List (List Nat)) : List (List AV) := l.map PS
theorem length_setsL (l : List (List Nat)) : (setsL l).length = l.length := by simp [setsL]
theorem getD_setsL (l : List (List Nat)) (k : Nat) (h : k < l.length) : (setsL l).getD k [] = PS (l.getD k []) := by simp [setsL, h]
theorem setsL_snoc (l : List (List Nat)) (S : List Nat) : setsL l ++ [PS S] = setsL (l ++ [S]) := by simp [setsL]
theorem idsE_setsL (p : Nat → Bool) (l : List (List Nat)) : idsE p (setsL l) = true := idsE_map _ _ fun x => PS_ids _ _
def mapS (l : List (List Nat)) : List (AV × AV) := nmapG k4 0 (l.map wS)
theorem length_mapS (l : List (List Nat)) : (mapS l).length = l.length := by rw [mapS, length_nmapG, List.length_map]
theorem all_mapS (p : Nat → Bool) (l : List (List Nat)) : ((mapS l).all fun x => AV.ids p x.1 && AV.ids p x.2) = true := ids_nmapG p (k4_ids p) _ 0
theorem eqTy68 : eqTy Tryd.prog 8 68 = true := by kernel_rfl
theorem keyA68 (x : W4) : keyA Tryd.prog 8 68 (k4 x) = true := by kernel_rfl
theorem eqA68 (x y : W4) : eqA Tryd.prog 8 68 (k4 x) (k4 y) = (true, sameK (k4 x) (k4 y)) := by
 rw [sameK_k4, show (x == y) = decide (x = y) from rfl]
 obtain ⟨a, b, c, d⟩ := x
 obtain ⟨a', b', c', d'⟩ := y
 have : eqA Tryd.prog 8 68 (k4 ⟨a, b, c, d⟩) (k4 ⟨a', b', c', d'⟩) = (true, decide ((a : Int) = a') && (decide ((b : Int) = b') && (decide ((c : Int) = c') && (decide ((d : Int) = d') && true)))) := by kernel_rfl
 rw [this, Prod.mk.injEq]
 refine ⟨rfl, ?_⟩
 rw [Bool.eq_iff_iff, decide_eq_true_eq, W4.mk.injEq]; simp [Int.natCast_inj]
theorem mapOkS (l : List (List Nat)) (S : List Nat) : mapOk Tryd.prog 68 (mapS l) (.agg (PS S)) = true := by
 rw [PS_key]; exact mapOk_nmapG _ eqTy68 (keyA68 _) (fun y => eqA68 _ _) _ 0
theorem mapS_old {n : Nat} (hn : n ≤ 256) {l : List (List Nat)} (hl : ∀ T ∈ l, FiltF n T) {S : List Nat} (hS : FiltF n S) (h : findX eqL l S < l.length) (z : AV) : hasA (mapS l) (.agg (PS S)) = true ∧ lookA z (mapS l) (.agg (PS S)) = .int .i64 (findX eqL l S : Nat) := by
 have hm := (wS_mem hn hl hS).2 h
 rw [PS_key, mapS, hasA_nmapG sameK_k4, lookA_nmapG sameK_k4, if_pos hm, wS_idx hn hl hS, Nat.zero_add]
 exact ⟨decide_eq_true hm, rfl⟩
theorem mapS_new {n : Nat} (hn : n ≤ 256) {l : List (List Nat)} (hl : ∀ T ∈ l, FiltF n T) {S : List Nat} (hS : FiltF n S) (h : findX eqL l S = l.length) (z : AV) : hasA (mapS l) (.agg (PS S)) = false ∧ lookA z (mapS l) (.agg (PS S)) = z ∧ updA (mapS l) (.agg (PS S)) (.int .i64 (l.length : Nat)) = mapS (l ++ [S]) := by
 have hm : ¬ wS S ∈ l.map wS := fun q => by have := (wS_mem hn hl hS).1 q; omega
 have hu := updA_nmapG sameK_k4 (wS S) (l.map wS) 0 hm
 rw [List.length_map, Nat.zero_add] at hu
 rw [PS_key, mapS, hasA_nmapG sameK_k4, lookA_nmapG sameK_k4, if_neg hm, hu, mapS, List.map_append]
 exact ⟨decide_eq_false hm, rfl, rfl⟩
theorem mapS_nil (S : List Nat) : updA [] (.agg (PS S)) (.int .i64 0) = mapS [S] := rfl
theorem zeroV3 : zeroV Tryd.prog 3 = .int .i64 0 := by kernel_rfl
end Go.Proofs
namespace Go.Proofs
open Go Go.V
set_option linter.unusedVariables false
set_option linter.unusedSimpArgs false
theorem natL_intN (S : List Nat) : natL (intN S) = S := by
 rw [natL, intN, List.map_map]
 exact (List.map_congr_left fun x _ => Int.toNat_natCast x).trans (List.map_id S)
theorem rowV_row (x : ND) (s a : Nat) (c : Option Nat) : rowV (x.row s a, c) = (List.range a).map fun a => intN (x.lst s a x.n) := by simp [rowV, ND.row]
theorem rowsV_rows (x : ND) (s : Nat) : rowsV (x.rows s) = (List.range s).map fun s => (List.range x.A).map fun a => intN (x.lst s a x.n) := by
 simp [rowsV, ND.rows, rowV_row]
theorem intN_filter_rises (n : Nat) (p : Nat → Bool) : risesL (intN ((List.range n).filter p)) n = true := filter_rises n p
theorem ND.okN (x : ND) : OkNv x.A (rowsV (x.rows x.n)) (intN (bitS x.st x.n)) (intN (bitS x.ac x.n)) := by
 have hl : (rowsV (x.rows x.n)).length = x.n := by rw [rowsV_len, x.rows_len]
 have hn : x.n ≤ 6 := by unfold ND.n; omega
 refine ⟨by unfold ND.A; omega, by unfold ND.A; omega, by omega, ?_, ?_, ?_, ?_⟩
 ·rw [hl]; exact intN_filter_rises _ _
 ·rw [hl]; exact intN_filter_rises _ _
 ·intro s hs
  rw [hl] at hs
  rw [rowsV_rows]; simp [hs]
 ·intro s a hs ha
  rw [hl] at hs ⊢
  rw [rowsV_rows]
  simp [hs, ha]
  exact intN_filter_rises _ _
theorem ND.nN (x : ND) : x.n ≤ 6 ∧ 1 ≤ x.A ∧ x.A ≤ 3 := by unfold ND.n ND.A; omega
theorem ND.row_get (x : ND) (s : Nat) (hs : s < x.n) : (x.rows x.n).getD s ([], none) = (x.row s x.A, none) := by simp [ND.rows, hs]
theorem ND.lst_get (x : ND) (s a : Nat) (hs : s < x.n) (ha : a < x.A) : lstC (x.rows x.n) s a = (intN (x.lst s a x.n), none) := by
 rw [lstC, x.row_get s hs]; simp [ND.row, ha]
theorem ND.sizeN (x : ND) : SizeN 1 (x.rows x.n) 1 (intN (bitS x.st x.n)) 1 (intN (bitS x.ac x.n)) := by
 obtain ⟨h1, h2, h3⟩ := x.nN
 have hb := fun b => bitS_len b x.n
 refine ⟨.inr rfl, .inr rfl, .inr rfl, ?_, ?_, ?_, ?_, ?_⟩
 ·rw [x.rows_len]; omega
 ·rw [intN_len]; have := hb x.st; omega
 ·rw [intN_len]; have := hb x.ac; omega
 ·intro s hs
  rw [x.rows_len] at hs
  rw [x.row_get s hs, x.row_len]; omega
 ·intro s a hs ha
  rw [x.rows_len] at hs
  rw [x.row_get s hs, x.row_len] at ha
  have := x.lst_get s a hs ha
  rw [lstC] at this
  rw [this, intN_len]
  have := x.lst_len s a x.n
  omega
def ND.nf (x : ND) : Nf := nfOf (rowsV (x.rows x.n)) (intN (bitS x.st x.n)) (intN (bitS x.ac x.n))
theorem ND.nf_n (x : ND) : x.nf.n = x.n := by rw [ND.nf, nfOf]; simp only [rowsV_len, x.rows_len]
theorem ND.nf_S (x : ND) : x.nf.S = bitS x.st x.n := natL_intN _
theorem ND.nf_F (x : ND) : x.nf.F = bitS x.ac x.n := natL_intN _
theorem ND.nf_d (x : ND) (s a t : Nat) (hs : s < x.n) (ha : a < x.A) (ht : t < x.n) : x.nf.d s a t = x.d s a t := by
 have h : x.nf.d s a t = (((rowsV (x.rows x.n)).getD s []).getD a []).contains (t : Int) := rfl
 rw [h, rowsV_rows]
 simp only [List.getD_eq_getElem?_getD, List.getElem?_map, List.getElem?_range hs, Option.map_some, Option.getD_some, List.getElem?_range ha]
 rw [Bool.eq_iff_iff, List.contains_iff_mem, intN, List.mem_map, ND.lst]
 constructor
 ·rintro ⟨u, hu, e⟩
  have : u = t := by omega
  subst this
  exact (List.mem_filter.1 hu).2
 ·intro h
  exact ⟨t, List.mem_filter.2 ⟨List.mem_range.2 ht, h⟩, rfl⟩
theorem nf_filt {A : Nat} {rows : List (List (List Int))} {st ac : List Int} (h : OkNv A rows st ac) : FiltF (nfOf rows st ac).n (nfOf rows st ac).S ∧ FiltF (nfOf rows st ac).n (nfOf rows st ac).F :=
 ⟨(set_of h.st).filt, (set_of h.ac).filt⟩
theorem stX_filt (x : Nf) (hS : FiltF x.n x.S) (A i : Nat) : ∀ S ∈ (stX (stepN x) eqL A x.S i).1, FiltF x.n S :=
 stX_all (stepN x) eqL A (P := FiltF x.n) x.S hS (fun S _ a _ => step_filt x S a) i
theorem FiltF.wlt {n : Nat} {S : List Nat} (h : FiltF n S) (hn : n ≤ 8) : wP (pS S) 0 < 256 := by
 refine Nat.lt_pow_two_of_testBit (n := 8) _ fun b hb => ?_
 by_cases h64 : b < 64
 ·rw [wP_test _ _ _ (by decide) h64, pS, Bool.eq_false_iff]
  intro q
  have := h.lt (List.contains_iff_mem.1 q)
  omega
 ·exact Nat.testBit_lt_two_pow (Nat.lt_of_lt_of_le (wP_lt _ _) (Nat.pow_le_pow_right (by decide) (by omega)))
theorem FiltF.winj {n : Nat} {S T : List Nat} (h : FiltF n S) (h2 : FiltF n T) (hn : n ≤ 64) (e : wP (pS S) 0 = wP (pS T) 0) : S = T := by
 refine h.ext h2 fun s hs => ?_
 have h1 := wP_test (pS S) 0 s (by decide) (by omega)
 have h3 := wP_test (pS T) 0 s (by decide) (by omega)
 rw [e, h3] at h1
 simp only [pS, Nat.mul_zero, Nat.zero_add] at h1
 rw [← List.contains_iff_mem, ← List.contains_iff_mem, h1]
theorem sets_small (x : Nf) (hS : FiltF x.n x.S) (hn : x.n ≤ 8) (A i : Nat) : (stX (stepN x) eqL A x.S i).1.length ≤ 256 :=
 apart_bound (eqv := eqL) (fun S => wP (pS S) 0) 256 _ (fun S hS' => (stX_filt x hS A i S hS').wlt hn) (fun S hS' T hT' e => by
  rw [(stX_filt x hS A i S hS').winj (stX_filt x hS A i T hT') (by omega) e]; exact eqL_refl T) (stX_apart (stepN x) eqL A x.S i)
end Go.Proofs
namespace Go.Proofs
open Go Go.V
set_option linter.unusedVariables false
set_option linter.unusedSimpArgs false
def shB (b v n : Nat) : Nat → Nat
 | 0 => 0
 | k + 1 => shB b v n k ||| (((b >>> k) &&& 1) <<< ((k + v) % n))
theorem shB_bit (b v n t : Nat) : ∀ k, (shB b v n k).testBit t = (List.range k).any fun s => decide ((s + v) % n = t) && b.testBit s
 | 0 => by simp [shB]
 | k + 1 => by
  rw [shB, Nat.testBit_or, shB_bit b v n t k, List.range_succ, List.any_append]
  congr 1
  simp only [List.any_cons, List.any_nil, Bool.or_false]
  rw [Nat.testBit_shiftLeft]
  by_cases h : (k + v) % n = t
  ·subst h
   simp [Nat.testBit_and, Nat.testBit_shiftRight]
  ·rw [decide_eq_false h, Bool.false_and]
   by_cases h2 : (k + v) % n ≤ t
   ·have h3 : ∃ d, t - (k + v) % n = d + 1 := ⟨t - (k + v) % n - 1, by omega⟩
    obtain ⟨d, hd⟩ := h3
    rw [hd, decide_eq_true (by omega), Bool.true_and, Nat.testBit_and]
    have : (1 : Nat).testBit (d + 1) = false := by simp [Nat.testBit_succ]
    rw [this, Bool.and_false]
   ·rw [decide_eq_false (by omega), Bool.false_and]
theorem shB_lt (b v n : Nat) (hn : 0 < n) (k : Nat) : shB b v n k < 2 ^ n := by
 refine Nat.lt_pow_two_of_testBit _ fun i hi => ?_
 rw [shB_bit, List.any_eq_false]
 intro s _
 have := Nat.mod_lt (s + v) hn
 rw [decide_eq_false (by omega)]; simp
def aK (x : ND) (v s a k : Nat) : List (Nat × Nat × Nat) := ((x.lst s a x.n).take k).map fun t => ((s + v) % x.n, a, (t + v) % x.n)
def aA (x : ND) (v s a : Nat) : List (Nat × Nat × Nat) := (List.range a).flatMap fun a => aK x v s a (x.lst s a x.n).length
def aS (x : ND) (v s : Nat) : List (Nat × Nat × Nat) := (List.range s).flatMap fun s => aA x v s x.A
theorem aK_succ (x : ND) (v s a k : Nat) (h : k < (x.lst s a x.n).length) : aK x v s a (k + 1) = aK x v s a k ++ [((s + v) % x.n, a, ((x.lst s a x.n).getD k 0 + v) % x.n)] := by
 rw [aK, take_succ_map _ _ 0 k h]; rfl
theorem aA_succ (x : ND) (v s a : Nat) : aA x v s (a + 1) = aA x v s a ++ aK x v s a (x.lst s a x.n).length := by simp [aA, List.range_succ]
theorem aS_succ (x : ND) (v s : Nat) : aS x v (s + 1) = aS x v s ++ aA x v s x.A := by simp [aS, List.range_succ]
def ND.shift (x : ND) (v : Nat) : ND := ⟨x.sy, x.many, aS x v x.n, shB x.st v x.n x.n, shB x.ac v x.n x.n⟩
theorem mem_aS (x : ND) (v : Nat) (e : Nat × Nat × Nat) : e ∈ aS x v x.n ↔ ∃ s a t, s < x.n ∧ a < x.A ∧ t < x.n ∧ x.d s a t = true ∧ e = ((s + v) % x.n, a, (t + v) % x.n) := by
 simp only [aS, aA, aK, List.mem_flatMap, List.mem_range, List.take_length, List.mem_map, ND.lst, List.mem_filter]
 constructor
 ·rintro ⟨s, hs, a, ha, t, ⟨ht, hd⟩, rfl⟩; exact ⟨s, a, t, hs, ha, ht, hd, rfl⟩
 ·rintro ⟨s, a, t, hs, ha, ht, hd, rfl⟩; exact ⟨s, hs, a, ha, t, ⟨ht, hd⟩, rfl⟩
theorem shift_inj {n v s t : Nat} (hs : s < n) (ht : t < n) (h : (s + v) % n = (t + v) % n) : s = t := by
 have h1 := Nat.div_add_mod (s + v) n
 have h2 := Nat.div_add_mod (t + v) n
 rcases Nat.lt_trichotomy ((s + v) / n) ((t + v) / n) with w|w|w
 ·have := Nat.mul_le_mul_left n (show (s + v) / n + 1 ≤ (t + v) / n from w)
  rw [Nat.mul_add, Nat.mul_one] at this; omega
 ·rw [w] at h1; omega
 ·have := Nat.mul_le_mul_left n (show (t + v) / n + 1 ≤ (s + v) / n from w)
  rw [Nat.mul_add, Nat.mul_one] at this; omega
theorem shift_sur {n v t : Nat} (ht : t < n) : ∃ s, s < n ∧ (s + v) % n = t := by
 refine ⟨(t + (n - v % n)) % n, Nat.mod_lt _ (by omega), ?_⟩
 have hv := Nat.mod_lt v (show 0 < n by omega)
 rw [Nat.add_mod, Nat.mod_mod, ← Nat.add_mod]
 have e : t + (n - v % n) + v = t + n * (v / n + 1) := by
  have := Nat.div_add_mod v n
  rw [Nat.mul_add, Nat.mul_one]; omega
 rw [e, Nat.add_mul_mod_self_left, Nat.mod_eq_of_lt ht]
theorem shift_d (x : ND) (v s a t : Nat) (hl : (aS x v x.n).length ≤ 60) (hs : s < x.n) (ha : a < x.A) (ht : t < x.n) : (x.shift v).d ((s + v) % x.n) a ((t + v) % x.n) = x.d s a t := by
 have hn : (x.shift v).n = x.n := rfl
 have hA : (x.shift v).A = x.A := rfl
 have h0 : 0 < x.n := by omega
 rw [ND.d, ND.dK]
 have harc : (x.shift v).arcs = aS x v x.n := rfl
 rw [harc, Nat.min_eq_right hl, List.take_length, Bool.eq_iff_iff, List.any_eq_true]
 constructor
 ·rintro ⟨e, he, hh⟩
  obtain ⟨s', a', t', hs', ha', ht', hd, rfl⟩ := (mem_aS x v e).1 he
  simp only [ND.hit, hn, hA, Nat.mod_mod, Bool.and_eq_true, decide_eq_true_eq] at hh
  obtain ⟨h1, h2, h3⟩ := hh
  rw [Nat.mod_eq_of_lt ha'] at h2
  obtain rfl := shift_inj hs' hs h1
  obtain rfl := shift_inj ht' ht h3
  subst h2
  exact hd
 ·intro hd
  refine ⟨_, (mem_aS x v _).2 ⟨s, a, t, hs, ha, ht, hd, rfl⟩, ?_⟩
  simp only [ND.hit, hn, hA, Nat.mod_mod, Nat.mod_eq_of_lt ha, decide_eq_true, Bool.and_self]
theorem nf_d_no (x : ND) (s a t : Nat) (ha : ¬ a < x.A) : x.nf.d s a t = false := by
 have h : x.nf.d s a t = (((rowsV (x.rows x.n)).getD s []).getD a []).contains (t : Int) := rfl
 rw [h, rowsV_rows]
 have : ∀ s : Nat, ((((List.range x.n).map fun s => (List.range x.A).map fun a => intN (x.lst s a x.n)).getD s []).getD a []) = [] := fun s => by
  by_cases hs : s < x.n
  ·simp [hs, ha]
  ·simp [hs]
 rw [this]; rfl
theorem bitS_shift (x : ND) (b v s : Nat) (hs : s < x.n) : (s + v) % x.n ∈ bitS (shB b v x.n x.n) x.n ↔ s ∈ bitS b x.n := by
 have h0 : 0 < x.n := by omega
 rw [bitS, bitS, List.mem_filter, List.mem_filter, List.mem_range, List.mem_range, shB_bit, List.any_eq_true]
 constructor
 ·rintro ⟨_, s', hs', hh⟩
  rw [Bool.and_eq_true, decide_eq_true_eq] at hh
  obtain rfl := shift_inj (List.mem_range.1 hs') hs hh.1
  exact ⟨hs, hh.2⟩
 ·rintro ⟨_, hb⟩
  exact ⟨Nat.mod_lt _ h0, s, List.mem_range.2 hs, by simp [hb]⟩
theorem shift_same (x : ND) (v : Nat) (hl : (aS x v x.n).length ≤ 60) : SameN x.nf (x.shift v).nf fun s => (s + v) % x.n := by
 have hnn : (x.shift v).n = x.n := rfl
 refine ⟨by rw [ND.nf_n, ND.nf_n, hnn], ?_, ?_, ?_, ?_, ?_⟩
 ·intro s hs; rw [ND.nf_n] at hs ⊢; exact Nat.mod_lt _ (by omega)
 ·intro s t hs ht h; rw [ND.nf_n] at hs ht; exact shift_inj hs ht h
 ·intro t ht; rw [ND.nf_n] at ht ⊢; exact shift_sur ht
 ·intro s t a hs ht
  rw [ND.nf_n] at hs ht
  have h0 : 0 < x.n := by omega
  by_cases ha : a < x.A
  ·have e2 := (x.shift v).nf_d ((s + v) % x.n) a ((t + v) % x.n) (Nat.mod_lt _ h0) ha (Nat.mod_lt _ h0)
   rw [x.nf_d s a t hs ha ht, e2]
   exact shift_d x v s a t hl hs ha ht
  ·rw [nf_d_no x s a t ha, nf_d_no (x.shift v) _ a _ ha]
 ·intro s hs
  rw [ND.nf_n] at hs
  rw [ND.nf_F, ND.nf_F]
  exact bitS_shift x x.ac v s hs
theorem shift_renum (x : ND) (v : Nat) : Renum x.nf (fun s => (s + v) % x.n) x.nf.S (x.shift v).nf.S := by
 have e1 : x.nf.n = x.n := x.nf_n
 refine ⟨?_, ?_, fun s hs => ?_⟩
 ·rw [ND.nf_S, e1]; exact ⟨_, rfl⟩
 ·rw [ND.nf_S, e1]; exact ⟨_, rfl⟩
 ·rw [e1] at hs
  rw [ND.nf_S, ND.nf_S]
  exact bitS_shift x x.st v s hs
theorem shift_ok (x : ND) (v : Nat) (hx : x.Ok) (h0 : 0 < x.n) (hl : (aS x v x.n).length ≤ 60) : (x.shift v).Ok := by
 have hn := x.nN
 have hp : 2 ^ x.n ≤ 256 := Nat.le_trans (Nat.pow_le_pow_right (by decide) (show x.n ≤ 8 by omega)) (by decide)
 refine ⟨hx.sy, hx.many, Nat.lt_of_lt_of_le (shB_lt _ _ _ h0 _) hp, Nat.lt_of_lt_of_le (shB_lt _ _ _ h0 _) hp, fun e he => ?_, by show (aS x v x.n).length ≤ _; omega⟩
 obtain ⟨s, a, t, hs, ha, ht, hd, rfl⟩ := (mem_aS x v e).1 he
 have h1 := Nat.mod_lt (s + v) h0
 have h2 := Nat.mod_lt (t + v) h0
 simp only
 omega
end Go.Proofs
