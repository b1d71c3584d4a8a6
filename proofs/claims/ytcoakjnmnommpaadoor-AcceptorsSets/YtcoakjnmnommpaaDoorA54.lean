import Derived.Test.YtcoakjnmnommpaaDoorA52
import Derived.Test.YtcoakjnmnommpaaDoorA13
import Derived.Test.YtcoakjnmnommpaaDoorA15
import Derived.Test.YtcoakjnmnommpaaDoorA16
import Derived.Test.YtcoakjnmnommpaaDoorA18
import Derived.Test.YtcoakjnmnommpaaDoorA24
namespace Go.Proofs
open Go Go.V Go.RowKit
set_option linter.unusedVariables false
set_option linter.unusedSimpArgs false
set_option maxHeartbeats 0
set_option maxRecDepth 100000
theorem det_dA {x : Nf} {A N : Nat} (hA : 1 ≤ A ∧ A ≤ 16) (hN : N ≤ 256) (h : (detS x A N).length = N) : OkDv A (rowsD (dRow A (detR x A N))) (detA x A N).length ∧ SizeD 1 (dRow A (detR x A N)) 1 (detA x A N) ∧ (dRow A (detR x A N)).length = N := by
 have h1 := det_okD hA hN h
 have h2 := detA_len h
 have h3 : (detR x A N).length = N := (det_ok x A N h).len
 refine ⟨by rw [dRow_D, h2]; exact h1, sizeD_of (by rw [dRow_len, h3]; omega) (by rw [h2]; omega) (fun r hr => ?_), by rw [dRow_len, h3]⟩
 obtain ⟨q, hq, rfl⟩ := List.mem_map.1 hr
 have := stX_rowlen x.S N q hq
 simp only [intN_len]; omega
end Go.Proofs
namespace Go.Proofs
open Go Go.V Go.RowKit
set_option linter.unusedVariables false
set_option linter.unusedSimpArgs false
set_option maxHeartbeats 0
set_option maxRecDepth 100000
theorem det_dN {x : Nf} {A N : Nat} (hA : 1 ≤ A ∧ A ≤ 16) (hN : N ≤ 256) (h : (detS x A N).length = N) : OkDv A (rowsD (dRowN (detR x A N))) (detA x A N).length ∧ SizeD 1 (dRowN (detR x A N)) 1 (detA x A N) ∧ (dRowN (detR x A N)).length = N := by
 have h1 := det_okD hA hN h
 have h2 := detA_len h
 have h3 : (detR x A N).length = N := (det_ok x A N h).len
 refine ⟨by rw [dRowN_D, h2]; exact h1, sizeD_of (by rw [dRowN_len, h3]; omega) (by rw [h2]; omega) (fun r hr => ?_), by rw [dRowN_len, h3]⟩
 obtain ⟨q, hq, rfl⟩ := List.mem_map.1 hr
 have := stX_rowlen x.S N q hq
 simp only [intN_len]; omega
theorem same12 {A B : Int} {l : List LC} {c : Option Nat} {a : List Bool} {ca : Option Nat} {r : List LC} {c' : Option Nat} {b : List Bool} {cb : Option Nat} (h1 : SizeD 1 l 1 a) (h2 : SizeD 1 r 1 b) (hl : l.length ≤ 1000 ∧ a.length ≤ 1000 ∧ r.length ≤ 1000 ∧ b.length ≤ 1000) (hA : A = B) (hr : rowsD l = rowsD r) (hab : a = b) :
  PC Tryd.prog G0 12 [dA A 1 l c 1 a ca, dA B 1 r c' 1 b cb] (.int .i64 1) := by
 have h := refSame12 A 1 l c 1 a ca B 1 r c' 1 b cb (.inr rfl) (.inr rfl) (.inr rfl) (.inr rfl) (by omega) (by omega) (by omega) (by omega) h1.br h2.br
 rwa [if_pos (by exact ⟨hA, hr, hab⟩)] at h
theorem ofN_len (l : List LC) : (ofRN l l.length).length = l.length := ofRN_len l _ (Nat.le_refl _)
theorem of_small {A m : Nat} {l : List LC} (h : OkDv A (rowsD l) m) : (∀ s, s < (ofRC l l.length).length → ((ofRC l l.length).getD s ([], none)).1.length ≤ 1000000) ∧ (∀ s, s < (ofRN l l.length).length → ((ofRN l l.length).getD s ([], none)).1.length ≤ 1000000) ∧ (∀ s a, (((ofRC l l.length).getD s ([], none)).1.getD a ([], none)).1.length ≤ 140737488355328) ∧ (∀ s a, (((ofRN l l.length).getD s ([], none)).1.getD a ([], none)).1.length ≤ 140737488355328) := by
 have h2 := h.a2
 have key : ∀ (r : List Int) a, ((ofRow r r.length).getD a ([], none)).1.length ≤ 140737488355328 := fun r a => by
  by_cases ha : a < r.length
  ·rw [ofRow_get _ _ ha]; simp
  ·rw [List.getD_eq_getElem?_getD, List.getElem?_eq_none (by rw [ofRow_len _ _ (Nat.le_refl _)]; omega)]; exact Nat.zero_le _
 refine ⟨fun s hs => ?_, fun s hs => ?_, fun s a => ?_, fun s a => ?_⟩
 ·rw [of_len] at hs; rw [of_get l s hs]; simp only; rw [ofRow_len _ _ (Nat.le_refl _), h.row hs]; omega
 ·rw [ofN_len] at hs; rw [ofN_get l s hs]; simp only; rw [ofRow_len _ _ (Nat.le_refl _), h.row hs]; omega
 ·by_cases hs : s < l.length
  ·rw [of_get l s hs]; exact key _ _
  ·rw [List.getD_eq_getElem?_getD (l := ofRC l l.length), List.getElem?_eq_none (by rw [of_len]; omega)]; exact Nat.zero_le _
 ·by_cases hs : s < l.length
  ·rw [ofN_get l s hs]; exact key _ _
  ·rw [List.getD_eq_getElem?_getD (l := ofRN l l.length), List.getElem?_eq_none (by rw [ofN_len]; omega)]; exact Nat.zero_le _
theorem law6 (x : ND) (c : Option Nat) (hx : x.Ok) : PC Tryd.prog G0 6 [.agg (ndC x 3 c)] (.bool true) := by
 have hA := x.nN
 have hO := of9 x 3 c hx (.inr rfl)
 obtain ⟨N, hN, hN2, hD⟩ := det_law (c := none) (cs := none) (ca := none) x.sizeN x.okN (by rw [x.rows_len]; omega)
 have hB := fun i => det_bound (l := x.rows x.n) x.okN (by rw [x.rows_len]; omega) i
 have hE := refDet13 x.A 1 (x.rows x.n) none (intN (bitS x.st x.n)) 1 (intN (bitS x.ac x.n)) none x.sizeN x.okN N hN2 hB
 clear hB
 change (detS x.nf x.A N).length = N at hN2
 change PC _ _ _ _ (detG x.A x.nf N) at hD
 change PC _ _ _ _ (detH x.A x.nf N) at hE
 obtain ⟨hok, hsz, hdl⟩ := det_dA (x := x.nf) (A := x.A) (by omega) hN hN2
 obtain ⟨hokN, hszN, hdlN⟩ := det_dN (x := x.nf) (A := x.A) (by omega) hN hN2
 have hal := detA_len hN2
 have hS := same12 (A := x.A) (B := x.A) (c := some N) (ca := some N) (c' := none) (cb := none) hsz hszN (by omega) rfl (by rw [dRow_D, dRowN_D]) rfl
 have hF := ofDfa18 x.A 1 (dRow x.A (detR x.nf x.A N)) (some N) 1 (detA x.nf x.A N) (some N) hsz
 rw [ofDV, if_neg (by rw [ok_checkD hok]; simp)] at hF
 have hG := refOfDfa20 x.A (dRowN (detR x.nf x.A N)) none (detA x.nf x.A N) none hokN
 have hk := accK_len (detA x.nf x.A N) (dRow x.A (detR x.nf x.A N)).length
 have hkN := accK_len (detA x.nf x.A N) (dRowN (detR x.nf x.A N)).length
 obtain ⟨q1, _, q3, _⟩ := of_small hok
 obtain ⟨_, q2, _, q4⟩ := of_small hokN
 have hT := sameNfa19 x.A 1 (ofRC (dRow x.A (detR x.nf x.A N)) (dRow x.A (detR x.nf x.A N)).length) (some (dRow x.A (detR x.nf x.A N)).length) 1 [0] (some 1) 1 (intN (accK (detA x.nf x.A N) (dRow x.A (detR x.nf x.A N)).length)) (some (accK (detA x.nf x.A N) (dRow x.A (detR x.nf x.A N)).length).length) x.A 1 (ofRN (dRowN (detR x.nf x.A N)) (dRowN (detR x.nf x.A N)).length) none 1 [0] (some 1) 1 (intN (accK (detA x.nf x.A N) (dRowN (detR x.nf x.A N)).length)) none (.inr rfl) (.inr rfl) (.inr rfl) (.inr rfl) (.inr rfl) (.inr rfl) (by rw [of_len]; omega) (by rw [ofN_len]; omega) (by simp) (by rw [intN_len]; omega) (by simp) (by rw [intN_len]; omega) q1 q2 q3 q4
 rw [if_pos (by exact ⟨rfl, by rw [rowsV_of, rowsV_ofN, dRow_D, dRowN_D], rfl, by rw [hdl, hdlN]⟩)] at hT
 have hlv := lives10
 unfold detG detH dA nA at *
 have hl5 : (rowL (dRow x.A (detR x.nf x.A N))).length = N := by rw [length_rowL, hdl]
 have hl6 : (bools (detA x.nf x.A N)).length = N := by rw [length_bools, hal]
 have hid1 : ∀ p, idsE p (rowsN (x.rows x.n)) = true := fun p => idsE_rowsN _ _
 have hid2 : ∀ p, idsE p (ints (intN (bitS x.st x.n))) = true := fun p => idsE_ints _ _
 have hid3 : ∀ p, idsE p (ints (intN (bitS x.ac x.n))) = true := fun p => idsE_ints _ _
 have hid5 : ∀ p, idsE p (rowL (dRow x.A (detR x.nf x.A N))) = true := fun p => idsE_rowL _ _
 have hid6 : ∀ p, idsE p (bools (detA x.nf x.A N)) = true := fun p => idsE_bools _ _
 have hid4 : ∀ p, idsE p (rowL (dRowN (detR x.nf x.A N))) = true := fun p => idsE_rowL _ _
 have hid7 : ∀ p, idsE p (rowsN (ofRC (dRow x.A (detR x.nf x.A N)) (dRow x.A (detR x.nf x.A N)).length)) = true := fun p => idsE_rowsN _ _
 have hid8 : ∀ p, idsE p (ints (intN (accK (detA x.nf x.A N) (dRow x.A (detR x.nf x.A N)).length))) = true := fun p => idsE_ints _ _
 have hid9 : ∀ p, idsE p (ints [0]) = true := fun p => idsE_ints _ _
 have hid10 : ∀ p, idsE p (rowsN (ofRN (dRowN (detR x.nf x.A N)) (dRowN (detR x.nf x.A N)).length)) = true := fun p => idsE_rowsN _ _
 have hid12 : ∀ p, idsE p (ints (intN (accK (detA x.nf x.A N) (dRowN (detR x.nf x.A N)).length))) = true := fun p => idsE_ints _ _
 have hid11 : ∀ p, idsE p (arcsA x.arcs) = true := fun p => idsE_arcsA _ _
 generalize rowsN (x.rows x.n) = e1 at *
 generalize ints (intN (bitS x.st x.n)) = e2 at *
 generalize ints (intN (bitS x.ac x.n)) = e3 at *
 generalize rowL (dRowN (detR x.nf x.A N)) = e4 at *
 generalize rowL (dRow x.A (detR x.nf x.A N)) = e5 at *
 generalize bools (detA x.nf x.A N) = e6 at *
 generalize rowsN (ofRC (dRow x.A (detR x.nf x.A N)) (dRow x.A (detR x.nf x.A N)).length) = e7 at *
 generalize rowsN (ofRN (dRowN (detR x.nf x.A N)) (dRowN (detR x.nf x.A N)).length) = e10 at *
 generalize ints (intN (accK (detA x.nf x.A N) (dRow x.A (detR x.nf x.A N)).length)) = e8 at *
 generalize ints (intN (accK (detA x.nf x.A N) (dRowN (detR x.nf x.A N)).length)) = e12 at *
 generalize ints [0] = e9 at *
 generalize (dRow x.A (detR x.nf x.A N)).length = n1 at *
 generalize (accK (detA x.nf x.A N) n1).length = n2 at *
 unfold ndC at *
 generalize arcsA x.arcs = e11 at *
 refine pc_go 0 61 [.tmp 2] Tryd.func6 rfl rfl rfl (by simp) ?_
 intro s ⟨a0, hz⟩
 clear hz
 repeat' (first|(((first|refine nav ?_|(refine g0_ ?_; first|refine go_draw (dr := allQ) rfl rfl mixed (by first|assumption|kernel_rfl) ?_))) <;> (try simp (disch := (first|exact discB|fail)) only [push_cast, ↓reduceIte, reduceIte, reduceCtorEq, Nat.reduceAdd, Nat.reduceLT, Nat.reduceEqDiff, Nat.reduceLeDiff, Int.reduceAdd, Int.reduceLT, Int.reduceLE, Nat.reduceMul, a0, hl5, hl6]))|(with_reducible refine And.intro (at_go ?_) (at_go ?_))|((with_reducible refine And.intro (fun h => ?_) (fun h => ?_)) <;> try (exfalso; omega))|(with_reducible refine andG ?_)|(refine And.intro ⟨[_], rfl⟩ ?_)|(refine And.intro ⟨[], by simp only [List.append_nil]⟩ ?_)|(first|(refine ⟨_, _, pc_lift (hO) (by (simp [idsL, idsE, AV.ids, hid1, hid2, hid3, hid4, hid5, hid6, hid7, hid8, hid9, hid10, hid11, hid12])) _, ?_⟩)|(refine ⟨_, pc_lift (hO) (by (simp [idsL, idsE, AV.ids, hid1, hid2, hid3, hid4, hid5, hid6, hid7, hid8, hid9, hid10, hid11, hid12])) _, ?_⟩)|(refine ⟨_, fun _ => pc_lift (hO) (by (simp [idsL, idsE, AV.ids, hid1, hid2, hid3, hid4, hid5, hid6, hid7, hid8, hid9, hid10, hid11, hid12])) _, ?_⟩)|(refine ⟨_, _, pc_lift (hD) (by (simp [idsL, idsE, AV.ids, hid1, hid2, hid3, hid4, hid5, hid6, hid7, hid8, hid9, hid10, hid11, hid12])) _, ?_⟩)|(refine ⟨_, pc_lift (hD) (by (simp [idsL, idsE, AV.ids, hid1, hid2, hid3, hid4, hid5, hid6, hid7, hid8, hid9, hid10, hid11, hid12])) _, ?_⟩)|(refine ⟨_, fun _ => pc_lift (hD) (by (simp [idsL, idsE, AV.ids, hid1, hid2, hid3, hid4, hid5, hid6, hid7, hid8, hid9, hid10, hid11, hid12])) _, ?_⟩)|(refine ⟨_, _, pc_lift (hE) (by (simp [idsL, idsE, AV.ids, hid1, hid2, hid3, hid4, hid5, hid6, hid7, hid8, hid9, hid10, hid11, hid12])) _, ?_⟩)|(refine ⟨_, pc_lift (hE) (by (simp [idsL, idsE, AV.ids, hid1, hid2, hid3, hid4, hid5, hid6, hid7, hid8, hid9, hid10, hid11, hid12])) _, ?_⟩)|(refine ⟨_, fun _ => pc_lift (hE) (by (simp [idsL, idsE, AV.ids, hid1, hid2, hid3, hid4, hid5, hid6, hid7, hid8, hid9, hid10, hid11, hid12])) _, ?_⟩)|(refine ⟨_, _, pc_lift (hS) (by (simp [idsL, idsE, AV.ids, hid1, hid2, hid3, hid4, hid5, hid6, hid7, hid8, hid9, hid10, hid11, hid12])) _, ?_⟩)|(refine ⟨_, pc_lift (hS) (by (simp [idsL, idsE, AV.ids, hid1, hid2, hid3, hid4, hid5, hid6, hid7, hid8, hid9, hid10, hid11, hid12])) _, ?_⟩)|(refine ⟨_, fun _ => pc_lift (hS) (by (simp [idsL, idsE, AV.ids, hid1, hid2, hid3, hid4, hid5, hid6, hid7, hid8, hid9, hid10, hid11, hid12])) _, ?_⟩)|(refine ⟨_, _, pc_lift (hF) (by (simp [idsL, idsE, AV.ids, hid1, hid2, hid3, hid4, hid5, hid6, hid7, hid8, hid9, hid10, hid11, hid12])) _, ?_⟩)|(refine ⟨_, pc_lift (hF) (by (simp [idsL, idsE, AV.ids, hid1, hid2, hid3, hid4, hid5, hid6, hid7, hid8, hid9, hid10, hid11, hid12])) _, ?_⟩)|(refine ⟨_, fun _ => pc_lift (hF) (by (simp [idsL, idsE, AV.ids, hid1, hid2, hid3, hid4, hid5, hid6, hid7, hid8, hid9, hid10, hid11, hid12])) _, ?_⟩)|(refine ⟨_, _, pc_lift (hG) (by (simp [idsL, idsE, AV.ids, hid1, hid2, hid3, hid4, hid5, hid6, hid7, hid8, hid9, hid10, hid11, hid12])) _, ?_⟩)|(refine ⟨_, pc_lift (hG) (by (simp [idsL, idsE, AV.ids, hid1, hid2, hid3, hid4, hid5, hid6, hid7, hid8, hid9, hid10, hid11, hid12])) _, ?_⟩)|(refine ⟨_, fun _ => pc_lift (hG) (by (simp [idsL, idsE, AV.ids, hid1, hid2, hid3, hid4, hid5, hid6, hid7, hid8, hid9, hid10, hid11, hid12])) _, ?_⟩)|(refine ⟨_, _, pc_lift (hT) (by (simp [idsL, idsE, AV.ids, hid1, hid2, hid3, hid4, hid5, hid6, hid7, hid8, hid9, hid10, hid11, hid12])) _, ?_⟩)|(refine ⟨_, pc_lift (hT) (by (simp [idsL, idsE, AV.ids, hid1, hid2, hid3, hid4, hid5, hid6, hid7, hid8, hid9, hid10, hid11, hid12])) _, ?_⟩)|(refine ⟨_, fun _ => pc_lift (hT) (by (simp [idsL, idsE, AV.ids, hid1, hid2, hid3, hid4, hid5, hid6, hid7, hid8, hid9, hid10, hid11, hid12])) _, ?_⟩)|(refine ⟨_, _, pc_lift (hlv) (by (simp [idsL, idsE, AV.ids, hid1, hid2, hid3, hid4, hid5, hid6, hid7, hid8, hid9, hid10, hid11, hid12])) _, ?_⟩)|(refine ⟨_, pc_lift (hlv) (by (simp [idsL, idsE, AV.ids, hid1, hid2, hid3, hid4, hid5, hid6, hid7, hid8, hid9, hid10, hid11, hid12])) _, ?_⟩)|(refine ⟨_, fun _ => pc_lift (hlv) (by (simp [idsL, idsE, AV.ids, hid1, hid2, hid3, hid4, hid5, hid6, hid7, hid8, hid9, hid10, hid11, hid12])) _, ?_⟩))|simp (disch := (first|exact discB|fail)) only [push_cast, ↓reduceIte, reduceIte, reduceCtorEq, Nat.reduceAdd, Nat.reduceLT, Nat.reduceEqDiff, Nat.reduceLeDiff, Int.reduceAdd, Int.reduceLT, Int.reduceLE, Nat.reduceMul, a0, hl5, hl6])
end Go.Proofs
