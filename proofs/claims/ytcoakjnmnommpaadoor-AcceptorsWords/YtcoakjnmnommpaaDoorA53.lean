import Derived.Test.YtcoakjnmnommpaaDoorA52
import Derived.Test.YtcoakjnmnommpaaDoorA13
import Derived.Test.YtcoakjnmnommpaaDoorA15
namespace Go.Proofs
open Go Go.V Go.RowKit
set_option linter.unusedVariables false
set_option linter.unusedSimpArgs false
set_option maxHeartbeats 0
set_option maxRecDepth 100000
theorem wrd_in {w : List Nat} {A : Nat} (hA : 1 ≤ A) : InA A (wrdN w A) := fun a ha => by
 obtain ⟨x, _, rfl⟩ := List.mem_map.1 ha
 exact Nat.mod_lt _ hA
theorem wrd_len (w : List Nat) (A : Nat) : (wrdN w A).length ≤ 40 := by simp [wrdN]; omega
theorem in_checkW {A : Nat} {w : List Nat} (hA : 1 ≤ A ∧ A ≤ 16) (hw : InA A w) (hl : w.length ≤ 256) : checkW A (intN w) = 0 := by
 rw [checkW, if_neg (by rw [intN_len]; omega), if_neg]
 rintro (q|q)
 ·omega
 ·rw [List.any_eq_true] at q
  obtain ⟨x, hx, hb⟩ := q
  obtain ⟨a, ha, rfl⟩ := List.mem_map.1 hx
  have := hw a ha
  simp [badW] at hb
  omega
theorem det_dA {x : Nf} {A N : Nat} (hA : 1 ≤ A ∧ A ≤ 16) (hN : N ≤ 256) (h : (detS x A N).length = N) : OkDv A (rowsD (dRow A (detR x A N))) (detA x A N).length ∧ SizeD 1 (dRow A (detR x A N)) 1 (detA x A N) ∧ (dRow A (detR x A N)).length = N := by
 have h1 := det_okD hA hN h
 have h2 := detA_len h
 have h3 : (detR x A N).length = N := (det_ok x A N h).len
 refine ⟨by rw [dRow_D, h2]; exact h1, sizeD_of (by rw [dRow_len, h3]; omega) (by rw [h2]; omega) (fun r hr => ?_), by rw [dRow_len, h3]⟩
 obtain ⟨q, hq, rfl⟩ := List.mem_map.1 hr
 have := stX_rowlen x.S N q hq
 simp only [intN_len]; omega
theorem law8 (x : ND) (c : Option Nat) (hx : x.Ok) (w : List Nat) (cw : Option Nat) (hw : ∀ y ∈ w, y < 256) (hl : w.length ≤ 9223372036854775807) : PC Tryd.prog G0 8 [.agg (ndC x 3 c), .sl 1 (u8s w) cw] (.bool true) := by
 have hA := x.nN
 have hO := of9 x 3 c hx (.inr rfl)
 have hW := word24 1 w cw x.A (.inr rfl) hw hl (by omega)
 have hin := wrd_in (w := w) (A := x.A) (by omega)
 have hwl := wrd_len w x.A
 generalize wrdN w x.A = W at *
 have hcw := in_checkW (A := x.A) (by omega) hin (by omega)
 have hacc : ∀ (l : List RC) (st ac : List Int), OkNv x.A (rowsV l) st ac → accV x.A l st ac (intN W) = .tup [.bool (langN (nfOf (rowsV l) st ac) W), .int .i64 0] := fun l st ac h => by
  rw [accV, if_neg (by rw [ok_checkN h]; simp), if_neg (by rw [hcw]; simp), natL_intN]
 have hA1 := acceptsNfa25 x.A 1 (x.rows x.n) none 1 (intN (bitS x.st x.n)) none 1 (intN (bitS x.ac x.n)) none x.sizeN 1 (intN W) none (.inr rfl) (by rw [intN_len]; omega)
 rw [hacc _ _ _ x.okN] at hA1
 obtain ⟨N, hN, hN2, hD⟩ := det_law (c := none) (cs := none) (ca := none) x.sizeN x.okN (by rw [x.rows_len]; omega)
 change (detS x.nf x.A N).length = N at hN2
 change PC _ _ _ _ (detG x.A x.nf N) at hD
 change PC _ _ _ _ (.tup [.bool (langN x.nf W), .int .i64 0]) at hA1
 obtain ⟨hok, hsz, hdl⟩ := det_dA (x := x.nf) (A := x.A) (by omega) hN hN2
 have hdo := det_ok x.nf x.A N hN2
 have hB := accepts26 x.A 1 (dRow x.A (detR x.nf x.A N)) (some N) 1 (detA x.nf x.A N) (some N) hsz 1 (intN W) none (.inr rfl) (by rw [intN_len]; omega)
 rw [accD, if_neg (by rw [ok_checkD hok]; simp), if_neg (by rw [hcw]; simp), natL_intN, dRow_DN, hdo.acc W hin] at hB
 have hF := ofDfa18 x.A 1 (dRow x.A (detR x.nf x.A N)) (some N) 1 (detA x.nf x.A N) (some N) hsz
 rw [ofDV, if_neg (by rw [ok_checkD hok]; simp)] at hF
 have hC := acceptsNfa25 x.A 1 (ofRC (dRow x.A (detR x.nf x.A N)) (dRow x.A (detR x.nf x.A N)).length) (some (dRow x.A (detR x.nf x.A N)).length) 1 [0] (some 1) 1 (intN (accK (detA x.nf x.A N) (dRow x.A (detR x.nf x.A N)).length)) (some (accK (detA x.nf x.A N) (dRow x.A (detR x.nf x.A N)).length).length) (of_sizeN hok _) 1 (intN W) none (.inr rfl) (by rw [intN_len]; omega)
 rw [hacc _ _ _ (of_okN hok _), of_lang hok _ hin, dRow_DN, hdo.acc W hin] at hC
 have hR := refAcceptsNfa27 x.A 1 (x.rows x.n) none 1 (intN (bitS x.st x.n)) none 1 (intN (bitS x.ac x.n)) none x.sizeN x.okN 1 (intN W) none (.inr rfl) (by rw [intN_len]; omega) (fun y hy => by
  obtain ⟨a, ha, rfl⟩ := List.mem_map.1 hy
  have := hin a ha
  omega)
 rw [natL_intN] at hR
 change PC _ _ _ _ (.int .i64 (if langN x.nf W = true then 1 else 0)) at hR
 have hM := room28 x.A 1 (ofRC (dRow x.A (detR x.nf x.A N)) (dRow x.A (detR x.nf x.A N)).length) 1 [0] 1 (intN (accK (detA x.nf x.A N) (dRow x.A (detR x.nf x.A N)).length)) (of_sizeN hok _) of_room
 rw [of_len, intN_len] at hM
 have hlv := lives10
 unfold detG dA nA at *
 have hid1 : ∀ p, idsE p (rowsN (x.rows x.n)) = true := fun p => idsE_rowsN _ _
 have hid2 : ∀ p, idsE p (ints (intN (bitS x.st x.n))) = true := fun p => idsE_ints _ _
 have hid3 : ∀ p, idsE p (ints (intN (bitS x.ac x.n))) = true := fun p => idsE_ints _ _
 have hid4 : ∀ p, idsE p (ints (intN W)) = true := fun p => idsE_ints _ _
 have hid5 : ∀ p, idsE p (rowL (dRow x.A (detR x.nf x.A N))) = true := fun p => idsE_rowL _ _
 have hid6 : ∀ p, idsE p (bools (detA x.nf x.A N)) = true := fun p => idsE_bools _ _
 have hid7 : ∀ p, idsE p (rowsN (ofRC (dRow x.A (detR x.nf x.A N)) (dRow x.A (detR x.nf x.A N)).length)) = true := fun p => idsE_rowsN _ _
 have hid8 : ∀ p, idsE p (ints (intN (accK (detA x.nf x.A N) (dRow x.A (detR x.nf x.A N)).length))) = true := fun p => idsE_ints _ _
 have hid9 : ∀ p, idsE p (ints [0]) = true := fun p => idsE_ints _ _
 have hid10 : ∀ p, idsE p (u8s w) = true := fun p => idsE_map _ _ fun x => by simp [idsL, AV.ids]
 have hid11 : ∀ p, idsE p (arcsA x.arcs) = true := fun p => idsE_arcsA _ _
 generalize rowsN (x.rows x.n) = e1 at *
 generalize ints (intN (bitS x.st x.n)) = e2 at *
 generalize ints (intN (bitS x.ac x.n)) = e3 at *
 generalize ints (intN W) = e4 at *
 generalize rowL (dRow x.A (detR x.nf x.A N)) = e5 at *
 generalize bools (detA x.nf x.A N) = e6 at *
 generalize rowsN (ofRC (dRow x.A (detR x.nf x.A N)) (dRow x.A (detR x.nf x.A N)).length) = e7 at *
 generalize ints (intN (accK (detA x.nf x.A N) (dRow x.A (detR x.nf x.A N)).length)) = e8 at *
 generalize ints [0] = e9 at *
 generalize (dRow x.A (detR x.nf x.A N)).length = n1 at *
 generalize (accK (detA x.nf x.A N) n1).length = n2 at *
 unfold ndC at *
 generalize u8s w = e10 at *
 generalize arcsA x.arcs = e11 at *
 generalize langN x.nf W = b at *
 simp only [List.length_singleton] at hM
 cases b with
 | true =>
  rw [if_pos rfl] at hR
  refine pc_go 0 97 [.tmp 4] Tryd.func8 rfl rfl rfl (by simp) ?_
  intro s ⟨a0, a1, hz⟩
  simp only [Nat.zero_add, Nat.reduceAdd] at a1
  clear hz
  repeat' (first|(((first|refine nav ?_|(refine g0_ ?_; first|refine go_draw (dr := allQ) rfl rfl mixed (by first|assumption|kernel_rfl) ?_))) <;> (try simp (disch := (first|exact discB|fail)) only [push_cast, ↓reduceIte, reduceIte, reduceCtorEq, Nat.reduceAdd, Nat.reduceLT, Nat.reduceEqDiff, Nat.reduceLeDiff, Int.reduceAdd, Int.reduceLT, Int.reduceLE, Nat.reduceMul, a0, a1]))|(with_reducible refine And.intro (at_go ?_) (at_go ?_))|((with_reducible refine And.intro (fun h => ?_) (fun h => ?_)) <;> try (exfalso; omega))|(with_reducible refine andG ?_)|(refine And.intro ⟨[_], rfl⟩ ?_)|(refine And.intro ⟨[], by simp only [List.append_nil]⟩ ?_)|(first|(refine ⟨_, _, pc_lift (hO) (by (simp [idsL, idsE, AV.ids, hid1, hid2, hid3, hid4, hid5, hid6, hid7, hid8, hid9, hid10, hid11])) _, ?_⟩)|(refine ⟨_, pc_lift (hO) (by (simp [idsL, idsE, AV.ids, hid1, hid2, hid3, hid4, hid5, hid6, hid7, hid8, hid9, hid10, hid11])) _, ?_⟩)|(refine ⟨_, fun _ => pc_lift (hO) (by (simp [idsL, idsE, AV.ids, hid1, hid2, hid3, hid4, hid5, hid6, hid7, hid8, hid9, hid10, hid11])) _, ?_⟩)|(refine ⟨_, _, pc_lift (hW) (by (simp [idsL, idsE, AV.ids, hid1, hid2, hid3, hid4, hid5, hid6, hid7, hid8, hid9, hid10, hid11])) _, ?_⟩)|(refine ⟨_, pc_lift (hW) (by (simp [idsL, idsE, AV.ids, hid1, hid2, hid3, hid4, hid5, hid6, hid7, hid8, hid9, hid10, hid11])) _, ?_⟩)|(refine ⟨_, fun _ => pc_lift (hW) (by (simp [idsL, idsE, AV.ids, hid1, hid2, hid3, hid4, hid5, hid6, hid7, hid8, hid9, hid10, hid11])) _, ?_⟩)|(refine ⟨_, _, pc_lift (hA1) (by (simp [idsL, idsE, AV.ids, hid1, hid2, hid3, hid4, hid5, hid6, hid7, hid8, hid9, hid10, hid11])) _, ?_⟩)|(refine ⟨_, pc_lift (hA1) (by (simp [idsL, idsE, AV.ids, hid1, hid2, hid3, hid4, hid5, hid6, hid7, hid8, hid9, hid10, hid11])) _, ?_⟩)|(refine ⟨_, fun _ => pc_lift (hA1) (by (simp [idsL, idsE, AV.ids, hid1, hid2, hid3, hid4, hid5, hid6, hid7, hid8, hid9, hid10, hid11])) _, ?_⟩)|(refine ⟨_, _, pc_lift (hD) (by (simp [idsL, idsE, AV.ids, hid1, hid2, hid3, hid4, hid5, hid6, hid7, hid8, hid9, hid10, hid11])) _, ?_⟩)|(refine ⟨_, pc_lift (hD) (by (simp [idsL, idsE, AV.ids, hid1, hid2, hid3, hid4, hid5, hid6, hid7, hid8, hid9, hid10, hid11])) _, ?_⟩)|(refine ⟨_, fun _ => pc_lift (hD) (by (simp [idsL, idsE, AV.ids, hid1, hid2, hid3, hid4, hid5, hid6, hid7, hid8, hid9, hid10, hid11])) _, ?_⟩)|(refine ⟨_, _, pc_lift (hB) (by (simp [idsL, idsE, AV.ids, hid1, hid2, hid3, hid4, hid5, hid6, hid7, hid8, hid9, hid10, hid11])) _, ?_⟩)|(refine ⟨_, pc_lift (hB) (by (simp [idsL, idsE, AV.ids, hid1, hid2, hid3, hid4, hid5, hid6, hid7, hid8, hid9, hid10, hid11])) _, ?_⟩)|(refine ⟨_, fun _ => pc_lift (hB) (by (simp [idsL, idsE, AV.ids, hid1, hid2, hid3, hid4, hid5, hid6, hid7, hid8, hid9, hid10, hid11])) _, ?_⟩)|(refine ⟨_, _, pc_lift (hF) (by (simp [idsL, idsE, AV.ids, hid1, hid2, hid3, hid4, hid5, hid6, hid7, hid8, hid9, hid10, hid11])) _, ?_⟩)|(refine ⟨_, pc_lift (hF) (by (simp [idsL, idsE, AV.ids, hid1, hid2, hid3, hid4, hid5, hid6, hid7, hid8, hid9, hid10, hid11])) _, ?_⟩)|(refine ⟨_, fun _ => pc_lift (hF) (by (simp [idsL, idsE, AV.ids, hid1, hid2, hid3, hid4, hid5, hid6, hid7, hid8, hid9, hid10, hid11])) _, ?_⟩)|(refine ⟨_, _, pc_lift (hC) (by (simp [idsL, idsE, AV.ids, hid1, hid2, hid3, hid4, hid5, hid6, hid7, hid8, hid9, hid10, hid11])) _, ?_⟩)|(refine ⟨_, pc_lift (hC) (by (simp [idsL, idsE, AV.ids, hid1, hid2, hid3, hid4, hid5, hid6, hid7, hid8, hid9, hid10, hid11])) _, ?_⟩)|(refine ⟨_, fun _ => pc_lift (hC) (by (simp [idsL, idsE, AV.ids, hid1, hid2, hid3, hid4, hid5, hid6, hid7, hid8, hid9, hid10, hid11])) _, ?_⟩)|(refine ⟨_, _, pc_lift (hR) (by (simp [idsL, idsE, AV.ids, hid1, hid2, hid3, hid4, hid5, hid6, hid7, hid8, hid9, hid10, hid11])) _, ?_⟩)|(refine ⟨_, pc_lift (hR) (by (simp [idsL, idsE, AV.ids, hid1, hid2, hid3, hid4, hid5, hid6, hid7, hid8, hid9, hid10, hid11])) _, ?_⟩)|(refine ⟨_, fun _ => pc_lift (hR) (by (simp [idsL, idsE, AV.ids, hid1, hid2, hid3, hid4, hid5, hid6, hid7, hid8, hid9, hid10, hid11])) _, ?_⟩)|(refine ⟨_, _, pc_lift (hM) (by (simp [idsL, idsE, AV.ids, hid1, hid2, hid3, hid4, hid5, hid6, hid7, hid8, hid9, hid10, hid11])) _, ?_⟩)|(refine ⟨_, pc_lift (hM) (by (simp [idsL, idsE, AV.ids, hid1, hid2, hid3, hid4, hid5, hid6, hid7, hid8, hid9, hid10, hid11])) _, ?_⟩)|(refine ⟨_, fun _ => pc_lift (hM) (by (simp [idsL, idsE, AV.ids, hid1, hid2, hid3, hid4, hid5, hid6, hid7, hid8, hid9, hid10, hid11])) _, ?_⟩)|(refine ⟨_, _, pc_lift (hlv) (by (simp [idsL, idsE, AV.ids, hid1, hid2, hid3, hid4, hid5, hid6, hid7, hid8, hid9, hid10, hid11])) _, ?_⟩)|(refine ⟨_, pc_lift (hlv) (by (simp [idsL, idsE, AV.ids, hid1, hid2, hid3, hid4, hid5, hid6, hid7, hid8, hid9, hid10, hid11])) _, ?_⟩)|(refine ⟨_, fun _ => pc_lift (hlv) (by (simp [idsL, idsE, AV.ids, hid1, hid2, hid3, hid4, hid5, hid6, hid7, hid8, hid9, hid10, hid11])) _, ?_⟩))|simp (disch := (first|exact discB|fail)) only [push_cast, ↓reduceIte, reduceIte, reduceCtorEq, Nat.reduceAdd, Nat.reduceLT, Nat.reduceEqDiff, Nat.reduceLeDiff, Int.reduceAdd, Int.reduceLT, Int.reduceLE, Nat.reduceMul, a0, a1])
 | false =>
  rw [if_neg (by decide)] at hR
  have hz : decide ((0 : Int) = 1) = false := rfl
  refine pc_go 0 97 [.tmp 4] Tryd.func8 rfl rfl rfl (by simp) ?_
  intro s ⟨a0, a1, hz⟩
  simp only [Nat.zero_add, Nat.reduceAdd] at a1
  clear hz
  repeat' (first|(((first|refine nav ?_|(refine g0_ ?_; first|refine go_draw (dr := allQ) rfl rfl mixed (by first|assumption|kernel_rfl) ?_))) <;> (try simp (disch := (first|exact discB|fail)) only [push_cast, ↓reduceIte, reduceIte, reduceCtorEq, Nat.reduceAdd, Nat.reduceLT, Nat.reduceEqDiff, Nat.reduceLeDiff, Int.reduceAdd, Int.reduceLT, Int.reduceLE, Nat.reduceMul, a0, a1, hz]))|(with_reducible refine And.intro (at_go ?_) (at_go ?_))|((with_reducible refine And.intro (fun h => ?_) (fun h => ?_)) <;> try (exfalso; omega))|(with_reducible refine andG ?_)|(refine And.intro ⟨[_], rfl⟩ ?_)|(refine And.intro ⟨[], by simp only [List.append_nil]⟩ ?_)|(first|(refine ⟨_, _, pc_lift (hO) (by (simp [idsL, idsE, AV.ids, hid1, hid2, hid3, hid4, hid5, hid6, hid7, hid8, hid9, hid10, hid11])) _, ?_⟩)|(refine ⟨_, pc_lift (hO) (by (simp [idsL, idsE, AV.ids, hid1, hid2, hid3, hid4, hid5, hid6, hid7, hid8, hid9, hid10, hid11])) _, ?_⟩)|(refine ⟨_, fun _ => pc_lift (hO) (by (simp [idsL, idsE, AV.ids, hid1, hid2, hid3, hid4, hid5, hid6, hid7, hid8, hid9, hid10, hid11])) _, ?_⟩)|(refine ⟨_, _, pc_lift (hW) (by (simp [idsL, idsE, AV.ids, hid1, hid2, hid3, hid4, hid5, hid6, hid7, hid8, hid9, hid10, hid11])) _, ?_⟩)|(refine ⟨_, pc_lift (hW) (by (simp [idsL, idsE, AV.ids, hid1, hid2, hid3, hid4, hid5, hid6, hid7, hid8, hid9, hid10, hid11])) _, ?_⟩)|(refine ⟨_, fun _ => pc_lift (hW) (by (simp [idsL, idsE, AV.ids, hid1, hid2, hid3, hid4, hid5, hid6, hid7, hid8, hid9, hid10, hid11])) _, ?_⟩)|(refine ⟨_, _, pc_lift (hA1) (by (simp [idsL, idsE, AV.ids, hid1, hid2, hid3, hid4, hid5, hid6, hid7, hid8, hid9, hid10, hid11])) _, ?_⟩)|(refine ⟨_, pc_lift (hA1) (by (simp [idsL, idsE, AV.ids, hid1, hid2, hid3, hid4, hid5, hid6, hid7, hid8, hid9, hid10, hid11])) _, ?_⟩)|(refine ⟨_, fun _ => pc_lift (hA1) (by (simp [idsL, idsE, AV.ids, hid1, hid2, hid3, hid4, hid5, hid6, hid7, hid8, hid9, hid10, hid11])) _, ?_⟩)|(refine ⟨_, _, pc_lift (hD) (by (simp [idsL, idsE, AV.ids, hid1, hid2, hid3, hid4, hid5, hid6, hid7, hid8, hid9, hid10, hid11])) _, ?_⟩)|(refine ⟨_, pc_lift (hD) (by (simp [idsL, idsE, AV.ids, hid1, hid2, hid3, hid4, hid5, hid6, hid7, hid8, hid9, hid10, hid11])) _, ?_⟩)|(refine ⟨_, fun _ => pc_lift (hD) (by (simp [idsL, idsE, AV.ids, hid1, hid2, hid3, hid4, hid5, hid6, hid7, hid8, hid9, hid10, hid11])) _, ?_⟩)|(refine ⟨_, _, pc_lift (hB) (by (simp [idsL, idsE, AV.ids, hid1, hid2, hid3, hid4, hid5, hid6, hid7, hid8, hid9, hid10, hid11])) _, ?_⟩)|(refine ⟨_, pc_lift (hB) (by (simp [idsL, idsE, AV.ids, hid1, hid2, hid3, hid4, hid5, hid6, hid7, hid8, hid9, hid10, hid11])) _, ?_⟩)|(refine ⟨_, fun _ => pc_lift (hB) (by (simp [idsL, idsE, AV.ids, hid1, hid2, hid3, hid4, hid5, hid6, hid7, hid8, hid9, hid10, hid11])) _, ?_⟩)|(refine ⟨_, _, pc_lift (hF) (by (simp [idsL, idsE, AV.ids, hid1, hid2, hid3, hid4, hid5, hid6, hid7, hid8, hid9, hid10, hid11])) _, ?_⟩)|(refine ⟨_, pc_lift (hF) (by (simp [idsL, idsE, AV.ids, hid1, hid2, hid3, hid4, hid5, hid6, hid7, hid8, hid9, hid10, hid11])) _, ?_⟩)|(refine ⟨_, fun _ => pc_lift (hF) (by (simp [idsL, idsE, AV.ids, hid1, hid2, hid3, hid4, hid5, hid6, hid7, hid8, hid9, hid10, hid11])) _, ?_⟩)|(refine ⟨_, _, pc_lift (hC) (by (simp [idsL, idsE, AV.ids, hid1, hid2, hid3, hid4, hid5, hid6, hid7, hid8, hid9, hid10, hid11])) _, ?_⟩)|(refine ⟨_, pc_lift (hC) (by (simp [idsL, idsE, AV.ids, hid1, hid2, hid3, hid4, hid5, hid6, hid7, hid8, hid9, hid10, hid11])) _, ?_⟩)|(refine ⟨_, fun _ => pc_lift (hC) (by (simp [idsL, idsE, AV.ids, hid1, hid2, hid3, hid4, hid5, hid6, hid7, hid8, hid9, hid10, hid11])) _, ?_⟩)|(refine ⟨_, _, pc_lift (hR) (by (simp [idsL, idsE, AV.ids, hid1, hid2, hid3, hid4, hid5, hid6, hid7, hid8, hid9, hid10, hid11])) _, ?_⟩)|(refine ⟨_, pc_lift (hR) (by (simp [idsL, idsE, AV.ids, hid1, hid2, hid3, hid4, hid5, hid6, hid7, hid8, hid9, hid10, hid11])) _, ?_⟩)|(refine ⟨_, fun _ => pc_lift (hR) (by (simp [idsL, idsE, AV.ids, hid1, hid2, hid3, hid4, hid5, hid6, hid7, hid8, hid9, hid10, hid11])) _, ?_⟩)|(refine ⟨_, _, pc_lift (hM) (by (simp [idsL, idsE, AV.ids, hid1, hid2, hid3, hid4, hid5, hid6, hid7, hid8, hid9, hid10, hid11])) _, ?_⟩)|(refine ⟨_, pc_lift (hM) (by (simp [idsL, idsE, AV.ids, hid1, hid2, hid3, hid4, hid5, hid6, hid7, hid8, hid9, hid10, hid11])) _, ?_⟩)|(refine ⟨_, fun _ => pc_lift (hM) (by (simp [idsL, idsE, AV.ids, hid1, hid2, hid3, hid4, hid5, hid6, hid7, hid8, hid9, hid10, hid11])) _, ?_⟩)|(refine ⟨_, _, pc_lift (hlv) (by (simp [idsL, idsE, AV.ids, hid1, hid2, hid3, hid4, hid5, hid6, hid7, hid8, hid9, hid10, hid11])) _, ?_⟩)|(refine ⟨_, pc_lift (hlv) (by (simp [idsL, idsE, AV.ids, hid1, hid2, hid3, hid4, hid5, hid6, hid7, hid8, hid9, hid10, hid11])) _, ?_⟩)|(refine ⟨_, fun _ => pc_lift (hlv) (by (simp [idsL, idsE, AV.ids, hid1, hid2, hid3, hid4, hid5, hid6, hid7, hid8, hid9, hid10, hid11])) _, ?_⟩))|simp (disch := (first|exact discB|fail)) only [push_cast, ↓reduceIte, reduceIte, reduceCtorEq, Nat.reduceAdd, Nat.reduceLT, Nat.reduceEqDiff, Nat.reduceLeDiff, Int.reduceAdd, Int.reduceLT, Int.reduceLE, Nat.reduceMul, a0, a1, hz])
end Go.Proofs
