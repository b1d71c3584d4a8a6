import Derived.Test.YtcoakjnmnommpaaDoorA54
import Derived.Test.YtcoakjnmnommpaaDoorA48
import Derived.Test.YtcoakjnmnommpaaDoorA41
namespace Go.Proofs
open Go Go.V Go.RowKit
set_option linter.unusedVariables false
set_option linter.unusedSimpArgs false
set_option maxHeartbeats 0
set_option maxRecDepth 100000
theorem rowsD_lcP (rows : List (List Int × Bool)) : rowsD (lcP rows) = rows.map (·.1) := by simp [rowsD, lcP]
theorem dRows_fst {l : List LC} {ac : List Bool} {n : Nat} (hn : n = l.length) : (dRows l ac n).map (·.1) = rowsD l := by
 subst hn
 rw [dRows, List.map_map, rowsD]
 refine List.ext_getElem (by simp) fun i h1 h2 => ?_
 have hi : i < l.length := by simpa using h1
 simp [hi]
theorem dRows_snd {l : List LC} {ac : List Bool} {n : Nat} (hn : n = l.length) (ha : ac.length = n) : acP (dRows l ac n) = ac := by
 subst hn
 rw [acP, dRows, List.map_map]
 refine List.ext_getElem (by simp [ha]) fun i h1 h2 => ?_
 have hi : i < ac.length := h2
 simp [hi]
theorem sizeD_lcP {rows : List (List Int × Bool)} (h1 : rows.length ≤ 1000) (h2 : ∀ r ∈ rows, r.1.length ≤ 1000) : SizeD 1 (lcP rows) 1 (acP rows) :=
 sizeD_of (by rw [lcP_len]; exact h1) (by rw [acP_len]; exact h1) (fun r hr => by obtain ⟨q, hq, rfl⟩ := List.mem_map.1 hr; exact h2 q hq)
theorem txK_small {A : Nat} (hA : A ≤ 3) {l : List LC} {ac : List Bool} (hok : OkDv A (rowsD l) ac.length) : ∀ s, s ≤ l.length → (txK A l ac s).length ≤ 100 + s * 100
 | 0, _ => by
  have h2 := hok.a2
  have h3 := hok.n
  rw [rowsD_len] at h3
  have := lnE_len [] headA [(A : Int), (l.length : Int)] (fun x hx => by simp at hx; omega)
  rw [txK]
  simp only [List.length_nil, List.length_cons, headA] at this ⊢
  omega
 | s + 1, h => by
  have ih := txK_small hA hok s (by omega)
  have h3 := hok.n
  rw [rowsD_len] at h3
  have hr := hok.row (l := l) (s := s) (by omega)
  have := lnE_len (txK A l ac s) (signA (ac.getD s false)) (l.getD s ([], none)).1 (fun x hx => by
   obtain ⟨a, ha, rfl⟩ := List.getElem_of_mem hx
   have := hok.at (l := l) (s := s) (a := a) (by omega) (by omega)
   rw [List.getD_eq_getElem?_getD (l := (l.getD s ([], none)).1), List.getElem?_eq_getElem ha, Option.getD_some] at this
   omega)
  have hsg : (signA (ac.getD s false)).length = 1 := by cases ac.getD s false <;> rfl
  rw [txK, Nat.succ_mul]
  omega
theorem par_text {A : Nat} {l : List LC} {ac : List Bool} (hA : A ≤ 3) (hok : OkDv A (rowsD l) ac.length) : parV (textA A (dRows l ac l.length)) = .tup [dA A 1 (lcP (dRows l ac l.length)) (some l.length) 1 ac (some l.length), .int .i64 0] := by
 have hn := hok.n
 have hm := hok.m
 have h1 := hok.n1
 rw [rowsD_len] at hn hm h1
 have hl := txK_small hA hok l.length (Nat.le_refl _)
 rw [txK_all] at hl
 have hb : ∀ r ∈ dRows l ac l.length, ∀ x ∈ r.1, 0 ≤ x ∧ x ≤ 9999 := fun r hr x hx => by
  obtain ⟨s, hs, rfl⟩ := List.mem_map.1 hr
  have hs := List.mem_range.1 hs
  simp only at hx
  obtain ⟨a, ha, rfl⟩ := List.getElem_of_mem hx
  have hrl := hok.row (l := l) hs
  have := hok.at (l := l) (s := s) (a := a) hs (by omega)
  rw [List.getD_eq_getElem?_getD (l := (l.getD s ([], none)).1), List.getElem?_eq_getElem ha, Option.getD_some] at this
  omega
 rw [parV, if_neg (by omega), parse_textA _ _ (by omega) (by rw [dRows_len]; omega) hb, parO, if_neg, dRows_len, dRows_snd rfl hm]
 rw [rowsD_lcP, dRows_fst rfl, dRows_len, ← hm, ok_checkD hok]; simp
theorem law4 (x : ND) (c : Option Nat) (hx : x.Ok) : PC Tryd.prog G0 4 [.agg (ndC x 3 c)] (.bool true) := by
 have hA := x.nN
 have hO := of9 x 3 c hx (.inr rfl)
 obtain ⟨N, hN, hN2, _⟩ := det_law (c := none) (cs := none) (ca := none) x.sizeN x.okN (by rw [x.rows_len]; omega)
 have hB := fun i => det_bound (l := x.rows x.n) x.okN (by rw [x.rows_len]; omega) i
 have hE := refDet13 x.A 1 (x.rows x.n) none (intN (bitS x.st x.n)) 1 (intN (bitS x.ac x.n)) none x.sizeN x.okN N hN2 hB
 clear hB
 change (detS x.nf x.A N).length = N at hN2
 change PC _ _ _ _ (detH x.A x.nf N) at hE
 obtain ⟨hok, hsz, hdl⟩ := det_dN (x := x.nf) (A := x.A) (by omega) hN hN2
 have hal := detA_len hN2
 have hT := text14 x.A 1 (dRowN (detR x.nf x.A N)) none 1 (detA x.nf x.A N) none hsz
 rw [textV, if_neg (by rw [ok_checkD hok]; simp)] at hT
 have hU := refText16 x.A 1 (dRowN (detR x.nf x.A N)) none 1 (detA x.nf x.A N) none hsz hok
 have hP := parse15 (textA x.A (dRows (dRowN (detR x.nf x.A N)) (detA x.nf x.A N) (dRowN (detR x.nf x.A N)).length))
 rw [par_text (by omega) hok] at hP
 have hsP : SizeD 1 (lcP (dRows (dRowN (detR x.nf x.A N)) (detA x.nf x.A N) (dRowN (detR x.nf x.A N)).length)) 1 (detA x.nf x.A N) := by
  have := sizeD_lcP (rows := dRows (dRowN (detR x.nf x.A N)) (detA x.nf x.A N) (dRowN (detR x.nf x.A N)).length) (by rw [dRows_len]; omega) (fun r hr => by
   obtain ⟨s, hs, rfl⟩ := List.mem_map.1 hr
   have := hok.row (l := dRowN (detR x.nf x.A N)) (List.mem_range.1 hs)
   simp only; omega)
  rwa [dRows_snd rfl (by omega)] at this
 have hS := same12 (A := x.A) (B := x.A) (c := some (dRowN (detR x.nf x.A N)).length) (ca := some (dRowN (detR x.nf x.A N)).length) (c' := none) (cb := none) hsP hsz (by rw [lcP_len, dRows_len]; omega) rfl (by rw [rowsD_lcP, dRows_fst rfl]) rfl
 have hlv := lives10
 unfold detH dA nA at *
 have hid1 : ∀ p, idsE p (rowsN (x.rows x.n)) = true := fun p => idsE_rowsN _ _
 have hid2 : ∀ p, idsE p (ints (intN (bitS x.st x.n))) = true := fun p => idsE_ints _ _
 have hid3 : ∀ p, idsE p (ints (intN (bitS x.ac x.n))) = true := fun p => idsE_ints _ _
 have hid6 : ∀ p, idsE p (bools (detA x.nf x.A N)) = true := fun p => idsE_bools _ _
 have hid4 : ∀ p, idsE p (rowL (dRowN (detR x.nf x.A N))) = true := fun p => idsE_rowL _ _
 have hid5 : ∀ p, idsE p (rowL (lcP (dRows (dRowN (detR x.nf x.A N)) (detA x.nf x.A N) (dRowN (detR x.nf x.A N)).length))) = true := fun p => idsE_rowL _ _
 have hid11 : ∀ p, idsE p (arcsA x.arcs) = true := fun p => idsE_arcsA _ _
 generalize rowsN (x.rows x.n) = e1 at *
 generalize ints (intN (bitS x.st x.n)) = e2 at *
 generalize ints (intN (bitS x.ac x.n)) = e3 at *
 generalize textA x.A (dRows (dRowN (detR x.nf x.A N)) (detA x.nf x.A N) (dRowN (detR x.nf x.A N)).length) = tx at *
 generalize rowL (lcP (dRows (dRowN (detR x.nf x.A N)) (detA x.nf x.A N) (dRowN (detR x.nf x.A N)).length)) = e5 at *
 generalize rowL (dRowN (detR x.nf x.A N)) = e4 at *
 generalize bools (detA x.nf x.A N) = e6 at *
 generalize (dRowN (detR x.nf x.A N)).length = n1 at *
 unfold ndC at *
 generalize arcsA x.arcs = e11 at *
 refine pc_go 0 42 [.tmp 2] Tryd.func4 rfl rfl rfl (by simp) ?_
 intro s ⟨a0, hz⟩
 clear hz
 repeat' (first|(((first|refine nav ?_|(refine g0_ ?_; first|refine go_draw (dr := allQ) rfl rfl mixed (by first|assumption|kernel_rfl) ?_))) <;> (try simp (disch := (first|exact discB|fail)) only [push_cast, ↓reduceIte, reduceIte, reduceCtorEq, Nat.reduceAdd, Nat.reduceLT, Nat.reduceEqDiff, Nat.reduceLeDiff, Int.reduceAdd, Int.reduceLT, Int.reduceLE, Nat.reduceMul, a0]))|(with_reducible refine And.intro (at_go ?_) (at_go ?_))|((with_reducible refine And.intro (fun h => ?_) (fun h => ?_)) <;> try (exfalso; omega))|(with_reducible refine andG ?_)|(refine And.intro ⟨[_], rfl⟩ ?_)|(refine And.intro ⟨[], by simp only [List.append_nil]⟩ ?_)|(first|(refine ⟨_, _, pc_lift (hO) (by (simp [idsL, idsE, AV.ids, hid1, hid2, hid3, hid4, hid5, hid6, hid11])) _, ?_⟩)|(refine ⟨_, pc_lift (hO) (by (simp [idsL, idsE, AV.ids, hid1, hid2, hid3, hid4, hid5, hid6, hid11])) _, ?_⟩)|(refine ⟨_, fun _ => pc_lift (hO) (by (simp [idsL, idsE, AV.ids, hid1, hid2, hid3, hid4, hid5, hid6, hid11])) _, ?_⟩)|(refine ⟨_, _, pc_lift (hE) (by (simp [idsL, idsE, AV.ids, hid1, hid2, hid3, hid4, hid5, hid6, hid11])) _, ?_⟩)|(refine ⟨_, pc_lift (hE) (by (simp [idsL, idsE, AV.ids, hid1, hid2, hid3, hid4, hid5, hid6, hid11])) _, ?_⟩)|(refine ⟨_, fun _ => pc_lift (hE) (by (simp [idsL, idsE, AV.ids, hid1, hid2, hid3, hid4, hid5, hid6, hid11])) _, ?_⟩)|(refine ⟨_, _, pc_lift (hT) (by (simp [idsL, idsE, AV.ids, hid1, hid2, hid3, hid4, hid5, hid6, hid11])) _, ?_⟩)|(refine ⟨_, pc_lift (hT) (by (simp [idsL, idsE, AV.ids, hid1, hid2, hid3, hid4, hid5, hid6, hid11])) _, ?_⟩)|(refine ⟨_, fun _ => pc_lift (hT) (by (simp [idsL, idsE, AV.ids, hid1, hid2, hid3, hid4, hid5, hid6, hid11])) _, ?_⟩)|(refine ⟨_, _, pc_lift (hU) (by (simp [idsL, idsE, AV.ids, hid1, hid2, hid3, hid4, hid5, hid6, hid11])) _, ?_⟩)|(refine ⟨_, pc_lift (hU) (by (simp [idsL, idsE, AV.ids, hid1, hid2, hid3, hid4, hid5, hid6, hid11])) _, ?_⟩)|(refine ⟨_, fun _ => pc_lift (hU) (by (simp [idsL, idsE, AV.ids, hid1, hid2, hid3, hid4, hid5, hid6, hid11])) _, ?_⟩)|(refine ⟨_, _, pc_lift (hP) (by (simp [idsL, idsE, AV.ids, hid1, hid2, hid3, hid4, hid5, hid6, hid11])) _, ?_⟩)|(refine ⟨_, pc_lift (hP) (by (simp [idsL, idsE, AV.ids, hid1, hid2, hid3, hid4, hid5, hid6, hid11])) _, ?_⟩)|(refine ⟨_, fun _ => pc_lift (hP) (by (simp [idsL, idsE, AV.ids, hid1, hid2, hid3, hid4, hid5, hid6, hid11])) _, ?_⟩)|(refine ⟨_, _, pc_lift (hS) (by (simp [idsL, idsE, AV.ids, hid1, hid2, hid3, hid4, hid5, hid6, hid11])) _, ?_⟩)|(refine ⟨_, pc_lift (hS) (by (simp [idsL, idsE, AV.ids, hid1, hid2, hid3, hid4, hid5, hid6, hid11])) _, ?_⟩)|(refine ⟨_, fun _ => pc_lift (hS) (by (simp [idsL, idsE, AV.ids, hid1, hid2, hid3, hid4, hid5, hid6, hid11])) _, ?_⟩)|(refine ⟨_, _, pc_lift (hlv) (by (simp [idsL, idsE, AV.ids, hid1, hid2, hid3, hid4, hid5, hid6, hid11])) _, ?_⟩)|(refine ⟨_, pc_lift (hlv) (by (simp [idsL, idsE, AV.ids, hid1, hid2, hid3, hid4, hid5, hid6, hid11])) _, ?_⟩)|(refine ⟨_, fun _ => pc_lift (hlv) (by (simp [idsL, idsE, AV.ids, hid1, hid2, hid3, hid4, hid5, hid6, hid11])) _, ?_⟩))|simp (disch := (first|exact discB|fail)) only [push_cast, ↓reduceIte, reduceIte, reduceCtorEq, Nat.reduceAdd, Nat.reduceLT, Nat.reduceEqDiff, Nat.reduceLeDiff, Int.reduceAdd, Int.reduceLT, Int.reduceLE, Nat.reduceMul, a0])
end Go.Proofs
