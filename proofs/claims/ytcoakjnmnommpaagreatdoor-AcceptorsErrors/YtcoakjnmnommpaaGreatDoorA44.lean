import Derived.Test.YtcoakjnmnommpaaGreatDoorZ1
import Derived.Test.YtcoakjnmnommpaaGreatDoorA12
import Derived.Test.YtcoakjnmnommpaaGreatDoorA20
import Derived.Test.YtcoakjnmnommpaaGreatDoorA39
import Derived.Test.YtcoakjnmnommpaaGreatDoorZ2
import Derived.Test.YtcoakjnmnommpaaGreatDoorA11
import Derived.Test.YtcoakjnmnommpaaGreatDoorA43
namespace Go.Proofs
open Go Go.V Go.RowKit
set_option linter.unusedVariables false
set_option linter.unusedSimpArgs false
set_option maxHeartbeats 0
set_option maxRecDepth 100000
section
variable {sym : Int} {zr : Nat} {l : List RC} {c : Option Nat} {zs : Nat} {st : List Int} {cs : Option Nat} {za : Nat} {ac : List Int} {ca : Option Nat}
theorem det_bad (hsz : SizeN zr l zs st za ac) (h : checkN sym (rowsV l) st ac ≠ 0) : PC Tryz.prog G0 23 [nA sym zr l c zs st cs za ac ca] (.tup [dA0, .int .i64 (checkN sym (rowsV l) st ac)]) := by
 have hck := hsz.check (sym := sym) (c := c) (cs := cs) (ca := ca)
 have hid1 : ∀ p, idsE p (rowsN l) = true := fun p => idsE_rowsN _ _
 have hid2 : ∀ p, idsE p (ints st) = true := fun p => idsE_ints _ _
 have hid3 : ∀ p, idsE p (ints ac) = true := fun p => idsE_ints _ _
 unfold nA dA0 at *
 generalize checkN sym (rowsV l) st ac = e at *
 generalize rowsN l = e1 at *
 generalize ints st = e2 at *
 generalize ints ac = e3 at *
 refine pc_go 0 106 [.cell 2 47, .tmp 3] Tryz.func23 rfl rfl rfl (by simp) ?_
 intro s ⟨a0, hz⟩
 clear hz
 repeat' (first|(first|refine nav ?_|(refine g0_ ?_; first|refine go_drawN (dr := allQ) (p := [0, 1, 0, 0, 1, 1, 0, 0, 1, 0, 1, 0, 0, 1, 0, 0, 1, 0, 1, 1, 1, 1, 1]) [] [] [(7, 8)] rfl rfl mixed (by kernel_rfl) ?_|refine go_drawN (dr := allQ) (p := [1, 0, 1, 0, 1, 1, 1, 0, 0, 1, 1, 0, 0, 1, 0, 1, 0, 0, 1, 0, 0, 1, 0, 1, 1, 1, 1, 1]) [(67, 11)] [(72, some 69)] [] rfl rfl mixed (by kernel_rfl) ?_|refine goD ?_))|(with_reducible refine gG ?_ ?_)|((with_reducible refine And.intro (fun h => ?_) (fun h => ?_)) <;> try (exfalso; omega))|(with_reducible refine andG ?_)|(refine And.intro ⟨[_], rfl⟩ ?_)|(refine And.intro ⟨[], by simp only [List.append_nil]⟩ ?_)|(first|(refine ⟨_, _, pc_lift (hck) (by (simp [idsL, idsE, AV.ids, hid1, hid2, hid3])) _, ?_⟩)|(refine ⟨_, pc_lift (hck) (by (simp [idsL, idsE, AV.ids, hid1, hid2, hid3])) _, ?_⟩)|(refine ⟨_, fun _ => pc_lift (hck) (by (simp [idsL, idsE, AV.ids, hid1, hid2, hid3])) _, ?_⟩))|simp (disch := (first|exact discB|fail)) only [push_cast, ↓reduceIte, reduceIte, reduceCtorEq, Nat.reduceAdd, Nat.reduceLT, Nat.reduceEqDiff, Nat.reduceLeDiff, Int.reduceAdd, Int.reduceLT, Int.reduceLE, Nat.reduceMul, a0, h])
theorem rev_bad (hsz : SizeN zr l zs st za ac) (h : checkN sym (rowsV l) st ac ≠ 0) : PC Tryz.prog G0 8 [nA sym zr l c zs st cs za ac ca] (.tup [nA0, .int .i64 (checkN sym (rowsV l) st ac)]) := by
 have hck := hsz.check (sym := sym) (c := c) (cs := cs) (ca := ca)
 have hid1 : ∀ p, idsE p (rowsN l) = true := fun p => idsE_rowsN _ _
 have hid2 : ∀ p, idsE p (ints st) = true := fun p => idsE_ints _ _
 have hid3 : ∀ p, idsE p (ints ac) = true := fun p => idsE_ints _ _
 unfold nA nA0 at *
 generalize checkN sym (rowsV l) st ac = e at *
 generalize rowsN l = e1 at *
 generalize ints st = e2 at *
 generalize ints ac = e3 at *
 refine pc_go 0 78 [.cell 2 29, .tmp 3] Tryz.func8 rfl rfl rfl (by simp) ?_
 intro s ⟨a0, hz⟩
 clear hz
 repeat' (first|(first|refine nav ?_|(refine g0_ ?_; first|refine go_drawN (dr := allQ) (p := [1, 0, 0, 1, 1, 0, 0, 1, 1, 0, 0, 1, 1, 0, 0, 1, 1, 0, 0, 1, 1, 0, 0, 1, 0, 1, 1, 1, 1]) [(55, 5), (56, 55), (58, 56), (59, 58)] [(71, some 68)] [] rfl rfl mixed (by kernel_rfl) ?_|refine goD ?_))|(with_reducible refine gG ?_ ?_)|((with_reducible refine And.intro (fun h => ?_) (fun h => ?_)) <;> try (exfalso; omega))|(with_reducible refine andG ?_)|(refine And.intro ⟨[_], rfl⟩ ?_)|(refine And.intro ⟨[], by simp only [List.append_nil]⟩ ?_)|(first|(refine ⟨_, _, pc_lift (hck) (by (simp [idsL, idsE, AV.ids, hid1, hid2, hid3])) _, ?_⟩)|(refine ⟨_, pc_lift (hck) (by (simp [idsL, idsE, AV.ids, hid1, hid2, hid3])) _, ?_⟩)|(refine ⟨_, fun _ => pc_lift (hck) (by (simp [idsL, idsE, AV.ids, hid1, hid2, hid3])) _, ?_⟩))|simp (disch := (first|exact discB|fail)) only [push_cast, ↓reduceIte, reduceIte, reduceCtorEq, Nat.reduceAdd, Nat.reduceLT, Nat.reduceEqDiff, Nat.reduceLeDiff, Int.reduceAdd, Int.reduceLT, Int.reduceLE, Nat.reduceMul, a0, h])
theorem trim_bad (hsz : SizeN zr l zs st za ac) (h : checkN sym (rowsV l) st ac ≠ 0) : PC Tryz.prog G0 9 [nA sym zr l c zs st cs za ac ca] (.tup [nA0, .int .i64 (checkN sym (rowsV l) st ac)]) := by
 have hck := rev_bad (c := c) (cs := cs) (ca := ca) hsz h
 have hid1 : ∀ p, idsE p (rowsN l) = true := fun p => idsE_rowsN _ _
 have hid2 : ∀ p, idsE p (ints st) = true := fun p => idsE_ints _ _
 have hid3 : ∀ p, idsE p (ints ac) = true := fun p => idsE_ints _ _
 unfold nA nA0 at *
 generalize checkN sym (rowsV l) st ac = e at *
 generalize rowsN l = e1 at *
 generalize ints st = e2 at *
 generalize ints ac = e3 at *
 refine pc_go 0 103 [.cell 2 29, .tmp 3] Tryz.func9 rfl rfl rfl (by simp) ?_
 intro s ⟨a0, hz⟩
 clear hz
 repeat' (first|refine nav ?_|(refine g0_ ?_; refine goD ?_)|(with_reducible refine gG ?_ ?_)|((with_reducible refine And.intro (fun h => ?_) (fun h => ?_)) <;> try (exfalso; omega))|(with_reducible refine andG ?_)|(refine And.intro ⟨[_], rfl⟩ ?_)|(refine And.intro ⟨[], by simp only [List.append_nil]⟩ ?_)|(first|(refine ⟨_, _, pc_lift (hck) (by (simp [idsL, idsE, AV.ids, hid1, hid2, hid3])) _, ?_⟩)|(refine ⟨_, pc_lift (hck) (by (simp [idsL, idsE, AV.ids, hid1, hid2, hid3])) _, ?_⟩)|(refine ⟨_, fun _ => pc_lift (hck) (by (simp [idsL, idsE, AV.ids, hid1, hid2, hid3])) _, ?_⟩))|simp (disch := (first|exact discB|fail)) only [push_cast, ↓reduceIte, reduceIte, reduceCtorEq, Nat.reduceAdd, Nat.reduceLT, Nat.reduceEqDiff, Nat.reduceLeDiff, Int.reduceAdd, Int.reduceLT, Int.reduceLE, Nat.reduceMul, a0, h])
end
theorem min_bad {sym : Int} {zr : Nat} {l : List LC} {c : Option Nat} {za : Nat} {ac : List Bool} {ca : Option Nat} (hsz : SizeD zr l za ac) (h : checkD sym (rowsD l) ac.length ≠ 0) : PC Tryz.prog G0 25 [dA sym zr l c za ac ca] (.tup [dA0, .int .i64 (checkD sym (rowsD l) ac.length)]) := by
 have hck := hsz.check (sym := sym) (c := c) (ca := ca)
 have hid1 : ∀ p, idsE p (rowL l) = true := fun p => idsE_rowL _ _
 have hid2 : ∀ p, idsE p (bools ac) = true := fun p => idsE_bools _ _
 unfold dA dA0 at *
 generalize checkD sym (rowsD l) ac.length = e at *
 generalize rowL l = e1 at *
 generalize bools ac = e2 at *
 refine pc_go 0 92 [.cell 2 47, .tmp 3] Tryz.func25 rfl rfl rfl (by simp) ?_
 intro s ⟨a0, hz⟩
 clear hz
 repeat' (first|(first|refine nav ?_|(refine g0_ ?_; first|refine go_drawN (dr := allQ) (p := [0, 1, 1, 1, 1]) [(28, 1), (29, 28)] [(31, none), (33, none)] [(7, 8)] rfl rfl mixed (by kernel_rfl) ?_|refine go_drawN (dr := allQ) (p := [0, 1, 1, 1, 1, 0, 0, 1, 1, 0, 0, 1, 0, 1, 1, 1, 1, 1]) [(60, 8), (61, 60)] [(65, none)] [] rfl rfl mixed (by kernel_rfl) ?_|refine goD ?_))|(with_reducible refine gG ?_ ?_)|((with_reducible refine And.intro (fun h => ?_) (fun h => ?_)) <;> try (exfalso; omega))|(with_reducible refine andG ?_)|(refine And.intro ⟨[_], rfl⟩ ?_)|(refine And.intro ⟨[], by simp only [List.append_nil]⟩ ?_)|(first|(refine ⟨_, _, pc_lift (hck) (by (simp [idsL, idsE, AV.ids, hid1, hid2])) _, ?_⟩)|(refine ⟨_, pc_lift (hck) (by (simp [idsL, idsE, AV.ids, hid1, hid2])) _, ?_⟩)|(refine ⟨_, fun _ => pc_lift (hck) (by (simp [idsL, idsE, AV.ids, hid1, hid2])) _, ?_⟩))|simp (disch := (first|exact discB|fail)) only [push_cast, ↓reduceIte, reduceIte, reduceCtorEq, Nat.reduceAdd, Nat.reduceLT, Nat.reduceEqDiff, Nat.reduceLeDiff, Int.reduceAdd, Int.reduceLT, Int.reduceLE, Nat.reduceMul, a0, h])
theorem refAccepts28 (A : Nat) (zr : Nat) (l : List LC) (c : Option Nat) (za : Nat) (ac : List Bool) (ca : Option Nat) (hsz : SizeD zr l za ac) (hok : OkDv A (rowsD l) ac.length) (zw : Nat) (w : List Int) (cw : Option Nat) (hzw : w = [] ∨ zw = 1) (hwl : w.length ≤ 256) (hwr : ∀ x ∈ w, 0 ≤ x ∧ x < A) :
  PC Tryz.prog G0 28 [dA A zr l c za ac ca, .sl zw (ints w) cw] (.int .i64 (if ac.getD (runD (rowsDN l) 0 (natL w)) false = true then 1 else 0)) := by
 have hidR : ∀ p, idsE p (rowL l) = true := fun p => idsE_rowL _ _
 have hidA : ∀ p, idsE p (bools ac) = true := fun p => idsE_bools _ _
 have hidW : ∀ p, idsE p (ints w) = true := fun p => idsE_ints _ _
 have hn1 := hok.n1
 have hn := hok.n
 have hm := hok.m
 rw [rowsD_len] at hn1 hn hm
 obtain rfl := hsz.zl.resolve_left (by intro h; rw [h] at hn1; simp at hn1)
 obtain rfl := hsz.zac.resolve_left (by intro h; rw [h] at hm; simp at hm; omega)
 have hRl := length_rowL l
 have hAl := length_bools ac
 have hWl := length_ints w
 have e1 := getD_rowL l
 have e2 := getD_bools ac
 have e3 := getD_ints w
 have hin : ∀ k, ∀ a ∈ natL (w.take k), a < A := fun k a ha => by
  obtain ⟨x, hx, rfl⟩ := List.mem_map.1 ha
  have := hwr x (List.mem_of_mem_take hx)
  omega
 have hlow := fun k => run_low hok (natL (w.take k)) (hin k)
 have hsn : ∀ k, k < w.length → runD (rowsDN l) 0 (natL (w.take (k + 1))) = ((rowsDN l).getD (runD (rowsDN l) 0 (natL (w.take k))) []).getD (w.getD k 0).toNat 0 := fun k hk => by
  rw [take_succ_snoc w 0 k hk, natL, List.map_append, ← natL]
  exact runD_snoc _ _ _
 unfold dA
 refine pc_go 0 29 [.tmp 4] Tryz.func28 rfl rfl rfl (by simp) ?_
 intro s ⟨a0, a1, hz⟩
 simp only [Nat.zero_add, Nat.reduceAdd] at a1
 clear hz
 repeat' (first|refine nav ?_|(refine g0_ ?_; refine goD ?_)|(with_reducible refine gG ?_ ?_)|((with_reducible refine And.intro (fun h => ?_) (fun h => ?_)) <;> try (exfalso; omega))|(with_reducible refine andG ?_)|(refine And.intro ⟨[_], rfl⟩ ?_)|(refine And.intro ⟨[], by simp only [List.append_nil]⟩ ?_)|fail|simp (disch := (first|exact discB|fail)) only [push_cast, ↓reduceIte, reduceIte, reduceCtorEq, Nat.reduceAdd, Nat.reduceLT, Nat.reduceEqDiff, Nat.reduceLeDiff, Int.reduceAdd, Int.reduceLT, Int.reduceLE, Nat.reduceMul, a0, a1, hRl, hAl, hWl])
 refine go_loop rfl (fun mz s' H' => ∃ k : Nat, k ≤ w.length ∧ mz = w.length - k ∧ H' = [.row 3 47 [[.int .i64 A, .sl 1 (rowL l) c, .sl 1 (bools ac) ca]]] ∧ s' 1 = .sl zw (ints w) cw ∧ s' 2 = .ptr 0 0 0 1 ∧ s' 5 = .int .i64 (runD (rowsDN l) 0 (natL (w.take k)) : Nat) ∧ s' 6 = .int .i64 k) (m := w.length) (by first|exact sideB|fail) (Weak.refl _ _) ⟨0, by omega, by omega, rfl, ?_⟩ ?_
 ·simp (disch := (first|exact discB|fail)) only [push_cast, ↓reduceIte, reduceIte, reduceCtorEq, Nat.reduceAdd, Nat.reduceLT, Nat.reduceEqDiff, Nat.reduceLeDiff, Int.reduceAdd, Int.reduceLT, Int.reduceLE, Nat.reduceMul, a0, a1, hRl, hAl, hWl]
  rfl
 ·rintro mz s' H' ⟨k, hk, rfl, rfl, b1, b2, b5, b6⟩
  rcases Nat.lt_or_ge k w.length with hlt|hge
  ·obtain rfl := hzw.resolve_left (by intro h; rw [h] at hlt; simp at hlt)
   have e3k := e3 k hlt
   have hwk := hwr _ (getD_mem (d := 0) hlt)
   have hsk := hsn k hlt
   have hlk := hlow k
   generalize w.getD k 0 = a at *
   generalize runD (rowsDN l) 0 (natL (w.take k)) = q at *
   have e1q := e1 q hlk
   have hrow := hok.row (l := l) hlk
   have hat := hok.at (l := l) (a := a.toNat) hlk (by omega)
   rw [rowsDN_get l q a.toNat hlk (by omega)] at hsk
   have e4 := getD_ints (l.getD q ([], none)).1 a.toNat (by omega)
   have hil := length_ints (l.getD q ([], none)).1
   unfold lC at e1q
   generalize (l.getD q ([], none)).2 = cr at *
   generalize (l.getD q ([], none)).1 = r at *
   generalize r.getD a.toNat 0 = y at *
   have ha0 : 0 ≤ a := hwk.1
   have ha1 : a < (r.length : Int) := by omega
   have hy : ((y.toNat : Nat) : Int) = y := by omega
   repeat' (first|refine nav ?_|(refine g0_ ?_; refine goD ?_)|(with_reducible refine gG ?_ ?_)|((with_reducible refine And.intro (fun h => ?_) (fun h => ?_)) <;> try (exfalso; omega))|(with_reducible refine andG ?_)|(refine And.intro ⟨[_], rfl⟩ ?_)|(refine And.intro ⟨[], by simp only [List.append_nil]⟩ ?_)|fail|simp (disch := (first|exact discB|fail)) only [push_cast, ↓reduceIte, reduceIte, reduceCtorEq, Nat.reduceAdd, Nat.reduceLT, Nat.reduceEqDiff, Nat.reduceLeDiff, Int.reduceAdd, Int.reduceLT, Int.reduceLE, Nat.reduceMul, b1, b2, b5, b6, hRl, hWl, e3k, e1q, e4, hil, ha0, ha1])
   refine out_round (w.length - (k + 1)) (by omega) (by first|exact sideB|fail) ⟨k + 1, by omega, rfl, rfl, ?_⟩
   rw [hsk]
   simp (disch := (first|exact discB|fail)) only [push_cast, ↓reduceIte, reduceIte, reduceCtorEq, Nat.reduceAdd, Nat.reduceLT, Nat.reduceEqDiff, Nat.reduceLeDiff, Int.reduceAdd, Int.reduceLT, Int.reduceLE, Nat.reduceMul, b1, b2, b5, b6, hy]
  ·obtain rfl : w.length = k := by omega
   have hlk := hlow w.length
   rw [List.take_length] at *
   generalize runD (rowsDN l) 0 (natL w) = q at *
   have e2q := e2 q (by omega)
   generalize hb : ac.getD q false = b at *
   cases b with
   | true =>
    repeat' (first|refine nav ?_|(refine g0_ ?_; refine goD ?_)|(with_reducible refine gG ?_ ?_)|((with_reducible refine And.intro (fun h => ?_) (fun h => ?_)) <;> try (exfalso; omega))|(with_reducible refine andG ?_)|(refine And.intro ⟨[_], rfl⟩ ?_)|(refine And.intro ⟨[], by simp only [List.append_nil]⟩ ?_)|fail|simp (disch := (first|exact discB|fail)) only [push_cast, ↓reduceIte, reduceIte, reduceCtorEq, Nat.reduceAdd, Nat.reduceLT, Nat.reduceEqDiff, Nat.reduceLeDiff, Int.reduceAdd, Int.reduceLT, Int.reduceLE, Nat.reduceMul, b1, b2, b5, b6, hRl, hWl, hAl, hm, e2q])
   | false =>
    repeat' (first|refine nav ?_|(refine g0_ ?_; refine goD ?_)|(with_reducible refine gG ?_ ?_)|((with_reducible refine And.intro (fun h => ?_) (fun h => ?_)) <;> try (exfalso; omega))|(with_reducible refine andG ?_)|(refine And.intro ⟨[_], rfl⟩ ?_)|(refine And.intro ⟨[], by simp only [List.append_nil]⟩ ?_)|fail|simp (disch := (first|exact discB|fail)) only [push_cast, ↓reduceIte, reduceIte, reduceCtorEq, Nat.reduceAdd, Nat.reduceLT, Nat.reduceEqDiff, Nat.reduceLeDiff, Int.reduceAdd, Int.reduceLT, Int.reduceLE, Nat.reduceMul, b1, b2, b5, b6, hRl, hWl, hAl, hm, e2q])
end Go.Proofs
namespace Go.Proofs
open Go Go.V Go.RowKit
set_option linter.unusedVariables false
set_option linter.unusedSimpArgs false
set_option maxHeartbeats 0
set_option maxRecDepth 100000
theorem checkW_word {A : Nat} {w : List Int} (hA : 1 ≤ A ∧ A ≤ 16) : checkW A w = wordR A w := by
 rw [checkW, wordR]
 by_cases h : 256 < w.length
 ·rw [if_pos (.inr h), if_pos h]
 ·rw [if_neg (by omega), if_neg h]
  by_cases h2 : w.any (badW A) = true
  ·rw [if_pos (.inr h2), if_pos h2]
  ·rw [if_neg (fun q => q.elim (fun q => by omega) h2), if_neg h2]
theorem accN_case {sym : Int} {zr : Nat} {l : List RC} {c : Option Nat} {zs : Nat} {st : List Int} {cs : Option Nat} {za : Nat} {ac : List Int} {ca : Option Nat} (hsz : SizeN zr l zs st za ac) (w : List Int) (cw : Option Nat) (hw : w.length ≤ 9223372036854775807) :
  ∃ (a : Bool) (e : Int), PC Tryz.prog G0 14 [nA sym zr l c zs st cs za ac ca, .sl 1 (ints w) cw] (.tup [.bool a, .int .i64 e]) ∧
   ((checkN sym (rowsV l) st ac ≠ 0 ∧ a = false ∧ e = checkN sym (rowsV l) st ac) ∨ (checkN sym (rowsV l) st ac = 0 ∧ wordR sym w ≠ 0 ∧ a = false ∧ e = wordR sym w) ∨
    (checkN sym (rowsV l) st ac = 0 ∧ wordR sym w = 0 ∧ e = 0 ∧ PC Tryz.prog G0 16 [nA sym zr l c zs st cs za ac ca, .sl 1 (ints w) cw] (.int .i64 (if a = true then 1 else 0)))) := by
 have h := acceptsNfa25 sym zr l c zs st cs za ac ca hsz 1 w cw (.inr rfl) hw
 rw [accV] at h
 by_cases h0 : checkN sym (rowsV l) st ac = 0
 ·rw [if_neg (by simp [h0])] at h
  obtain ⟨A, rfl, hok⟩ := checkN_ok h0
  rw [checkW_word ⟨hok.a1, hok.a2⟩] at h
  by_cases h1 : wordR A w = 0
  ·rw [if_neg (by simp [h1])] at h
   obtain ⟨_, hw256, _, hwr⟩ := checkW_ok (sym := A) (w := w) (by rw [checkW_word ⟨hok.a1, hok.a2⟩]; exact h1)
   exact ⟨_, _, h, .inr (.inr ⟨h0, h1, rfl, refAcceptsNfa27 A zr l c zs st cs za ac ca hsz hok 1 w cw (.inr rfl) hw256 hwr⟩)⟩
  ·rw [if_pos h1] at h
   exact ⟨_, _, h, .inr (.inl ⟨h0, h1, rfl, rfl⟩)⟩
 ·rw [if_pos h0] at h
  exact ⟨_, _, h, .inl ⟨h0, rfl, rfl⟩⟩
theorem accD_case {sym : Int} {zr : Nat} {l : List LC} {c : Option Nat} {za : Nat} {ac : List Bool} {ca : Option Nat} (hsz : SizeD zr l za ac) (w : List Int) (cw : Option Nat) (hw : w.length ≤ 9223372036854775807) :
  ∃ (a : Bool) (e : Int), PC Tryz.prog G0 22 [dA sym zr l c za ac ca, .sl 1 (ints w) cw] (.tup [.bool a, .int .i64 e]) ∧
   ((checkD sym (rowsD l) ac.length ≠ 0 ∧ a = false ∧ e = checkD sym (rowsD l) ac.length) ∨ (checkD sym (rowsD l) ac.length = 0 ∧ wordR sym w ≠ 0 ∧ a = false ∧ e = wordR sym w) ∨
    (checkD sym (rowsD l) ac.length = 0 ∧ wordR sym w = 0 ∧ e = 0 ∧ PC Tryz.prog G0 28 [dA sym zr l c za ac ca, .sl 1 (ints w) cw] (.int .i64 (if a = true then 1 else 0)))) := by
 have h := accepts26 sym zr l c za ac ca hsz 1 w cw (.inr rfl) hw
 rw [accD] at h
 by_cases h0 : checkD sym (rowsD l) ac.length = 0
 ·rw [if_neg (by simp [h0])] at h
  obtain ⟨A, rfl, hok⟩ := checkD_ok h0
  rw [checkW_word ⟨hok.a1, hok.a2⟩] at h
  by_cases h1 : wordR A w = 0
  ·rw [if_neg (by simp [h1])] at h
   obtain ⟨_, hw256, _, hwr⟩ := checkW_ok (sym := A) (w := w) (by rw [checkW_word ⟨hok.a1, hok.a2⟩]; exact h1)
   exact ⟨_, _, h, .inr (.inr ⟨h0, h1, rfl, refAccepts28 A zr l c za ac ca hsz hok 1 w cw (.inr rfl) hw256 hwr⟩)⟩
  ·rw [if_pos h1] at h
   exact ⟨_, _, h, .inr (.inl ⟨h0, h1, rfl, rfl⟩)⟩
 ·rw [if_pos h0] at h
  exact ⟨_, _, h, .inl ⟨h0, rfl, rfl⟩⟩
end Go.Proofs
namespace Go.Proofs
open Go Go.V Go.RowKit
set_option linter.unusedVariables false
set_option linter.unusedSimpArgs false
set_option maxHeartbeats 0
set_option maxRecDepth 100000
theorem splitC_pure (c : UInt8) : ∀ p : Bs, ¬ c ∈ p → splitC c p = [p]
 | [], _ => rfl
 | b :: r, h => by
  have h1 : ¬ b = c := fun e => h (by rw [e]; exact List.mem_cons_self)
  rw [splitC_miss h1 (splitC_pure c r fun q => h (List.mem_cons_of_mem _ q))]
theorem splitC_cut (c : UInt8) : ∀ (p r : Bs), ¬ c ∈ p → splitC c (p ++ c :: r) = p :: splitC c r
 | [], r, _ => splitC_hit c r
 | b :: p, r, h => by
  have h1 : ¬ b = c := fun e => h (by rw [e]; exact List.mem_cons_self)
  rw [List.cons_append, splitC_miss h1 (splitC_cut c p r fun q => h (List.mem_cons_of_mem _ q))]
structure SpI (c : UInt8) (s : Bs) (L : List Bs) (from_ i : Nat) : Prop where
 le : from_ ≤ i
 le2 : i ≤ s.length
 len : L.length ≤ i
 eq : splitC c s = L ++ splitC c (s.drop from_)
 no : ¬ c ∈ (s.take i).drop from_
theorem SpI.zero (c : UInt8) (s : Bs) : SpI c s [] 0 0 := ⟨by omega, by omega, by simp, by simp, by simp⟩
theorem drop_mid (s : Bs) {f i : Nat} (h : f ≤ i) (h2 : i ≤ s.length) : s.drop f = (s.take i).drop f ++ s.drop i := by
 conv => lhs; rw [← List.take_append_drop i s]
 rw [List.drop_append_of_le_length (by rw [List.length_take]; omega)]
theorem SpI.hit {c : UInt8} {s : Bs} {L : List Bs} {f i : Nat} (h : SpI c s L f i) (hi : i < s.length) (hc : s.getD i 0 = c) : SpI c s (L ++ [(s.take i).drop f]) (i + 1) (i + 1) := by
 refine ⟨by omega, by omega, by have := h.len; simp; omega, ?_, by simp [List.drop_eq_nil_of_le]⟩
 have e : s.drop i = c :: s.drop (i + 1) := by
  rw [List.drop_eq_getElem_cons hi]
  rw [List.getD_eq_getElem?_getD, List.getElem?_eq_getElem hi, Option.getD_some] at hc
  rw [hc]
 rw [h.eq, drop_mid s h.le h.le2, e, splitC_cut c _ _ h.no, List.append_assoc]; rfl
theorem SpI.done {c : UInt8} {s : Bs} {L : List Bs} {f : Nat} (h : SpI c s L f s.length) : L ++ [s.drop f] = splitC c s := by
 have := h.no
 rw [List.take_length] at this
 rw [h.eq, splitC_pure c _ this]
end Go.Proofs
