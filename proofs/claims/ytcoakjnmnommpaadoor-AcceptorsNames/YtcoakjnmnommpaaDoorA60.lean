import Derived.Test.YtcoakjnmnommpaaDoorA54
import Derived.Test.YtcoakjnmnommpaaDoorA30
import Derived.Test.YtcoakjnmnommpaaDoorAR4
namespace Go.Proofs
open Go Go.V Go.RowKit
set_option linter.unusedVariables false
set_option linter.unusedSimpArgs false
set_option maxHeartbeats 0
theorem bits_or8 (a b : Nat) (ha : a < 2 ^ 8) (hb : b < 2 ^ 8) : bits .or .u8 (a : Int) (b : Int) = ((a ||| b : Nat) : Int) := by
 unfold bits
 simp only [show IntKind.u8.bits = 8 from rfl, BitVec.ofInt_natCast, BitVec.toNat_or, BitVec.toNat_ofNat, Nat.mod_eq_of_lt ha, Nat.mod_eq_of_lt hb]
 exact wrap_u8 _ (Nat.or_lt_two_pow ha hb)
def aT (x : ND) (v s a k : Nat) : List (Nat × Nat × Nat) := aS x v s ++ (aA x v s a ++ aK x v s a k)
theorem aT_zero (x : ND) (v : Nat) : aT x v 0 0 0 = [] := by simp [aT, aS, aA, aK]
theorem aT_k (x : ND) (v s a k : Nat) (h : k < (x.lst s a x.n).length) : aT x v s a (k + 1) = aT x v s a k ++ [((s + v) % x.n, a, ((x.lst s a x.n).getD k 0 + v) % x.n)] := by
 rw [aT, aK_succ x v s a k h, aT, List.append_assoc, List.append_assoc]
theorem aK_zero (x : ND) (v s a : Nat) : aK x v s a 0 = [] := by simp [aK]
theorem aA_zero (x : ND) (v s : Nat) : aA x v s 0 = [] := by simp [aA]
theorem aT_a (x : ND) (v s a : Nat) : aT x v s (a + 1) 0 = aT x v s a (x.lst s a x.n).length := by
 rw [aT, aT, aA_succ, aK_zero, List.append_nil]
theorem aT_s (x : ND) (v s : Nat) : aT x v (s + 1) 0 0 = aT x v s x.A 0 := by
 rw [aT, aT, aS_succ, aK_zero, aK_zero, aA_zero, List.append_nil, List.append_nil, List.append_nil]
theorem aT_all (x : ND) (v s : Nat) : aT x v s 0 0 = aS x v s := by
 rw [aT, aK_zero, aA_zero, List.append_nil, List.append_nil]
theorem aK_len (x : ND) (v s a k : Nat) : (aK x v s a k).length ≤ 6 := by
 have h1 := x.lst_len s a x.n
 have h2 := x.nN
 rw [aK, List.length_map, List.length_take]; omega
theorem aA_len (x : ND) (v s : Nat) : ∀ a, (aA x v s a).length ≤ a * 6
 | 0 => by simp [aA]
 | a + 1 => by
  have := aA_len x v s a
  have := aK_len x v s a (x.lst s a x.n).length
  rw [aA_succ, List.length_append]; omega
theorem aS_len (x : ND) (v : Nat) : ∀ s, (aS x v s).length ≤ s * 18
 | 0 => by simp [aS]
 | s + 1 => by
  have h1 := aS_len x v s
  have h2 := aA_len x v s x.A
  have h3 := x.nN
  rw [aS_succ, List.length_append]; omega
theorem aT_len (x : ND) (v s a k : Nat) (hs : s ≤ 6) (ha : a ≤ 3) : (aT x v s a k).length ≤ 200 := by
 have h1 := aS_len x v s
 have h2 := aA_len x v s a
 have h3 := aK_len x v s a k
 rw [aT, List.length_append, List.length_append]; omega
theorem arcsA_snoc (l : List (Nat × Nat × Nat)) (e : Nat × Nat × Nat) : arcsA l ++ [[.int .u8 (e.1 : Nat), .int .u8 (e.2.1 : Nat), .int .u8 (e.2.2 : Nat)]] = arcsA (l ++ [e]) := by simp [arcsA]
theorem sh_bit (b v n s : Nat) (hn : 1 ≤ n ∧ n ≤ 6) (hs : s < n) (q : Nat) (hq : q = if b.testBit s = true then 1 else 0) : bits .or .u8 ((shB b v n s : Nat) : Int) (IntKind.u8.wrap ((q : Int) * 2 ^ min ((s + v) % n) IntKind.u8.bits)) = ((shB b v n (s + 1) : Nat) : Int) := by
 have h1 := shB_lt b v n (by omega) s
 have h2 := shB_lt b v n (by omega) (s + 1)
 have hp : 2 ^ n ≤ 64 := Nat.le_trans (Nat.pow_le_pow_right (by decide) hn.2) (by decide)
 have ht := Nat.mod_lt (s + v) (show 0 < n by omega)
 rw [shB]
 generalize (s + v) % n = t at *
 have e1 : (b >>> s) &&& 1 = q := by
  rw [Nat.and_one_is_mod, hq, Nat.testBit]
  rcases Nat.mod_two_eq_zero_or_one (b >>> s) with h|h <;> simp [h, Nat.and_comm 1, Nat.and_one_is_mod]
 rw [e1]
 have e2 : min t IntKind.u8.bits = t := by show min t 8 = t; omega
 rw [e2]
 have hq1 : q ≤ 1 := by rw [hq]; split <;> omega
 have e3 : IntKind.u8.wrap ((q : Int) * 2 ^ t) = ((q <<< t : Nat) : Int) := by
  have : ∀ q : Fin 2, ∀ t : Fin 6, IntKind.u8.wrap (((q.1 : Nat) : Int) * 2 ^ t.1) = ((q.1 <<< t.1 : Nat) : Int) := by decide
  exact this ⟨q, by omega⟩ ⟨t, by omega⟩
 have e4 : q <<< t < 256 := by
  have : ∀ q : Fin 2, ∀ t : Fin 6, q.1 <<< t.1 < 256 := by decide
  exact this ⟨q, by omega⟩ ⟨t, by omega⟩
 rw [e3, bits_or8 _ _ (by omega) e4]
theorem names_law (x : ND) (v : Nat) (hx : x.Ok) (h0 : 0 < x.n) (hl : (aS x v x.n).length ≤ 60) (N : Nat) (h : (detS x.nf x.A N).length = N) : detR (x.shift v).nf x.A N = detR x.nf x.A N ∧ detA (x.shift v).nf x.A N = detA x.nf x.A N ∧ (detS (x.shift v).nf x.A N).length = N := by
 obtain ⟨a, b, c⟩ := names_det (shift_same x v hl) (shift_renum x v) x.A N
 exact ⟨a.symm, b.symm, by rw [← c, h]⟩
end Go.Proofs
namespace Go.Proofs
open Go Go.V Go.RowKit
set_option linter.unusedVariables false
set_option linter.unusedSimpArgs false
set_option maxHeartbeats 0
set_option maxRecDepth 100000
theorem law3 (x : ND) (c : Option Nat) (hx : x.Ok) (v : Nat) (hv : v < 256) : PC Tryd.prog G0 3 [.agg (ndC x 3 c), .int .u8 v] (.bool true) := by
 have hA := x.nN
 have hO := of9 x 3 c hx (.inr rfl)
 have hlv := lives10
 have hRl := length_rowsN (x.rows x.n)
 rw [x.rows_len] at hRl
 have hgR := getD_rowsN (x.rows x.n)
 have hid1 : ∀ p, idsE p (rowsN (x.rows x.n)) = true := fun p => idsE_rowsN _ _
 have hid2 : ∀ p, idsE p (ints (intN (bitS x.st x.n))) = true := fun p => idsE_ints _ _
 have hid3 : ∀ p, idsE p (ints (intN (bitS x.ac x.n))) = true := fun p => idsE_ints _ _
 have hid4 : ∀ p, idsE p (arcsA x.arcs) = true := fun p => idsE_arcsA _ _
 by_cases h0 : x.n = 0
 ·unfold nA at hO
  have h0' : (x.n : Int) = 0 := by omega
  unfold ndC at *
  generalize rowsN (x.rows x.n) = e1 at *
  generalize ints (intN (bitS x.st x.n)) = e2 at *
  generalize ints (intN (bitS x.ac x.n)) = e3 at *
  generalize arcsA x.arcs = e4 at *
  refine pc_go 0 142 [.tmp 4] Tryd.func3 rfl rfl rfl (by simp) ?_
  intro s ⟨a0, a1, hz⟩
  simp only [Nat.zero_add, Nat.reduceAdd] at a1
  clear hz
  repeat' (first|(((first|refine nav ?_|(refine g0_ ?_; first|refine go_draw (dr := allQ) rfl rfl mixed (by first|assumption|kernel_rfl) ?_))) <;> (try simp (disch := (first|exact discB|fail)) only [push_cast, ↓reduceIte, reduceIte, reduceCtorEq, Nat.reduceAdd, Nat.reduceLT, Nat.reduceEqDiff, Nat.reduceLeDiff, Int.reduceAdd, Int.reduceLT, Int.reduceLE, Nat.reduceMul, a0, a1, hRl, h0']))|(with_reducible refine And.intro (at_go ?_) (at_go ?_))|((with_reducible refine And.intro (fun h => ?_) (fun h => ?_)) <;> try (exfalso; omega))|(with_reducible refine andG ?_)|(refine And.intro ⟨[_], rfl⟩ ?_)|(refine And.intro ⟨[], by simp only [List.append_nil]⟩ ?_)|(first|(refine ⟨_, _, pc_lift (hO) (by (simp [idsL, idsE, AV.ids, hid1, hid2, hid3, hid4])) _, ?_⟩)|(refine ⟨_, pc_lift (hO) (by (simp [idsL, idsE, AV.ids, hid1, hid2, hid3, hid4])) _, ?_⟩)|(refine ⟨_, fun _ => pc_lift (hO) (by (simp [idsL, idsE, AV.ids, hid1, hid2, hid3, hid4])) _, ?_⟩)|(refine ⟨_, _, pc_lift (hlv) (by (simp [idsL, idsE, AV.ids, hid1, hid2, hid3, hid4])) _, ?_⟩)|(refine ⟨_, pc_lift (hlv) (by (simp [idsL, idsE, AV.ids, hid1, hid2, hid3, hid4])) _, ?_⟩)|(refine ⟨_, fun _ => pc_lift (hlv) (by (simp [idsL, idsE, AV.ids, hid1, hid2, hid3, hid4])) _, ?_⟩))|simp (disch := (first|exact discB|fail)) only [push_cast, ↓reduceIte, reduceIte, reduceCtorEq, Nat.reduceAdd, Nat.reduceLT, Nat.reduceEqDiff, Nat.reduceLeDiff, Int.reduceAdd, Int.reduceLT, Int.reduceLE, Nat.reduceMul, a0, a1, hRl, h0'])
 ·have h0' : ¬ (x.n : Int) = 0 := by omega
  obtain ⟨N, hN, hN2, hD⟩ := det_law (c := none) (cs := none) (ca := none) x.sizeN x.okN (by rw [x.rows_len]; omega)
  change (detS x.nf x.A N).length = N at hN2
  change PC _ _ _ _ (detG x.A x.nf N) at hD
  obtain ⟨hok, hsz, hdl⟩ := det_dA (x := x.nf) (A := x.A) (by omega) hN hN2
  have hal := detA_len hN2
  have hS := same12 (A := x.A) (B := x.A) (c := some N) (ca := some N) (c' := some N) (cb := some N) hsz hsz (by omega) rfl rfl rfl
  have hO2 := fun h => of9 (x.shift v) 3 none (shift_ok x v hx (by omega) h) (.inr rfl)
  have hD2 : (aS x v x.n).length ≤ 60 → PC Tryd.prog G0 11 [nA x.A 1 ((x.shift v).rows x.n) none 1 (intN (bitS (x.shift v).st x.n)) none 1 (intN (bitS (x.shift v).ac x.n)) none] (detG x.A x.nf N) := fun h => by
   obtain ⟨N', _, hN2', hD'⟩ := det_law (c := none) (cs := none) (ca := none) (x.shift v).sizeN (x.shift v).okN (by rw [ND.rows_len]; show x.n ≤ 8; omega)
   obtain ⟨q1, q2, q3⟩ := names_law x v hx (by omega) h N hN2
   have : N' = N := st_one _ hN2' q3
   subst this
   change PC _ _ _ _ (detG x.A (x.shift v).nf N') at hD'
   rw [detG, q1, q2] at hD'
   exact hD'
  change (aS x v x.n).length ≤ 60 → PC Tryd.prog G0 9 [.agg [.int .u8 (x.sy : Nat), .int .u8 (x.many : Nat), .sl 3 (arcsA (aS x v x.n)) none, .int .u8 (shB x.st v x.n x.n : Nat), .int .u8 (shB x.ac v x.n x.n : Nat)]] (nA x.A 1 ((x.shift v).rows x.n) none 1 (intN (bitS (x.shift v).st x.n)) none 1 (intN (bitS (x.shift v).ac x.n)) none) at hO2
  have hbt := x.nf_n
  unfold detG dA nA at *
  have hid5 : ∀ p, idsE p (rowL (dRow x.A (detR x.nf x.A N))) = true := fun p => idsE_rowL _ _
  have hid6 : ∀ p, idsE p (bools (detA x.nf x.A N)) = true := fun p => idsE_bools _ _
  have hid7 : ∀ p, idsE p (rowsN ((x.shift v).rows x.n)) = true := fun p => idsE_rowsN _ _
  have hid8 : ∀ p, idsE p (ints (intN (bitS (x.shift v).st x.n))) = true := fun p => idsE_ints _ _
  have hid9 : ∀ p, idsE p (ints (intN (bitS (x.shift v).ac x.n))) = true := fun p => idsE_ints _ _
  generalize rowL (dRow x.A (detR x.nf x.A N)) = e5 at *
  generalize bools (detA x.nf x.A N) = e6 at *
  generalize rowsN ((x.shift v).rows x.n) = e7 at *
  generalize ints (intN (bitS (x.shift v).st x.n)) = e8 at *
  generalize ints (intN (bitS (x.shift v).ac x.n)) = e9 at *
  have hsh1 := fun s hs => sh_bit x.st v x.n s (by omega) hs
  have hsh2 := fun s hs => sh_bit x.ac v x.n s (by omega) hs
  have hb1 := fun s hs => bit_at x.st s hx.st hs
  have hb2 := fun s hs => bit_at x.ac s hx.ac hs
  have hxs := hx.sy
  have hxm := hx.many
  unfold ndC at *
  generalize hRN : rowsN (x.rows x.n) = RN at *
  generalize ints (intN (bitS x.st x.n)) = e2 at *
  generalize ints (intN (bitS x.ac x.n)) = e3 at *
  generalize arcsA x.arcs = e4 at *
  refine pc_go 0 142 [.tmp 4] Tryd.func3 rfl rfl rfl (by simp) ?_
  intro s ⟨a0, a1, hz⟩
  simp only [Nat.zero_add, Nat.reduceAdd] at a1
  clear hz
  repeat' (first|(((first|refine nav ?_|(refine g0_ ?_; first|refine go_draw (dr := allQ) rfl rfl mixed (by first|assumption|kernel_rfl) ?_))) <;> (try simp (disch := (first|exact discB|fail)) only [push_cast, ↓reduceIte, reduceIte, reduceCtorEq, Nat.reduceAdd, Nat.reduceLT, Nat.reduceEqDiff, Nat.reduceLeDiff, Int.reduceAdd, Int.reduceLT, Int.reduceLE, Nat.reduceMul, a0, a1, hRl, h0']))|(with_reducible refine And.intro (at_go ?_) (at_go ?_))|((with_reducible refine And.intro (fun h => ?_) (fun h => ?_)) <;> try (exfalso; omega))|(with_reducible refine andG ?_)|(refine And.intro ⟨[_], rfl⟩ ?_)|(refine And.intro ⟨[], by simp only [List.append_nil]⟩ ?_)|(first|(refine ⟨_, _, pc_lift (hO) (by (simp [idsL, idsE, AV.ids, hid1, hid2, hid3, hid4])) _, ?_⟩)|(refine ⟨_, pc_lift (hO) (by (simp [idsL, idsE, AV.ids, hid1, hid2, hid3, hid4])) _, ?_⟩)|(refine ⟨_, fun _ => pc_lift (hO) (by (simp [idsL, idsE, AV.ids, hid1, hid2, hid3, hid4])) _, ?_⟩)|(refine ⟨_, _, pc_lift (hlv) (by (simp [idsL, idsE, AV.ids, hid1, hid2, hid3, hid4])) _, ?_⟩)|(refine ⟨_, pc_lift (hlv) (by (simp [idsL, idsE, AV.ids, hid1, hid2, hid3, hid4])) _, ?_⟩)|(refine ⟨_, fun _ => pc_lift (hlv) (by (simp [idsL, idsE, AV.ids, hid1, hid2, hid3, hid4])) _, ?_⟩))|simp (disch := (first|exact discB|fail)) only [push_cast, ↓reduceIte, reduceIte, reduceCtorEq, Nat.reduceAdd, Nat.reduceLT, Nat.reduceEqDiff, Nat.reduceLeDiff, Int.reduceAdd, Int.reduceLT, Int.reduceLE, Nat.reduceMul, a0, a1, hRl, h0'])
  refine go_loop rfl (fun mz s' H' => ∃ s : Nat, s ≤ x.n ∧ mz = x.n - s ∧ H' = [.row 5 24 [[.int .u8 (x.sy : Nat), .int .u8 (x.many : Nat), .sl 3 e4 c, .int .u8 (x.st : Nat), .int .u8 (x.ac : Nat)]], .row 4 28 [[.int .i64 x.A, .sl 1 RN none, .sl 1 e2 none, .sl 1 e3 none]], .row 5 24 [[.int .u8 (x.sy : Nat), .int .u8 (x.many : Nat), .own 3 (aT x v s 0 0).length (aT x v s 0 0).length none, .int .u8 (shB x.st v x.n s : Nat), .int .u8 (shB x.ac v x.n s : Nat)]], .row 3 33 (arcsA (aT x v s 0 0))] ∧ s' 1 = .int .u8 v ∧ s' 2 = .ptr 0 0 0 1 ∧ s' 5 = .ptr 1 0 0 1 ∧ s' 6 = .int .i64 x.n ∧ s' 7 = .ptr 2 0 0 1 ∧ s' 8 = .int .i64 s) (m := x.n) (by first|exact sideB|fail) (weak_nil_cell (b := 2) (i := 0) (j := 2) (sz := 3) (ty := 33) rfl rfl rfl) ⟨0, by omega, by omega, by rw [aT_zero]; rfl, ?_⟩ ?_
  ·simp (disch := (first|exact discB|fail)) only [push_cast, ↓reduceIte, reduceIte, reduceCtorEq, Nat.reduceAdd, Nat.reduceLT, Nat.reduceEqDiff, Nat.reduceLeDiff, Int.reduceAdd, Int.reduceLT, Int.reduceLE, Nat.reduceMul, a0, a1, hRl, h0']
  ·rintro mz s' H' ⟨s, hs, rfl, rfl, b1, b2, b5, b6, b7, b8⟩
   rcases Nat.lt_or_ge s x.n with hlt|hge
   ·have hmod := Nat.mod_lt (s + v) (show 0 < x.n by omega)
    have hto : ((s : Int) + v).tmod (x.n : Int) = (((s + v) % x.n : Nat) : Int) := rfl
    have hw1 : IntKind.i64.wrap ((s : Int) + v) = (s : Int) + v := wrap64 _ (by omega) (by omega)
    have hws : IntKind.u64.wrap (s : Int) = s := wrap_u64 s (by omega)
    have hsh1 := hsh1 s hlt
    have hsh2 := hsh2 s hlt
    have hb1 := hb1 s (by omega)
    have hb2 := hb2 s (by omega)
    rw [Int.toNat_natCast] at hb1 hb2
    have e1s := hgR s (by rw [x.rows_len]; exact hlt)
    rw [x.row_get s hlt] at e1s
    have hrw : rC (x.row s x.A, none) = [.sl 1 (rowL (x.row s x.A)) none] := rfl
    rw [hrw] at e1s
    have hrl : (rowL (x.row s x.A)).length = x.A := by rw [length_rowL, x.row_len]
    have hgr := getD_rowL (x.row s x.A)
    have haT := fun a k ha => aT_len x v s a k (by omega) ha
    have hTk := fun a k h => aT_k x v s a k h
    have hTa := aT_a x v s
    have hTs := aT_s x v s
    have hlst : ∀ a, a < x.A → (x.row s x.A).getD a ([], none) = (intN (x.lst s a x.n), none) := fun a ha => by simp [ND.row, ha]
    have hidr : ∀ p, idsE p (rowL (x.row s x.A)) = true := fun p => idsE_rowL _ _
    generalize hq1 : (if x.st.testBit s = true then 1 else 0 : Int) = q1 at hb1
    generalize hq2 : (if x.ac.testBit s = true then 1 else 0 : Int) = q2 at hb2
    have hq1' := hsh1 (if x.st.testBit s = true then 1 else 0) rfl
    have hq2' := hsh2 (if x.ac.testBit s = true then 1 else 0) rfl
    rw [show (((if x.st.testBit s = true then 1 else 0 : Nat)) : Int) = q1 by rw [← hq1]; split <;> rfl] at hq1'
    rw [show (((if x.ac.testBit s = true then 1 else 0 : Nat)) : Int) = q2 by rw [← hq2]; split <;> rfl] at hq2'
    generalize rowL (x.row s x.A) = RS at *
    generalize hT : (s + v) % x.n = T at *
    have hwT : IntKind.u64.wrap (T : Int) = T := wrap_u64 T (by omega)
    have hwT8 : IntKind.u8.wrap (T : Int) = T := by rw [IntKind.wrap_u8]; omega
    repeat' (first|(first|refine nav ?_|(refine g0_ ?_; first|refine go_draw (dr := allQ) rfl rfl mixed (by first|assumption|kernel_rfl) ?_))|(with_reducible refine And.intro (at_go ?_) (at_go ?_))|((with_reducible refine And.intro (fun h => ?_) (fun h => ?_)) <;> try (exfalso; omega))|(with_reducible refine andG ?_)|(refine And.intro ⟨[_], rfl⟩ ?_)|(refine And.intro ⟨[], by simp only [List.append_nil]⟩ ?_)|fail|simp (disch := (first|exact discB|fail)) only [push_cast, ↓reduceIte, reduceIte, reduceCtorEq, Nat.reduceAdd, Nat.reduceLT, Nat.reduceEqDiff, Nat.reduceLeDiff, Int.reduceAdd, Int.reduceLT, Int.reduceLE, Nat.reduceMul, b1, b2, b5, b6, b7, b8, hw1, hto, hws, hwT, hb1, hb2, hq1', hq2', e1s])
    refine go_loop rfl (fun mz s' H' => ∃ a : Nat, a ≤ x.A ∧ mz = x.A - a ∧ H' = [.row 5 24 [[.int .u8 (x.sy : Nat), .int .u8 (x.many : Nat), .sl 3 e4 c, .int .u8 (x.st : Nat), .int .u8 (x.ac : Nat)]], .row 4 28 [[.int .i64 x.A, .sl 1 RN none, .sl 1 e2 none, .sl 1 e3 none]], .row 5 24 [[.int .u8 (x.sy : Nat), .int .u8 (x.many : Nat), .own 3 (aT x v s a 0).length (aT x v s a 0).length none, .int .u8 (shB x.st v x.n (s + 1) : Nat), .int .u8 (shB x.ac v x.n (s + 1) : Nat)]], .row 3 33 (arcsA (aT x v s a 0))] ∧ s' 1 = .int .u8 v ∧ s' 2 = .ptr 0 0 0 1 ∧ s' 5 = .ptr 1 0 0 1 ∧ s' 6 = .int .i64 x.n ∧ s' 7 = .ptr 2 0 0 1 ∧ s' 8 = .int .i64 s ∧ s' 9 = .int .u64 T ∧ s' 10 = .int .i64 a) (m := x.A) (by first|exact sideB|fail) (Weak.refl _ _) ⟨0, by omega, by omega, rfl, ?_⟩ ?_
    ·simp (disch := (first|exact discB|fail)) only [push_cast, ↓reduceIte, reduceIte, reduceCtorEq, Nat.reduceAdd, Nat.reduceLT, Nat.reduceEqDiff, Nat.reduceLeDiff, Int.reduceAdd, Int.reduceLT, Int.reduceLE, Nat.reduceMul, b1, b2, b5, b6, b7, b8, hw1, hto, hws, hwT, hb1, hb2, hq1', hq2', e1s]
    ·rintro mz s' H' ⟨a, ha, rfl, rfl, b1, b2, b5, b6, b7, b8, b9, b10⟩
     rcases Nat.lt_or_ge a x.A with hla|hga
     ·have e2a := hgr a (by rw [x.row_len]; exact hla)
      rw [hlst a hla] at e2a
      have hlc : lC (intN (x.lst s a x.n), none) = [.sl 1 (ints (intN (x.lst s a x.n))) none] := rfl
      rw [hlc] at e2a
      have hll := x.lst_len s a x.n
      have hil : (ints (intN (x.lst s a x.n))).length = (x.lst s a x.n).length := by rw [length_ints, intN_len]
      have hgi := getD_ints (intN (x.lst s a x.n))
      have hgn := intN_get (x.lst s a x.n)
      have hlt2 : ∀ k, k < (x.lst s a x.n).length → (x.lst s a x.n).getD k 0 < x.n := fun k hk => by
       have := getD_mem (d := 0) hk
       rw [ND.lst, List.mem_filter, List.mem_range] at this
       exact this.1
      have hwa : IntKind.u8.wrap (a : Int) = a := by rw [IntKind.wrap_u8]; omega
      have hTk := hTk a
      have hTa := hTa a
      have haT := haT a
      generalize ints (intN (x.lst s a x.n)) = IL at *
      generalize x.lst s a x.n = L at *
      repeat' (first|(first|refine nav ?_|(refine g0_ ?_; first|refine go_draw (dr := allQ) rfl rfl mixed (by first|assumption|kernel_rfl) ?_))|(with_reducible refine And.intro (at_go ?_) (at_go ?_))|((with_reducible refine And.intro (fun h => ?_) (fun h => ?_)) <;> try (exfalso; omega))|(with_reducible refine andG ?_)|(refine And.intro ⟨[_], rfl⟩ ?_)|(refine And.intro ⟨[], by simp only [List.append_nil]⟩ ?_)|fail|simp (disch := (first|exact discB|fail)) only [push_cast, ↓reduceIte, reduceIte, reduceCtorEq, Nat.reduceAdd, Nat.reduceLT, Nat.reduceEqDiff, Nat.reduceLeDiff, Int.reduceAdd, Int.reduceLT, Int.reduceLE, Nat.reduceMul, b1, b2, b5, b6, b7, b8, b9, b10, e1s, hrl, e2a])
      refine go_loop rfl (fun mz s' H' => ∃ k : Nat, k ≤ L.length ∧ mz = L.length - k ∧ H' = [.row 5 24 [[.int .u8 (x.sy : Nat), .int .u8 (x.many : Nat), .sl 3 e4 c, .int .u8 (x.st : Nat), .int .u8 (x.ac : Nat)]], .row 4 28 [[.int .i64 x.A, .sl 1 RN none, .sl 1 e2 none, .sl 1 e3 none]], .row 5 24 [[.int .u8 (x.sy : Nat), .int .u8 (x.many : Nat), .own 3 (aT x v s a k).length (aT x v s a k).length none, .int .u8 (shB x.st v x.n (s + 1) : Nat), .int .u8 (shB x.ac v x.n (s + 1) : Nat)]], .row 3 33 (arcsA (aT x v s a k))] ∧ s' 1 = .int .u8 v ∧ s' 2 = .ptr 0 0 0 1 ∧ s' 5 = .ptr 1 0 0 1 ∧ s' 6 = .int .i64 x.n ∧ s' 7 = .ptr 2 0 0 1 ∧ s' 8 = .int .i64 s ∧ s' 9 = .int .u64 T ∧ s' 10 = .int .i64 a ∧ s' 11 = .int .i64 k) (m := L.length) (by first|exact sideB|fail) (Weak.refl _ _) ⟨0, by omega, by omega, rfl, ?_⟩ ?_
      ·simp (disch := (first|exact discB|fail)) only [push_cast, ↓reduceIte, reduceIte, reduceCtorEq, Nat.reduceAdd, Nat.reduceLT, Nat.reduceEqDiff, Nat.reduceLeDiff, Int.reduceAdd, Int.reduceLT, Int.reduceLE, Nat.reduceMul, b1, b2, b5, b6, b7, b8, b9, b10, e1s, hrl, e2a]
      ·rintro mz s' H' ⟨k, hk, rfl, rfl, b1, b2, b5, b6, b7, b8, b9, b10, b11⟩
       have hTl := haT k (by omega)
       rcases Nat.lt_or_ge k L.length with hlk|hgk
       ·have e3 := hgi k (by rw [intN_len]; exact hlk)
        rw [hgn k hlk] at e3
        have hTk := hTk k hlk
        have hlt2 := hlt2 k hlk
        generalize L.getD k 0 = t at *
        have hmt := Nat.mod_lt (t + v) (show 0 < x.n by omega)
        have hto2 : ((t : Int) + v).tmod (x.n : Int) = (((t + v) % x.n : Nat) : Int) := rfl
        have hw2 : IntKind.i64.wrap ((t : Int) + v) = (t : Int) + v := wrap64 _ (by omega) (by omega)
        generalize (t + v) % x.n = t2 at *
        have hwt2 : IntKind.u8.wrap (t2 : Int) = t2 := by rw [IntKind.wrap_u8]; omega
        have hsn := arcsA_snoc (aT x v s a k) (T, a, t2)
        rw [← hTk] at hsn
        simp only at hsn
        have hTl1 : (aT x v s a (k + 1)).length = (aT x v s a k).length + 1 := by rw [hTk]; simp
        have hal := length_arcsA (aT x v s a k)
        have eta : (arcsA (aT x v s a k)).take (aT x v s a k).length = arcsA (aT x v s a k) := List.take_of_length_le (by omega)
        have eda : (arcsA (aT x v s a k)).drop ((aT x v s a k).length + 1) = [] := List.drop_eq_nil_of_le (by omega)
        have hidA : ∀ p, idsE p (arcsA (aT x v s a k)) = true := fun p => idsE_arcsA _ _
        repeat' (first|(first|refine nav ?_|(refine g0_ ?_; first|refine go_draw (dr := allQ) rfl rfl mixed (by first|assumption|kernel_rfl) ?_))|(with_reducible refine And.intro (at_go ?_) (at_go ?_))|((with_reducible refine And.intro (fun h => ?_) (fun h => ?_)) <;> try (exfalso; omega))|(with_reducible refine andG ?_)|(refine And.intro ⟨[_], rfl⟩ ?_)|(refine And.intro ⟨[], by simp only [List.append_nil]⟩ ?_)|fail|simp (disch := (first|exact discB|fail)) only [push_cast, ↓reduceIte, reduceIte, reduceCtorEq, Nat.reduceAdd, Nat.reduceLT, Nat.reduceEqDiff, Nat.reduceLeDiff, Int.reduceAdd, Int.reduceLT, Int.reduceLE, Nat.reduceMul, b1, b2, b5, b6, b7, b8, b9, b10, b11, e1s, hrl, e2a, e3, hil, hw2, hto2, hwt2, hwT8, hwa, hal, eta, eda])
        refine out_round (L.length - (k + 1)) (by omega) (by first|exact sideB|fail) ⟨k + 1, by omega, rfl, by rw [← hsn, hTl1], ?_⟩
        simp (disch := (first|exact discB|fail)) only [push_cast, ↓reduceIte, reduceIte, reduceCtorEq, Nat.reduceAdd, Nat.reduceLT, Nat.reduceEqDiff, Nat.reduceLeDiff, Int.reduceAdd, Int.reduceLT, Int.reduceLE, Nat.reduceMul, b1, b2, b5, b6, b7, b8, b9, b10, b11, e1s, hrl, e2a, e3, hil, hw2, hto2, hwt2, hwT8, hwa, hal, eta, eda]
       ·obtain rfl : L.length = k := by omega
        rw [← hTa] at *
        repeat' (first|(first|refine nav ?_|(refine g0_ ?_; first|refine go_draw (dr := allQ) rfl rfl mixed (by first|assumption|kernel_rfl) ?_))|(with_reducible refine And.intro (at_go ?_) (at_go ?_))|((with_reducible refine And.intro (fun h => ?_) (fun h => ?_)) <;> try (exfalso; omega))|(with_reducible refine andG ?_)|(refine And.intro ⟨[_], rfl⟩ ?_)|(refine And.intro ⟨[], by simp only [List.append_nil]⟩ ?_)|fail|simp (disch := (first|exact discB|fail)) only [push_cast, ↓reduceIte, reduceIte, reduceCtorEq, Nat.reduceAdd, Nat.reduceLT, Nat.reduceEqDiff, Nat.reduceLeDiff, Int.reduceAdd, Int.reduceLT, Int.reduceLE, Nat.reduceMul, b1, b2, b5, b6, b7, b8, b9, b10, b11, e1s, hrl, e2a, hil])
        refine out_round (x.A - (a + 1)) (by omega) (by first|exact sideB|fail) ⟨a + 1, by omega, rfl, rfl, ?_⟩
        simp (disch := (first|exact discB|fail)) only [push_cast, ↓reduceIte, reduceIte, reduceCtorEq, Nat.reduceAdd, Nat.reduceLT, Nat.reduceEqDiff, Nat.reduceLeDiff, Int.reduceAdd, Int.reduceLT, Int.reduceLE, Nat.reduceMul, b1, b2, b5, b6, b7, b8, b9, b10, b11, e1s, hrl, e2a, hil]
     ·obtain rfl : x.A = a := by omega
      rw [← hTs] at *
      repeat' (first|(first|refine nav ?_|(refine g0_ ?_; first|refine go_draw (dr := allQ) rfl rfl mixed (by first|assumption|kernel_rfl) ?_))|(with_reducible refine And.intro (at_go ?_) (at_go ?_))|((with_reducible refine And.intro (fun h => ?_) (fun h => ?_)) <;> try (exfalso; omega))|(with_reducible refine andG ?_)|(refine And.intro ⟨[_], rfl⟩ ?_)|(refine And.intro ⟨[], by simp only [List.append_nil]⟩ ?_)|fail|simp (disch := (first|exact discB|fail)) only [push_cast, ↓reduceIte, reduceIte, reduceCtorEq, Nat.reduceAdd, Nat.reduceLT, Nat.reduceEqDiff, Nat.reduceLeDiff, Int.reduceAdd, Int.reduceLT, Int.reduceLE, Nat.reduceMul, b1, b2, b5, b6, b7, b8, b9, b10])
      refine out_round (x.n - (s + 1)) (by omega) (by first|exact sideB|fail) ⟨s + 1, by omega, rfl, rfl, ?_⟩
      simp (disch := (first|exact discB|fail)) only [push_cast, ↓reduceIte, reduceIte, reduceCtorEq, Nat.reduceAdd, Nat.reduceLT, Nat.reduceEqDiff, Nat.reduceLeDiff, Int.reduceAdd, Int.reduceLT, Int.reduceLE, Nat.reduceMul, b1, b2, b5, b6, b7, b8, b9, b10]
   ·obtain rfl : x.n = s := by omega
    rw [aT_all]
    have hal := length_arcsA (aS x v x.n)
    have hsl := aS_len x v x.n
    have hidA : ∀ p, idsE p (arcsA (aS x v x.n)) = true := fun p => idsE_arcsA _ _
    have eta : (arcsA (aS x v x.n)).take (aS x v x.n).length = arcsA (aS x v x.n) := List.take_of_length_le (by omega)
    by_cases h60 : (aS x v x.n).length ≤ 60
    ·have h60' : ¬ (60 : Int) < (aS x v x.n).length := by omega
     have hO3 := hO2 h60
     have hD3 := hD2 h60
     clear hO2 hD2
     generalize hAA : arcsA (aS x v x.n) = AA at *
     generalize (aS x v x.n).length = nA at *
     refine go_weak (by trivial) (weak_freeze (j := 3) (sz := 3) (t := 33) (es := AA) rfl) ?_
     repeat' (first|(((first|refine nav ?_|(refine g0_ ?_; first|refine go_draw (dr := allQ) rfl rfl mixed (by first|assumption|kernel_rfl) ?_))) <;> (try simp (disch := (first|exact discB|fail)) only [push_cast, ↓reduceIte, reduceIte, reduceCtorEq, Nat.reduceAdd, Nat.reduceLT, Nat.reduceEqDiff, Nat.reduceLeDiff, Int.reduceAdd, Int.reduceLT, Int.reduceLE, Nat.reduceMul, b1, b2, b5, b6, b7, b8, h60', frzH, frzB, frz, map_frz, eta, hal, List.set_cons_zero, List.set_cons_succ, List.map_cons, List.map_nil, deadRow]))|(with_reducible refine And.intro (at_go ?_) (at_go ?_))|((with_reducible refine And.intro (fun h => ?_) (fun h => ?_)) <;> try (exfalso; omega))|(with_reducible refine andG ?_)|(refine And.intro ⟨[_], rfl⟩ ?_)|(refine And.intro ⟨[], by simp only [List.append_nil]⟩ ?_)|(first|(refine ⟨_, _, pc_lift (hD) (by (simp [idsL, idsE, AV.ids, hid1, hid2, hid3, hid4, hid5, hid6, hid7, hid8, hid9, hidA])) _, ?_⟩)|(refine ⟨_, pc_lift (hD) (by (simp [idsL, idsE, AV.ids, hid1, hid2, hid3, hid4, hid5, hid6, hid7, hid8, hid9, hidA])) _, ?_⟩)|(refine ⟨_, fun _ => pc_lift (hD) (by (simp [idsL, idsE, AV.ids, hid1, hid2, hid3, hid4, hid5, hid6, hid7, hid8, hid9, hidA])) _, ?_⟩)|(refine ⟨_, _, pc_lift (hO3) (by (simp [idsL, idsE, AV.ids, hid1, hid2, hid3, hid4, hid5, hid6, hid7, hid8, hid9, hidA])) _, ?_⟩)|(refine ⟨_, pc_lift (hO3) (by (simp [idsL, idsE, AV.ids, hid1, hid2, hid3, hid4, hid5, hid6, hid7, hid8, hid9, hidA])) _, ?_⟩)|(refine ⟨_, fun _ => pc_lift (hO3) (by (simp [idsL, idsE, AV.ids, hid1, hid2, hid3, hid4, hid5, hid6, hid7, hid8, hid9, hidA])) _, ?_⟩)|(refine ⟨_, _, pc_lift (hD3) (by (simp [idsL, idsE, AV.ids, hid1, hid2, hid3, hid4, hid5, hid6, hid7, hid8, hid9, hidA])) _, ?_⟩)|(refine ⟨_, pc_lift (hD3) (by (simp [idsL, idsE, AV.ids, hid1, hid2, hid3, hid4, hid5, hid6, hid7, hid8, hid9, hidA])) _, ?_⟩)|(refine ⟨_, fun _ => pc_lift (hD3) (by (simp [idsL, idsE, AV.ids, hid1, hid2, hid3, hid4, hid5, hid6, hid7, hid8, hid9, hidA])) _, ?_⟩)|(refine ⟨_, _, pc_lift (hS) (by (simp [idsL, idsE, AV.ids, hid1, hid2, hid3, hid4, hid5, hid6, hid7, hid8, hid9, hidA])) _, ?_⟩)|(refine ⟨_, pc_lift (hS) (by (simp [idsL, idsE, AV.ids, hid1, hid2, hid3, hid4, hid5, hid6, hid7, hid8, hid9, hidA])) _, ?_⟩)|(refine ⟨_, fun _ => pc_lift (hS) (by (simp [idsL, idsE, AV.ids, hid1, hid2, hid3, hid4, hid5, hid6, hid7, hid8, hid9, hidA])) _, ?_⟩)|(refine ⟨_, _, pc_lift (hlv) (by (simp [idsL, idsE, AV.ids, hid1, hid2, hid3, hid4, hid5, hid6, hid7, hid8, hid9, hidA])) _, ?_⟩)|(refine ⟨_, pc_lift (hlv) (by (simp [idsL, idsE, AV.ids, hid1, hid2, hid3, hid4, hid5, hid6, hid7, hid8, hid9, hidA])) _, ?_⟩)|(refine ⟨_, fun _ => pc_lift (hlv) (by (simp [idsL, idsE, AV.ids, hid1, hid2, hid3, hid4, hid5, hid6, hid7, hid8, hid9, hidA])) _, ?_⟩))|simp (disch := (first|exact discB|fail)) only [push_cast, ↓reduceIte, reduceIte, reduceCtorEq, Nat.reduceAdd, Nat.reduceLT, Nat.reduceEqDiff, Nat.reduceLeDiff, Int.reduceAdd, Int.reduceLT, Int.reduceLE, Nat.reduceMul, b1, b2, b5, b6, b7, b8, h60', frzH, frzB, frz, map_frz, eta, hal, List.set_cons_zero, List.set_cons_succ, List.map_cons, List.map_nil, deadRow])
    ·have h60' : (60 : Int) < (aS x v x.n).length := by omega
     repeat' (first|(((first|refine nav ?_|(refine g0_ ?_; first|refine go_draw (dr := allQ) rfl rfl mixed (by first|assumption|kernel_rfl) ?_))) <;> (try simp (disch := (first|exact discB|fail)) only [push_cast, ↓reduceIte, reduceIte, reduceCtorEq, Nat.reduceAdd, Nat.reduceLT, Nat.reduceEqDiff, Nat.reduceLeDiff, Int.reduceAdd, Int.reduceLT, Int.reduceLE, Nat.reduceMul, b1, b2, b5, b6, b7, b8, h60']))|(with_reducible refine And.intro (at_go ?_) (at_go ?_))|((with_reducible refine And.intro (fun h => ?_) (fun h => ?_)) <;> try (exfalso; omega))|(with_reducible refine andG ?_)|(refine And.intro ⟨[_], rfl⟩ ?_)|(refine And.intro ⟨[], by simp only [List.append_nil]⟩ ?_)|(first|(refine ⟨_, _, pc_lift (hlv) (by (simp [idsL, idsE, AV.ids, hid1, hid2, hid3, hid4, hid5, hid6, hid7, hid8, hid9, hidA])) _, ?_⟩)|(refine ⟨_, pc_lift (hlv) (by (simp [idsL, idsE, AV.ids, hid1, hid2, hid3, hid4, hid5, hid6, hid7, hid8, hid9, hidA])) _, ?_⟩)|(refine ⟨_, fun _ => pc_lift (hlv) (by (simp [idsL, idsE, AV.ids, hid1, hid2, hid3, hid4, hid5, hid6, hid7, hid8, hid9, hidA])) _, ?_⟩))|simp (disch := (first|exact discB|fail)) only [push_cast, ↓reduceIte, reduceIte, reduceCtorEq, Nat.reduceAdd, Nat.reduceLT, Nat.reduceEqDiff, Nat.reduceLeDiff, Int.reduceAdd, Int.reduceLT, Int.reduceLE, Nat.reduceMul, b1, b2, b5, b6, b7, b8, h60'])
end Go.Proofs
