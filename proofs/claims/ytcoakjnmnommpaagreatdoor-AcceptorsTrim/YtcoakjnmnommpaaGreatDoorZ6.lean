import Derived.Test.YtcoakjnmnommpaaGreatDoorZ5
namespace Go.Proofs
open Go Go.V Go.RowKit
set_option linter.unusedVariables false
set_option linter.unusedSimpArgs false
set_option maxHeartbeats 0
set_option maxRecDepth 100000
theorem vdj9 (A : Nat) (zr : Nat) (l : List RC) (c : Option Nat) (zs : Nat) (st : List Int) (cs : Option Nat) (za : Nat) (ac : List Int) (ca : Option Nat) (hsz : SizeN zr l zs st za ac) (hok : OkNv A (rowsV l) st ac) (zf : Nat) (S0 : List Nat) (cf : Option Nat) (hzf : S0 = [] ∨ zf = 1) (hF0 : FiltF (nfOf (rowsV l) st ac).n S0) :
  PC Tryz.prog G0 37 [nA A zr l c zs st cs za ac ca, .sl zf (ints (intN S0)) cf] (.agg (PS (wD0 (nfOf (rowsV l) st ac) A S0))) := by
 have hN : (nfOf (rowsV l) st ac).n = l.length := qb0 l
 have hn := hok.n
 rw [qb0] at hn
 have hof : PC Tryz.prog G0 41 [.sl zf (ints (intN S0)) cf] (.agg (PS S0)) := by
  have h := of32 zf (intN S0) cf (hzf.elim (fun q => .inl (by rw [q]; rfl)) .inr) (by have := qK0 hF0; rw [zb0]; omega) (fun x hx => by
   obtain ⟨t, ht, rfl⟩ := List.mem_map.1 hx
   have := hF0.lt ht
   omega)
  have e : setL (inL (intN S0)) = PS S0 := kar9 fun t _ => by
   rw [Bool.eq_iff_iff, inL, pS, List.contains_iff_mem, List.contains_iff_mem, intN, List.mem_map]
   exact ⟨fun ⟨u, hu, he⟩ => (show t = u by omega) ▸ hu, fun h => ⟨t, h, rfl⟩⟩
  rw [e] at h
  exact h
 have hst := fun S hS a ha => zbM9 (c := c) (cs := cs) (ca := ca) hsz hok (S := S) hS (a := a) ha
 have hrf := fun R => xcG9 (x := nfOf (rowsV l) st ac) (A := A) (S := S0) (R := R) (fun s hs => hF0.lt hs)
 have hsf := fun S a => qaB9 (nfOf (rowsV l) st ac) S a
 have hrs : ∀ s, s ∈ S0 → wn0 (nfOf (rowsV l) st ac) A S0 s := fun s hs => ⟨[], fun a ha => (by cases ha), s, hs, rfl⟩
 have hrn : ∀ S, FiltF (nfOf (rowsV l) st ac).n S → (∀ s ∈ S, wn0 (nfOf (rowsV l) st ac) A S0 s) → ∀ a, a < A → ∀ t ∈ stepN (nfOf (rowsV l) st ac) S a, wn0 (nfOf (rowsV l) st ac) A S0 t := fun S hS hr a ha t ht => by
  obtain ⟨htn, s, hs, hd⟩ := (kA0 _ S a t).1 ht
  exact zai9 _ A S0 s a t (hr s hs) ha htn hd (hS.lt hs)
 have hA1 := hok.a1
 have hA2 := hok.a2
 have hidR : ∀ p, idsE p (xc0 l) = true := fun p => wc0 _ _
 have hidS : ∀ p, idsE p (ints st) = true := fun p => va0 _ _
 have hidA : ∀ p, idsE p (ints ac) = true := fun p => va0 _ _
 have hidF : ∀ p, idsE p (ints (intN S0)) = true := fun p => va0 _ _
 generalize nfOf (rowsV l) st ac = X at *
 generalize hXn : X.n = n at *
 have hn256 : n ≤ 256 := by omega
 generalize hstep : stepN X = step at *
 unfold nA at *
 generalize xc0 l = RN at *
 generalize ints st = IS at *
 generalize ints ac = IA at *
 generalize ints (intN S0) = IF at *
 generalize wD0 X A S0 = RF at *
 have hz4 : [AV.int .u64 0, .int .u64 0, .int .u64 0, .int .u64 0] = PS [] := by
  show _ = setL (pS [])
  rw [show pS [] = fun _ => false from rfl, kac9]
 refine vd0 0 47 [.cell 4 68] Tryz.func37 rfl rfl rfl (by simp) ?_
 intro s ⟨a0, a1, hz⟩
 simp only [Nat.zero_add, Nat.reduceAdd] at a1
 clear hz
 repeat' (first|refine nav ?_|(refine g0_ ?_; refine goD ?_)|(with_reducible refine gG ?_ ?_)|((with_reducible refine And.intro (fun h => ?_) (fun h => ?_)) <;> try (exfalso; omega))|(with_reducible refine andG ?_)|(first|(refine ⟨_, _, qa0 (hof) (by (simp [idsL, idsE, AV.ids, hidR, hidS, hidA, hidF, xf0])) _, ?_⟩)|(refine ⟨_, qa0 (hof) (by (simp [idsL, idsE, AV.ids, hidR, hidS, hidA, hidF, xf0])) _, ?_⟩)|(refine ⟨_, fun _ => qa0 (hof) (by (simp [idsL, idsE, AV.ids, hidR, hidS, hidA, hidF, xf0])) _, ?_⟩))|simp (disch := (first|exact za0|fail)) only [push_cast, simprocAttr, a0, a1, vw0, xo0, wo0])
 refine go_loop rfl (fun mz s' H' => ∃ (S : List Nat) (b : Bool), FiltF n S ∧ (∀ s ∈ S0, s ∈ S) ∧ (∀ s ∈ S, wn0 X A S0 s) ∧ (b = false → ∀ a, a < A → ∀ t ∈ step S a, t ∈ S) ∧ mz = (if b = true then 1000 - S.length else 0) ∧ H' = [.row 4 29 [[.int .i64 A, .sl zr RN c, .sl zs IS cs, .sl za IA ca]], .row 4 68 [[.int .u64 0, .int .u64 0, .int .u64 0, .int .u64 0]], .row 4 68 [PS S]] ∧ s' 2 = .ptr 0 0 0 1 ∧ s' 4 = .ptr 1 0 0 1 ∧ s' 5 = .ptr 2 0 0 1 ∧ s' 6 = .bool b) (m := 1000 - S0.length) (by first|exact xb0|fail) (Weak.refl _ _) ⟨S0, true, hF0, fun s h => h, hrs, fun h => (by cases h), rfl, rfl, ?_⟩ ?_
 ·simp (disch := (first|exact za0|fail)) only [push_cast, simprocAttr, a0, a1, vw0, xo0, wo0]
 ·rintro mz s' H' ⟨S, b, hS, h0S, hrS, hcS, rfl, rfl, b2, b4, b5, b6⟩
  have hSl := qK0 hS
  cases b with
  | false =>
   obtain rfl := hrf S hS h0S (hcS rfl) hrS
   repeat' (first|refine nav ?_|(refine g0_ ?_; refine goD ?_)|(with_reducible refine gG ?_ ?_)|((with_reducible refine And.intro (fun h => ?_) (fun h => ?_)) <;> try (exfalso; omega))|(with_reducible refine andG ?_)|fail|simp (disch := (first|exact za0|fail)) only [push_cast, simprocAttr, b2, b4, b5, b6, vw0, xo0, wo0])
   refine ⟨by unfold PS setL; simp [AV.ids], ?_⟩
   unfold PS setL
   simp (disch := (first|exact za0|fail)) only [push_cast, simprocAttr, b2, b4, b5, b6, vw0, xo0, wo0]
  | true =>
   repeat' (first|refine nav ?_|(refine g0_ ?_; refine goD ?_)|(with_reducible refine gG ?_ ?_)|((with_reducible refine And.intro (fun h => ?_) (fun h => ?_)) <;> try (exfalso; omega))|(with_reducible refine andG ?_)|fail|simp (disch := (first|exact za0|fail)) only [push_cast, simprocAttr, b2, b4, b5, b6, vw0, xo0, wo0])
   refine go_loop rfl (fun mz s' H' => ∃ (a : Nat) (T : List Nat) (b : Bool), a ≤ A ∧ FiltF n T ∧ (∀ s ∈ S, s ∈ T) ∧ (∀ s ∈ T, wn0 X A S0 s) ∧ (b = false → T = S ∧ ∀ a', a' < a → ∀ t ∈ step S a', t ∈ S) ∧ (b = true → S.length < T.length) ∧ mz = A - a ∧ H' = [.row 4 29 [[.int .i64 A, .sl zr RN c, .sl zs IS cs, .sl za IA ca]], .row 4 68 [[.int .u64 0, .int .u64 0, .int .u64 0, .int .u64 0]], .row 4 68 [PS T]] ∧ s' 2 = .ptr 0 0 0 1 ∧ s' 4 = .ptr 1 0 0 1 ∧ s' 5 = .ptr 2 0 0 1 ∧ s' 6 = .bool b ∧ s' 14 = .int .i64 A ∧ s' 15 = .int .i64 a) (m := A) (by first|exact xb0|fail) (Weak.refl _ _) ⟨0, S, false, by omega, hS, fun s h => h, hrS, fun _ => ⟨rfl, fun a h => by omega⟩, fun h => (by cases h), by omega, rfl, ?_⟩ ?_
   ·simp (disch := (first|exact za0|fail)) only [push_cast, simprocAttr, b2, b4, b5, b6, vw0, xo0, wo0]
   ·clear b2 b4 b5 b6
    rintro mz s' H' ⟨a, T, b, ha, hT, hST, hrT, hcT, hbT, rfl, rfl, b2, b4, b5, b6, b14, b15⟩
    have hTl := qK0 hT
    rcases Nat.lt_or_ge a A with hla|hga
    ·have hstT := hst T hT a hla
     have hQ := hsf T a
     have hrQ := hrn T hT hrT a hla
     have hadd := xdb9 (S := T) hQ hn256
     have hor := xdB9 hT hQ
     have hsame := zdb9 hT hQ
     have hlt := kdS9 hT hQ
     have hmem := zbB9 hT hQ
     have hor0 := wdb9 (pS T) (pS (step T a))
     have hUf := zbO9 n T (step T a)
     generalize hq : step T a = Q at *
     generalize hU : unF n T Q = U at *
     repeat' (first|refine nav ?_|(refine g0_ ?_; refine goD ?_)|(with_reducible refine gG ?_ ?_)|((with_reducible refine And.intro (fun h => ?_) (fun h => ?_)) <;> try (exfalso; omega))|(with_reducible refine andG ?_)|(first|(refine ⟨_, _, qa0 (hstT) (by (simp [idsL, idsE, AV.ids, hidR, hidS, hidA, hidF, xf0])) _, ?_⟩)|(refine ⟨_, qa0 (hstT) (by (simp [idsL, idsE, AV.ids, hidR, hidS, hidA, hidF, xf0])) _, ?_⟩)|(refine ⟨_, fun _ => qa0 (hstT) (by (simp [idsL, idsE, AV.ids, hidR, hidS, hidA, hidF, xf0])) _, ?_⟩))|simp (disch := (first|exact za0|fail)) only [push_cast, simprocAttr, b2, b4, b5, b6, b14, b15, vw0, xo0, wo0])
     refine go_loop rfl (fun mz s' H' => ∃ (i : Nat), i ≤ 4 ∧ mz = 4 - i ∧ H' = [.row 4 29 [[.int .i64 A, .sl zr RN c, .sl zs IS cs, .sl za IA ca]], .row 4 68 [[.int .u64 0, .int .u64 0, .int .u64 0, .int .u64 0]], .row 4 68 [setL (orK (pS T) (pS Q) i)], .row 4 68 [PS Q]] ∧ s' 2 = .ptr 0 0 0 1 ∧ s' 4 = .ptr 1 0 0 1 ∧ s' 5 = .ptr 2 0 0 1 ∧ s' 6 = .bool (b || addK (pS T) (pS Q) i) ∧ s' 8 = .ptr 3 0 0 1 ∧ s' 14 = .int .i64 A ∧ s' 15 = .int .i64 a ∧ s' 22 = .int .i64 i) (m := 4) (by first|exact xb0|fail) (Weak.refl _ _) ⟨0, by omega, by omega, by rw [hor0]; rfl, ?_⟩ ?_
     ·rw [zcG9, Bool.or_false]
      simp (disch := (first|exact za0|fail)) only [push_cast, simprocAttr, b2, b4, b5, b6, b14, b15, vw0, xo0, wo0]
     ·clear b2 b4 b5 b6 b14 b15
      rintro mz s' H' ⟨i, hi, rfl, rfl, b2, b4, b5, b6, b8, b14, b15, b22⟩
      have hcs : ∀ i, setL (orK (pS T) (pS Q) i) = [.int .u64 (wP (orK (pS T) (pS Q) i) 0 : Nat), .int .u64 (wP (orK (pS T) (pS Q) i) 1 : Nat), .int .u64 (wP (orK (pS T) (pS Q) i) 2 : Nat), .int .u64 (wP (orK (pS T) (pS Q) i) 3 : Nat)] := fun _ => rfl
      have hQc : PS Q = [.int .u64 (wP (pS Q) 0 : Nat), .int .u64 (wP (pS Q) 1 : Nat), .int .u64 (wP (pS Q) 2 : Nat), .int .u64 (wP (pS Q) 3 : Nat)] := rfl
      have htn2 : Int.toNat 2 = 2 := rfl
      have htn3 : Int.toNat 3 = 3 := rfl
      have hi5 : i = 0 ∨ i = 1 ∨ i = 2 ∨ i = 3 ∨ i = 4 := by omega
      rcases hi5 with hi5|hi5|hi5|hi5|hi5
      ·obtain rfl : i = 0 := by omega
       have hb0 : bits .or .u64 ((wP (orK (pS T) (pS Q) 0) 0 : Nat) : Int) ((wP (pS Q) 0 : Nat) : Int) = ((wP (orK (pS T) (pS Q) (0 + 1)) 0 : Nat) : Int) := by
        rw [kM0 _ _ (qo0 _ _) (qo0 _ _), vx0 _ _ 0 0 (by decide) (by decide), qba9 _ _ 0 (by decide)]
       have hb1 := wQ0 (wP (pS Q) 0) (wP (orK (pS T) (pS Q) 0) 0) (qo0 _ _) (qo0 _ _)
       rw [vx0 _ _ 0 0 (by decide) (by decide)] at hb1
       have hbe : bits .andNot .u64 ((wP (pS Q) 0 : Nat) : Int) ((wP (orK (pS T) (pS Q) 0) 0 : Nat) : Int) = bits .andNot .u64 ((wP (pS Q) 0 : Nat) : Int) ((wP (pS T) 0 : Nat) : Int) := by rw [vx0 _ _ 0 0 (by decide) (by decide)]
       have hnx := vad9 (pS T) (pS Q) 0 (by decide)
       generalize bits .andNot .u64 ((wP (pS Q) 0 : Nat) : Int) ((wP (pS T) 0 : Nat) : Int) = v at *
       cases hm : (b || addK (pS T) (pS Q) 0) with
       | true =>
        rw [hm] at b6
        have hm' : (b || addK (pS T) (pS Q) (0 + 1)) = true := by rw [hnx, ← Bool.or_assoc, hm]; rfl
        repeat' (first|refine nav ?_|(refine g0_ ?_; refine goD ?_)|(with_reducible refine gG ?_ ?_)|((with_reducible refine And.intro (fun h => ?_) (fun h => ?_)) <;> try (exfalso; omega))|(with_reducible refine andG ?_)|fail|simp (disch := (first|exact za0|fail)) only [push_cast, simprocAttr, b2, b4, b5, b6, b8, b14, b15, b22, hcs, hQc, hb0, htn2, htn3])
        refine xa0 (4 - (0 + 1)) (by omega) (by first|exact xb0|fail) ⟨0 + 1, by omega, rfl, by rw [wg0 (pS T) (pS Q) 0 1 (by decide) (by decide), wg0 (pS T) (pS Q) 0 2 (by decide) (by decide), wg0 (pS T) (pS Q) 0 3 (by decide) (by decide)], ?_⟩
        rw [hm']
        simp (disch := (first|exact za0|fail)) only [push_cast, simprocAttr, b2, b4, b5, b6, b8, b14, b15, b22, hcs, hQc, hb0, htn2, htn3]
       | false =>
        rw [hm] at b6
        have hm' : (b || addK (pS T) (pS Q) (0 + 1)) = !decide (v = 0) := by
         rw [hnx, ← Bool.or_assoc, hm, Bool.false_or]
         congr 1
         exact decide_eq_decide.2 hb1.symm
        repeat' (first|refine nav ?_|(refine g0_ ?_; refine goD ?_)|(with_reducible refine gG ?_ ?_)|((with_reducible refine And.intro (fun h => ?_) (fun h => ?_)) <;> try (exfalso; omega))|(with_reducible refine andG ?_)|fail|simp (disch := (first|exact za0|fail)) only [push_cast, simprocAttr, b2, b4, b5, b6, b8, b14, b15, b22, hcs, hQc, hb0, htn2, htn3, hbe])
        refine xa0 (4 - (0 + 1)) (by omega) (by first|exact xb0|fail) ⟨0 + 1, by omega, rfl, by rw [wg0 (pS T) (pS Q) 0 1 (by decide) (by decide), wg0 (pS T) (pS Q) 0 2 (by decide) (by decide), wg0 (pS T) (pS Q) 0 3 (by decide) (by decide)], ?_⟩
        rw [hm']
        simp (disch := (first|exact za0|fail)) only [push_cast, simprocAttr, b2, b4, b5, b6, b8, b14, b15, b22, hcs, hQc, hb0, htn2, htn3, hbe]
      ·obtain rfl : i = 1 := by omega
       have hb0 : bits .or .u64 ((wP (orK (pS T) (pS Q) 1) 1 : Nat) : Int) ((wP (pS Q) 1 : Nat) : Int) = ((wP (orK (pS T) (pS Q) (1 + 1)) 1 : Nat) : Int) := by
        rw [kM0 _ _ (qo0 _ _) (qo0 _ _), vx0 _ _ 1 1 (by decide) (by decide), qba9 _ _ 1 (by decide)]
       have hb1 := wQ0 (wP (pS Q) 1) (wP (orK (pS T) (pS Q) 1) 1) (qo0 _ _) (qo0 _ _)
       rw [vx0 _ _ 1 1 (by decide) (by decide)] at hb1
       have hbe : bits .andNot .u64 ((wP (pS Q) 1 : Nat) : Int) ((wP (orK (pS T) (pS Q) 1) 1 : Nat) : Int) = bits .andNot .u64 ((wP (pS Q) 1 : Nat) : Int) ((wP (pS T) 1 : Nat) : Int) := by rw [vx0 _ _ 1 1 (by decide) (by decide)]
       have hnx := vad9 (pS T) (pS Q) 1 (by decide)
       generalize bits .andNot .u64 ((wP (pS Q) 1 : Nat) : Int) ((wP (pS T) 1 : Nat) : Int) = v at *
       cases hm : (b || addK (pS T) (pS Q) 1) with
       | true =>
        rw [hm] at b6
        have hm' : (b || addK (pS T) (pS Q) (1 + 1)) = true := by rw [hnx, ← Bool.or_assoc, hm]; rfl
        repeat' (first|refine nav ?_|(refine g0_ ?_; refine goD ?_)|(with_reducible refine gG ?_ ?_)|((with_reducible refine And.intro (fun h => ?_) (fun h => ?_)) <;> try (exfalso; omega))|(with_reducible refine andG ?_)|fail|simp (disch := (first|exact za0|fail)) only [push_cast, simprocAttr, b2, b4, b5, b6, b8, b14, b15, b22, hcs, hQc, hb0, htn2, htn3])
        refine xa0 (4 - (1 + 1)) (by omega) (by first|exact xb0|fail) ⟨1 + 1, by omega, rfl, by rw [wg0 (pS T) (pS Q) 1 0 (by decide) (by decide), wg0 (pS T) (pS Q) 1 2 (by decide) (by decide), wg0 (pS T) (pS Q) 1 3 (by decide) (by decide)], ?_⟩
        rw [hm']
        simp (disch := (first|exact za0|fail)) only [push_cast, simprocAttr, b2, b4, b5, b6, b8, b14, b15, b22, hcs, hQc, hb0, htn2, htn3]
       | false =>
        rw [hm] at b6
        have hm' : (b || addK (pS T) (pS Q) (1 + 1)) = !decide (v = 0) := by
         rw [hnx, ← Bool.or_assoc, hm, Bool.false_or]
         congr 1
         exact decide_eq_decide.2 hb1.symm
        repeat' (first|refine nav ?_|(refine g0_ ?_; refine goD ?_)|(with_reducible refine gG ?_ ?_)|((with_reducible refine And.intro (fun h => ?_) (fun h => ?_)) <;> try (exfalso; omega))|(with_reducible refine andG ?_)|fail|simp (disch := (first|exact za0|fail)) only [push_cast, simprocAttr, b2, b4, b5, b6, b8, b14, b15, b22, hcs, hQc, hb0, htn2, htn3, hbe])
        refine xa0 (4 - (1 + 1)) (by omega) (by first|exact xb0|fail) ⟨1 + 1, by omega, rfl, by rw [wg0 (pS T) (pS Q) 1 0 (by decide) (by decide), wg0 (pS T) (pS Q) 1 2 (by decide) (by decide), wg0 (pS T) (pS Q) 1 3 (by decide) (by decide)], ?_⟩
        rw [hm']
        simp (disch := (first|exact za0|fail)) only [push_cast, simprocAttr, b2, b4, b5, b6, b8, b14, b15, b22, hcs, hQc, hb0, htn2, htn3, hbe]
      ·obtain rfl : i = 2 := by omega
       have hb0 : bits .or .u64 ((wP (orK (pS T) (pS Q) 2) 2 : Nat) : Int) ((wP (pS Q) 2 : Nat) : Int) = ((wP (orK (pS T) (pS Q) (2 + 1)) 2 : Nat) : Int) := by
        rw [kM0 _ _ (qo0 _ _) (qo0 _ _), vx0 _ _ 2 2 (by decide) (by decide), qba9 _ _ 2 (by decide)]
       have hb1 := wQ0 (wP (pS Q) 2) (wP (orK (pS T) (pS Q) 2) 2) (qo0 _ _) (qo0 _ _)
       rw [vx0 _ _ 2 2 (by decide) (by decide)] at hb1
       have hbe : bits .andNot .u64 ((wP (pS Q) 2 : Nat) : Int) ((wP (orK (pS T) (pS Q) 2) 2 : Nat) : Int) = bits .andNot .u64 ((wP (pS Q) 2 : Nat) : Int) ((wP (pS T) 2 : Nat) : Int) := by rw [vx0 _ _ 2 2 (by decide) (by decide)]
       have hnx := vad9 (pS T) (pS Q) 2 (by decide)
       generalize bits .andNot .u64 ((wP (pS Q) 2 : Nat) : Int) ((wP (pS T) 2 : Nat) : Int) = v at *
       cases hm : (b || addK (pS T) (pS Q) 2) with
       | true =>
        rw [hm] at b6
        have hm' : (b || addK (pS T) (pS Q) (2 + 1)) = true := by rw [hnx, ← Bool.or_assoc, hm]; rfl
        repeat' (first|refine nav ?_|(refine g0_ ?_; refine goD ?_)|(with_reducible refine gG ?_ ?_)|((with_reducible refine And.intro (fun h => ?_) (fun h => ?_)) <;> try (exfalso; omega))|(with_reducible refine andG ?_)|fail|simp (disch := (first|exact za0|fail)) only [push_cast, simprocAttr, b2, b4, b5, b6, b8, b14, b15, b22, hcs, hQc, hb0, htn2, htn3])
        refine xa0 (4 - (2 + 1)) (by omega) (by first|exact xb0|fail) ⟨2 + 1, by omega, rfl, by rw [wg0 (pS T) (pS Q) 2 0 (by decide) (by decide), wg0 (pS T) (pS Q) 2 1 (by decide) (by decide), wg0 (pS T) (pS Q) 2 3 (by decide) (by decide)], ?_⟩
        rw [hm']
        simp (disch := (first|exact za0|fail)) only [push_cast, simprocAttr, b2, b4, b5, b6, b8, b14, b15, b22, hcs, hQc, hb0, htn2, htn3]
       | false =>
        rw [hm] at b6
        have hm' : (b || addK (pS T) (pS Q) (2 + 1)) = !decide (v = 0) := by
         rw [hnx, ← Bool.or_assoc, hm, Bool.false_or]
         congr 1
         exact decide_eq_decide.2 hb1.symm
        repeat' (first|refine nav ?_|(refine g0_ ?_; refine goD ?_)|(with_reducible refine gG ?_ ?_)|((with_reducible refine And.intro (fun h => ?_) (fun h => ?_)) <;> try (exfalso; omega))|(with_reducible refine andG ?_)|fail|simp (disch := (first|exact za0|fail)) only [push_cast, simprocAttr, b2, b4, b5, b6, b8, b14, b15, b22, hcs, hQc, hb0, htn2, htn3, hbe])
        refine xa0 (4 - (2 + 1)) (by omega) (by first|exact xb0|fail) ⟨2 + 1, by omega, rfl, by rw [wg0 (pS T) (pS Q) 2 0 (by decide) (by decide), wg0 (pS T) (pS Q) 2 1 (by decide) (by decide), wg0 (pS T) (pS Q) 2 3 (by decide) (by decide)], ?_⟩
        rw [hm']
        simp (disch := (first|exact za0|fail)) only [push_cast, simprocAttr, b2, b4, b5, b6, b8, b14, b15, b22, hcs, hQc, hb0, htn2, htn3, hbe]
      ·obtain rfl : i = 3 := by omega
       have hb0 : bits .or .u64 ((wP (orK (pS T) (pS Q) 3) 3 : Nat) : Int) ((wP (pS Q) 3 : Nat) : Int) = ((wP (orK (pS T) (pS Q) (3 + 1)) 3 : Nat) : Int) := by
        rw [kM0 _ _ (qo0 _ _) (qo0 _ _), vx0 _ _ 3 3 (by decide) (by decide), qba9 _ _ 3 (by decide)]
       have hb1 := wQ0 (wP (pS Q) 3) (wP (orK (pS T) (pS Q) 3) 3) (qo0 _ _) (qo0 _ _)
       rw [vx0 _ _ 3 3 (by decide) (by decide)] at hb1
       have hbe : bits .andNot .u64 ((wP (pS Q) 3 : Nat) : Int) ((wP (orK (pS T) (pS Q) 3) 3 : Nat) : Int) = bits .andNot .u64 ((wP (pS Q) 3 : Nat) : Int) ((wP (pS T) 3 : Nat) : Int) := by rw [vx0 _ _ 3 3 (by decide) (by decide)]
       have hnx := vad9 (pS T) (pS Q) 3 (by decide)
       generalize bits .andNot .u64 ((wP (pS Q) 3 : Nat) : Int) ((wP (pS T) 3 : Nat) : Int) = v at *
       cases hm : (b || addK (pS T) (pS Q) 3) with
       | true =>
        rw [hm] at b6
        have hm' : (b || addK (pS T) (pS Q) (3 + 1)) = true := by rw [hnx, ← Bool.or_assoc, hm]; rfl
        repeat' (first|refine nav ?_|(refine g0_ ?_; refine goD ?_)|(with_reducible refine gG ?_ ?_)|((with_reducible refine And.intro (fun h => ?_) (fun h => ?_)) <;> try (exfalso; omega))|(with_reducible refine andG ?_)|fail|simp (disch := (first|exact za0|fail)) only [push_cast, simprocAttr, b2, b4, b5, b6, b8, b14, b15, b22, hcs, hQc, hb0, htn2, htn3])
        refine xa0 (4 - (3 + 1)) (by omega) (by first|exact xb0|fail) ⟨3 + 1, by omega, rfl, by rw [wg0 (pS T) (pS Q) 3 0 (by decide) (by decide), wg0 (pS T) (pS Q) 3 1 (by decide) (by decide), wg0 (pS T) (pS Q) 3 2 (by decide) (by decide)], ?_⟩
        rw [hm']
        simp (disch := (first|exact za0|fail)) only [push_cast, simprocAttr, b2, b4, b5, b6, b8, b14, b15, b22, hcs, hQc, hb0, htn2, htn3]
       | false =>
        rw [hm] at b6
        have hm' : (b || addK (pS T) (pS Q) (3 + 1)) = !decide (v = 0) := by
         rw [hnx, ← Bool.or_assoc, hm, Bool.false_or]
         congr 1
         exact decide_eq_decide.2 hb1.symm
        repeat' (first|refine nav ?_|(refine g0_ ?_; refine goD ?_)|(with_reducible refine gG ?_ ?_)|((with_reducible refine And.intro (fun h => ?_) (fun h => ?_)) <;> try (exfalso; omega))|(with_reducible refine andG ?_)|fail|simp (disch := (first|exact za0|fail)) only [push_cast, simprocAttr, b2, b4, b5, b6, b8, b14, b15, b22, hcs, hQc, hb0, htn2, htn3, hbe])
        refine xa0 (4 - (3 + 1)) (by omega) (by first|exact xb0|fail) ⟨3 + 1, by omega, rfl, by rw [wg0 (pS T) (pS Q) 3 0 (by decide) (by decide), wg0 (pS T) (pS Q) 3 1 (by decide) (by decide), wg0 (pS T) (pS Q) 3 2 (by decide) (by decide)], ?_⟩
        rw [hm']
        simp (disch := (first|exact za0|fail)) only [push_cast, simprocAttr, b2, b4, b5, b6, b8, b14, b15, b22, hcs, hQc, hb0, htn2, htn3, hbe]
      ·obtain rfl : i = 4 := by omega
       rw [hor] at *
       repeat' (first|refine nav ?_|(refine g0_ ?_; refine goD ?_)|(with_reducible refine gG ?_ ?_)|((with_reducible refine And.intro (fun h => ?_) (fun h => ?_)) <;> try (exfalso; omega))|(with_reducible refine andG ?_)|fail|simp (disch := (first|exact za0|fail)) only [push_cast, simprocAttr, b2, b4, b5, b6, b8, b14, b15, b22, vw0, xo0, wo0])
       refine kp0 (A - (a + 1)) 3 (by omega) (by first|exact xb0|fail) (by omega) (by simp) (by simp [Blk.below, idsE, idsL, AV.ids, hidR, hidS, hidA, xf0]) ⟨a + 1, U, (b || addK (pS T) (pS Q) 4), by omega, hUf, fun s h => (hmem s).2 (.inl (hST s h)), fun s h => ((hmem s).1 h).elim (hrT s) (hrQ s), ?_, ?_, rfl, rfl, ?_⟩
       ·intro h
        obtain ⟨h1, h2⟩ : b = false ∧ addK (pS T) (pS Q) 4 = false := by simpa using h
        have hsub : ∀ t ∈ Q, t ∈ T := by
         refine Classical.byContradiction fun q => ?_
         rw [hadd.2 q] at h2; cases h2
        obtain ⟨rfl, hcl⟩ := hcT h1
        refine ⟨hsame hsub, fun a' ha' t ht => ?_⟩
        by_cases hq2 : a' = a
        ·subst hq2; rw [hq] at ht; exact hsub t ht
        ·exact hcl a' (by omega) t ht
       ·intro h
        rcases (show b = true ∨ addK (pS T) (pS Q) 4 = true by simpa using h) with h|h
        ·have := hbT h
         have hle : T.length ≤ U.length := by
          by_cases hsub : ∀ t ∈ Q, t ∈ T
          ·rw [hsame hsub]; exact Nat.le_refl _
          ·exact Nat.le_of_lt (hlt hsub)
         omega
        ·have := hlt (hadd.1 h)
         have hle : S.length ≤ T.length := by
          cases hb' : b with
          | true => exact Nat.le_of_lt (hbT hb')
          | false => rw [(hcT hb').1]; exact Nat.le_refl _
         omega
       ·skip
        simp (disch := (first|exact za0|fail)) only [push_cast, simprocAttr, b2, b4, b5, b6, b8, b14, b15, b22, xi0, AV.ids, idsL]
    ·obtain rfl : A = a := by omega
     repeat' (first|refine nav ?_|(refine g0_ ?_; refine goD ?_)|(with_reducible refine gG ?_ ?_)|((with_reducible refine And.intro (fun h => ?_) (fun h => ?_)) <;> try (exfalso; omega))|(with_reducible refine andG ?_)|fail|simp (disch := (first|exact za0|fail)) only [push_cast, simprocAttr, b2, b4, b5, b6, b14, b15, vw0, xo0, wo0])
     cases hb : b with
     | true =>
      have := hbT hb
      refine xa0 (1000 - T.length) (by first|omega|(rw [if_pos rfl]; omega)) (by first|exact xb0|fail) ⟨T, true, hT, fun s h => hST s (h0S s h), hrT, fun h => (by cases h), rfl, rfl, ?_⟩
      rw [hb] at b6
      simp (disch := (first|exact za0|fail)) only [push_cast, simprocAttr, b2, b4, b5, b6]
     | false =>
      obtain ⟨rfl, hcl⟩ := hcT hb
      refine xa0 0 (by first|omega|(rw [if_pos rfl]; omega)) (by first|exact xb0|fail) ⟨T, false, hT, h0S, hrT, fun _ => hcl, rfl, rfl, ?_⟩
      rw [hb] at b6
      simp (disch := (first|exact za0|fail)) only [push_cast, simprocAttr, b2, b4, b5, b6]
end Go.Proofs
