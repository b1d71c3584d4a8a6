import Derived.Test.YtcoakjnmnommpaaGreatDoorZ15a
import Derived.Test.YtcoakjnmnommpaaGreatDoorZ6
import Derived.Test.YtcoakjnmnommpaaGreatDoorA36
import Derived.Test.YtcoakjnmnommpaaGreatDoorA9
namespace Go.Proofs
open Go Go.V Go.RowKit
set_option linter.unusedVariables false
set_option linter.unusedSimpArgs false
set_option maxHeartbeats 0
set_option maxRecDepth 100000
def wdT9 (A : Nat) (l : List RC) (K : List Nat) (st ac : List Int) : AV := nA A 1 (tmC A l K) (some K.length) 1 (intN (smL (natL st) K (natL st).length)) (some (smL (natL st) K (natL st).length).length) 1 (intN (smL (natL ac) K (natL ac).length)) (some (smL (natL ac) K (natL ac).length).length)
theorem qeh9 (A : Nat) (l : List RC) (c : Option Nat) (st : List Int) (cs : Option Nat) (ac : List Int) (ca : Option Nat) (hsz : SizeN 1 l 1 st 1 ac) (hok : OkNv A (rowsV l) st ac):
  PC Tryz.prog G0 9 [nA A 1 l c 1 st cs 1 ac ca] (.tup [wdT9 A l (kf0 A l st ac) st ac, .int .i64 0]) := by
 have hks := zbq9 hok
 change itF l.length (wD0 (nfOf (rowsV l) st ac) A (natL st)) (wD0 (nfOf (rowsV (xh0 A l)) ac st) A (natL ac)) = _ at hks
 rw [← hks]
 clear hks
 have hn := hok.n
 rw [qb0] at hn
 have hA1 := hok.a1
 have hA2 := hok.a2
 have hRl := we0 l
 have hg := fun s h => zm0 l s h
 have hidR : ∀ p, idsE p (xc0 l) = true := fun p => wc0 _ _
 have hidS : ∀ p, idsE p (ints st) = true := fun p => va0 _ _
 have hidA : ∀ p, idsE p (ints ac) = true := fun p => va0 _ _
 have hidB : ∀ p, idsE p (xc0 (xh0 A l)) = true := fun p => wc0 _ _
 have hst : intN (natL st) = st := ww0 fun x hx => (vc0 hok.st x hx).1
 have hac : intN (natL ac) = ac := ww0 fun x hx => (vc0 hok.ac x hx).1
 have hrev := zaE9 A 1 l c 1 st cs 1 ac ca hsz hok
 have hf1 := vdj9 A 1 l c 1 st cs 1 ac ca hsz hok 1 (natL st) cs (.inr rfl) (kE0 hok).1
 have hf2 := vdj9 A 1 (xh0 A l) (some l.length) 1 ac (some ac.length) 1 st (some st.length) (qbq9 hok hsz) (wba9 hok) 1 (natL ac) ca (.inr rfl) (kE0 (wba9 hok)).1
 rw [hst] at hf1
 rw [hac] at hf2
 have hNn : (nfOf (rowsV l) st ac).n = l.length := qb0 l
 have hNr : (nfOf (rowsV (xh0 A l)) ac st).n = l.length := by show (rowsV (xh0 A l)).length = _; rw [qb0, wi0]
 have hF1 : FiltF l.length (wD0 (nfOf (rowsV l) st ac) A (natL st)) := by rw [← hNn]; exact ⟨_, rfl⟩
 have hF2 : FiltF l.length (wD0 (nfOf (rowsV (xh0 A l)) ac st) A (natL ac)) := by rw [← hNr]; exact ⟨_, rfl⟩
 generalize wD0 (nfOf (rowsV l) st ac) A (natL st) = S1 at *
 generalize wD0 (nfOf (rowsV (xh0 A l)) ac st) A (natL ac) = S2 at *
 have hw := xde9 hF1 hF2
 have hKf := zde9 l.length S1 S2
 generalize hK : itF l.length S1 S2 = K at *
 have hand : ∀ i, i < 4 → bits .and .u64 ((wP (pS S1) i : Nat) : Int) ((wP (pS S2) i : Nat) : Int) = ((wP (pS K) i : Nat) : Int) := fun i hi => by
  rw [wai9 _ _ (qo0 _ _) (qo0 _ _), hw i hi]
 have hd0 := hand 0 (by decide)
 have hd1 := hand 1 (by decide)
 have hd2 := hand 2 (by decide)
 have hd3 := hand 3 (by decide)
 have hp1 : PS S1 = [.int .u64 (wP (pS S1) 0 : Nat), .int .u64 (wP (pS S1) 1 : Nat), .int .u64 (wP (pS S1) 2 : Nat), .int .u64 (wP (pS S1) 3 : Nat)] := rfl
 have hp2 : PS S2 = [.int .u64 (wP (pS S2) 0 : Nat), .int .u64 (wP (pS S2) 1 : Nat), .int .u64 (wP (pS S2) 2 : Nat), .int .u64 (wP (pS S2) 3 : Nat)] := rfl
 have hp3 : [AV.int .u64 (wP (pS K) 0 : Nat), .int .u64 (wP (pS K) 1 : Nat), .int .u64 (wP (pS K) 2 : Nat), .int .u64 (wP (pS K) 3 : Nat)] = PS K := rfl
 have htn2 : Int.toNat 2 = 2 := rfl
 have htn3 : Int.toNat 3 = 3 := rfl
 have hall : PC Tryz.prog G0 38 [.agg [.int .u64 (wP (pS K) 0 : Nat), .int .u64 (wP (pS K) 1 : Nat), .int .u64 (wP (pS K) 2 : Nat), .int .u64 (wP (pS K) 3 : Nat)]] (.fn 65 [.iptr [.int .u64 (wP (pS K) 0 : Nat), .int .u64 (wP (pS K) 1 : Nat), .int .u64 (wP (pS K) 2 : Nat), .int .u64 (wP (pS K) 3 : Nat)] 0]) := qdO9 (pS K)
 have hel : elemsP (pS K) = K := (xaO9 hKf).elems hn
 have hit : Iter Tryz.prog G0 65 [.iptr [.int .u64 (wP (pS K) 0 : Nat), .int .u64 (wP (pS K) 1 : Nat), .int .u64 (wP (pS K) 2 : Nat), .int .u64 (wP (pS K) 3 : Nat)] 0] (fun j => [.int .i64 (K.getD j 0 : Nat)]) K.length := by
  have h := zdO9 (pS K)
  rw [hel] at h
  have e : elX (pS K) = fun j => [.int .i64 (K.getD j 0 : Nat)] := by funext j; rw [elX, hel]
  rw [e] at h
  exact h
 have hKl := qK0 hKf
 have hKn : ∀ t ∈ K, t < l.length := fun t ht => hKf.lt ht
 have hrep : List.replicate l.length [AV.int .i64 0] = ints (numK K l.length 0) := by rw [vaY9]; rfl
 unfold wdT9 nA
 unfold nA at *
 generalize hRN : xc0 l = RN at *
 generalize xc0 (xh0 A l) = RB at *
 generalize hSSq : ints st = SS at *
 generalize hSFq : ints ac = SF at *
 refine vd0 2 103 [.cell 2 29, .tmp 3] Tryz.func9 rfl rfl rfl (by simp) ?_
 intro s ⟨a0, hz⟩
 clear hz
 repeat' (first|(first|refine nav ?_|(refine g0_ ?_; first|refine wa0 (dr := pcQ) (p := [0, 1, 1, 1]) [(26, 1), (27, 1), (28, 27), (30, 4), (31, 1), (32, 31)] [(6, none), (7, none), (6, some 6)] [(9, 10)] rfl rfl mixed (by kernel_rfl) ?_|refine wa0 (dr := allQ) (p := [0, 1, 1, 1]) [(26, 1), (27, 1), (28, 27), (30, 4), (31, 1), (32, 31)] [(6, none), (7, none), (6, some 6)] [(9, 10)] rfl rfl mixed (by kernel_rfl) ?_|refine goD ?_|refine kF0 5 rfl ?_))|(with_reducible refine gG ?_ ?_)|((with_reducible refine And.intro (fun h => ?_) (fun h => ?_)) <;> try (exfalso; omega))|(with_reducible refine andG ?_)|(first|(refine ⟨_, _, qa0 (hrev) (by (simp [idsL, idsE, AV.ids, hidR, hidS, hidA, hidB, xf0])) _, ?_⟩)|(refine ⟨_, qa0 (hrev) (by (simp [idsL, idsE, AV.ids, hidR, hidS, hidA, hidB, xf0])) _, ?_⟩)|(refine ⟨_, fun _ => qa0 (hrev) (by (simp [idsL, idsE, AV.ids, hidR, hidS, hidA, hidB, xf0])) _, ?_⟩)|(refine ⟨_, ⟨by (simp [idsL, idsE, AV.ids, hidR, hidS, hidA, hidB, xf0]), hf1⟩, ?_⟩)|(refine ⟨_, ⟨by (simp [idsL, idsE, AV.ids, hidR, hidS, hidA, hidB, xf0]), hf2⟩, ?_⟩)|(refine ⟨_, _, qa0 (hall) (by (simp [idsL, idsE, AV.ids, hidR, hidS, hidA, hidB, xf0])) _, ?_⟩)|(refine ⟨_, qa0 (hall) (by (simp [idsL, idsE, AV.ids, hidR, hidS, hidA, hidB, xf0])) _, ?_⟩)|(refine ⟨_, fun _ => qa0 (hall) (by (simp [idsL, idsE, AV.ids, hidR, hidS, hidA, hidB, xf0])) _, ?_⟩))|simp (disch := (first|exact za0|fail)) only [push_cast, simprocAttr, a0, hRl, hp1, hp2, hd0, hd1, hd2, hd3, htn2, htn3])
 refine wM0 (m := K.length) (k := 8) .normal (fun q => [.row 4 29 [[.int .i64 A, .sl 1 RN c, .sl 1 SS cs, .sl 1 SF ca]], .row 4 29 [[.int .i64 0, .sl 0 [] (some 0), .sl 0 [] (some 0), .sl 0 [] (some 0)]], .row 4 29 [[.int .i64 A, .sl 1 RB (some l.length), .sl 1 SF (some ac.length), .sl 1 SS (some st.length)]], .row 4 68 [[.int .u64 (wP (pS K) 0 : Nat), .int .u64 (wP (pS K) 1 : Nat), .int .u64 (wP (pS K) 2 : Nat), .int .u64 (wP (pS K) 3 : Nat)]], .row 4 68 [[.int .u64 (wP (pS S2) 0 : Nat), .int .u64 (wP (pS S2) 1 : Nat), .int .u64 (wP (pS S2) 2 : Nat), .int .u64 (wP (pS S2) 3 : Nat)]], .row 1 3 (ints (numK K l.length q)), .row 1 27 [[.own 5 l.length l.length (some l.length)]], .row 1 3 [[.int .i64 (q : Nat)]]]) rfl (by first|exact xb0|fail) ?_ ?_ (by kernel_rfl) hit rfl (by rw [← hrep]; rfl) (fun _ => rfl) (fun q => by simp [Blk.below, idsE, idsL, AV.ids, hidR, hidS, hidA, hidB]) (fun j => ⟨by simp [idsL, AV.ids], rfl⟩) (fun h => by cases h) (fun _ => rfl) rfl (fun q hq s1 hs1 => ?_) (fun h => by cases h) ?_
 ·simp (disch := (first|exact za0|fail)) only [push_cast, simprocAttr, a0, hRl, hp1, hp2, hd0, hd1, hd2, hd3, htn2, htn3]
 ·simp (disch := (first|exact za0|fail)) only [push_cast, simprocAttr, a0, hRl, hp1, hp2, hd0, hd1, hd2, hd3, htn2, htn3]
 ·have r8 := (qm0 hs1 8 rfl).trans (show _ = AV.ptr 6 0 0 1 from rfl)
  have r9 := (qm0 hs1 9 rfl).trans (show _ = AV.ptr 7 0 0 1 from rfl)
  have r52 : s1 52 = .int .i64 (K.getD q 0 : Nat) := (hs1 52).trans rfl
  clear hs1
  have hsn := hKn _ (qd0 (d := 0) hq)
  have hnl := kas9 K l.length q
  have hil : (ints (numK K l.length q)).length = l.length := by rw [ka0, hnl]
  have hset := waY9 (numK K l.length q) (K.getD q 0) q
  have hget := kc0 (numK K l.length q) (K.getD q 0) (by rw [hnl]; exact hsn)
  have hsucc : (numK K l.length q).set (K.getD q 0) q = numK K l.length (q + 1) := rfl
  rw [hsucc] at hset
  generalize K.getD q 0 = t at *
  repeat' (first|(first|refine nav ?_|(refine g0_ ?_; first|refine wa0 (dr := pcQ) (p := [0, 1, 1, 1]) [(26, 1), (27, 1), (28, 27), (30, 4), (31, 1), (32, 31)] [(6, none), (7, none), (6, some 6)] [(9, 10)] rfl rfl mixed (by kernel_rfl) ?_|refine wa0 (dr := allQ) (p := [0, 1, 1, 1]) [(26, 1), (27, 1), (28, 27), (30, 4), (31, 1), (32, 31)] [(6, none), (7, none), (6, some 6)] [(9, 10)] rfl rfl mixed (by kernel_rfl) ?_|refine goD ?_))|(with_reducible refine gG ?_ ?_)|((with_reducible refine And.intro (fun h => ?_) (fun h => ?_)) <;> try (exfalso; omega))|(with_reducible refine andG ?_)|fail|simp (disch := (first|exact za0|fail)) only [push_cast, simprocAttr, r8, r9, r52, hil, hget, hset])
  refine vaw9 ⟨by first|exact xb0|fail, wcO9 ?_⟩
  repeat' (first|(first|refine nav ?_|(refine g0_ ?_; first|refine wa0 (dr := pcQ) (p := [0, 1, 1, 1]) [(26, 1), (27, 1), (28, 27), (30, 4), (31, 1), (32, 31)] [(6, none), (7, none), (6, some 6)] [(9, 10)] rfl rfl mixed (by kernel_rfl) ?_|refine wa0 (dr := allQ) (p := [0, 1, 1, 1]) [(26, 1), (27, 1), (28, 27), (30, 4), (31, 1), (32, 31)] [(6, none), (7, none), (6, some 6)] [(9, 10)] rfl rfl mixed (by kernel_rfl) ?_|refine goD ?_))|(with_reducible refine gG ?_ ?_)|((with_reducible refine And.intro (fun h => ?_) (fun h => ?_)) <;> try (exfalso; omega))|(with_reducible refine andG ?_)|fail|simp (disch := (first|exact za0|fail)) only [push_cast, simprocAttr, r8, r9, r52, hil, hget, hset])
  all_goals exact hsn
 ·have hj : (if (vg0 Exit.normal).isSome = true then K.length + 1 else K.length) = K.length := rfl
  rw [hj]
  have hnl := kas9 K l.length K.length
  have hNr : ∀ p, idsE p (ints (numK K l.length K.length)) = true := fun p => va0 _ _
  have hNl : (ints (numK K l.length K.length)).length = l.length := by rw [ka0, hnl]
  have hNg : ∀ t, t ∈ K → t < l.length ∧ (ints (numK K l.length K.length)).getD t [] = [.int .i64 (K.idxOf t : Nat)] := fun t ht => by
   refine ⟨hKn t ht, ?_⟩
   have := kc0 (numK K l.length K.length) t (by rw [hnl]; exact hKn t ht)
   rw [this, qde9 (vq0 hKf) hKn t ht]
  generalize hNRq : ints (numK K l.length K.length) = NR at *
  have hp4 : [AV.int .u64 (wP (pS S2) 0 : Nat), .int .u64 (wP (pS S2) 1 : Nat), .int .u64 (wP (pS S2) 2 : Nat), .int .u64 (wP (pS S2) 3 : Nat)] = PS S2 := rfl
  clear hp1 hp2
  simp only [hp3, hp4] at *
  have hrl0 : (wd0 1 27 (fun _ => nils A) K.length).length = K.length := rf_len _ _ _ _
  have hput0 : ∀ X Y, (wd0 1 27 (fun _ => nils A) K.length ++ [X]).set K.length Y = wd0 1 27 (fun _ => nils A) K.length ++ [Y] := fun X Y => xbq9 _ _ X Y
  have hout0 : ∀ X, (wd0 1 27 (fun _ => nils A) K.length ++ [X])[K.length]? = some X := fun X => kaF9 _ _ X
  repeat' (first|(first|refine nav ?_|(refine g0_ ?_; first|refine wa0 (dr := pcQ) (p := [0, 1, 1, 1]) [(26, 1), (27, 1), (28, 27), (30, 4), (31, 1), (32, 31)] [(6, none), (7, none), (6, some 6)] [(9, 10)] rfl rfl mixed (by kernel_rfl) ?_|refine wa0 (dr := allQ) (p := [0, 1, 1, 1]) [(26, 1), (27, 1), (28, 27), (30, 4), (31, 1), (32, 31)] [(6, none), (7, none), (6, some 6)] [(9, 10)] rfl rfl mixed (by kernel_rfl) ?_|refine goD ?_))|(with_reducible refine gG ?_ ?_)|((with_reducible refine And.intro (fun h => ?_) (fun h => ?_)) <;> try (exfalso; omega))|(with_reducible refine andG ?_)|(first|(refine ⟨_, _, qcE9 A K.length (by omega) (by omega) _ _ _ _ _ _ _ _ _, ?_⟩)|(refine ⟨_, qcE9 A K.length (by omega) (by omega) _ _ _ _ _ _ _ _ _, ?_⟩)|(refine ⟨_, fun _ => qcE9 A K.length (by omega) (by omega) _ _ _ _ _ _ _ _ _, ?_⟩)|(refine ⟨_, _, qa0 (hall) (by (simp [idsL, idsE, AV.ids, hidR, hidS, hidA, hidB, hNr, xf0])) _, ?_⟩)|(refine ⟨_, qa0 (hall) (by (simp [idsL, idsE, AV.ids, hidR, hidS, hidA, hidB, hNr, xf0])) _, ?_⟩)|(refine ⟨_, fun _ => qa0 (hall) (by (simp [idsL, idsE, AV.ids, hidR, hidS, hidA, hidB, hNr, xf0])) _, ?_⟩))|simp (disch := (first|exact za0|fail)) only [push_cast, simprocAttr, a0, hRl, hrl0, hput0, hout0])
  have hPSl : ∀ p, idsL p (PS K) = true := fun p => xf0 p K
  have hPS2 : ∀ p, idsL p (PS S2) = true := fun p => xf0 p S2
  have hel2 : ∀ q, wd0 1 27 (trR l K A q 0) K.length = wd0 1 27 (trR l K A q 0) K.length := fun _ => rfl
  have hHl : ∀ q a X, ((.row 4 29 [[.int .i64 A, .sl 1 RN c, .sl 1 SS cs, .sl 1 SF ca]] :: .row 4 29 [[.int .i64 0, .sl 0 [] (some 0), .sl 0 [] (some 0), .sl 0 [] (some 0)]] :: .row 4 29 [[.int .i64 A, .sl 1 RB (some l.length), .sl 1 SF (some ac.length), .sl 1 SS (some st.length)]] :: .row 4 68 [PS K] :: .row 4 68 [PS S2] :: .row 1 3 NR :: .row 1 27 [[.own 5 l.length l.length (some l.length)]] :: .row 1 3 [[.int .i64 (K.length : Nat)]] :: .row 1 40 [[.fn 39 [.ptr 3 0 0 1, .ptr 6 0 0 1]]] :: .row 4 29 [[.int .i64 A, .own 10 K.length K.length (some K.length), .sl 0 [] (some 0), .sl 0 [] (some 0)]] :: .row 1 44 (ownR 12 A (some A) K.length) :: .row 4 29 [[.int .i64 A, .own 10 K.length K.length (some K.length), .sl 0 [] (some 0), .sl 0 [] (some 0)]] :: (wd0 1 27 (trR l K A q a) K.length ++ [X]))).length = K.length + 13 := fun q a X => by simp [rf_len]
  have hbel : ∀ q, ((.row 4 29 [[.int .i64 A, .sl 1 RN c, .sl 1 SS cs, .sl 1 SF ca]] :: .row 4 29 [[.int .i64 0, .sl 0 [] (some 0), .sl 0 [] (some 0), .sl 0 [] (some 0)]] :: .row 4 29 [[.int .i64 A, .sl 1 RB (some l.length), .sl 1 SF (some ac.length), .sl 1 SS (some st.length)]] :: .row 4 68 [PS K] :: .row 4 68 [PS S2] :: .row 1 3 NR :: .row 1 27 [[.own 5 l.length l.length (some l.length)]] :: .row 1 3 [[.int .i64 (K.length : Nat)]] :: .row 1 40 [[.fn 39 [.ptr 3 0 0 1, .ptr 6 0 0 1]]] :: .row 4 29 [[.int .i64 A, .own 10 K.length K.length (some K.length), .sl 0 [] (some 0), .sl 0 [] (some 0)]] :: .row 1 44 (ownR 12 A (some A) K.length) :: .row 4 29 [[.int .i64 A, .own 10 K.length K.length (some K.length), .sl 0 [] (some 0), .sl 0 [] (some 0)]] :: (wd0 1 27 (trR l K A q 0) K.length ++ [(.row 4 29 [[.int .i64 A, .own 10 K.length K.length (some K.length), .sl 0 [] (some 0), .sl 0 [] (some 0)]])]))).all (Blk.below (K.length + 13)) = true := fun q => by
   have h1 : (wd0 1 27 (trR l K A q 0) K.length).all (Blk.below (K.length + 13)) = true := xcT9 fun s _ => xcI9 s _
   have h2 : idsE (fun b => decide (b < K.length + 13)) (ownR 12 A (some A) K.length) = true := zcT9 _ (by omega)
   simp [Blk.below, idsE, idsL, AV.ids, hidR, hidS, hidA, hidB, hNr, hPSl, hPS2, h2, List.all_append, h1]
   try omega
  refine wM0 (m := K.length) (k := K.length + 13) .normal (fun q => (.row 4 29 [[.int .i64 A, .sl 1 RN c, .sl 1 SS cs, .sl 1 SF ca]] :: .row 4 29 [[.int .i64 0, .sl 0 [] (some 0), .sl 0 [] (some 0), .sl 0 [] (some 0)]] :: .row 4 29 [[.int .i64 A, .sl 1 RB (some l.length), .sl 1 SF (some ac.length), .sl 1 SS (some st.length)]] :: .row 4 68 [PS K] :: .row 4 68 [PS S2] :: .row 1 3 NR :: .row 1 27 [[.own 5 l.length l.length (some l.length)]] :: .row 1 3 [[.int .i64 (K.length : Nat)]] :: .row 1 40 [[.fn 39 [.ptr 3 0 0 1, .ptr 6 0 0 1]]] :: .row 4 29 [[.int .i64 A, .own 10 K.length K.length (some K.length), .sl 0 [] (some 0), .sl 0 [] (some 0)]] :: .row 1 44 (ownR 12 A (some A) K.length) :: .row 4 29 [[.int .i64 A, .own 10 K.length K.length (some K.length), .sl 0 [] (some 0), .sl 0 [] (some 0)]] :: (wd0 1 27 (trR l K A q 0) K.length ++ [(.row 4 29 [[.int .i64 A, .own 10 K.length K.length (some K.length), .sl 0 [] (some 0), .sl 0 [] (some 0)]])]))) rfl (by first|exact xb0|fail) ?_ ?_ (by kernel_rfl) hit (by simp [rf_len]) (by simp only [trR_zero]) (fun q => hHl q 0 _) hbel (fun j => ⟨by simp [idsL, AV.ids], rfl⟩) (fun h => by cases h) (fun _ => rfl) rfl (fun q hq s1 hs1 => ?_) (fun h => by cases h) ?_
  ·simp (disch := (first|exact za0|fail)) only [push_cast, simprocAttr, a0, hRl, hrl0, hput0, hout0]
  ·simp (disch := (first|exact za0|fail)) only [push_cast, simprocAttr, a0, hRl, hrl0, hput0, hout0]
  ·have r1 := (qm0 hs1 1 rfl).trans (show _ = AV.ptr 0 0 0 1 by simp [updS, xi0, AV.ids])
   have r2 := (qm0 hs1 2 rfl).trans (show _ = AV.ptr 1 0 0 1 by simp [updS, xi0, AV.ids])
   have r6 := (qm0 hs1 6 rfl).trans (show _ = AV.ptr 3 0 0 1 by simp [updS, xi0, AV.ids])
   have r8 := (qm0 hs1 8 rfl).trans (show _ = AV.ptr 6 0 0 1 by simp [updS, xi0, AV.ids])
   have r12 := (qm0 hs1 12 rfl).trans (show _ = AV.ptr 8 0 0 1 by simp [updS, xi0, AV.ids])
   have r13 := (qm0 hs1 13 rfl).trans (show _ = AV.ptr (K.length + 12) 0 0 1 by simp [updS, xi0, AV.ids])
   have r66 : s1 66 = .int .i64 (K.getD q 0 : Nat) := (hs1 66).trans rfl
   clear hs1
   have hmem := qd0 (d := 0) hq
   have hsn := hKn _ hmem
   obtain ⟨_, hNt⟩ := hNg _ hmem
   rw [vH0 (vq0 hKf) hq] at hNt
   have e1 := hg _ hsn
   have hrow := hok.row hsn
   have hls := fun b (hb : b < A) => hok.lst hsn hb
   have hset := fun a => zdE9 (l := l) (K := K) (A := A) (q := q) (a := a)
   have hsm : ∀ b, smC l K q b = smL (natL (lstC l (K.getD q 0) b).1) K (natL (lstC l (K.getD q 0) b).1).length := fun b => rfl
   generalize K.getD q 0 = t at *
   unfold lstC at hls hsm
   generalize hr : l.getD t ([], none) = r at *
   unfold rC at e1
   have hrl2 := zc0 r.1
   rw [hrow] at hrl2
   have e2 := fun a h => zh0 r.1 a h
   repeat' (first|(first|refine nav ?_|(refine g0_ ?_; first|refine wa0 (dr := pcQ) (p := [0, 1, 1, 1]) [(26, 1), (27, 1), (28, 27), (30, 4), (31, 1), (32, 31)] [(6, none), (7, none), (6, some 6)] [(9, 10)] rfl rfl mixed (by kernel_rfl) ?_|refine wa0 (dr := allQ) (p := [0, 1, 1, 1]) [(26, 1), (27, 1), (28, 27), (30, 4), (31, 1), (32, 31)] [(6, none), (7, none), (6, some 6)] [(9, 10)] rfl rfl mixed (by kernel_rfl) ?_|refine goD ?_))|(with_reducible refine gG ?_ ?_)|((with_reducible refine And.intro (fun h => ?_) (fun h => ?_)) <;> try (exfalso; omega))|(with_reducible refine andG ?_)|fail|simp (disch := (first|exact za0|fail)) only [push_cast, simprocAttr, r1, r2, r6, r8, r12, r13, r66, e1, hRl, hrl2, hrow])
   refine vaw9 ⟨by first|exact xb0|fail, wcO9 ?_⟩
   repeat' (first|(first|refine nav ?_|(refine g0_ ?_; first|refine wa0 (dr := pcQ) (p := [0, 1, 1, 1]) [(26, 1), (27, 1), (28, 27), (30, 4), (31, 1), (32, 31)] [(6, none), (7, none), (6, some 6)] [(9, 10)] rfl rfl mixed (by kernel_rfl) ?_|refine wa0 (dr := allQ) (p := [0, 1, 1, 1]) [(26, 1), (27, 1), (28, 27), (30, 4), (31, 1), (32, 31)] [(6, none), (7, none), (6, some 6)] [(9, 10)] rfl rfl mixed (by kernel_rfl) ?_|refine goD ?_))|(with_reducible refine gG ?_ ?_)|((with_reducible refine And.intro (fun h => ?_) (fun h => ?_)) <;> try (exfalso; omega))|(with_reducible refine andG ?_)|fail|simp (disch := (first|exact za0|fail)) only [push_cast, simprocAttr, r1, r2, r6, r8, r12, r13, r66, e1, hRl, hrl2, hrow])
   refine go_loop rfl (fun mz s' H' => ∃ a : Nat, a ≤ A ∧ mz = A - a ∧ H' = (.row 4 29 [[.int .i64 A, .sl 1 RN c, .sl 1 SS cs, .sl 1 SF ca]] :: .row 4 29 [[.int .i64 0, .sl 0 [] (some 0), .sl 0 [] (some 0), .sl 0 [] (some 0)]] :: .row 4 29 [[.int .i64 A, .sl 1 RB (some l.length), .sl 1 SF (some ac.length), .sl 1 SS (some st.length)]] :: .row 4 68 [PS K] :: .row 4 68 [PS S2] :: .row 1 3 NR :: .row 1 27 [[.own 5 l.length l.length (some l.length)]] :: .row 1 3 [[.int .i64 (K.length : Nat)]] :: .row 1 40 [[.fn 39 [.ptr 3 0 0 1, .ptr 6 0 0 1]]] :: .row 4 29 [[.int .i64 A, .own 10 K.length K.length (some K.length), .sl 0 [] (some 0), .sl 0 [] (some 0)]] :: .row 1 44 (ownR 12 A (some A) K.length) :: .row 4 29 [[.int .i64 A, .own 10 K.length K.length (some K.length), .sl 0 [] (some 0), .sl 0 [] (some 0)]] :: (wd0 1 27 (trR l K A q a) K.length ++ [(.row 4 29 [[.int .i64 A, .own 10 K.length K.length (some K.length), .sl 0 [] (some 0), .sl 0 [] (some 0)]])])) ∧ s' 1 = .ptr 0 0 0 1 ∧ s' 2 = .ptr 1 0 0 1 ∧ s' 6 = .ptr 3 0 0 1 ∧ s' 8 = .ptr 6 0 0 1 ∧ s' 12 = .ptr 8 0 0 1 ∧ s' 13 = .ptr (K.length + 12) 0 0 1 ∧ s' 14 = .int .i64 t ∧ s' 71 = .sl 1 (rowL r.1) r.2 ∧ s' 72 = .int .i64 A ∧ s' 73 = .int .i64 a) (m := A) (by first|exact xb0|fail) (Weak.refl _ _) ⟨0, by omega, by omega, rfl, ?_⟩ ?_
   ·simp (disch := (first|exact za0|fail)) only [push_cast, simprocAttr, r1, r2, r6, r8, r12, r13, r66, e1, hRl, hrl2, hrow]
   ·clear r1 r2 r6 r8 r12 r13 r66
    rintro mz s' H' ⟨a, ha, rfl, rfl, b1, b2, b6, b8, b12, b13, b14, b71, b72, b73⟩
    rcases Nat.lt_or_ge a A with hla|hga
    ·have e3 := e2 a (by omega)
     have hri := hls a hla
     have hset := hset a
     have hsm := hsm a
     generalize hx : r.1.getD a ([], none) = x at *
     unfold lC at e3
     have hxr := vc0 hri
     have hxl := xn0 hri
     have hxn : intN (natL x.1) = x.1 := ww0 fun y hy => (hxr y hy).1
     have hid2 : ∀ p, idsE p (ints x.1) = true := fun p => va0 _ _
     have hcl0 := kdj9 (zr := 1) (zs := 1) (za := 1) (zb := 1) (zt := 1) (zu := 1) (A := A) (c := c) (cs := cs) (ca := ca) (cb := some l.length) (ct := some ac.length) (cu := some st.length) hidR hidS hidA hidB hidA hidS K S2 NR l.length hNl hNr hNg 1 (natL x.1) x.2 (.inr rfl) (by rw [natL, List.length_map]; omega) (fun y hy => by obtain ⟨z, hz, rfl⟩ := List.mem_map.1 hy; have := hxr z hz; omega)
     rw [hxn, ← hsm] at hcl0
     have hcl := wbG9 hcl0 (Blk.row 1 3 [[.int .i64 (K.length : Nat)]] :: Blk.row 1 40 [[.fn 39 [.ptr 3 0 0 1, .ptr 6 0 0 1]]] :: Blk.row 4 29 [[.int .i64 A, .own 10 K.length K.length (some K.length), .sl 0 [] (some 0), .sl 0 [] (some 0)]] :: Blk.row 1 44 (ownR 12 A (some A) K.length) :: Blk.row 4 29 [[.int .i64 A, .own 10 K.length K.length (some K.length), .sl 0 [] (some 0), .sl 0 [] (some 0)]] :: (wd0 1 27 (trR l K A q a) K.length ++ [Blk.row 4 29 [[.int .i64 A, .own 10 K.length K.length (some K.length), .sl 0 [] (some 0), .sl 0 [] (some 0)]]])) rfl (by simp [hT, idsL, AV.ids, hid2]) (by simp [hT, Blk.below, idsE, idsL, AV.ids, hidR, hidS, hidA, hidB, hNr, hPSl, hPS2])
     clear hcl0
     have hR1 : (wd0 1 27 (trR l K A q a) K.length ++ [Blk.row 4 29 [[.int .i64 A, .own 10 K.length K.length (some K.length), .sl 0 [] (some 0), .sl 0 [] (some 0)]]])[q]? = some (.row 1 27 (trR l K A q a q)) := qaz9 _ hq
     have hR2 : (wd0 1 27 (trR l K A q a) K.length ++ [Blk.row 4 29 [[.int .i64 A, .own 10 K.length K.length (some K.length), .sl 0 [] (some 0), .sl 0 [] (some 0)]]])[K.length]? = some (Blk.row 4 29 [[.int .i64 A, .own 10 K.length K.length (some K.length), .sl 0 [] (some 0), .sl 0 [] (some 0)]]) := kaF9 _ _ _
     have hR3 : ∀ es, (wd0 1 27 (trR l K A q a) K.length ++ [Blk.row 4 29 [[.int .i64 A, .own 10 K.length K.length (some K.length), .sl 0 [] (some 0), .sl 0 [] (some 0)]]]).set q (.row 1 27 es) = wd0 1 27 (updF (trR l K A q a) q es) K.length ++ [Blk.row 4 29 [[.int .i64 A, .own 10 K.length K.length (some K.length), .sl 0 [] (some 0), .sl 0 [] (some 0)]]] := fun es => zaX9 es _ hq
     have hR4 := zbC9 (l := l) (K := K) (A := A) (q := q) (a := a) q
     have hR6 := xdE9 (l := l) (K := K) (q := q) hla
     have hR5 := wdE9 (l := l) (K := K) (A := A) (q := q) (a := a) K.length
     have hOl := wA0 12 A (some A) K.length
     have hOg := kay9 (b0 := 12) (I := A) (N := K.length) (k := q) (some A) hq
     have hrfl := vaF9 (trR l K A q a) K.length (.row 4 29 [[.int .i64 A, .own 10 K.length K.length (some K.length), .sl 0 [] (some 0), .sl 0 [] (some 0)]])
     have hrl3 : (wd0 1 27 (trR l K A q a) K.length).length = K.length := rf_len _ _ _ _
     change qe0 _ _ _ _ (.row 4 29 [[.int .i64 A, .sl 1 RN c, .sl 1 SS cs, .sl 1 SF ca]] :: .row 4 29 [[.int .i64 0, .sl 0 [] (some 0), .sl 0 [] (some 0), .sl 0 [] (some 0)]] :: .row 4 29 [[.int .i64 A, .sl 1 RB (some l.length), .sl 1 SF (some ac.length), .sl 1 SS (some st.length)]] :: .row 4 68 [PS K] :: .row 4 68 [PS S2] :: .row 1 3 NR :: .row 1 27 [[.own 5 l.length l.length (some l.length)]] :: .row 1 3 [[.int .i64 (K.length : Nat)]] :: .row 1 40 [[.fn 39 [.ptr 3 0 0 1, .ptr 6 0 0 1]]] :: .row 4 29 [[.int .i64 A, .own 10 K.length K.length (some K.length), .sl 0 [] (some 0), .sl 0 [] (some 0)]] :: .row 1 44 (ownR 12 A (some A) K.length) :: .row 4 29 [[.int .i64 A, .own 10 K.length K.length (some K.length), .sl 0 [] (some 0), .sl 0 [] (some 0)]] :: (wd0 1 27 (trR l K A q a) K.length ++ [(.row 4 29 [[.int .i64 A, .own 10 K.length K.length (some K.length), .sl 0 [] (some 0), .sl 0 [] (some 0)]])])) _ (.row 4 29 [[.int .i64 A, .sl 1 RN c, .sl 1 SS cs, .sl 1 SF ca]] :: .row 4 29 [[.int .i64 0, .sl 0 [] (some 0), .sl 0 [] (some 0), .sl 0 [] (some 0)]] :: .row 4 29 [[.int .i64 A, .sl 1 RB (some l.length), .sl 1 SF (some ac.length), .sl 1 SS (some st.length)]] :: .row 4 68 [PS K] :: .row 4 68 [PS S2] :: .row 1 3 NR :: .row 1 27 [[.own 5 l.length l.length (some l.length)]] :: .row 1 3 [[.int .i64 (K.length : Nat)]] :: .row 1 40 [[.fn 39 [.ptr 3 0 0 1, .ptr 6 0 0 1]]] :: .row 4 29 [[.int .i64 A, .own 10 K.length K.length (some K.length), .sl 0 [] (some 0), .sl 0 [] (some 0)]] :: .row 1 44 (ownR 12 A (some A) K.length) :: .row 4 29 [[.int .i64 A, .own 10 K.length K.length (some K.length), .sl 0 [] (some 0), .sl 0 [] (some 0)]] :: (wd0 1 27 (trR l K A q a) K.length ++ [(.row 4 29 [[.int .i64 A, .own 10 K.length K.length (some K.length), .sl 0 [] (some 0), .sl 0 [] (some 0)]])])) at hcl
     repeat' (first|(first|refine nav ?_|(refine g0_ ?_; first|refine wa0 (dr := pcQ) (p := [0, 1, 1, 1]) [(26, 1), (27, 1), (28, 27), (30, 4), (31, 1), (32, 31)] [(6, none), (7, none), (6, some 6)] [(9, 10)] rfl rfl mixed (by kernel_rfl) ?_|refine wa0 (dr := allQ) (p := [0, 1, 1, 1]) [(26, 1), (27, 1), (28, 27), (30, 4), (31, 1), (32, 31)] [(6, none), (7, none), (6, some 6)] [(9, 10)] rfl rfl mixed (by kernel_rfl) ?_|refine goD ?_))|(with_reducible refine gG ?_ ?_)|((with_reducible refine And.intro (fun h => ?_) (fun h => ?_)) <;> try (exfalso; omega))|(with_reducible refine andG ?_)|(first|(refine ⟨_, _, hcl, ?_⟩)|(refine ⟨_, hcl, ?_⟩)|(refine ⟨_, fun _ => hcl, ?_⟩))|simp (disch := (first|exact za0|fail)) only [push_cast, simprocAttr, b1, b2, b6, b8, b12, b13, b14, b71, b72, b73, e3, hrl2, hNt, hNl, hR1, hR2, hR4, hR6, hOl, hOg, hrl3, hrfl])
     refine xa0 (A - (a + 1)) (by omega) (by first|exact xb0|fail) ⟨a + 1, by omega, rfl, by rw [hset, hR3, hR5], ?_⟩
     simp (disch := (first|exact za0|fail)) only [push_cast, simprocAttr, b1, b2, b6, b8, b12, b13, b14, b71, b72, b73, e3, hrl2, hNt, hNl, hR1, hR2, hR4, hR6, hOl, hOg, hrl3, hrfl]
    ·obtain rfl : A = a := by omega
     have hnx := wde9 (l := l) (K := K) (A := A) (q := q) K.length
     rw [hnx]
     repeat' (first|(first|refine nav ?_|(refine g0_ ?_; first|refine wa0 (dr := pcQ) (p := [0, 1, 1, 1]) [(26, 1), (27, 1), (28, 27), (30, 4), (31, 1), (32, 31)] [(6, none), (7, none), (6, some 6)] [(9, 10)] rfl rfl mixed (by kernel_rfl) ?_|refine wa0 (dr := allQ) (p := [0, 1, 1, 1]) [(26, 1), (27, 1), (28, 27), (30, 4), (31, 1), (32, 31)] [(6, none), (7, none), (6, some 6)] [(9, 10)] rfl rfl mixed (by kernel_rfl) ?_|refine goD ?_))|(with_reducible refine gG ?_ ?_)|((with_reducible refine And.intro (fun h => ?_) (fun h => ?_)) <;> try (exfalso; omega))|(with_reducible refine andG ?_)|(first|(refine ⟨_, _, hcl, ?_⟩)|(refine ⟨_, hcl, ?_⟩)|(refine ⟨_, fun _ => hcl, ?_⟩))|simp (disch := (first|exact za0|fail)) only [push_cast, simprocAttr, b1, b2, b6, b8, b12, b13, b14, b71, b72, b73])
     rw [List.take_of_length_le (by rw [vaF9]; exact Nat.le_refl _)]
  ·rw [hj]
   have hout1 : ∀ X, (wd0 1 27 (trR l K A K.length 0) K.length ++ [X])[K.length]? = some X := fun X => kaF9 _ _ X
   have hput1 : ∀ X Y, (wd0 1 27 (trR l K A K.length 0) K.length ++ [X]).set K.length Y = wd0 1 27 (trR l K A K.length 0) K.length ++ [Y] := fun X Y => xbq9 _ _ X Y
   have hlen1 : ∀ X, (wd0 1 27 (trR l K A K.length 0) K.length ++ [X]).length = K.length + 1 := fun X => vaF9 _ _ X
   have hcl0 := fun (L : List Nat) cl (hL : L.length ≤ 256) hL2 => kdj9 (zr := 1) (zs := 1) (za := 1) (zb := 1) (zt := 1) (zu := 1) (A := A) (c := c) (cs := cs) (ca := ca) (cb := some l.length) (ct := some ac.length) (cu := some st.length) hidR hidS hidA hidB hidA hidS K S2 NR l.length hNl hNr hNg 1 L cl (.inr rfl) hL hL2
   have hcl := fun (L : List Nat) cl (hL : L.length ≤ 256) hL2 => wbG9 (hcl0 L cl hL hL2) (Blk.row 1 3 [[.int .i64 (K.length : Nat)]] :: Blk.row 1 40 [[.fn 39 [.ptr 3 0 0 1, .ptr 6 0 0 1]]] :: Blk.row 4 29 [[.int .i64 A, .own 10 K.length K.length (some K.length), .sl 0 [] (some 0), .sl 0 [] (some 0)]] :: Blk.row 1 44 (ownR 12 A (some A) K.length) :: Blk.row 4 29 [[.int .i64 A, .own 10 K.length K.length (some K.length), .sl 0 [] (some 0), .sl 0 [] (some 0)]] :: (wd0 1 27 (trR l K A K.length 0) K.length ++ [Blk.row 4 29 [[.int .i64 A, .own 10 K.length K.length (some K.length), .sl 0 [] (some 0), .sl 0 [] (some 0)]]])) rfl (by simp [hT, idsL, AV.ids, va0]) (by simp [hT, Blk.below, idsE, idsL, AV.ids, hidR, hidS, hidA, hidB, hNr, hPSl, hPS2])
   clear hcl0
   have hsr := fun x hx => vc0 hok.st x hx
   have har := fun x hx => vc0 hok.ac x hx
   rw [qb0] at hsr har
   have hsl := xn0 hok.st
   have hal := xn0 hok.ac
   rw [qb0] at hsl hal
   have hc1 := hcl (natL st) cs (by rw [natL, List.length_map]; omega) (fun y hy => by obtain ⟨z, hz, rfl⟩ := List.mem_map.1 hy; have := hsr z hz; omega)
   have hc2 := hcl (natL ac) ca (by rw [natL, List.length_map]; omega) (fun y hy => by obtain ⟨z, hz, rfl⟩ := List.mem_map.1 hy; have := har z hz; omega)
   rw [hst, hSSq] at hc1
   rw [hac, hSFq] at hc2
   clear hcl
   change qe0 _ _ _ _ (.row 4 29 [[.int .i64 A, .sl 1 RN c, .sl 1 SS cs, .sl 1 SF ca]] :: .row 4 29 [[.int .i64 0, .sl 0 [] (some 0), .sl 0 [] (some 0), .sl 0 [] (some 0)]] :: .row 4 29 [[.int .i64 A, .sl 1 RB (some l.length), .sl 1 SF (some ac.length), .sl 1 SS (some st.length)]] :: .row 4 68 [PS K] :: .row 4 68 [PS S2] :: .row 1 3 NR :: .row 1 27 [[.own 5 l.length l.length (some l.length)]] :: .row 1 3 [[.int .i64 (K.length : Nat)]] :: .row 1 40 [[.fn 39 [.ptr 3 0 0 1, .ptr 6 0 0 1]]] :: .row 4 29 [[.int .i64 A, .own 10 K.length K.length (some K.length), .sl 0 [] (some 0), .sl 0 [] (some 0)]] :: .row 1 44 (ownR 12 A (some A) K.length) :: .row 4 29 [[.int .i64 A, .own 10 K.length K.length (some K.length), .sl 0 [] (some 0), .sl 0 [] (some 0)]] :: (wd0 1 27 (trR l K A K.length 0) K.length ++ [(.row 4 29 [[.int .i64 A, .own 10 K.length K.length (some K.length), .sl 0 [] (some 0), .sl 0 [] (some 0)]])])) _ (.row 4 29 [[.int .i64 A, .sl 1 RN c, .sl 1 SS cs, .sl 1 SF ca]] :: .row 4 29 [[.int .i64 0, .sl 0 [] (some 0), .sl 0 [] (some 0), .sl 0 [] (some 0)]] :: .row 4 29 [[.int .i64 A, .sl 1 RB (some l.length), .sl 1 SF (some ac.length), .sl 1 SS (some st.length)]] :: .row 4 68 [PS K] :: .row 4 68 [PS S2] :: .row 1 3 NR :: .row 1 27 [[.own 5 l.length l.length (some l.length)]] :: .row 1 3 [[.int .i64 (K.length : Nat)]] :: .row 1 40 [[.fn 39 [.ptr 3 0 0 1, .ptr 6 0 0 1]]] :: .row 4 29 [[.int .i64 A, .own 10 K.length K.length (some K.length), .sl 0 [] (some 0), .sl 0 [] (some 0)]] :: .row 1 44 (ownR 12 A (some A) K.length) :: .row 4 29 [[.int .i64 A, .own 10 K.length K.length (some K.length), .sl 0 [] (some 0), .sl 0 [] (some 0)]] :: (wd0 1 27 (trR l K A K.length 0) K.length ++ [(.row 4 29 [[.int .i64 A, .own 10 K.length K.length (some K.length), .sl 0 [] (some 0), .sl 0 [] (some 0)]])])) at hc1
   change qe0 _ _ _ _ (.row 4 29 [[.int .i64 A, .sl 1 RN c, .sl 1 SS cs, .sl 1 SF ca]] :: .row 4 29 [[.int .i64 0, .sl 0 [] (some 0), .sl 0 [] (some 0), .sl 0 [] (some 0)]] :: .row 4 29 [[.int .i64 A, .sl 1 RB (some l.length), .sl 1 SF (some ac.length), .sl 1 SS (some st.length)]] :: .row 4 68 [PS K] :: .row 4 68 [PS S2] :: .row 1 3 NR :: .row 1 27 [[.own 5 l.length l.length (some l.length)]] :: .row 1 3 [[.int .i64 (K.length : Nat)]] :: .row 1 40 [[.fn 39 [.ptr 3 0 0 1, .ptr 6 0 0 1]]] :: .row 4 29 [[.int .i64 A, .own 10 K.length K.length (some K.length), .sl 0 [] (some 0), .sl 0 [] (some 0)]] :: .row 1 44 (ownR 12 A (some A) K.length) :: .row 4 29 [[.int .i64 A, .own 10 K.length K.length (some K.length), .sl 0 [] (some 0), .sl 0 [] (some 0)]] :: (wd0 1 27 (trR l K A K.length 0) K.length ++ [(.row 4 29 [[.int .i64 A, .own 10 K.length K.length (some K.length), .sl 0 [] (some 0), .sl 0 [] (some 0)]])])) _ (.row 4 29 [[.int .i64 A, .sl 1 RN c, .sl 1 SS cs, .sl 1 SF ca]] :: .row 4 29 [[.int .i64 0, .sl 0 [] (some 0), .sl 0 [] (some 0), .sl 0 [] (some 0)]] :: .row 4 29 [[.int .i64 A, .sl 1 RB (some l.length), .sl 1 SF (some ac.length), .sl 1 SS (some st.length)]] :: .row 4 68 [PS K] :: .row 4 68 [PS S2] :: .row 1 3 NR :: .row 1 27 [[.own 5 l.length l.length (some l.length)]] :: .row 1 3 [[.int .i64 (K.length : Nat)]] :: .row 1 40 [[.fn 39 [.ptr 3 0 0 1, .ptr 6 0 0 1]]] :: .row 4 29 [[.int .i64 A, .own 10 K.length K.length (some K.length), .sl 0 [] (some 0), .sl 0 [] (some 0)]] :: .row 1 44 (ownR 12 A (some A) K.length) :: .row 4 29 [[.int .i64 A, .own 10 K.length K.length (some K.length), .sl 0 [] (some 0), .sl 0 [] (some 0)]] :: (wd0 1 27 (trR l K A K.length 0) K.length ++ [(.row 4 29 [[.int .i64 A, .own 10 K.length K.length (some K.length), .sl 0 [] (some 0), .sl 0 [] (some 0)]])])) at hc2
   repeat' (first|(first|refine nav ?_|(refine g0_ ?_; first|refine wa0 (dr := pcQ) (p := [0, 1, 1, 1]) [(26, 1), (27, 1), (28, 27), (30, 4), (31, 1), (32, 31)] [(6, none), (7, none), (6, some 6)] [(9, 10)] rfl rfl mixed (by kernel_rfl) ?_|refine wa0 (dr := allQ) (p := [0, 1, 1, 1]) [(26, 1), (27, 1), (28, 27), (30, 4), (31, 1), (32, 31)] [(6, none), (7, none), (6, some 6)] [(9, 10)] rfl rfl mixed (by kernel_rfl) ?_|refine goD ?_))|(with_reducible refine gG ?_ ?_)|((with_reducible refine And.intro (fun h => ?_) (fun h => ?_)) <;> try (exfalso; omega))|(with_reducible refine andG ?_)|(first|(refine ⟨_, _, hc1, ?_⟩)|(refine ⟨_, hc1, ?_⟩)|(refine ⟨_, fun _ => hc1, ?_⟩)|(refine ⟨_, _, hc2, ?_⟩)|(refine ⟨_, hc2, ?_⟩)|(refine ⟨_, fun _ => hc2, ?_⟩))|simp (disch := (first|exact za0|fail)) only [push_cast, simprocAttr, a0, hRl, hout1, hput1, hlen1])
   have hH1 := fun s (hs : s < K.length) => qaz9 (z := 1) (t := 27) (g := trR l K A K.length 0) (N := K.length) [.row 4 29 [[.int .i64 A, .own 10 K.length K.length (some K.length), .sl 1 (ints (intN (smL (natL st) K (natL st).length))) (some (smL (natL st) K (natL st).length).length), .sl 1 (ints (intN (smL (natL ac) K (natL ac).length))) (some (smL (natL ac) K (natL ac).length).length)]]] hs
   rw [vbi9 _ (Nat.le_refl _)]
   refine ⟨⟨⟨(wA0 _ _ _ _).symm, keg9 fun s hs => hH1 s hs⟩, ?_⟩, ?_⟩
   ·simp
   ·rw [kde9 fun s hs => hH1 s hs]
end Go.Proofs
