import Derived.Test.YtfdnlhegmdhcjaaDoorF44
import Derived.Test.YtfdnlhegmdhcjaaDoorF47
import Derived.Test.YtfdnlhegmdhcjaaDoorF23
import Derived.Test.YtfdnlhegmdhcjaaDoorF14
import Derived.Test.YtfdnlhegmdhcjaaDoorV28
namespace Go.Proofs
open Go Go.V
set_option linter.unusedVariables false
set_option linter.unusedSimpArgs false
set_option maxHeartbeats 0
theorem MD.rows_le (x : MD) : ∀ j, j < (x.rows x.n).length → ((x.rows x.n).getD j ([], none)).1.length ≤ 1000000 := fun j hj => by
 obtain ⟨_, _, _, m4, _⟩ := machOk_zero x.ok
 have := m4 j hj
 have := x.bI
 omega
theorem refF_isF {R : RR} {I O : Nat} {ks : List Int} {f : Flt} (h : f ∈ refF R I O ks) : isF R I O f = true := by
 unfold refF at h
 simp only [List.mem_flatMap, List.mem_range] at h
 obtain ⟨k, _, s, _, i, _, t, _, a, _, o, _, hf⟩ := h
 unfold isL at hf
 split at hf
 ·rename_i q
  rw [List.mem_singleton.1 hf]; exact q
 ·cases hf
theorem refF_get {R : RR} {I O : Nat} {ks : List Int} {q : Nat} (h : q < (refF R I O ks).length) : isF R I O ((refF R I O ks).getD q fl0) = true := by
 refine refF_isF (ks := ks) ?_
 rw [List.getD_eq_getElem?_getD, List.getElem?_eq_getElem h]
 exact List.getElem_mem h
theorem chkA_of {i o : Int} {l : List Row} {f : Flt} (hm : machOk i o l = 0) (hf : isA i o l f = true) (hl : l.length < 64) : chkA i o l f = 0 := by
 rw [chkA, if_neg (by rw [hm]; simp), chkF, if_pos (show isF (edgesOf l) i.toNat o.toNat f = true from hf), if_neg (by rw [edgesOf_len]; omega)]
theorem ok_w {R : RR} {I O : Nat} (h : OkM R I O) : ∀ j, j < R.length → (R.getD j []).length = I := fun j hj => row_len h hj
def l3H (x : MD) (y : Nat) (c : Option Nat) (f : Flt) (N : Nat) (M : RR) (RA : List (List AV)) : List Blk :=
 .row 5 24 [[.int .u8 x.st, .int .u8 x.inp, .int .u8 x.ou, .bool x.pa, .sl 1 (u16s x.es) c]] :: .row 1 27 [[.int .u16 y]] :: .row 3 30 [[.int .i64 x.I, .int .i64 x.O, .sl 1 RA none]] :: .row 6 33 [flA f] ::
 .row 3 30 [[.int .i64 x.I, .int .i64 x.O, .sl 1 RA none]] :: .row 6 33 [flA f] :: .row 3 30 [[.int .i64 x.I, .int .i64 x.O, .own 8 N N (some N)]] :: .row 3 30 [[.int .i64 x.I, .int .i64 x.O, .own 8 N N (some N)]] :: .row 1 44 (ownR 9 x.I (some x.I) N) :: (rowBs 2 46 (M.map rowA) ++ [.row 3 30 [[.int .i64 x.I, .int .i64 x.O, .own 8 N N (some N)]]])
set_option maxRecDepth 100000 in
theorem law3 (x : MD) (c : Nat) (hx : x.Ok) (y : Nat) (hy : y < 65536) : PC Tryd.prog G0 3 [.agg (mdC x 1 (some c)), .agg [.int .u16 y]] (.bool true) := by
 have bI := x.bI; have bO := x.bO; have bn := x.bn
 have hl := x.rows_len x.n
 have hRl := x.R_len
 have hM := mOf9 x 1 (some c) hx (.inr rfl)
 have hF := fOf10 x.I x.O (x.rows x.n) none y hy x.ok (by omega) (by omega) (by omega)
 have hget := fun q h => refF_get (R := x.R) (I := x.I) (O := x.O) (ks := [0, 1, 2, 3, 4]) (q := q) h
 have hlv := lives11
 have hidR : ∀ p, idsE p (rowsA (x.rows x.n)) = true := fun p => idsE_rowsA _ _
 have hR0 : edgesOf (x.rows x.n) = x.R := rfl
 have hS1 := refSame14 x.I x.O (x.rows x.n) 1 none x.I x.O (x.rows x.n) 1 none (.inr rfl) (.inr rfl) (by omega) (by omega) x.rows_le x.rows_le
 rw [decide_eq_true (by exact ⟨rfl, rfl, rfl⟩)] at hS1
 have hCk := fun f => check13 x.I x.O (x.rows x.n) 1 none f (.inr rfl) (by omega) x.rows_le
 have hRA0 := fun f => refApply15P x.I x.O (x.rows x.n) none f x.I rfl x.ok
 have hA0 := fun B0 B1 B2 B3 hB f => apply12L B0 B1 B2 B3 hB x.I x.O (x.rows x.n) none f x.I rfl x.ok
 rw [hR0] at hF hRA0 hA0
 unfold mA mdC at *
 by_cases h0 : (refF x.R x.I x.O [0, 1, 2, 3, 4]).length = 0
 ·rw [if_pos h0] at hF
  simp only [flA] at hF
  generalize rowsA (x.rows x.n) = RA at *
  refine pc_go 0 111 [.tmp 4] Tryd.func3 rfl rfl rfl (by simp) ?_
  intro s ⟨a0, a1, hz⟩
  simp only [Nat.zero_add, Nat.reduceAdd] at a1
  clear hz
  repeat' (first|(first|(refine a0_ ?_; first|refine a1_ rfl rfl ?_|refine a2_ rfl ?_|refine a3_ rfl rfl ?_|refine a4_ rfl ?_|refine ak_ rfl rfl ?_|refine a5_ rfl rfl rfl ?_|refine a6_ rfl rfl ?_|refine a7_ rfl rfl ?_|refine a8_ rfl rfl ?_|refine a9_ rfl rfl rfl ?_)|(refine g0_ ?_; first|refine g1_ rfl ?_|refine g2_ rfl rfl ?_|refine go_draw (dr := allQ) rfl rfl mixed (by first|assumption|kernel_rfl) ?_|refine g4_ rfl ?_|refine g5_ rfl ?_|refine g6_ rfl ?_|refine g7_ rfl ?_|refine g8_ rfl ?_|refine ga_ rfl ?_|refine gb_ rfl ?_)|(refine o0_ ?_; first|refine o1_ ?_|refine o2_ ?_|refine o3_ ?_|refine o4_ ?_|refine o5_ ?_|refine o6_ rfl ?_|refine o7_ rfl ?_|refine o8_ ?_|refine o9_ ?_|refine oa_ ?_|refine ob_ ?_|refine oc_ ?_|refine od_ ?_|refine oe_ ?_|refine of_ ?_|refine og_ ?_|refine oh_ ?_|refine oi_ ?_|refine oj_ ?_|refine ok_ ?_))|refine at_go ?_|(with_reducible refine And.intro (at_go ?_) (at_go ?_))|((with_reducible refine And.intro (fun h => ?_) (fun h => ?_)) <;> try (exfalso; omega))|(with_reducible refine And.intro (by first|omega|(simp only [maxLen]; omega)) ?_)|(refine And.intro ⟨[_], rfl⟩ ?_)|(refine And.intro ⟨[], by simp only [List.append_nil]⟩ ?_)|(first|(refine ⟨_, _, pc_lift (hM) (by (simp [idsL, idsE, AV.ids, hidR])) _, ?_⟩)|(refine ⟨_, pc_lift (hM) (by (simp [idsL, idsE, AV.ids, hidR])) _, ?_⟩)|(refine ⟨_, fun _ => pc_lift (hM) (by (simp [idsL, idsE, AV.ids, hidR])) _, ?_⟩)|(refine ⟨_, _, pc_lift (hF) (by (simp [idsL, idsE, AV.ids, hidR])) _, ?_⟩)|(refine ⟨_, pc_lift (hF) (by (simp [idsL, idsE, AV.ids, hidR])) _, ?_⟩)|(refine ⟨_, fun _ => pc_lift (hF) (by (simp [idsL, idsE, AV.ids, hidR])) _, ?_⟩)|(refine ⟨_, _, pc_lift (hlv) (by (simp [idsL, idsE, AV.ids, hidR])) _, ?_⟩)|(refine ⟨_, pc_lift (hlv) (by (simp [idsL, idsE, AV.ids, hidR])) _, ?_⟩)|(refine ⟨_, fun _ => pc_lift (hlv) (by (simp [idsL, idsE, AV.ids, hidR])) _, ?_⟩))|simp (disch := first|omega|(simp only [rb_len, length_ownR, List.length_map, lenF, lenS]; omega)) only [push_cast, ↓reduceIte, reduceIte, reduceCtorEq, Nat.reduceAdd, Nat.reduceLT, Nat.reduceEqDiff, Nat.reduceLeDiff, Int.reduceAdd, Int.reduceLT, Int.reduceLE, Nat.reduceMul, a0, a1])
 ·rw [if_neg h0] at hF
  have hfl := hget (y % (refF x.R x.I x.O [0, 1, 2, 3, 4]).length) (Nat.mod_lt _ (by omega))
  generalize (refF x.R x.I x.O [0, 1, 2, 3, 4]).getD (y % (refF x.R x.I x.O [0, 1, 2, 3, 4]).length) fl0 = f at *
  clear hget
  have hfA : isA x.I x.O (x.rows x.n) f = true := hfl
  have hCk := hCk f
  rw [chkA_of x.ok hfA (by omega)] at hCk
  have hRA := hRA0 f hfA
  have hTok := applyR_ok x.okM hfl
  have hTl := applyR_len x.R f
  rw [hRl] at hTl
  have hTn : (applyR x.R f).length ≤ x.n + 1 ∧ x.n ≤ (applyR x.R f).length := by split at hTl <;> omega
  have hTw := ok_w hTok
  have hA := hA0 (.row 5 24 [[.int .u8 x.st, .int .u8 x.inp, .int .u8 x.ou, .bool x.pa, .sl 1 (u16s x.es) (some c)]]) (.row 1 27 [[.int .u16 y]]) (.row 3 30 [[.int .i64 x.I, .int .i64 x.O, .sl 1 (rowsA (x.rows x.n)) none]]) (.row 6 33 [flA f])
   (by simp [Blk.below, idsE, idsL, AV.ids, hidR, flA]) f hfA (fun _ => by omega)
  clear hA0 hRA0
  have hTIe : edgesOf (rowsI (applyR x.R f) x.I) = applyR x.R f := edgesOf_rowsI _ _
  have hTNe : edgesOf (rowsN (applyR x.R f)) = applyR x.R f := edgesOf_rowsN _
  have hTIl : (rowsI (applyR x.R f) x.I).length = (applyR x.R f).length := rowsI_len _ _
  have hTNl : (rowsN (applyR x.R f)).length = (applyR x.R f).length := rowsN_len _
  have hTIw : ∀ j, j < (rowsI (applyR x.R f) x.I).length → ((rowsI (applyR x.R f) x.I).getD j ([], none)).1.length ≤ 1000000 := fun j hj => by
   rw [← getD_edgesOf, hTIe, hTw j (by omega)]; omega
  have hTNw : ∀ j, j < (rowsN (applyR x.R f)).length → ((rowsN (applyR x.R f)).getD j ([], none)).1.length ≤ 1000000 := fun j hj => by
   rw [← getD_edgesOf, hTNe, hTw j (by omega)]; omega
  have hS2 := refSame14 x.I x.O (rowsI (applyR x.R f) x.I) 1 (some (applyR x.R f).length) x.I x.O (rowsN (applyR x.R f)) 1 none (.inr rfl) (.inr rfl) (by omega) (by omega) hTIw hTNw
  rw [decide_eq_true (by exact ⟨rfl, rfl, by rw [hTIe, hTNe]⟩)] at hS2
  have hK := refCheck16 x.I x.O (rowsI (applyR x.R f) x.I) 1 (some (applyR x.R f).length) (.inr rfl) (by omega) hTIw
  rw [okM_mach (by rw [hTIe]; exact hTok) (by omega) (by omega) (by omega)] at hK
  have hidN : ∀ p, idsE p (rowsA (rowsN (applyR x.R f))) = true := fun p => idsE_rowsA _ _
  generalize rowsA (x.rows x.n) = RA at *
  have hl3 : ∀ N M, N = (applyR x.R f).length → M = applyR x.R f → okC (l3H x y (some c) f N M RA) 2 (.own 8 N N (some N)) = true ∧ closeC (l3H x y (some c) f N M RA) 2 (.own 8 N N (some N)) = .sl 1 (rowsA (rowsI (applyR x.R f) x.I)) (some N) := by
   rintro _ _ rfl rfl
   refine own_mach (R := applyR x.R f) rfl (fun s hs => ?_) rfl hTw
   show (rowBs 2 46 ((applyR x.R f).map rowA) ++ _)[s]? = _
   rw [rb_getK (N := (applyR x.R f).length) _ (by rw [List.length_map]) hs, getD_mapA]
  obtain ⟨l31, l32⟩ := hl3 _ _ rfl rfl
  have hS3 : ACalls Tryd.prog G0 14 [.agg [.int .i64 x.I, .int .i64 x.O, .own 8 (applyR x.R f).length (applyR x.R f).length (some (applyR x.R f).length)], .agg [.int .i64 x.I, .int .i64 x.O, .sl 1 (rowsA (rowsN (applyR x.R f))) none]] (l3H x y (some c) f (applyR x.R f).length (applyR x.R f) RA) (.bool true) (l3H x y (some c) f (applyR x.R f).length (applyR x.R f) RA) := by
   refine ac_lend 2 ?_ ?_ hS2 rfl
   ·simp only [List.all_cons, List.all_nil, okA, l31, Bool.and_true]
    simp [okC, AV.closed, AV.ids, hidN]
   ·simp only [List.map_cons, List.map_nil, closeA, l32]
    simp [closeC]
  have hK3 : ACalls Tryd.prog G0 16 [.agg [.int .i64 x.I, .int .i64 x.O, .own 8 (applyR x.R f).length (applyR x.R f).length (some (applyR x.R f).length)]] (l3H x y (some c) f (applyR x.R f).length (applyR x.R f) RA) (.int .i64 0) (l3H x y (some c) f (applyR x.R f).length (applyR x.R f) RA) := by
   refine ac_lend 2 ?_ ?_ hK rfl
   ·simp only [List.all_cons, List.all_nil, okA, l31, Bool.and_true]
    rfl
   ·simp only [List.map_cons, List.map_nil, closeA, l32]
    simp [closeC]
  have hTml : ((applyR x.R f).map rowA).length = (applyR x.R f).length := by rw [List.length_map]
  have hb9 := fun A K => rb_at0 (z := 2) (t := 46) A K hTml
  have hs9 := fun A B K => rb_setAt0 (z := 2) (t := 46) A B K hTml
  generalize applyR x.R f = T at *
  generalize rowsA (rowsN T) = RN at *
  generalize hN : T.length = N at *
  unfold l3H at hS3 hK3
  obtain ⟨k, s0, i0, t, a, o'⟩ := f
  simp only [flA] at hF hA hCk hRA hS3 hK3
  refine pc_go 0 111 [.tmp 4] Tryd.func3 rfl rfl rfl (by simp) ?_
  intro s ⟨a0, a1, hz⟩
  simp only [Nat.zero_add, Nat.reduceAdd] at a1
  clear hz
  repeat' (first|(((first|(refine a0_ ?_; first|refine a1_ rfl rfl ?_|refine a2_ rfl ?_|refine a3_ rfl rfl ?_|refine a4_ rfl ?_|refine ak_ rfl rfl ?_|refine a5_ rfl rfl rfl ?_|refine a6_ rfl rfl ?_|refine a7_ rfl rfl ?_|refine a8_ rfl rfl ?_|refine a9_ rfl rfl rfl ?_)|(refine g0_ ?_; first|refine g1_ rfl ?_|refine g2_ rfl rfl ?_|refine go_draw (dr := allQ) rfl rfl mixed (by first|assumption|kernel_rfl) ?_|refine g4_ rfl ?_|refine g5_ rfl ?_|refine g6_ rfl ?_|refine g7_ rfl ?_|refine g8_ rfl ?_|refine ga_ rfl ?_|refine gb_ rfl ?_)|(refine o0_ ?_; first|refine o1_ ?_|refine o2_ ?_|refine o3_ ?_|refine o4_ ?_|refine o5_ ?_|refine o6_ rfl ?_|refine o7_ rfl ?_|refine o8_ ?_|refine o9_ ?_|refine oa_ ?_|refine ob_ ?_|refine oc_ ?_|refine od_ ?_|refine oe_ ?_|refine of_ ?_|refine og_ ?_|refine oh_ ?_|refine oi_ ?_|refine oj_ ?_|refine ok_ ?_))) <;> (try simp (disch := first|omega|(simp only [rb_len, length_ownR, List.length_map, lenF, lenS]; omega)) only [push_cast, ↓reduceIte, reduceIte, reduceCtorEq, Nat.reduceAdd, Nat.reduceLT, Nat.reduceEqDiff, Nat.reduceLeDiff, Int.reduceAdd, Int.reduceLT, Int.reduceLE, Nat.reduceMul, a0, a1, rb_len, hTml, hb9, hs9, length_ownR]))|refine at_go ?_|(with_reducible refine And.intro (at_go ?_) (at_go ?_))|((with_reducible refine And.intro (fun h => ?_) (fun h => ?_)) <;> try (exfalso; omega))|(with_reducible refine And.intro (by first|omega|(simp only [maxLen]; omega)) ?_)|(refine And.intro ⟨[_], rfl⟩ ?_)|(refine And.intro ⟨[], by simp only [List.append_nil]⟩ ?_)|(first|(refine ⟨_, _, pc_lift (hM) (by (simp [idsL, idsE, AV.ids, hidR, hidN])) _, ?_⟩)|(refine ⟨_, pc_lift (hM) (by (simp [idsL, idsE, AV.ids, hidR, hidN])) _, ?_⟩)|(refine ⟨_, fun _ => pc_lift (hM) (by (simp [idsL, idsE, AV.ids, hidR, hidN])) _, ?_⟩)|(refine ⟨_, _, pc_lift (hF) (by (simp [idsL, idsE, AV.ids, hidR, hidN])) _, ?_⟩)|(refine ⟨_, pc_lift (hF) (by (simp [idsL, idsE, AV.ids, hidR, hidN])) _, ?_⟩)|(refine ⟨_, fun _ => pc_lift (hF) (by (simp [idsL, idsE, AV.ids, hidR, hidN])) _, ?_⟩)|(refine ⟨_, _, hA, ?_⟩)|(refine ⟨_, hA, ?_⟩)|(refine ⟨_, fun _ => hA, ?_⟩)|(refine ⟨_, _, pc_lift (hCk) (by (simp [idsL, idsE, AV.ids, hidR, hidN])) _, ?_⟩)|(refine ⟨_, pc_lift (hCk) (by (simp [idsL, idsE, AV.ids, hidR, hidN])) _, ?_⟩)|(refine ⟨_, fun _ => pc_lift (hCk) (by (simp [idsL, idsE, AV.ids, hidR, hidN])) _, ?_⟩)|(refine ⟨_, _, pc_lift (hRA) (by (simp [idsL, idsE, AV.ids, hidR, hidN])) _, ?_⟩)|(refine ⟨_, pc_lift (hRA) (by (simp [idsL, idsE, AV.ids, hidR, hidN])) _, ?_⟩)|(refine ⟨_, fun _ => pc_lift (hRA) (by (simp [idsL, idsE, AV.ids, hidR, hidN])) _, ?_⟩)|(refine ⟨_, _, hS3, ?_⟩)|(refine ⟨_, hS3, ?_⟩)|(refine ⟨_, fun _ => hS3, ?_⟩)|(refine ⟨_, _, hK3, ?_⟩)|(refine ⟨_, hK3, ?_⟩)|(refine ⟨_, fun _ => hK3, ?_⟩)|(refine ⟨_, _, pc_lift (hS1) (by (simp [idsL, idsE, AV.ids, hidR, hidN])) _, ?_⟩)|(refine ⟨_, pc_lift (hS1) (by (simp [idsL, idsE, AV.ids, hidR, hidN])) _, ?_⟩)|(refine ⟨_, fun _ => pc_lift (hS1) (by (simp [idsL, idsE, AV.ids, hidR, hidN])) _, ?_⟩)|(refine ⟨_, _, pc_lift (hlv) (by (simp [idsL, idsE, AV.ids, hidR, hidN])) _, ?_⟩)|(refine ⟨_, pc_lift (hlv) (by (simp [idsL, idsE, AV.ids, hidR, hidN])) _, ?_⟩)|(refine ⟨_, fun _ => pc_lift (hlv) (by (simp [idsL, idsE, AV.ids, hidR, hidN])) _, ?_⟩))|simp (disch := first|omega|(simp only [rb_len, length_ownR, List.length_map, lenF, lenS]; omega)) only [push_cast, ↓reduceIte, reduceIte, reduceCtorEq, Nat.reduceAdd, Nat.reduceLT, Nat.reduceEqDiff, Nat.reduceLeDiff, Int.reduceAdd, Int.reduceLT, Int.reduceLE, Nat.reduceMul, a0, a1, rb_len, hTml, hb9, hs9, length_ownR])
  refine go_loop rfl (fun mz s' H' => ∃ (s : Nat) (M : RR), s ≤ N ∧ mz = N - s ∧ M.length = N ∧ (∀ q, q < N → (M.getD q []).length = x.I) ∧ H' = l3H x y (some c) ⟨k, s0, i0, t, a, o'⟩ N M RA ∧ s' 2 = .ptr 0 0 0 1 ∧ s' 5 = .ptr 2 0 0 1 ∧ s' 8 = .ptr (N + 1 + 1 + 1 + 1 + 1 + 1 + 1 + 1 + 1) 0 0 1 ∧ s' 10 = .int .i64 s) (m := N) (by (first|trivial|((repeat' apply And.intro) <;> first|trivial|assumption|omega|(simp only [maxLen]; omega)|(simp only [rb_len, length_ownR, List.length_map, maxLen, lenF, lenS] <;> omega)))) (Weak.refl _ _) ⟨0, T, by omega, by omega, hN, hTw, by simp [l3H, flA], ?_⟩ ?_
  ·simp (disch := first|omega|(simp only [rb_len, length_ownR, List.length_map, lenF, lenS]; omega)) only [push_cast, ↓reduceIte, reduceIte, reduceCtorEq, Nat.reduceAdd, Nat.reduceLT, Nat.reduceEqDiff, Nat.reduceLeDiff, Int.reduceAdd, Int.reduceLT, Int.reduceLE, Nat.reduceMul, a0, a1, rb_len, hTml, hb9, hs9, length_ownR]
  ·rintro mz s' H' ⟨s, M, hs, rfl, hMl, hMw, rfl, b2, b5, b8, b10⟩
   have hMm : (M.map rowA).length = N := by rw [List.length_map, hMl]
   have k0 := fun A K => rb_at0 (z := 2) (t := 46) A K hMm
   unfold l3H
   simp only [flA]
   rcases Nat.lt_or_ge s N with hlt|hge
   ·have g1 := fun K => rb_getK (z := 2) (t := 46) K hMm hlt
    have er := getD_mapA M s
    have el := hMw s hlt
    have oe := getD_ownR (b0 := 9) (I := x.I) (N := N) (some x.I) hlt
    repeat' (first|(((first|(refine a0_ ?_; first|refine a1_ rfl rfl ?_|refine a2_ rfl ?_|refine a3_ rfl rfl ?_|refine a4_ rfl ?_|refine ak_ rfl rfl ?_|refine a5_ rfl rfl rfl ?_|refine a6_ rfl rfl ?_|refine a7_ rfl rfl ?_|refine a8_ rfl rfl ?_|refine a9_ rfl rfl rfl ?_)|(refine g0_ ?_; first|refine g1_ rfl ?_|refine g2_ rfl rfl ?_|refine go_draw (dr := allQ) rfl rfl mixed (by first|assumption|kernel_rfl) ?_|refine g4_ rfl ?_|refine g5_ rfl ?_|refine g6_ rfl ?_|refine g7_ rfl ?_|refine g8_ rfl ?_|refine ga_ rfl ?_|refine gb_ rfl ?_)|(refine o0_ ?_; first|refine o1_ ?_|refine o2_ ?_|refine o3_ ?_|refine o4_ ?_|refine o5_ ?_|refine o6_ rfl ?_|refine o7_ rfl ?_|refine o8_ ?_|refine o9_ ?_|refine oa_ ?_|refine ob_ ?_|refine oc_ ?_|refine od_ ?_|refine oe_ ?_|refine of_ ?_|refine og_ ?_|refine oh_ ?_|refine oi_ ?_|refine oj_ ?_|refine ok_ ?_))) <;> (try simp (disch := first|omega|(simp only [rb_len, length_ownR, List.length_map, lenF, lenS]; omega)) only [push_cast, ↓reduceIte, reduceIte, reduceCtorEq, Nat.reduceAdd, Nat.reduceLT, Nat.reduceEqDiff, Nat.reduceLeDiff, Int.reduceAdd, Int.reduceLT, Int.reduceLE, Nat.reduceMul, b2, b5, b8, b10, hMm, k0, g1, er, el, oe, rb_len, length_ownR, length_rowA]))|refine at_go ?_|(with_reducible refine And.intro (at_go ?_) (at_go ?_))|((with_reducible refine And.intro (fun h => ?_) (fun h => ?_)) <;> try (exfalso; omega))|(with_reducible refine And.intro (by first|omega|(simp only [maxLen]; omega)) ?_)|(refine And.intro ⟨[_], rfl⟩ ?_)|(refine And.intro ⟨[], by simp only [List.append_nil]⟩ ?_)|fail|simp (disch := first|omega|(simp only [rb_len, length_ownR, List.length_map, lenF, lenS]; omega)) only [push_cast, ↓reduceIte, reduceIte, reduceCtorEq, Nat.reduceAdd, Nat.reduceLT, Nat.reduceEqDiff, Nat.reduceLeDiff, Int.reduceAdd, Int.reduceLT, Int.reduceLE, Nat.reduceMul, b2, b5, b8, b10, hMm, k0, g1, er, el, oe, rb_len, length_ownR, length_rowA])
    refine go_loop rfl (fun mz s' H' => ∃ (j : Nat) (M : RR), j ≤ x.I ∧ mz = x.I - j ∧ M.length = N ∧ (∀ q, q < N → (M.getD q []).length = x.I) ∧ H' = l3H x y (some c) ⟨k, s0, i0, t, a, o'⟩ N M RA ∧ s' 2 = .ptr 0 0 0 1 ∧ s' 5 = .ptr 2 0 0 1 ∧ s' 8 = .ptr (N + 1 + 1 + 1 + 1 + 1 + 1 + 1 + 1 + 1) 0 0 1 ∧ s' 10 = .int .i64 s ∧ s' 11 = .int .i64 j) (m := x.I) (by (first|trivial|((repeat' apply And.intro) <;> first|trivial|assumption|omega|(simp only [maxLen]; omega)|(simp only [rb_len, length_ownR, List.length_map, maxLen, lenF, lenS] <;> omega)))) (Weak.refl _ _) ⟨0, M, by omega, by omega, hMl, hMw, by simp [l3H, flA], ?_⟩ ?_
    ·simp (disch := first|omega|(simp only [rb_len, length_ownR, List.length_map, lenF, lenS]; omega)) only [push_cast, ↓reduceIte, reduceIte, reduceCtorEq, Nat.reduceAdd, Nat.reduceLT, Nat.reduceEqDiff, Nat.reduceLeDiff, Int.reduceAdd, Int.reduceLT, Int.reduceLE, Nat.reduceMul, b2, b5, b8, b10, hMm, k0, g1, er, el, oe, rb_len, length_ownR, length_rowA]
    ·clear hMl hMw hMm k0 g1 er el b2 b5 b8 b10
     clear M
     rintro mz s' H' ⟨j, M, hj, rfl, hMl, hMw, rfl, b2, b5, b8, b10, b11⟩
     have hMm : (M.map rowA).length = N := by rw [List.length_map, hMl]
     have k0 := fun A K => rb_at0 (z := 2) (t := 46) A K hMm
     have g1 := fun K => rb_getK (z := 2) (t := 46) K hMm hlt
     have g2 := fun es K => rb_setK (z := 2) (t := 46) es K hMm hlt
     have er := getD_mapA M s
     have el := hMw s hlt
     unfold l3H
     simp only [flA]
     rcases Nat.lt_or_ge j x.I with hltj|hgej
     ·have g3 : (M.map rowA).set s ((rowA (M.getD s [])).set j [.int .i64 (-1), .int .i64 (-1)]) = (M.set s ((M.getD s []).set j (-1, -1))).map rowA := by rw [rowA_set, mapA_set]
      have e3 := getD_rowA (M.getD s []) j (by omega)
      simp only [eA] at e3
      repeat' (first|(((first|(refine a0_ ?_; first|refine a1_ rfl rfl ?_|refine a2_ rfl ?_|refine a3_ rfl rfl ?_|refine a4_ rfl ?_|refine ak_ rfl rfl ?_|refine a5_ rfl rfl rfl ?_|refine a6_ rfl rfl ?_|refine a7_ rfl rfl ?_|refine a8_ rfl rfl ?_|refine a9_ rfl rfl rfl ?_)|(refine g0_ ?_; first|refine g1_ rfl ?_|refine g2_ rfl rfl ?_|refine go_draw (dr := allQ) rfl rfl mixed (by first|assumption|kernel_rfl) ?_|refine g4_ rfl ?_|refine g5_ rfl ?_|refine g6_ rfl ?_|refine g7_ rfl ?_|refine g8_ rfl ?_|refine ga_ rfl ?_|refine gb_ rfl ?_)|(refine o0_ ?_; first|refine o1_ ?_|refine o2_ ?_|refine o3_ ?_|refine o4_ ?_|refine o5_ ?_|refine o6_ rfl ?_|refine o7_ rfl ?_|refine o8_ ?_|refine o9_ ?_|refine oa_ ?_|refine ob_ ?_|refine oc_ ?_|refine od_ ?_|refine oe_ ?_|refine of_ ?_|refine og_ ?_|refine oh_ ?_|refine oi_ ?_|refine oj_ ?_|refine ok_ ?_))) <;> (try simp (disch := first|omega|(simp only [rb_len, length_ownR, List.length_map, lenF, lenS]; omega)) only [push_cast, ↓reduceIte, reduceIte, reduceCtorEq, Nat.reduceAdd, Nat.reduceLT, Nat.reduceEqDiff, Nat.reduceLeDiff, Int.reduceAdd, Int.reduceLT, Int.reduceLE, Nat.reduceMul, b2, b5, b8, b10, b11, hMm, k0, g1, g2, g3, er, el, e3, oe, rb_len, length_ownR, length_rowA, Int.reduceNeg]))|refine at_go ?_|(with_reducible refine And.intro (at_go ?_) (at_go ?_))|((with_reducible refine And.intro (fun h => ?_) (fun h => ?_)) <;> try (exfalso; omega))|(with_reducible refine And.intro (by first|omega|(simp only [maxLen]; omega)) ?_)|(refine And.intro ⟨[_], rfl⟩ ?_)|(refine And.intro ⟨[], by simp only [List.append_nil]⟩ ?_)|fail|simp (disch := first|omega|(simp only [rb_len, length_ownR, List.length_map, lenF, lenS]; omega)) only [push_cast, ↓reduceIte, reduceIte, reduceCtorEq, Nat.reduceAdd, Nat.reduceLT, Nat.reduceEqDiff, Nat.reduceLeDiff, Int.reduceAdd, Int.reduceLT, Int.reduceLE, Nat.reduceMul, b2, b5, b8, b10, b11, hMm, k0, g1, g2, g3, er, el, e3, oe, rb_len, length_ownR, length_rowA, Int.reduceNeg])
      refine out_round (x.I - (j + 1)) (by omega) (by (first|trivial|((repeat' apply And.intro) <;> first|trivial|assumption|omega|(simp only [maxLen]; omega)|(simp only [rb_len, length_ownR, List.length_map, maxLen, lenF, lenS] <;> omega)))) ⟨j + 1, M.set s ((M.getD s []).set j (-1, -1)), by omega, rfl, by rw [List.length_set, hMl], fun q hq => ?_, by simp [l3H, flA], ?_⟩
      ·rw [getD_set _ _ _ _ _ (by omega)]
       split
       ·rw [List.length_set, el]
       ·exact hMw q hq
      ·simp (disch := first|omega|(simp only [rb_len, length_ownR, List.length_map, lenF, lenS]; omega)) only [push_cast, ↓reduceIte, reduceIte, reduceCtorEq, Nat.reduceAdd, Nat.reduceLT, Nat.reduceEqDiff, Nat.reduceLeDiff, Int.reduceAdd, Int.reduceLT, Int.reduceLE, Nat.reduceMul, b2, b5, b8, b10, b11, hMm, k0, g1, g2, g3, er, el, e3, oe, rb_len, length_ownR, length_rowA, Int.reduceNeg]
     ·obtain rfl : j = x.I := by omega
      repeat' (first|(((first|(refine a0_ ?_; first|refine a1_ rfl rfl ?_|refine a2_ rfl ?_|refine a3_ rfl rfl ?_|refine a4_ rfl ?_|refine ak_ rfl rfl ?_|refine a5_ rfl rfl rfl ?_|refine a6_ rfl rfl ?_|refine a7_ rfl rfl ?_|refine a8_ rfl rfl ?_|refine a9_ rfl rfl rfl ?_)|(refine g0_ ?_; first|refine g1_ rfl ?_|refine g2_ rfl rfl ?_|refine go_draw (dr := allQ) rfl rfl mixed (by first|assumption|kernel_rfl) ?_|refine g4_ rfl ?_|refine g5_ rfl ?_|refine g6_ rfl ?_|refine g7_ rfl ?_|refine g8_ rfl ?_|refine ga_ rfl ?_|refine gb_ rfl ?_)|(refine o0_ ?_; first|refine o1_ ?_|refine o2_ ?_|refine o3_ ?_|refine o4_ ?_|refine o5_ ?_|refine o6_ rfl ?_|refine o7_ rfl ?_|refine o8_ ?_|refine o9_ ?_|refine oa_ ?_|refine ob_ ?_|refine oc_ ?_|refine od_ ?_|refine oe_ ?_|refine of_ ?_|refine og_ ?_|refine oh_ ?_|refine oi_ ?_|refine oj_ ?_|refine ok_ ?_))) <;> (try simp (disch := first|omega|(simp only [rb_len, length_ownR, List.length_map, lenF, lenS]; omega)) only [push_cast, ↓reduceIte, reduceIte, reduceCtorEq, Nat.reduceAdd, Nat.reduceLT, Nat.reduceEqDiff, Nat.reduceLeDiff, Int.reduceAdd, Int.reduceLT, Int.reduceLE, Nat.reduceMul, b2, b5, b8, b10, b11, hMm, k0, g1, er, el, oe, rb_len, length_ownR, length_rowA]))|refine at_go ?_|(with_reducible refine And.intro (at_go ?_) (at_go ?_))|((with_reducible refine And.intro (fun h => ?_) (fun h => ?_)) <;> try (exfalso; omega))|(with_reducible refine And.intro (by first|omega|(simp only [maxLen]; omega)) ?_)|(refine And.intro ⟨[_], rfl⟩ ?_)|(refine And.intro ⟨[], by simp only [List.append_nil]⟩ ?_)|fail|simp (disch := first|omega|(simp only [rb_len, length_ownR, List.length_map, lenF, lenS]; omega)) only [push_cast, ↓reduceIte, reduceIte, reduceCtorEq, Nat.reduceAdd, Nat.reduceLT, Nat.reduceEqDiff, Nat.reduceLeDiff, Int.reduceAdd, Int.reduceLT, Int.reduceLE, Nat.reduceMul, b2, b5, b8, b10, b11, hMm, k0, g1, er, el, oe, rb_len, length_ownR, length_rowA])
      refine out_round (N - (s + 1)) (by omega) (by (first|trivial|((repeat' apply And.intro) <;> first|trivial|assumption|omega|(simp only [maxLen]; omega)|(simp only [rb_len, length_ownR, List.length_map, maxLen, lenF, lenS] <;> omega)))) ⟨s + 1, M, by omega, rfl, hMl, hMw, by simp [l3H, flA], ?_⟩
      simp (disch := first|omega|(simp only [rb_len, length_ownR, List.length_map, lenF, lenS]; omega)) only [push_cast, ↓reduceIte, reduceIte, reduceCtorEq, Nat.reduceAdd, Nat.reduceLT, Nat.reduceEqDiff, Nat.reduceLeDiff, Int.reduceAdd, Int.reduceLT, Int.reduceLE, Nat.reduceMul, b2, b5, b8, b10, b11, hMm, k0, g1, er, el, oe, rb_len, length_ownR, length_rowA]
   ·obtain rfl : s = N := by omega
    repeat' (first|(((first|(refine a0_ ?_; first|refine a1_ rfl rfl ?_|refine a2_ rfl ?_|refine a3_ rfl rfl ?_|refine a4_ rfl ?_|refine ak_ rfl rfl ?_|refine a5_ rfl rfl rfl ?_|refine a6_ rfl rfl ?_|refine a7_ rfl rfl ?_|refine a8_ rfl rfl ?_|refine a9_ rfl rfl rfl ?_)|(refine g0_ ?_; first|refine g1_ rfl ?_|refine g2_ rfl rfl ?_|refine go_draw (dr := allQ) rfl rfl mixed (by first|assumption|kernel_rfl) ?_|refine g4_ rfl ?_|refine g5_ rfl ?_|refine g6_ rfl ?_|refine g7_ rfl ?_|refine g8_ rfl ?_|refine ga_ rfl ?_|refine gb_ rfl ?_)|(refine o0_ ?_; first|refine o1_ ?_|refine o2_ ?_|refine o3_ ?_|refine o4_ ?_|refine o5_ ?_|refine o6_ rfl ?_|refine o7_ rfl ?_|refine o8_ ?_|refine o9_ ?_|refine oa_ ?_|refine ob_ ?_|refine oc_ ?_|refine od_ ?_|refine oe_ ?_|refine of_ ?_|refine og_ ?_|refine oh_ ?_|refine oi_ ?_|refine oj_ ?_|refine ok_ ?_))) <;> (try simp (disch := first|omega|(simp only [rb_len, length_ownR, List.length_map, lenF, lenS]; omega)) only [push_cast, ↓reduceIte, reduceIte, reduceCtorEq, Nat.reduceAdd, Nat.reduceLT, Nat.reduceEqDiff, Nat.reduceLeDiff, Int.reduceAdd, Int.reduceLT, Int.reduceLE, Nat.reduceMul, b2, b5, b8, b10, hMm, k0, rb_len, length_ownR]))|refine at_go ?_|(with_reducible refine And.intro (at_go ?_) (at_go ?_))|((with_reducible refine And.intro (fun h => ?_) (fun h => ?_)) <;> try (exfalso; omega))|(with_reducible refine And.intro (by first|omega|(simp only [maxLen]; omega)) ?_)|(refine And.intro ⟨[_], rfl⟩ ?_)|(refine And.intro ⟨[], by simp only [List.append_nil]⟩ ?_)|(first|(refine ⟨_, _, pc_lift (hM) (by (simp [idsL, idsE, AV.ids, hidR, hidN])) _, ?_⟩)|(refine ⟨_, pc_lift (hM) (by (simp [idsL, idsE, AV.ids, hidR, hidN])) _, ?_⟩)|(refine ⟨_, fun _ => pc_lift (hM) (by (simp [idsL, idsE, AV.ids, hidR, hidN])) _, ?_⟩)|(refine ⟨_, _, pc_lift (hS1) (by (simp [idsL, idsE, AV.ids, hidR, hidN])) _, ?_⟩)|(refine ⟨_, pc_lift (hS1) (by (simp [idsL, idsE, AV.ids, hidR, hidN])) _, ?_⟩)|(refine ⟨_, fun _ => pc_lift (hS1) (by (simp [idsL, idsE, AV.ids, hidR, hidN])) _, ?_⟩)|(refine ⟨_, _, pc_lift (hlv) (by (simp [idsL, idsE, AV.ids, hidR, hidN])) _, ?_⟩)|(refine ⟨_, pc_lift (hlv) (by (simp [idsL, idsE, AV.ids, hidR, hidN])) _, ?_⟩)|(refine ⟨_, fun _ => pc_lift (hlv) (by (simp [idsL, idsE, AV.ids, hidR, hidN])) _, ?_⟩))|simp (disch := first|omega|(simp only [rb_len, length_ownR, List.length_map, lenF, lenS]; omega)) only [push_cast, ↓reduceIte, reduceIte, reduceCtorEq, Nat.reduceAdd, Nat.reduceLT, Nat.reduceEqDiff, Nat.reduceLeDiff, Int.reduceAdd, Int.reduceLT, Int.reduceLE, Nat.reduceMul, b2, b5, b8, b10, hMm, k0, rb_len, length_ownR])
end Go.Proofs
