import Derived.Test.YtfdnlhegmdhcjaaDoorF16
import Derived.Test.YtfdnlhegmdhcjaaDoorF13
namespace Go.Proofs
open Go Go.V
set_option linter.unusedVariables false
set_option linter.unusedSimpArgs false
set_option maxHeartbeats 0
def rowsI (R : RR) (I : Nat) : List Row := R.map fun r => (r, some I)
theorem edgesOf_rowsI (R : RR) (I : Nat) : edgesOf (rowsI R I) = R := by simp [edgesOf, rowsI, Function.comp_def]
theorem rowsI_len (R : RR) (I : Nat) : (rowsI R I).length = R.length := by simp [rowsI]
theorem own_mach {H : List Blk} {b I N : Nat} {R : RR} (hb : H[b]? = some (.row 1 44 (ownR (b + 1) I (some I) N))) (hR : ∀ s, s < N → H[s + (b + 1)]? = some (.row 2 46 (rowA (R.getD s [])))) (hN : R.length = N) (hw : ∀ s, s < N → (R.getD s []).length = I) :
  okC H 2 (.own b N N (some N)) = true ∧ closeC H 2 (.own b N N (some N)) = .sl 1 (rowsA (rowsI R I)) (some N) := by
 have hR' : ∀ s, s < N → H[s + (b + 1)]? = some (.row 2 46 ((R.map rowA).getD s [])) := fun s hs => by rw [getD_mapA]; exact hR s hs
 have hl : ∀ s, s < N → ((R.map rowA).getD s []).length = I := fun s hs => by rw [getD_mapA, length_rowA]; exact hw s hs
 have hc : ∀ s, s < N → idsE none_ ((R.map rowA).getD s []) = true := fun s hs => by rw [getD_mapA]; exact idsE_rowA _ _
 have ht : (ownR (b + 1) I (some I) N).take N = ownR (b + 1) I (some I) N := List.take_of_length_le (by rw [length_ownR]; omega)
 constructor
 ·simp only [okC, isLen, shOf, hb, length_ownR, ht]
  rw [ok_ownR hR' hl hc]; simp
 ·simp only [closeC, hb, ht]
  rw [close_ownR hR' hl]
  congr 1
  refine List.ext_getElem (by simp [rowsA, rowsI, hN]) fun j h1 h2 => ?_
  have hj : j < N := by simpa using h1
  simp [rowsA, rowsI, getD_mapA]
  have : j < R.length := by omega
  simp [this]
def errMA (e : Int) : AV := .tup [.agg [.int .i64 0, .int .i64 0, .sl 0 [] (some 0)], .int .i64 e]
def appV (i o : Int) (l : List Row) (f : Flt) (I : Nat) : AV := if chkA i o l f = 0 then .tup [.agg [.int .i64 i, .int .i64 o, .sl 1 (rowsA (rowsI (applyR (edgesOf l) f) I)) (some (applyR (edgesOf l) f).length)], .int .i64 0] else errMA (chkA i o l f)
theorem chkA_zero {i o : Int} {l : List Row} {f : Flt} (h : chkA i o l f = 0) : machOk i o l = 0 ∧ isA i o l f = true ∧ (3 ≤ f.k → l.length < 64) := by
 unfold chkA at h
 split at h
 ·rename_i q; exact absurd h q
 ·rename_i q
  have hm : machOk i o l = 0 := by simpa using q
  obtain ⟨_, _, m3, _, _⟩ := machOk_zero hm
  unfold chkF at h
  split at h
  ·rename_i hf
   refine ⟨hm, hf, fun h3 => ?_⟩
   rw [edgesOf_len] at h
   split at h
   ·cases h
   ·rename_i hq
    have : ¬ l.length = 64 := fun e => hq ⟨h3, e⟩
    omega
  ·cases h
theorem applyR_rows {i o : Int} {l : List Row} {f : Flt} (hm : machOk i o l = 0) (hf : isA i o l f = true) : OkM (applyR (edgesOf l) f) i.toNat o.toNat := applyR_ok (mach_okM hm) hf
set_option maxRecDepth 100000 in
theorem apply12P (i o : Int) (l : List Row) (c : Option Nat) (z : Nat) (f : Flt) (I : Nat) (hI : i = I ∨ chkA i o l f ≠ 0) (hz : l = [] ∨ z = 1) (hl : l.length ≤ 1000000) (hr : ∀ j, j < l.length → (l.getD j ([], none)).1.length ≤ 1000000) :
  PC Tryd.prog G0 12 [.agg [.int .i64 i, .int .i64 o, .sl z (rowsA l) c], .agg (flA f)] (appV i o l f I) := by
 by_cases h0 : chkA i o l f = 0
 ·rw [appV, if_pos h0]
  obtain ⟨hm, hf, hlt⟩ := chkA_zero h0
  have hI : i = I := hI.resolve_right fun q => q h0
  obtain ⟨_, _, m3, _, _⟩ := machOk_zero hm
  obtain rfl := hz.resolve_left (by intro q; rw [q] at m3; simp at m3)
  have hA := apply12 i o l c f I hI hm hf hlt
  have hM := applyR_rows hm hf
  generalize applyR (edgesOf l) f = R at *
  have hw : ∀ s, s < R.length → (R.getD s []).length = I := fun s hs => by
   rw [List.getD_eq_getElem?_getD, List.getElem?_eq_getElem hs, Option.getD_some, hM.row _ (List.getElem_mem hs)]
   omega
  have hRm : ∀ s, s < R.length → (rowBs 2 46 (R.map rowA))[s]? = some (.row 2 46 (rowA (R.getD s []))) := fun s hs => by
   rw [rb_get (N := R.length) (by rw [List.length_map]) hs, getD_mapA]
  obtain ⟨o1, o2⟩ := own_mach (H := .row 3 30 [[.int .i64 i, .int .i64 o, .sl 1 (rowsA l) c]] :: .row 6 33 [flA f] :: .row 3 30 [[.int .i64 i, .int .i64 o, .own 4 R.length R.length (some R.length)]] :: .row 3 30 [[.int .i64 i, .int .i64 o, .own 4 R.length R.length (some R.length)]] :: .row 1 44 (ownR 5 I (some I) R.length) :: rowBs 2 46 (R.map rowA)) (b := 4) (I := I) (N := R.length) (R := R) rfl (fun s hs => by simpa using hRm s hs) rfl hw
  refine pc_of_ac 2 hA ?_ ?_
  ·simp only [okR, okA, List.all_cons, List.all_nil, o1, Bool.and_true]
   rfl
  ·simp only [closeR, closeA, List.map_cons, List.map_nil, o2]
   rfl
 ·rw [appV, if_neg h0]
  have hC := check13 i o l z c f hz hl hr
  unfold errMA flA at *
  generalize chkA i o l f = e at *
  refine pc_go 1 111 [.cell 4 30, .tmp 5] Tryd.func12 rfl rfl rfl (by simp) ?_
  intro s ⟨a0, a1, hz⟩
  simp only [Nat.zero_add, Nat.reduceAdd] at a1
  clear hz
  repeat' (first|(first|(refine a0_ ?_; first|refine a1_ rfl rfl ?_|refine a2_ rfl ?_|refine a3_ rfl rfl ?_|refine a4_ rfl ?_|refine ak_ rfl rfl ?_|refine a5_ rfl rfl rfl ?_|refine a6_ rfl rfl ?_|refine a7_ rfl rfl ?_|refine a8_ rfl rfl ?_|refine a9_ rfl rfl rfl ?_)|(refine g0_ ?_; first|refine g1_ rfl ?_|refine g2_ rfl rfl ?_|refine go_draw (dr := allQ) rfl rfl mixed (by first|assumption|kernel_rfl) ?_|refine g4_ rfl ?_|refine g5_ rfl ?_|refine g6_ rfl ?_|refine g7_ rfl ?_|refine g8_ rfl ?_|refine ga_ rfl ?_|refine gb_ rfl ?_)|(refine o0_ ?_; first|refine o1_ ?_|refine o2_ ?_|refine o3_ ?_|refine o4_ ?_|refine o5_ ?_|refine o6_ rfl ?_|refine o7_ rfl ?_|refine o8_ ?_|refine o9_ ?_|refine oa_ ?_|refine ob_ ?_|refine oc_ ?_|refine od_ ?_|refine oe_ ?_|refine of_ ?_|refine og_ ?_|refine oh_ ?_|refine oi_ ?_|refine oj_ ?_|refine ok_ ?_))|refine at_go ?_|(with_reducible refine And.intro (at_go ?_) (at_go ?_))|((with_reducible refine And.intro (fun h => ?_) (fun h => ?_)) <;> try (exfalso; omega))|(with_reducible refine And.intro (by first|omega|(simp only [maxLen]; omega)) ?_)|(refine And.intro ⟨[_], rfl⟩ ?_)|(refine And.intro ⟨[], by simp only [List.append_nil]⟩ ?_)|(first|(refine ⟨_, _, pc_lift (hC) (by (simp [idsL, idsE, AV.ids, Nat.add_zero])) _, ?_⟩)|(refine ⟨_, pc_lift (hC) (by (simp [idsL, idsE, AV.ids, Nat.add_zero])) _, ?_⟩)|(refine ⟨_, fun _ => pc_lift (hC) (by (simp [idsL, idsE, AV.ids, Nat.add_zero])) _, ?_⟩))|simp (disch := first|omega|(simp only [List.length_map, lenF, lenS]; omega)) only [push_cast, ↓reduceIte, reduceIte, reduceCtorEq, Nat.reduceAdd, Nat.reduceLT, Nat.reduceEqDiff, Nat.reduceLeDiff, Int.reduceAdd, Int.reduceLT, Int.reduceLE, Nat.reduceMul, a0, a1, h0])
end Go.Proofs
