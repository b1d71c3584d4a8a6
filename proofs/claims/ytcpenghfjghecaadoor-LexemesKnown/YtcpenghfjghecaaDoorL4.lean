import Derived.Test.YtcpenghfjghecaaDoorL3
/- Lexemes: Of by the program, walked. -/
namespace Go.Proofs
open Go Go.V
set_option linter.unusedVariables false
set_option linter.unusedSimpArgs false
set_option maxHeartbeats 0
set_option maxRecDepth 100000
theorem idsE_append (p : Nat → Bool) (a b : List (List AV)) : idsE p (a ++ b) = (idsE p a && idsE p b) := by
  induction a with
  | nil => simp [idsE]
  | cons x xs ih => simp [idsE, ih, Bool.and_assoc]
theorem posT_bd : ∀ (w : Bs) (l c B : Int), 0 ≤ l → l ≤ B → 0 ≤ c → c ≤ B → 1 ≤ B → 0 ≤ (posT l c w).1 ∧ (posT l c w).1 ≤ B + w.length ∧ 0 ≤ (posT l c w).2 ∧ (posT l c w).2 ≤ B + w.length
  | [], l, c, B, h1, h2, h3, h4, h5 => by simp [posT]; omega
  | b :: r, l, c, B, h1, h2, h3, h4, h5 => by
    rw [posT]
    simp only [List.length_cons, Int.natCast_add, Int.natCast_one]
    split
    · have := posT_bd r (l + 1) 1 (B + 1) (by omega) (by omega) (by omega) (by omega) (by omega); omega
    · have := posT_bd r l (c + 1) (B + 1) (by omega) (by omega) (by omega) (by omega) (by omega); omega
theorem pass22 (t : Bs) (l c : Int) (K : List Blk) (ht : t.length ≤ 1000000) (hl : 0 ≤ l ∧ l ≤ 1000000) (hc : 0 ≤ c ∧ c ≤ 1000000) :
    ACalls Tryd.prog G0 22 [.str t, .ptr 0 0 0 1, .ptr 1 0 0 1] (.row 1 3 [[.int .i64 l]] :: .row 1 3 [[.int .i64 c]] :: K) (.tup []) (.row 1 3 [[.int .i64 (posT l c t).1]] :: .row 1 3 [[.int .i64 (posT l c t).2]] :: K) := by
  have h1 := fun H => cnt23 H t
  have h2 := fun H => last24 H t ht
  have hs := lastIndex_spec t 10
  have p1 := posT_no t l c
  have p2 := posT_at t l c
  have hcl : t.count 10 ≤ t.length := List.count_le_length
  have e10 : (((10 : UInt8).toNat : Nat) : Int) = 10 := rfl
  rw [e10] at hs
  generalize Lib.lastIndexByte ⟨t.toArray⟩ 10 = ix at *
  rcases hs with ⟨rfl, hn⟩ | ⟨i, hi, rfl, h3, h4⟩
  · have hz : t.count 10 = 0 := List.count_eq_zero.mpr fun q => by
      obtain ⟨j, hj, e⟩ := List.getElem_of_mem q
      exact hn j (by rw [List.getElem?_eq_getElem hj, e])
    rw [p1 hn]
    rw [hz] at h1
    refine ac_go 21 [] Tryd.func22 rfl rfl rfl (by simp) ?_
    intro s ⟨a0, a1, a2, hz⟩
    simp only [Nat.zero_add, Nat.reduceAdd] at a1 a2
    clear hz
    repeat' (first | (first | (refine a0_ ?_; first | refine a1_ rfl rfl ?_ | refine a2_ rfl ?_ | refine a3_ rfl rfl ?_ | refine a4_ rfl ?_ | refine a5_ rfl rfl rfl ?_ | refine a6_ rfl rfl ?_ | refine a7_ rfl rfl ?_ | refine a8_ rfl rfl ?_ | refine a9_ rfl rfl rfl ?_) | (refine g0_ ?_; first | refine g1_ rfl ?_ | refine g2_ rfl rfl ?_ | refine go_draw (dr := allQ) rfl rfl mixed (by first | assumption | kernel_rfl) ?_ | refine g4_ rfl ?_ | refine g5_ rfl ?_ | refine g6_ rfl ?_ | refine g7_ rfl ?_ | refine g8_ rfl ?_ | refine ga_ rfl ?_ | refine gb_ rfl ?_) | (refine o0_ ?_; first | refine o1_ ?_ | refine o2_ ?_ | refine o3_ ?_ | refine o4_ ?_ | refine o5_ ?_ | refine o6_ rfl ?_ | refine o7_ rfl ?_ | refine o8_ ?_ | refine o9_ ?_ | refine oa_ ?_ | refine ob_ ?_ | refine oc_ ?_ | refine od_ ?_ | refine oe_ ?_ | refine of_ ?_ | refine og_ ?_ | refine oh_ ?_ | refine oi_ ?_ | refine oj_ ?_ | refine ok_ ?_)) | refine at_go ?_ | (with_reducible refine And.intro (at_go ?_) (at_go ?_)) | ((with_reducible refine And.intro (fun h => ?_) (fun h => ?_)) <;> try (exfalso; omega)) | (with_reducible refine And.intro (by first | omega | (simp only [maxLen]; omega)) ?_) | (first | (refine ⟨_, _, h1 _, ?_⟩) | (refine ⟨_, h1 _, ?_⟩) | (refine ⟨_, fun _ => h1 _, ?_⟩) | (refine ⟨_, _, h2 _, ?_⟩) | (refine ⟨_, h2 _, ?_⟩) | (refine ⟨_, fun _ => h2 _, ?_⟩)) | simp (disch := first | omega | (simp only [length_tks, List.length_set, List.length_reverse, List.length_replicate, List.length_append, List.length_cons, List.length_nil, List.length_map]; omega)) only [push_cast, ↓reduceIte, reduceIte, reduceCtorEq, Nat.reduceAdd, Nat.reduceLT, Nat.reduceEqDiff, Nat.reduceLeDiff, Int.reduceAdd, Int.reduceLT, Int.reduceLE, Nat.reduceMul, a0, a1, a2])
    rw [Int.add_zero]
  · rw [p2 i h3 h4]
    have e1 : ((i : Int) + 1).toNat = i + 1 := by omega
    have e2 : (t.drop (i + 1)).length ≤ 1000000 := by rw [List.length_drop]; omega
    generalize hu : t.drop (i + 1) = u at *
    refine ac_go 21 [] Tryd.func22 rfl rfl rfl (by simp) ?_
    intro s ⟨a0, a1, a2, hz⟩
    simp only [Nat.zero_add, Nat.reduceAdd] at a1 a2
    clear hz
    repeat' (first | (first | (refine a0_ ?_; first | refine a1_ rfl rfl ?_ | refine a2_ rfl ?_ | refine a3_ rfl rfl ?_ | refine a4_ rfl ?_ | refine a5_ rfl rfl rfl ?_ | refine a6_ rfl rfl ?_ | refine a7_ rfl rfl ?_ | refine a8_ rfl rfl ?_ | refine a9_ rfl rfl rfl ?_) | (refine g0_ ?_; first | refine g1_ rfl ?_ | refine g2_ rfl rfl ?_ | refine go_draw (dr := allQ) rfl rfl mixed (by first | assumption | kernel_rfl) ?_ | refine g4_ rfl ?_ | refine g5_ rfl ?_ | refine g6_ rfl ?_ | refine g7_ rfl ?_ | refine g8_ rfl ?_ | refine ga_ rfl ?_ | refine gb_ rfl ?_) | (refine o0_ ?_; first | refine o1_ ?_ | refine o2_ ?_ | refine o3_ ?_ | refine o4_ ?_ | refine o5_ ?_ | refine o6_ rfl ?_ | refine o7_ rfl ?_ | refine o8_ ?_ | refine o9_ ?_ | refine oa_ ?_ | refine ob_ ?_ | refine oc_ ?_ | refine od_ ?_ | refine oe_ ?_ | refine of_ ?_ | refine og_ ?_ | refine oh_ ?_ | refine oi_ ?_ | refine oj_ ?_ | refine ok_ ?_)) | refine at_go ?_ | (with_reducible refine And.intro (at_go ?_) (at_go ?_)) | ((with_reducible refine And.intro (fun h => ?_) (fun h => ?_)) <;> try (exfalso; omega)) | (with_reducible refine And.intro (by first | omega | (simp only [maxLen]; omega)) ?_) | (first | (refine ⟨_, _, h1 _, ?_⟩) | (refine ⟨_, h1 _, ?_⟩) | (refine ⟨_, fun _ => h1 _, ?_⟩) | (refine ⟨_, _, h2 _, ?_⟩) | (refine ⟨_, h2 _, ?_⟩) | (refine ⟨_, fun _ => h2 _, ?_⟩)) | simp (disch := first | omega | (simp only [length_tks, List.length_set, List.length_reverse, List.length_replicate, List.length_append, List.length_cons, List.length_nil, List.length_map]; omega)) only [push_cast, ↓reduceIte, reduceIte, reduceCtorEq, Nat.reduceAdd, Nat.reduceLT, Nat.reduceEqDiff, Nat.reduceLeDiff, Int.reduceAdd, Int.reduceLT, Int.reduceLE, Nat.reduceMul, a0, a1, a2, e1, hu])
    all_goals first | omega | rfl
def ofR : LexR → List Tk × Int × Int × Int
  | .ok l => (l, 0, 0, 0)
  | .err l c e => ([], l, c, e)
/-- What Of answers. -/
def ofS (s0 : Bs) : List Tk × Int × Int × Int := if 65536 < s0.length then ([], 0, 0, 3) else ofR (lexR s0 1 1)
def ofA (s0 : Bs) : AV := .tup [.sl 4 (tks (ofS s0).1) (some (ofS s0).1.length), .int .i64 (ofS s0).2.1, .int .i64 (ofS s0).2.2.1, .int .i64 (ofS s0).2.2.2]
theorem clip26_own (b n h : Nat) (t : TypeId) (es : List (List AV)) (c : Option Nat) (H : List Blk) (hb : H[b]? = some (.row 4 t es)) (hh : h = es.length) : ACalls Tryd.prog G0 26 [.own b n h c] H (.own b n h (some n)) H := by
  subst hh
  refine ac_go 9 [.tmp 2] Tryd.func26 rfl rfl rfl (by simp) ?_
  intro s ⟨a0, hz⟩
  clear hz
  repeat' (first | (first | (refine a0_ ?_; first | refine a1_ rfl rfl ?_ | refine a2_ rfl ?_ | refine a3_ rfl rfl ?_ | refine a4_ rfl ?_ | refine a5_ rfl rfl rfl ?_ | refine a6_ rfl rfl ?_ | refine a7_ rfl rfl ?_ | refine a8_ rfl rfl ?_ | refine a9_ rfl rfl rfl ?_) | (refine g0_ ?_; first | refine g1_ rfl ?_ | refine g2_ rfl rfl ?_ | refine go_draw (dr := allQ) rfl rfl mixed (by first | assumption | kernel_rfl) ?_ | refine g4_ rfl ?_ | refine g5_ rfl ?_ | refine g6_ rfl ?_ | refine g7_ rfl ?_ | refine g8_ rfl ?_ | refine ga_ rfl ?_ | refine gb_ rfl ?_) | (refine o0_ ?_; first | refine o1_ ?_ | refine o2_ ?_ | refine o3_ ?_ | refine o4_ ?_ | refine o5_ ?_ | refine o6_ rfl ?_ | refine o7_ rfl ?_ | refine o8_ ?_ | refine o9_ ?_ | refine oa_ ?_ | refine ob_ ?_ | refine oc_ ?_ | refine od_ ?_ | refine oe_ ?_ | refine of_ ?_ | refine og_ ?_ | refine oh_ ?_ | refine oi_ ?_ | refine oj_ ?_ | refine ok_ ?_)) | refine at_go ?_ | (with_reducible refine And.intro (at_go ?_) (at_go ?_)) | ((with_reducible refine And.intro (fun h => ?_) (fun h => ?_)) <;> try (exfalso; omega)) | (with_reducible refine And.intro (by first | omega | (simp only [maxLen]; omega)) ?_) | (first | (refine ⟨_, _, h1 _, ?_⟩) | (refine ⟨_, h1 _, ?_⟩) | (refine ⟨_, fun _ => h1 _, ?_⟩) | (refine ⟨_, _, h2 _, ?_⟩) | (refine ⟨_, h2 _, ?_⟩) | (refine ⟨_, fun _ => h2 _, ?_⟩)) | simp (disch := first | omega | (simp only [length_tks, List.length_set, List.length_reverse, List.length_replicate, List.length_append, List.length_cons, List.length_nil, List.length_map]; omega)) only [push_cast, ↓reduceIte, reduceIte, reduceCtorEq, Nat.reduceAdd, Nat.reduceLT, Nat.reduceEqDiff, Nat.reduceLeDiff, Int.reduceAdd, Int.reduceLT, Int.reduceLE, Nat.reduceMul, a0, hb])
theorem clip26_nil (H : List Blk) : ACalls Tryd.prog G0 26 [.sl 4 [] (some 0)] H (.sl 4 [] (some 0)) H := by
  refine ac_go 9 [.tmp 2] Tryd.func26 rfl rfl rfl (by simp) ?_
  intro s ⟨a0, hz⟩
  clear hz
  repeat' (first | (first | (refine a0_ ?_; first | refine a1_ rfl rfl ?_ | refine a2_ rfl ?_ | refine a3_ rfl rfl ?_ | refine a4_ rfl ?_ | refine a5_ rfl rfl rfl ?_ | refine a6_ rfl rfl ?_ | refine a7_ rfl rfl ?_ | refine a8_ rfl rfl ?_ | refine a9_ rfl rfl rfl ?_) | (refine g0_ ?_; first | refine g1_ rfl ?_ | refine g2_ rfl rfl ?_ | refine go_draw (dr := allQ) rfl rfl mixed (by first | assumption | kernel_rfl) ?_ | refine g4_ rfl ?_ | refine g5_ rfl ?_ | refine g6_ rfl ?_ | refine g7_ rfl ?_ | refine g8_ rfl ?_ | refine ga_ rfl ?_ | refine gb_ rfl ?_) | (refine o0_ ?_; first | refine o1_ ?_ | refine o2_ ?_ | refine o3_ ?_ | refine o4_ ?_ | refine o5_ ?_ | refine o6_ rfl ?_ | refine o7_ rfl ?_ | refine o8_ ?_ | refine o9_ ?_ | refine oa_ ?_ | refine ob_ ?_ | refine oc_ ?_ | refine od_ ?_ | refine oe_ ?_ | refine of_ ?_ | refine og_ ?_ | refine oh_ ?_ | refine oi_ ?_ | refine oj_ ?_ | refine ok_ ?_)) | refine at_go ?_ | (with_reducible refine And.intro (at_go ?_) (at_go ?_)) | ((with_reducible refine And.intro (fun h => ?_) (fun h => ?_)) <;> try (exfalso; omega)) | (with_reducible refine And.intro (by first | omega | (simp only [maxLen]; omega)) ?_) | (first | (refine ⟨_, _, h1 _, ?_⟩) | (refine ⟨_, h1 _, ?_⟩) | (refine ⟨_, fun _ => h1 _, ?_⟩) | (refine ⟨_, _, h2 _, ?_⟩) | (refine ⟨_, h2 _, ?_⟩) | (refine ⟨_, fun _ => h2 _, ?_⟩)) | simp (disch := first | omega | (simp only [length_tks, List.length_set, List.length_reverse, List.length_replicate, List.length_append, List.length_cons, List.length_nil, List.length_map]; omega)) only [push_cast, ↓reduceIte, reduceIte, reduceCtorEq, Nat.reduceAdd, Nat.reduceLT, Nat.reduceEqDiff, Nat.reduceLeDiff, Int.reduceAdd, Int.reduceLT, Int.reduceLE, Nat.reduceMul, a0])
theorem of9 (s0 : Bs) (hs : s0.length ≤ 1000000) : PC Tryd.prog G0 9 [.str s0] (ofA s0) := by
  unfold ofA
  by_cases hbig : 65536 < s0.length
  · rw [show ofS s0 = ([], 0, 0, 3) by rw [ofS, if_pos hbig]]
    have hb' : (65536 : Int) < s0.length := by omega
    refine pc_go 1 65 [.tmp 2, .cell 3 3, .cell 4 3, .tmp 5] Tryd.func9 rfl rfl rfl (by simp) ?_
    intro s ⟨a0, hz⟩
    clear hz
    repeat' (first | (first | (refine a0_ ?_; first | refine a1_ rfl rfl ?_ | refine a2_ rfl ?_ | refine a3_ rfl rfl ?_ | refine a4_ rfl ?_ | refine a5_ rfl rfl rfl ?_ | refine a6_ rfl rfl ?_ | refine a7_ rfl rfl ?_ | refine a8_ rfl rfl ?_ | refine a9_ rfl rfl rfl ?_) | (refine g0_ ?_; first | refine g1_ rfl ?_ | refine g2_ rfl rfl ?_ | refine go_drawN (dr := allQ) (p := [0, 0, 1, 0, 1, 1, 1, 1, 1, 0, 0, 0, 1, 1, 1, 1, 1]) [(46, 4)] [(3, some 3)] [] rfl rfl mixed (by kernel_rfl) ?_ | refine go_drawN (dr := allQ) (p := [0, 1, 1, 1, 1, 1, 1, 0, 0, 0, 1, 1, 1, 1, 1]) [(49, 4)] [(50, some 50)] [] rfl rfl mixed (by kernel_rfl) ?_ | refine go_draw (dr := allQ) rfl rfl mixed (by first | assumption | kernel_rfl) ?_ | refine g4_ rfl ?_ | refine g5_ rfl ?_ | refine g6_ rfl ?_ | refine g7_ rfl ?_ | refine g8_ rfl ?_ | refine ga_ rfl ?_ | refine gb_ rfl ?_) | (refine o0_ ?_; first | refine o1_ ?_ | refine o2_ ?_ | refine o3_ ?_ | refine o4_ ?_ | refine o5_ ?_ | refine o6_ rfl ?_ | refine o7_ rfl ?_ | refine o8_ ?_ | refine o9_ ?_ | refine oa_ ?_ | refine ob_ ?_ | refine oc_ ?_ | refine od_ ?_ | refine oe_ ?_ | refine of_ ?_ | refine og_ ?_ | refine oh_ ?_ | refine oi_ ?_ | refine oj_ ?_ | refine ok_ ?_)) | refine at_go ?_ | (with_reducible refine And.intro (at_go ?_) (at_go ?_)) | ((with_reducible refine And.intro (fun h => ?_) (fun h => ?_)) <;> try (exfalso; omega)) | (with_reducible refine And.intro (by first | omega | (simp only [maxLen]; omega)) ?_) | fail | simp (disch := first | omega | (simp only [length_tks, List.length_set, List.length_reverse, List.length_replicate, List.length_append, List.length_cons, List.length_nil, List.length_map]; omega)) only [push_cast, ↓reduceIte, reduceIte, reduceCtorEq, Nat.reduceAdd, Nat.reduceLT, Nat.reduceEqDiff, Nat.reduceLeDiff, Int.reduceAdd, Int.reduceLT, Int.reduceLE, Nat.reduceMul, a0, hb', tks_nil])
  · have hR : ofS s0 = ofR (lexR s0 1 1) := by rw [ofS, if_neg hbig]
    have hb' : ¬ (65536 : Int) < s0.length := by omega
    generalize ofS s0 = R at *
    refine pc_go 1 65 [.tmp 2, .cell 3 3, .cell 4 3, .tmp 5] Tryd.func9 rfl rfl rfl (by simp) ?_
    intro s ⟨a0, hz⟩
    clear hz
    repeat' (first | (first | (refine a0_ ?_; first | refine a1_ rfl rfl ?_ | refine a2_ rfl ?_ | refine a3_ rfl rfl ?_ | refine a4_ rfl ?_ | refine a5_ rfl rfl rfl ?_ | refine a6_ rfl rfl ?_ | refine a7_ rfl rfl ?_ | refine a8_ rfl rfl ?_ | refine a9_ rfl rfl rfl ?_) | (refine g0_ ?_; first | refine g1_ rfl ?_ | refine g2_ rfl rfl ?_ | refine go_drawN (dr := allQ) (p := [0, 0, 1, 0, 1, 1, 1, 1, 1, 0, 0, 0, 1, 1, 1, 1, 1]) [(46, 4)] [(3, some 3)] [] rfl rfl mixed (by kernel_rfl) ?_ | refine go_drawN (dr := allQ) (p := [0, 1, 1, 1, 1, 1, 1, 0, 0, 0, 1, 1, 1, 1, 1]) [(49, 4)] [(50, some 50)] [] rfl rfl mixed (by kernel_rfl) ?_ | refine go_draw (dr := allQ) rfl rfl mixed (by first | assumption | kernel_rfl) ?_ | refine g4_ rfl ?_ | refine g5_ rfl ?_ | refine g6_ rfl ?_ | refine g7_ rfl ?_ | refine g8_ rfl ?_ | refine ga_ rfl ?_ | refine gb_ rfl ?_) | (refine o0_ ?_; first | refine o1_ ?_ | refine o2_ ?_ | refine o3_ ?_ | refine o4_ ?_ | refine o5_ ?_ | refine o6_ rfl ?_ | refine o7_ rfl ?_ | refine o8_ ?_ | refine o9_ ?_ | refine oa_ ?_ | refine ob_ ?_ | refine oc_ ?_ | refine od_ ?_ | refine oe_ ?_ | refine of_ ?_ | refine og_ ?_ | refine oh_ ?_ | refine oi_ ?_ | refine oj_ ?_ | refine ok_ ?_)) | refine at_go ?_ | (with_reducible refine And.intro (at_go ?_) (at_go ?_)) | ((with_reducible refine And.intro (fun h => ?_) (fun h => ?_)) <;> try (exfalso; omega)) | (with_reducible refine And.intro (by first | omega | (simp only [maxLen]; omega)) ?_) | fail | simp (disch := first | omega | (simp only [length_tks, List.length_set, List.length_reverse, List.length_replicate, List.length_append, List.length_cons, List.length_nil, List.length_map]; omega)) only [push_cast, ↓reduceIte, reduceIte, reduceCtorEq, Nat.reduceAdd, Nat.reduceLT, Nat.reduceEqDiff, Nat.reduceLeDiff, Int.reduceAdd, Int.reduceLT, Int.reduceLE, Nat.reduceMul, a0, hb'])
    refine go_weak (by (first | trivial | ((repeat' apply And.intro) <;> first | trivial | assumption | omega | (simp only [maxLen]; omega) | (simp only [length_tks, List.length_replicate, List.length_append, List.length_cons, List.length_nil, List.length_map, List.length_take, List.length_drop, List.length_set, List.length_reverse, maxLen] <;> omega)))) (weak_nil (t := 2) (sz := 4) (ty := 33) rfl) ?_
    refine go_loop rfl (fun mz s' H' => ∃ (a : Nat) (ts : List Tk) (l c : Int), a ≤ s0.length ∧ ts.length ≤ a ∧ (0 ≤ l ∧ l ≤ a + 1) ∧ (0 ≤ c ∧ c ≤ a + 1) ∧ lexR s0 1 1 = (lexR (s0.drop a) l c).app ts ∧ mz = s0.length - a ∧ H' = [.row 1 3 [[.int .i64 l]], .row 1 3 [[.int .i64 c]], .row 4 33 (tks ts)] ∧ s' 0 = .str s0 ∧ s' 2 = .own 2 ts.length ts.length none ∧ s' 3 = .ptr 0 0 0 1 ∧ s' 4 = .ptr 1 0 0 1 ∧ s' 6 = .fn 22 [.ptr 0 0 0 1, .ptr 1 0 0 1] ∧ s' 7 = .int .i64 a) (m := s0.length) (by (first | trivial | ((repeat' apply And.intro) <;> first | trivial | assumption | omega | (simp only [maxLen]; omega) | (simp only [length_tks, List.length_replicate, List.length_append, List.length_cons, List.length_nil, List.length_map, List.length_take, List.length_drop, List.length_set, List.length_reverse, maxLen] <;> omega)))) (Weak.refl _ _) ⟨0, [], 1, 1, by omega, by simp, by omega, by omega, ?_, by omega, rfl, ?_⟩ ?_
    · rw [List.drop_zero, LexR.app_nil]
    · simp (disch := first | omega | (simp only [length_tks, List.length_set, List.length_reverse, List.length_replicate, List.length_append, List.length_cons, List.length_nil, List.length_map]; omega)) only [push_cast, ↓reduceIte, reduceIte, reduceCtorEq, Nat.reduceAdd, Nat.reduceLT, Nat.reduceEqDiff, Nat.reduceLeDiff, Int.reduceAdd, Int.reduceLT, Int.reduceLE, Nat.reduceMul, a0, hb']
    · rintro mz s' H' ⟨a, ts, l, c, ha, hts, hl, hc, ik, rfl, rfl, b0, b2, b3, b4, b6, b7⟩
      have hg := gapS_le false (s0.drop a)
      rw [List.length_drop] at hg
      have h1 := gap25 (s0.drop a) (by rw [List.length_drop]; omega)
      have h2 := fun H => pass22 ((s0.drop a).take (gapS false (s0.drop a))) l c H (by rw [List.length_take, List.length_drop]; omega) (by omega) (by omega)
      have hge := gap_end (s0.drop a) false l c
      have hbd := posT_bd ((s0.drop a).take (gapS false (s0.drop a))) l c (a + 1) (by omega) (by omega) (by omega) (by omega) (by omega)
      have hgl : ((s0.drop a).take (gapS false (s0.drop a))).length = gapS false (s0.drop a) := by rw [List.length_take, List.length_drop]; omega
      rw [hgl] at hbd
      have hlx : lexX false (s0.drop a) l c = lexR (s0.drop a) l c := rfl
      rw [hlx, List.drop_drop] at hge
      generalize hP : posT l c ((s0.drop a).take (gapS false (s0.drop a))) = P at *
      obtain ⟨l2, c2⟩ := P
      simp only at h2 hge hbd
      generalize gapS false (s0.drop a) = g at *
      have hsl : ((a : Int) + (g : Int)).toNat = a + g := by omega
      have hsub : List.drop a (List.take (a + g) s0) = (s0.drop a).take g := by rw [List.drop_take]; congr 1; omega
      generalize hX : (s0.drop a).take g = X at *
      rcases hge with ⟨hd, hz⟩ | ⟨b, r, hd, hrem, n2, n1, n3, hz⟩
      · have hag : a + g = s0.length := by have := congrArg List.length hd; rw [List.length_drop, List.length_nil] at this; omega
        rw [hz] at ik
        have hR2 : R = (ts, 0, 0, 0) := by rw [hR, ik]; simp [LexR.app, ofR]
        have hsub2 : s0.drop a = X := by rw [← hX, List.take_of_length_le (by rw [List.length_drop]; omega)]
        rw [hsub2] at h1
        have et : (tks ts).take ts.length = tks ts := List.take_of_length_le (by rw [length_tks]; omega)
        repeat' (first | (first | (refine a0_ ?_; first | refine a1_ rfl rfl ?_ | refine a2_ rfl ?_ | refine a3_ rfl rfl ?_ | refine a4_ rfl ?_ | refine a5_ rfl rfl rfl ?_ | refine a6_ rfl rfl ?_ | refine a7_ rfl rfl ?_ | refine a8_ rfl rfl ?_ | refine a9_ rfl rfl rfl ?_) | (refine g0_ ?_; first | refine g1_ rfl ?_ | refine g2_ rfl rfl ?_ | refine go_drawN (dr := allQ) (p := [0, 0, 1, 0, 1, 1, 1, 1, 1, 0, 0, 0, 1, 1, 1, 1, 1]) [(46, 4)] [(3, some 3)] [] rfl rfl mixed (by kernel_rfl) ?_ | refine go_drawN (dr := allQ) (p := [0, 1, 1, 1, 1, 1, 1, 0, 0, 0, 1, 1, 1, 1, 1]) [(49, 4)] [(50, some 50)] [] rfl rfl mixed (by kernel_rfl) ?_ | refine go_draw (dr := allQ) rfl rfl mixed (by first | assumption | kernel_rfl) ?_ | refine g4_ rfl ?_ | refine g5_ rfl ?_ | refine g6_ rfl ?_ | refine g7_ rfl ?_ | refine g8_ rfl ?_ | refine ga_ rfl ?_ | refine gb_ rfl ?_) | (refine o0_ ?_; first | refine o1_ ?_ | refine o2_ ?_ | refine o3_ ?_ | refine o4_ ?_ | refine o5_ ?_ | refine o6_ rfl ?_ | refine o7_ rfl ?_ | refine o8_ ?_ | refine o9_ ?_ | refine oa_ ?_ | refine ob_ ?_ | refine oc_ ?_ | refine od_ ?_ | refine oe_ ?_ | refine of_ ?_ | refine og_ ?_ | refine oh_ ?_ | refine oi_ ?_ | refine oj_ ?_ | refine ok_ ?_)) | refine at_go ?_ | (with_reducible refine And.intro (at_go ?_) (at_go ?_)) | ((with_reducible refine And.intro (fun h => ?_) (fun h => ?_)) <;> try (exfalso; omega)) | (with_reducible refine And.intro (by first | omega | (simp only [maxLen]; omega)) ?_) | (first | (refine ⟨_, _, pc_lift (h1) (by (simp [idsL, idsE, AV.ids, Nat.add_zero])) _, ?_⟩) | (refine ⟨_, pc_lift (h1) (by (simp [idsL, idsE, AV.ids, Nat.add_zero])) _, ?_⟩) | (refine ⟨_, fun _ => pc_lift (h1) (by (simp [idsL, idsE, AV.ids, Nat.add_zero])) _, ?_⟩) | (refine ⟨_, _, h2 _, ?_⟩) | (refine ⟨_, h2 _, ?_⟩) | (refine ⟨_, fun _ => h2 _, ?_⟩) | (refine ⟨_, _, clip26_own 2 _ _ 33 (tks ts) none _ rfl (by rw [length_tks]), ?_⟩) | (refine ⟨_, clip26_own 2 _ _ 33 (tks ts) none _ rfl (by rw [length_tks]), ?_⟩) | (refine ⟨_, fun _ => clip26_own 2 _ _ 33 (tks ts) none _ rfl (by rw [length_tks]), ?_⟩)) | simp (disch := first | omega | (simp only [length_tks, List.length_set, List.length_reverse, List.length_replicate, List.length_append, List.length_cons, List.length_nil, List.length_map]; omega)) only [push_cast, ↓reduceIte, reduceIte, reduceCtorEq, Nat.reduceAdd, Nat.reduceLT, Nat.reduceEqDiff, Nat.reduceLeDiff, Int.reduceAdd, Int.reduceLT, Int.reduceLE, Nat.reduceMul, b0, b2, b3, b4, b6, b7, hsl, hsub, hsub2, et, all_tks])
        subst hR2
        first | done | rfl | simp
      · rw [hz] at ik
        have h3 := token27 (s0.drop (a + g)) (by rw [List.length_drop]; omega)
        have hdl := congrArg List.length hd
        rw [List.length_drop, List.length_cons] at hdl
        rw [lexR_cons, if_neg n1, if_neg n2, if_neg n3, ← hd] at ik
        have hby := tokS_bytes (s0.drop (a + g))
        have htl := tokS_le (s0.drop (a + g))
        rw [List.length_drop] at htl
        have hpos := @tokS_pos b r
        rw [← hd] at hpos
        generalize tokS (s0.drop (a + g)) = T at *
        obtain ⟨k, n, e⟩ := T
        simp only at ik h3 hby hpos htl
        have hfl := posT_flat ((s0.drop (a + g)).take n) l2 c2 hby
        have hnl : ((s0.drop (a + g)).take n).length = n := by rw [List.length_take, List.length_drop]; omega
        by_cases he : e = 0
        · subst he
          rw [if_neg (by simp), LexR.app_snoc, List.drop_drop] at ik
          have h4 := fun H => pass22 ((s0.drop (a + g)).take n) l2 c2 H (by omega) (by omega) (by omega)
          rw [hfl, hnl] at h4
          generalize (s0.drop (a + g)).take n = w at *
          repeat' (first | (first | (refine a0_ ?_; first | refine a1_ rfl rfl ?_ | refine a2_ rfl ?_ | refine a3_ rfl rfl ?_ | refine a4_ rfl ?_ | refine a5_ rfl rfl rfl ?_ | refine a6_ rfl rfl ?_ | refine a7_ rfl rfl ?_ | refine a8_ rfl rfl ?_ | refine a9_ rfl rfl rfl ?_) | (refine g0_ ?_; first | refine g1_ rfl ?_ | refine g2_ rfl rfl ?_ | refine go_drawN (dr := allQ) (p := [0, 0, 1, 0, 1, 1, 1, 1, 1, 0, 0, 0, 1, 1, 1, 1, 1]) [(46, 4)] [(3, some 3)] [] rfl rfl mixed (by kernel_rfl) ?_ | refine go_drawN (dr := allQ) (p := [0, 1, 1, 1, 1, 1, 1, 0, 0, 0, 1, 1, 1, 1, 1]) [(49, 4)] [(50, some 50)] [] rfl rfl mixed (by kernel_rfl) ?_ | refine go_draw (dr := allQ) rfl rfl mixed (by first | assumption | kernel_rfl) ?_ | refine g4_ rfl ?_ | refine g5_ rfl ?_ | refine g6_ rfl ?_ | refine g7_ rfl ?_ | refine g8_ rfl ?_ | refine ga_ rfl ?_ | refine gb_ rfl ?_) | (refine o0_ ?_; first | refine o1_ ?_ | refine o2_ ?_ | refine o3_ ?_ | refine o4_ ?_ | refine o5_ ?_ | refine o6_ rfl ?_ | refine o7_ rfl ?_ | refine o8_ ?_ | refine o9_ ?_ | refine oa_ ?_ | refine ob_ ?_ | refine oc_ ?_ | refine od_ ?_ | refine oe_ ?_ | refine of_ ?_ | refine og_ ?_ | refine oh_ ?_ | refine oi_ ?_ | refine oj_ ?_ | refine ok_ ?_)) | refine at_go ?_ | (with_reducible refine And.intro (at_go ?_) (at_go ?_)) | ((with_reducible refine And.intro (fun h => ?_) (fun h => ?_)) <;> try (exfalso; omega)) | (with_reducible refine And.intro (by first | omega | (simp only [maxLen]; omega)) ?_) | (first | (refine ⟨_, _, pc_lift (h1) (by (simp [idsL, idsE, AV.ids, Nat.add_zero])) _, ?_⟩) | (refine ⟨_, pc_lift (h1) (by (simp [idsL, idsE, AV.ids, Nat.add_zero])) _, ?_⟩) | (refine ⟨_, fun _ => pc_lift (h1) (by (simp [idsL, idsE, AV.ids, Nat.add_zero])) _, ?_⟩) | (refine ⟨_, _, h2 _, ?_⟩) | (refine ⟨_, h2 _, ?_⟩) | (refine ⟨_, fun _ => h2 _, ?_⟩) | (refine ⟨_, _, pc_lift (h3) (by (simp [idsL, idsE, AV.ids, Nat.add_zero])) _, ?_⟩) | (refine ⟨_, pc_lift (h3) (by (simp [idsL, idsE, AV.ids, Nat.add_zero])) _, ?_⟩) | (refine ⟨_, fun _ => pc_lift (h3) (by (simp [idsL, idsE, AV.ids, Nat.add_zero])) _, ?_⟩) | (refine ⟨_, _, h4 _, ?_⟩) | (refine ⟨_, h4 _, ?_⟩) | (refine ⟨_, fun _ => h4 _, ?_⟩)) | simp (disch := first | omega | (simp only [length_tks, List.length_set, List.length_reverse, List.length_replicate, List.length_append, List.length_cons, List.length_nil, List.length_map]; omega)) only [push_cast, ↓reduceIte, reduceIte, reduceCtorEq, Nat.reduceAdd, Nat.reduceLT, Nat.reduceEqDiff, Nat.reduceLeDiff, Int.reduceAdd, Int.reduceLT, Int.reduceLE, Nat.reduceMul, b0, b2, b3, b4, b6, b7, hsl, hsub])
          refine out_round_take (s0.length - (a + g + n)) 3 (by omega) (by (first | trivial | ((repeat' apply And.intro) <;> first | trivial | assumption | omega | (simp only [maxLen]; omega) | (simp only [length_tks, List.length_replicate, List.length_append, List.length_cons, List.length_nil, List.length_map, List.length_take, List.length_drop, List.length_set, List.length_reverse, maxLen] <;> omega)))) (by omega) (by simp) (by simp [Blk.below, idsL, idsE, AV.ids, idsE_append]) ⟨a + g + n, ts ++ [⟨k, w, l2, c2⟩], l2, c2 + n, by omega, by simp; omega, by omega, by omega, ik, rfl, by rw [← tks_snoc]; rfl, ?_⟩
          simp (disch := first | omega | (simp only [length_tks, List.length_set, List.length_reverse, List.length_replicate, List.length_append, List.length_cons, List.length_nil, List.length_map]; omega)) only [push_cast, ↓reduceIte, reduceIte, reduceCtorEq, Nat.reduceAdd, Nat.reduceLT, Nat.reduceEqDiff, Nat.reduceLeDiff, Int.reduceAdd, Int.reduceLT, Int.reduceLE, Nat.reduceMul, b0, b2, b3, b4, b6, b7, scrub, AV.ids, idsL]
          first | done | rw [hnl]
        · rw [if_pos he] at ik
          have hR2 : R = ([], l2, c2, e) := by rw [hR, ik]; simp [LexR.app, ofR]
          repeat' (first | (first | (refine a0_ ?_; first | refine a1_ rfl rfl ?_ | refine a2_ rfl ?_ | refine a3_ rfl rfl ?_ | refine a4_ rfl ?_ | refine a5_ rfl rfl rfl ?_ | refine a6_ rfl rfl ?_ | refine a7_ rfl rfl ?_ | refine a8_ rfl rfl ?_ | refine a9_ rfl rfl rfl ?_) | (refine g0_ ?_; first | refine g1_ rfl ?_ | refine g2_ rfl rfl ?_ | refine go_drawN (dr := allQ) (p := [0, 0, 1, 0, 1, 1, 1, 1, 1, 0, 0, 0, 1, 1, 1, 1, 1]) [(46, 4)] [(3, some 3)] [] rfl rfl mixed (by kernel_rfl) ?_ | refine go_drawN (dr := allQ) (p := [0, 1, 1, 1, 1, 1, 1, 0, 0, 0, 1, 1, 1, 1, 1]) [(49, 4)] [(50, some 50)] [] rfl rfl mixed (by kernel_rfl) ?_ | refine go_draw (dr := allQ) rfl rfl mixed (by first | assumption | kernel_rfl) ?_ | refine g4_ rfl ?_ | refine g5_ rfl ?_ | refine g6_ rfl ?_ | refine g7_ rfl ?_ | refine g8_ rfl ?_ | refine ga_ rfl ?_ | refine gb_ rfl ?_) | (refine o0_ ?_; first | refine o1_ ?_ | refine o2_ ?_ | refine o3_ ?_ | refine o4_ ?_ | refine o5_ ?_ | refine o6_ rfl ?_ | refine o7_ rfl ?_ | refine o8_ ?_ | refine o9_ ?_ | refine oa_ ?_ | refine ob_ ?_ | refine oc_ ?_ | refine od_ ?_ | refine oe_ ?_ | refine of_ ?_ | refine og_ ?_ | refine oh_ ?_ | refine oi_ ?_ | refine oj_ ?_ | refine ok_ ?_)) | refine at_go ?_ | (with_reducible refine And.intro (at_go ?_) (at_go ?_)) | ((with_reducible refine And.intro (fun h => ?_) (fun h => ?_)) <;> try (exfalso; omega)) | (with_reducible refine And.intro (by first | omega | (simp only [maxLen]; omega)) ?_) | (first | (refine ⟨_, _, pc_lift (h1) (by (simp [idsL, idsE, AV.ids, Nat.add_zero])) _, ?_⟩) | (refine ⟨_, pc_lift (h1) (by (simp [idsL, idsE, AV.ids, Nat.add_zero])) _, ?_⟩) | (refine ⟨_, fun _ => pc_lift (h1) (by (simp [idsL, idsE, AV.ids, Nat.add_zero])) _, ?_⟩) | (refine ⟨_, _, h2 _, ?_⟩) | (refine ⟨_, h2 _, ?_⟩) | (refine ⟨_, fun _ => h2 _, ?_⟩) | (refine ⟨_, _, pc_lift (h3) (by (simp [idsL, idsE, AV.ids, Nat.add_zero])) _, ?_⟩) | (refine ⟨_, pc_lift (h3) (by (simp [idsL, idsE, AV.ids, Nat.add_zero])) _, ?_⟩) | (refine ⟨_, fun _ => pc_lift (h3) (by (simp [idsL, idsE, AV.ids, Nat.add_zero])) _, ?_⟩)) | simp (disch := first | omega | (simp only [length_tks, List.length_set, List.length_reverse, List.length_replicate, List.length_append, List.length_cons, List.length_nil, List.length_map]; omega)) only [push_cast, ↓reduceIte, reduceIte, reduceCtorEq, Nat.reduceAdd, Nat.reduceLT, Nat.reduceEqDiff, Nat.reduceLeDiff, Int.reduceAdd, Int.reduceLT, Int.reduceLE, Nat.reduceMul, b0, b2, b3, b4, b6, b7, hsl, hsub, he])
          subst hR2
          simp [tks]
end Go.Proofs
