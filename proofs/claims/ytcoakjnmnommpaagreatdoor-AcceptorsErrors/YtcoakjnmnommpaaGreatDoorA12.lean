import Derived.Test.YtcoakjnmnommpaaGreatDoorA11
namespace Go.Proofs
open Go Go.V
set_option linter.unusedVariables false
set_option linter.unusedSimpArgs false
set_option maxHeartbeats 0
def rowsDN (l : List LC) : List (List Nat) := (rowsD l).map natL
theorem rowsDN_len (l : List LC) : (rowsDN l).length = l.length := by simp [rowsDN, rowsD]
theorem rowsDN_get (l : List LC) (s a : Nat) (hs : s < l.length) (ha : a < (l.getD s ([], none)).1.length) : ((rowsDN l).getD s []).getD a 0 = ((l.getD s ([], none)).1.getD a 0).toNat := by
 simp [rowsDN, rowsD, natL, hs] at ha ⊢
 simp [ha]
structure SizeD (zr : Nat) (l : List LC) (za : Nat) (ac : List Bool) : Prop where
 zl : l = [] ∨ zr = 1
 zac : ac = [] ∨ za = 1
 bl : l.length ≤ 9223372036854775807
 bac : ac.length ≤ 9223372036854775807
 br : ∀ s, s < l.length → (l.getD s ([], none)).1.length ≤ 9223372036854775807
theorem SizeD.check {sym : Int} {zr : Nat} {l : List LC} {c : Option Nat} {za : Nat} {ac : List Bool} {ca : Option Nat} (h : SizeD zr l za ac) : PC Tryz.prog G0 21 [dA sym zr l c za ac ca] (.int .i64 (checkD sym (rowsD l) ac.length)) :=
 check40 sym zr l c za ac ca h.zl h.bl h.bac h.br
theorem OkDv.row {A : Nat} {l : List LC} {m : Nat} (h : OkDv A (rowsD l) m) {s : Nat} (hs : s < l.length) : (l.getD s ([], none)).1.length = A := by
 have := h.len s (by rw [rowsD_len]; exact hs)
 rw [rowsD_get l s hs] at this
 exact this
theorem OkDv.at {A : Nat} {l : List LC} {m : Nat} (h : OkDv A (rowsD l) m) {s a : Nat} (hs : s < l.length) (ha : a < A) : 0 ≤ (l.getD s ([], none)).1.getD a 0 ∧ (l.getD s ([], none)).1.getD a 0 < l.length := by
 have := h.to s a (by rw [rowsD_len]; exact hs) ha
 rw [rowsD_get l s hs, rowsD_len] at this
 exact this
theorem run_low {A : Nat} {l : List LC} {m : Nat} (h : OkDv A (rowsD l) m) (w : List Nat) (hw : ∀ a ∈ w, a < A) : runD (rowsDN l) 0 w < l.length := by
 have h1 := h.n1
 rw [rowsD_len] at h1
 have := run_lt (rowsDN l) A (fun s hs a ha => by
  rw [rowsDN_len] at hs ⊢
  rw [rowsDN_get l s a hs (by rw [h.row hs]; exact ha)]
  have := h.at hs ha
  omega) w 0 hw (by rw [rowsDN_len]; omega)
 rwa [rowsDN_len] at this
theorem runD_snoc (rows : List (List Nat)) (w : List Nat) (a : Nat) : runD rows 0 (w ++ [a]) = (rows.getD (runD rows 0 w) []).getD a 0 := by simp [runD, List.foldl_append]
def accD (sym : Int) (l : List LC) (ac : List Bool) (w : List Int) : AV :=
 if checkD sym (rowsD l) ac.length ≠ 0 then .tup [.bool false, .int .i64 (checkD sym (rowsD l) ac.length)]
 else if checkW sym w ≠ 0 then .tup [.bool false, .int .i64 (checkW sym w)]
 else .tup [.bool (ac.getD (runD (rowsDN l) 0 (natL w)) false), .int .i64 0]
set_option maxRecDepth 100000 in
theorem accepts26 (sym : Int) (zr : Nat) (l : List LC) (c : Option Nat) (za : Nat) (ac : List Bool) (ca : Option Nat) (hsz : SizeD zr l za ac) (zw : Nat) (w : List Int) (cw : Option Nat) (hzw : w = [] ∨ zw = 1) (hw : w.length ≤ 9223372036854775807) :
  PC Tryz.prog G0 22 [dA sym zr l c za ac ca, .sl zw (ints w) cw] (accD sym l ac w) := by
 have hck := hsz.check (sym := sym) (c := c) (ca := ca)
 have hcw := check60 zw w cw sym hzw hw
 have hidR : ∀ p, idsE p (rowL l) = true := fun p => idsE_rowL _ _
 have hidA : ∀ p, idsE p (bools ac) = true := fun p => idsE_bools _ _
 have hidW : ∀ p, idsE p (ints w) = true := fun p => idsE_ints _ _
 unfold accD
 by_cases h0 : checkD sym (rowsD l) ac.length = 0
 ·rw [if_neg (by simp [h0])]
  rw [h0] at hck
  by_cases h1 : checkW sym w = 0
  ·rw [if_neg (by simp [h1])]
   rw [h1] at hcw
   obtain ⟨A, rfl, hok⟩ := checkD_ok h0
   obtain ⟨_, hw256, _, hwr⟩ := checkW_ok h1
   have hn := hok.n
   have hn1 := hok.n1
   have hm := hok.m
   rw [rowsD_len] at hn hn1 hm
   obtain rfl := hsz.zl.resolve_left (by intro h; rw [h] at hn1; simp at hn1)
   obtain rfl := hsz.zac.resolve_left (by intro h; rw [h] at hm; simp at hm; omega)
   have hil := length_ints w
   have hRl := length_rowL l
   have hAl := length_bools ac
   have hwN : ∀ k, ∀ a ∈ natL (w.take k), a < A := fun k a ha => by
    obtain ⟨x, hx, rfl⟩ := List.mem_map.1 ha
    have := hwr x (List.mem_of_mem_take hx); omega
   have hlow := fun k => run_low hok (natL (w.take k)) (hwN k)
   have hnext : ∀ k, k < w.length → (l.getD (runD (rowsDN l) 0 (natL (w.take k))) ([], none)).1.getD (w.getD k 0).toNat 0 = (runD (rowsDN l) 0 (natL (w.take (k + 1))) : Nat) := fun k hk => by
    have hx := hwr _ (getD_mem (d := 0) hk)
    have e : natL (w.take (k + 1)) = natL (w.take k) ++ [(w.getD k 0).toNat] := by rw [natL, take_succ_map Int.toNat w 0 k hk]; rfl
    rw [e, runD_snoc, rowsDN_get l _ _ (hlow k) (by rw [hok.row (hlow k)]; omega)]
    have := hok.at (hlow k) (a := (w.getD k 0).toNat) (by omega)
    omega
   have e1 := getD_ints w
   have e2 := fun k => getD_rowL l _ (hlow k)
   have e3 := getD_bools ac (runD (rowsDN l) 0 (natL w))
   have hrow := fun k => hok.row (hlow k)
   have hP0 : runD (rowsDN l) 0 (natL (w.take 0)) = 0 := rfl
   have hPn : runD (rowsDN l) 0 (natL w) = runD (rowsDN l) 0 (natL (w.take w.length)) := by rw [List.take_length]
   rw [hPn] at e3 ⊢
   generalize hSt : (fun k => runD (rowsDN l) 0 (natL (w.take k))) = S at *
   have hS : ∀ k, runD (rowsDN l) 0 (natL (w.take k)) = S k := fun k => by rw [← hSt]
   simp only [hS] at hlow hnext e2 e3 hrow hP0 ⊢
   unfold dA at *
   generalize rowL l = RN at *
   generalize bools ac = BA at *
   refine pc_go 0 43 [.tmp 4, .tmp 5] Tryz.func22 rfl rfl rfl (by simp) ?_
   intro s ⟨a0, a1, hz⟩
   simp only [Nat.zero_add, Nat.reduceAdd] at a1
   clear hz
   repeat' (first|refine nav ?_|(refine g0_ ?_; refine goD ?_)|(with_reducible refine gG ?_ ?_)|((with_reducible refine And.intro (fun h => ?_) (fun h => ?_)) <;> try (exfalso; omega))|(with_reducible refine andG ?_)|refine appG ?_|(first|(refine ⟨_, _, pc_lift (hck) (by (simp [idsL, idsE, AV.ids, hidR, hidA, hidW])) _, ?_⟩)|(refine ⟨_, pc_lift (hck) (by (simp [idsL, idsE, AV.ids, hidR, hidA, hidW])) _, ?_⟩)|(refine ⟨_, fun _ => pc_lift (hck) (by (simp [idsL, idsE, AV.ids, hidR, hidA, hidW])) _, ?_⟩)|(refine ⟨_, _, pc_lift (hcw) (by (simp [idsL, idsE, AV.ids, hidR, hidA, hidW])) _, ?_⟩)|(refine ⟨_, pc_lift (hcw) (by (simp [idsL, idsE, AV.ids, hidR, hidA, hidW])) _, ?_⟩)|(refine ⟨_, fun _ => pc_lift (hcw) (by (simp [idsL, idsE, AV.ids, hidR, hidA, hidW])) _, ?_⟩))|simp (disch := (first|exact discB|fail)) only [push_cast, ↓reduceIte, reduceIte, reduceCtorEq, Nat.reduceAdd, Nat.reduceLT, Nat.reduceEqDiff, Nat.reduceLeDiff, Int.reduceAdd, Int.reduceLT, Int.reduceLE, Nat.reduceMul, a0, a1])
   refine go_loop rfl (fun mz s' H' => ∃ k : Nat, k ≤ w.length ∧ mz = w.length - k ∧ H' = [.row 3 47 [[.int .i64 A, .sl 1 RN c, .sl 1 BA ca]]] ∧ s' 2 = .ptr 0 0 0 1 ∧ s' 8 = .int .i64 (S k) ∧ s' 23 = .sl zw (ints w) cw ∧ s' 24 = .int .i64 w.length ∧ s' 25 = .int .i64 k) (m := w.length) (by first|exact sideB|fail) (Weak.refl _ _) ⟨0, by omega, by omega, rfl, ?_⟩ ?_
   ·skip
    simp (disch := (first|exact discB|fail)) only [push_cast, ↓reduceIte, reduceIte, reduceCtorEq, Nat.reduceAdd, Nat.reduceLT, Nat.reduceEqDiff, Nat.reduceLeDiff, Int.reduceAdd, Int.reduceLT, Int.reduceLE, Nat.reduceMul, a0, a1, hP0]
   ·rintro mz s' H' ⟨k, hk, rfl, rfl, b2, b8, b23, b24, b25⟩
    rcases Nat.lt_or_ge k w.length with hlt|hge
    ·obtain rfl := hzw.resolve_left (by intro h; rw [h] at hlt; simp at hlt)
     have e1 := e1 k hlt
     have e2 := e2 k
     have hrow := hrow k
     have hlow := hlow k
     have hnx := hnext k hlt
     have hx := hwr _ (getD_mem (d := 0) hlt)
     obtain ⟨n, hn2⟩ : ∃ n : Nat, w.getD k 0 = n := ⟨(w.getD k 0).toNat, by omega⟩
     rw [hn2] at e1 hx hnx
     rw [Int.toNat_natCast] at hnx
     have e4 := getD_ints (l.getD (S k) ([], none)).1 n (by omega)
     rw [hnx] at e4
     generalize l.getD (S k) ([], none) = r at *
     have hrl := length_ints r.1
     unfold lC at e2
     repeat' (first|refine nav ?_|(refine g0_ ?_; refine goD ?_)|(with_reducible refine gG ?_ ?_)|((with_reducible refine And.intro (fun h => ?_) (fun h => ?_)) <;> try (exfalso; omega))|(with_reducible refine andG ?_)|refine appG ?_|fail|simp (disch := (first|exact discB|fail)) only [push_cast, ↓reduceIte, reduceIte, reduceCtorEq, Nat.reduceAdd, Nat.reduceLT, Nat.reduceEqDiff, Nat.reduceLeDiff, Int.reduceAdd, Int.reduceLT, Int.reduceLE, Nat.reduceMul, b2, b8, b23, b24, b25, e1, e2, e4, hil, hRl, hrl, hrow])
     refine out_round (w.length - (k + 1)) (by omega) (by first|exact sideB|fail) ⟨k + 1, by omega, rfl, rfl, ?_⟩
     simp (disch := (first|exact discB|fail)) only [push_cast, ↓reduceIte, reduceIte, reduceCtorEq, Nat.reduceAdd, Nat.reduceLT, Nat.reduceEqDiff, Nat.reduceLeDiff, Int.reduceAdd, Int.reduceLT, Int.reduceLE, Nat.reduceMul, b2, b8, b23, b24, b25, e1, e2, e4, hil, hRl, hrl, hrow]
    ·obtain rfl : k = w.length := by omega
     have hlw := hlow w.length
     have e3 := e3 (by omega)
     repeat' (first|refine nav ?_|(refine g0_ ?_; refine goD ?_)|(with_reducible refine gG ?_ ?_)|((with_reducible refine And.intro (fun h => ?_) (fun h => ?_)) <;> try (exfalso; omega))|(with_reducible refine andG ?_)|refine appG ?_|fail|simp (disch := (first|exact discB|fail)) only [push_cast, ↓reduceIte, reduceIte, reduceCtorEq, Nat.reduceAdd, Nat.reduceLT, Nat.reduceEqDiff, Nat.reduceLeDiff, Int.reduceAdd, Int.reduceLT, Int.reduceLE, Nat.reduceMul, b2, b8, b23, b24, b25, e3, hil, hAl])
     all_goals omega
  ·rw [if_pos h1]
   generalize checkW sym w = e at *
   unfold dA at *
   generalize rowL l = RN at *
   generalize bools ac = BA at *
   generalize ints w = IW at *
   refine pc_go 0 43 [.tmp 4, .tmp 5] Tryz.func22 rfl rfl rfl (by simp) ?_
   intro s ⟨a0, a1, hz⟩
   simp only [Nat.zero_add, Nat.reduceAdd] at a1
   clear hz
   repeat' (first|refine nav ?_|(refine g0_ ?_; refine goD ?_)|(with_reducible refine gG ?_ ?_)|((with_reducible refine And.intro (fun h => ?_) (fun h => ?_)) <;> try (exfalso; omega))|(with_reducible refine andG ?_)|refine appG ?_|(first|(refine ⟨_, _, pc_lift (hck) (by (simp [idsL, idsE, AV.ids, hidR, hidA, hidW])) _, ?_⟩)|(refine ⟨_, pc_lift (hck) (by (simp [idsL, idsE, AV.ids, hidR, hidA, hidW])) _, ?_⟩)|(refine ⟨_, fun _ => pc_lift (hck) (by (simp [idsL, idsE, AV.ids, hidR, hidA, hidW])) _, ?_⟩)|(refine ⟨_, _, pc_lift (hcw) (by (simp [idsL, idsE, AV.ids, hidR, hidA, hidW])) _, ?_⟩)|(refine ⟨_, pc_lift (hcw) (by (simp [idsL, idsE, AV.ids, hidR, hidA, hidW])) _, ?_⟩)|(refine ⟨_, fun _ => pc_lift (hcw) (by (simp [idsL, idsE, AV.ids, hidR, hidA, hidW])) _, ?_⟩))|simp (disch := (first|exact discB|fail)) only [push_cast, ↓reduceIte, reduceIte, reduceCtorEq, Nat.reduceAdd, Nat.reduceLT, Nat.reduceEqDiff, Nat.reduceLeDiff, Int.reduceAdd, Int.reduceLT, Int.reduceLE, Nat.reduceMul, a0, a1, h1])
 ·rw [if_pos h0]
  generalize checkD sym (rowsD l) ac.length = e at *
  unfold dA at *
  generalize rowL l = RN at *
  generalize bools ac = BA at *
  generalize ints w = IW at *
  refine pc_go 0 43 [.tmp 4, .tmp 5] Tryz.func22 rfl rfl rfl (by simp) ?_
  intro s ⟨a0, a1, hz⟩
  simp only [Nat.zero_add, Nat.reduceAdd] at a1
  clear hz
  repeat' (first|refine nav ?_|(refine g0_ ?_; refine goD ?_)|(with_reducible refine gG ?_ ?_)|((with_reducible refine And.intro (fun h => ?_) (fun h => ?_)) <;> try (exfalso; omega))|(with_reducible refine andG ?_)|refine appG ?_|(first|(refine ⟨_, _, pc_lift (hck) (by (simp [idsL, idsE, AV.ids, hidR, hidA, hidW])) _, ?_⟩)|(refine ⟨_, pc_lift (hck) (by (simp [idsL, idsE, AV.ids, hidR, hidA, hidW])) _, ?_⟩)|(refine ⟨_, fun _ => pc_lift (hck) (by (simp [idsL, idsE, AV.ids, hidR, hidA, hidW])) _, ?_⟩))|simp (disch := (first|exact discB|fail)) only [push_cast, ↓reduceIte, reduceIte, reduceCtorEq, Nat.reduceAdd, Nat.reduceLT, Nat.reduceEqDiff, Nat.reduceLeDiff, Int.reduceAdd, Int.reduceLT, Int.reduceLE, Nat.reduceMul, a0, a1, h0])
end Go.Proofs
