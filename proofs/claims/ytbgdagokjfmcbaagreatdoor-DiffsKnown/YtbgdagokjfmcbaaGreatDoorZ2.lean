import Derived.Test.YtbgdagokjfmcbaaGreatDoorZ1
namespace Go.Proofs
open Go Go.V
set_option linter.unusedVariables false
set_option linter.unusedSimpArgs false
set_option maxHeartbeats 0
theorem length_strs (ps : List Bs) : (strs ps).length = ps.length := by simp [strs]
theorem strs_getD (ps : List Bs) (k : Nat) (h : k < ps.length) : (strs ps).getD k [] = [.str (ps.getD k [])] := by simp [strs, h]
theorem idsE_strs (p : Nat → Bool) (ps : List Bs) : idsE p (strs ps) = true := idsE_map _ _ fun x => by simp [idsL, AV.ids]
attribute [simp] idsE_strs
attribute [push_cast] length_strs
theorem numsV_snoc : ∀ (l : List Bs) (f : Bs), numsV (l ++ [f]) = match numsV l, numV f with|some xs, some x => some (xs ++ [x])|_, _ => none
 | [], f => by cases h : numV f <;> simp [numsV, h]
 | g :: l, f => by
  rw [List.cons_append, numsV, numsV_snoc l f, numsV]
  cases numV g <;> cases numsV l <;> cases numV f <;> simp
theorem numsV_none : ∀ (l r : List Bs), numsV l = none → numsV (l ++ r) = none
 | [], r, h => by cases h
 | g :: l, r, h => by
  rw [List.cons_append, numsV]
  rw [numsV] at h
  cases hg : numV g with
  | none => simp
  | some x =>
   rw [hg] at h
   cases hl : numsV l with
   | none => rw [numsV_none l r hl]
   | some xs => rw [hl] at h; simp at h
theorem numsV_len {l : List Bs} {xs : List Int} (h : numsV l = some xs) : xs.length = l.length := (numsV_itoa h).2
def numsA (s sep : Bs) (many : Int) : List Int × Bool := match numsV (splitM s sep) with|some xs => (xs, decide ((xs.length : Int) = many))|none => ([], false)
theorem numsA_none {s sep : Bs} {many : Int} (h : numsV (splitM s sep) = none) : numsA s sep many = ([], false) := by rw [numsA, h]
theorem numsV_bad {l : List Bs} {k : Nat} (hk : k < l.length) (h : numV (l.getD k []) = none) : numsV l = none := by
 have e : l = l.take (k + 1) ++ l.drop (k + 1) := (List.take_append_drop _ _).symm
 rw [e]
 refine numsV_none _ _ ?_
 rw [List.take_succ_eq_append_getElem hk, numsV_snoc]
 have : l.getD k [] = l[k] := by simp [hk]
 rw [this] at h
 rw [h]
 cases numsV (l.take k) <;> rfl
theorem getD_take (f : Bs) (i : Nat) (h : i < f.length) : f.take (i + 1) = f.take i ++ [f.getD i 0] := by
 rw [List.take_succ_eq_append_getElem h]; simp [h]
theorem numF_snoc (p : Bs) (c : UInt8) (a : Int) : numF a (p ++ [c]) = 10 * numF a p + ((c.toNat : Int) - 48) := by
 rw [numF_append]; rfl
theorem numF_bd : ∀ (p : Bs) (a : Int), digs p → 0 ≤ a → a ≤ 999 → p.length ≤ 3 → 0 ≤ numF a p ∧ numF a p ≤ 999999999
 | [], a, _, h0, h1, _ => ⟨h0, by rw [numF]; omega⟩
 | [c], a, h, h0, h1, _ => by
  have := h c (by simp)
  simp only [numF]; omega
 | [c, d], a, h, h0, h1, _ => by
  have := h c (by simp); have := h d (by simp)
  simp only [numF]; omega
 | [c, d, e], a, h, h0, h1, _ => by
  have := h c (by simp); have := h d (by simp); have := h e (by simp)
  simp only [numF]; omega
 | _ :: _ :: _ :: _ :: _, a, _, _, _, h => by simp at h
def zrow (D : List Int) (v : Int) (n : Nat) : List Int := D ++ v :: List.replicate n 0
theorem ints_set (xs : List Int) (k : Nat) (v : Int) : (ints xs).set k [.int .i64 v] = ints (xs.set k v) := by rw [ints, ints, List.map_set]
theorem zrow_len (D : List Int) (v : Int) (n : Nat) : (zrow D v n).length = D.length + n + 1 := by simp [zrow] <;> omega
theorem zrow_at (D : List Int) (v : Int) (n k : Nat) (h : D.length = k) : (zrow D v n).getD k 0 = v := by
 rw [zrow, List.getD_eq_getElem?_getD, List.getElem?_append_right (by omega), h, Nat.sub_self]; rfl
theorem zrow_set (D : List Int) (v w : Int) (n k : Nat) (h : D.length = k) : (zrow D v n).set k w = zrow D w n := by
 rw [zrow, List.set_append_right _ _ (by omega), h, Nat.sub_self]; rfl
theorem ints_replicate (n : Nat) (b : Int) : List.replicate n [AV.int .i64 b] = ints (List.replicate n b) := by simp [ints]
def accZ (D : List Int) (n : Nat) : List Int := D ++ List.replicate n 0
theorem accZ_zrow (D : List Int) (n : Nat) : accZ D (n + 1) = zrow D 0 n := by simp [accZ, zrow, List.replicate_succ]
theorem zrow_accZ (D : List Int) (v : Int) (n : Nat) : zrow D v n = accZ (D ++ [v]) n := by simp [accZ, zrow]
set_option maxRecDepth 100000 in
theorem numbers27 (s sep : Bs) (many : Int) (hs : s.length ≤ 1000000) (h1 : 1 ≤ sep.length) : PC Tryz.prog G0 27 [.str s, .str sep, .int .i64 many] (.tup [.sl 1 (ints (numsA s sep many).1) (some (numsA s sep many).1.length), .bool (numsA s sep many).2]) := by
 have hsp := fun H => split53 s sep (by omega) h1 H
 have hll : (splitM s sep).length ≤ 1000001 := by
  have e : (splitM s sep).length = Lib.countB ⟨s.toArray⟩ ⟨sep.toArray⟩ + 1 := by
   unfold splitM; rw [List.length_map]; exact Lib.splitB_all ⟨sep.toArray⟩ h1 0 _ ⟨s.toArray⟩ rfl
  have := Lib.countB_le ⟨sep.toArray⟩ h1 s.length ⟨s.toArray⟩ (Nat.le_refl _)
  have hsz : (ByteArray.mk s.toArray).size = s.length := rfl
  omega
 have hno : numsV (splitM s sep) = none → numsA s sep many = ([], false) := numsA_none
 have hyes : ∀ xs, numsV (splitM s sep) = some xs → numsA s sep many = (xs, decide ((xs.length : Int) = many)) := fun xs h => by rw [numsA, h]
 generalize numsA s sep many = A at *
 generalize splitM s sep = L at *
 refine pc_go 1 80 [.tmp 6, .tmp 7] Tryz.func27 rfl rfl rfl (by simp) ?_
 intro s ⟨a0, a1, a2, hz⟩
 simp only [Nat.zero_add, Nat.reduceAdd] at a1 a2
 clear hz
 repeat' (first|(first|(refine a0_ ?_; first|refine a1_ rfl rfl ?_|refine a2_ rfl ?_|refine a3_ rfl rfl ?_|refine a4_ rfl ?_|refine a5_ rfl rfl rfl ?_|refine a6_ rfl rfl ?_)|(refine g0_ ?_; first|refine g1_ rfl ?_|refine g2_ rfl rfl ?_|refine go_draw (dr := allQ) rfl rfl mixed (by first|assumption|kernel_rfl) ?_|refine g4_ rfl ?_|refine g5_ rfl ?_|refine g6_ rfl ?_|refine g7_ rfl ?_|refine g8_ rfl ?_)|(refine o0_ ?_; first|refine o1_ ?_|refine o2_ ?_|refine o3_ ?_|refine o4_ ?_|refine o5_ ?_|refine o6_ rfl ?_|refine o7_ rfl ?_|refine o8_ ?_|refine o9_ ?_|refine oa_ ?_|refine ob_ ?_|refine oc_ ?_|refine od_ ?_|refine oe_ ?_|refine of_ ?_|refine og_ ?_))|refine at_go ?_|(with_reducible refine And.intro (at_go ?_) (at_go ?_))|((with_reducible refine And.intro (fun h => ?_) (fun h => ?_)) <;> try (exfalso; omega))|(with_reducible refine And.intro (by first|omega|(simp only [maxLen]; omega)) ?_)|(first|(refine ⟨_, _, hsp _, ?_⟩)|(refine ⟨_, hsp _, ?_⟩)|(refine ⟨_, fun _ => hsp _, ?_⟩))|simp (disch := first|omega|(simp only [length_ints, length_strs, List.length_set, List.length_reverse, List.length_replicate, List.length_append, List.length_cons, List.length_nil, List.length_map]; omega)) only [push_cast, ↓reduceIte, reduceIte, reduceCtorEq, Nat.reduceAdd, Nat.reduceLT, Nat.reduceEqDiff, Nat.reduceLeDiff, Int.reduceAdd, Int.reduceLT, Int.reduceLE, Nat.reduceMul, a0, a1, a2, ints_replicate])
 refine go_loop rfl (fun mz s' H' => ∃ (k : Nat) (D : List Int), k ≤ L.length ∧ mz = L.length - k ∧ numsV (L.take k) = some D ∧ H' = [.row 1 3 (ints (accZ D (L.length - k)))] ∧ s' 2 = .int .i64 many ∧ s' 9 = .own 0 L.length L.length (some L.length) ∧ s' 19 = .sl 1 (strs L) (some L.length) ∧ s' 20 = .int .i64 L.length ∧ s' 21 = .int .i64 k) (m := L.length) (by (first|trivial|((repeat' apply And.intro) <;> first|trivial|assumption|omega|(simp only [maxLen]; omega)|(simp only [length_ints, length_strs, List.length_replicate, List.length_append, List.length_cons, List.length_nil, List.length_map, List.length_take, List.length_drop, List.length_set, List.length_reverse, maxLen] <;> omega)))) (Weak.refl _ _) ⟨0, [], by omega, by omega, rfl, by simp [accZ], ?_⟩ ?_
 ·simp (disch := first|omega|(simp only [length_ints, length_strs, List.length_set, List.length_reverse, List.length_replicate, List.length_append, List.length_cons, List.length_nil, List.length_map]; omega)) only [push_cast, ↓reduceIte, reduceIte, reduceCtorEq, Nat.reduceAdd, Nat.reduceLT, Nat.reduceEqDiff, Nat.reduceLeDiff, Int.reduceAdd, Int.reduceLT, Int.reduceLE, Nat.reduceMul, a0, a1, a2, ints_replicate]
 ·rintro mz s' H' ⟨k, D, hk, rfl, hD, rfl, b2, b9, b19, b20, b21⟩
  have hDl : D.length = k := by rw [numsV_len hD, List.length_take]; omega
  rcases Nat.lt_or_ge k L.length with hlt|hge
  ·obtain ⟨n, hn⟩ : ∃ n, L.length - k = n + 1 := ⟨L.length - k - 1, by omega⟩
   rw [hn, accZ_zrow]
   have e1 := strs_getD L k hlt
   have hb : numV (L.getD k []) = none → A = ([], false) := fun h => hno (numsV_bad hlt h)
   have hsucc : ∀ v, numV (L.getD k []) = some v → numsV (L.take (k + 1)) = some (D ++ [v]) := fun v hv => by
    have : L.getD k [] = L[k] := by simp [hlt]
    rw [this] at hv
    rw [List.take_succ_eq_append_getElem hlt, numsV_snoc, hD, hv]
   generalize L.getD k [] = f at *
   have z0 := zrow_len D 0 n
   by_cases c1 : f.length < 1
   ·obtain rfl := hb (by rw [numV, if_neg]; rintro ⟨⟨q, _⟩, _⟩; exact q (List.eq_nil_of_length_eq_zero (by omega)))
    repeat' (first|(first|(refine a0_ ?_; first|refine a1_ rfl rfl ?_|refine a2_ rfl ?_|refine a3_ rfl rfl ?_|refine a4_ rfl ?_|refine a5_ rfl rfl rfl ?_|refine a6_ rfl rfl ?_)|(refine g0_ ?_; first|refine g1_ rfl ?_|refine g2_ rfl rfl ?_|refine go_draw (dr := allQ) rfl rfl mixed (by first|assumption|kernel_rfl) ?_|refine g4_ rfl ?_|refine g5_ rfl ?_|refine g6_ rfl ?_|refine g7_ rfl ?_|refine g8_ rfl ?_)|(refine o0_ ?_; first|refine o1_ ?_|refine o2_ ?_|refine o3_ ?_|refine o4_ ?_|refine o5_ ?_|refine o6_ rfl ?_|refine o7_ rfl ?_|refine o8_ ?_|refine o9_ ?_|refine oa_ ?_|refine ob_ ?_|refine oc_ ?_|refine od_ ?_|refine oe_ ?_|refine of_ ?_|refine og_ ?_))|refine at_go ?_|(with_reducible refine And.intro (at_go ?_) (at_go ?_))|((with_reducible refine And.intro (fun h => ?_) (fun h => ?_)) <;> try (exfalso; omega))|(with_reducible refine And.intro (by first|omega|(simp only [maxLen]; omega)) ?_)|fail|simp (disch := first|omega|(simp only [length_ints, length_strs, List.length_set, List.length_reverse, List.length_replicate, List.length_append, List.length_cons, List.length_nil, List.length_map]; omega)) only [push_cast, ↓reduceIte, reduceIte, reduceCtorEq, Nat.reduceAdd, Nat.reduceLT, Nat.reduceEqDiff, Nat.reduceLeDiff, Int.reduceAdd, Int.reduceLT, Int.reduceLE, Nat.reduceMul, b2, b9, b19, b20, b21, e1, c1, ints_nil])
   ·by_cases c2 : 3 < f.length
    ·obtain rfl := hb (by rw [numV, if_neg]; rintro ⟨_, q⟩; omega)
     have c1' : ¬ (f.length : Int) < 1 := by omega
     have c2' : (3 : Int) < f.length := by omega
     repeat' (first|(first|(refine a0_ ?_; first|refine a1_ rfl rfl ?_|refine a2_ rfl ?_|refine a3_ rfl rfl ?_|refine a4_ rfl ?_|refine a5_ rfl rfl rfl ?_|refine a6_ rfl rfl ?_)|(refine g0_ ?_; first|refine g1_ rfl ?_|refine g2_ rfl rfl ?_|refine go_draw (dr := allQ) rfl rfl mixed (by first|assumption|kernel_rfl) ?_|refine g4_ rfl ?_|refine g5_ rfl ?_|refine g6_ rfl ?_|refine g7_ rfl ?_|refine g8_ rfl ?_)|(refine o0_ ?_; first|refine o1_ ?_|refine o2_ ?_|refine o3_ ?_|refine o4_ ?_|refine o5_ ?_|refine o6_ rfl ?_|refine o7_ rfl ?_|refine o8_ ?_|refine o9_ ?_|refine oa_ ?_|refine ob_ ?_|refine oc_ ?_|refine od_ ?_|refine oe_ ?_|refine of_ ?_|refine og_ ?_))|refine at_go ?_|(with_reducible refine And.intro (at_go ?_) (at_go ?_))|((with_reducible refine And.intro (fun h => ?_) (fun h => ?_)) <;> try (exfalso; omega))|(with_reducible refine And.intro (by first|omega|(simp only [maxLen]; omega)) ?_)|fail|simp (disch := first|omega|(simp only [length_ints, length_strs, List.length_set, List.length_reverse, List.length_replicate, List.length_append, List.length_cons, List.length_nil, List.length_map]; omega)) only [push_cast, ↓reduceIte, reduceIte, reduceCtorEq, Nat.reduceAdd, Nat.reduceLT, Nat.reduceEqDiff, Nat.reduceLeDiff, Int.reduceAdd, Int.reduceLT, Int.reduceLE, Nat.reduceMul, b2, b9, b19, b20, b21, e1, c1, c1', c2', ints_nil])
    ·have c1' : ¬ (f.length : Int) < 1 := by omega
     have c2' : ¬ (3 : Int) < f.length := by omega
     by_cases c3 : 1 < f.length ∧ f.getD 0 0 = 48
     ·obtain ⟨c4, c5⟩ := c3
      obtain rfl := hb (by
       rw [numV, if_neg]; rintro ⟨⟨_, _, q⟩, _⟩
       refine q c4 ?_
       cases f with
       | nil => simp at c4
       | cons x xs => simpa using c5)
      have c4' : (1 : Int) < f.length := by omega
      have c5' : ((f.getD 0 0).toNat : Int) = 48 := by rw [c5]; rfl
      repeat' (first|(first|(refine a0_ ?_; first|refine a1_ rfl rfl ?_|refine a2_ rfl ?_|refine a3_ rfl rfl ?_|refine a4_ rfl ?_|refine a5_ rfl rfl rfl ?_|refine a6_ rfl rfl ?_)|(refine g0_ ?_; first|refine g1_ rfl ?_|refine g2_ rfl rfl ?_|refine go_draw (dr := allQ) rfl rfl mixed (by first|assumption|kernel_rfl) ?_|refine g4_ rfl ?_|refine g5_ rfl ?_|refine g6_ rfl ?_|refine g7_ rfl ?_|refine g8_ rfl ?_)|(refine o0_ ?_; first|refine o1_ ?_|refine o2_ ?_|refine o3_ ?_|refine o4_ ?_|refine o5_ ?_|refine o6_ rfl ?_|refine o7_ rfl ?_|refine o8_ ?_|refine o9_ ?_|refine oa_ ?_|refine ob_ ?_|refine oc_ ?_|refine od_ ?_|refine oe_ ?_|refine of_ ?_|refine og_ ?_))|refine at_go ?_|(with_reducible refine And.intro (at_go ?_) (at_go ?_))|((with_reducible refine And.intro (fun h => ?_) (fun h => ?_)) <;> try (exfalso; omega))|(with_reducible refine And.intro (by first|omega|(simp only [maxLen]; omega)) ?_)|fail|simp (disch := first|omega|(simp only [length_ints, length_strs, List.length_set, List.length_reverse, List.length_replicate, List.length_append, List.length_cons, List.length_nil, List.length_map]; omega)) only [push_cast, ↓reduceIte, reduceIte, reduceCtorEq, Nat.reduceAdd, Nat.reduceLT, Nat.reduceEqDiff, Nat.reduceLeDiff, Int.reduceAdd, Int.reduceLT, Int.reduceLE, Nat.reduceMul, b2, b9, b19, b20, b21, e1, c1', c2', c4', c5', ints_nil])
     ·have hin : ∀ (s2 : Nat → AV), s2 2 = .int .i64 many → s2 9 = .own 0 L.length L.length (some L.length) → s2 19 = .sl 1 (strs L) (some L.length) → s2 20 = .int .i64 L.length → s2 21 = .int .i64 k → s2 10 = .int .i64 k → s2 11 = .str f → s2 45 = .int .i64 f.length → s2 46 = .int .i64 0 →
        V.Go false Tryz.prog G0 0 80 (bodyOf Tryz.f27) [0, 1, 1, 1, 0, 0, 1, 1, 0, 0, 1, 0, 1, 1, 1] (inBlockS 2 (inBlockS 1 (thenC false Tryz.prog G0 0 80 (bodyOf Tryz.f27) [1, 1, 1, 0, 0, 1, 0, 1, 1, 1] (thenS (fun s' H' => ∃ m' s2 H2, m' < n + 1 ∧ Weak 0 (Lst 80 s') H' (Lst 80 s2) H2 ∧ ∃ (k : Nat) (D : List Int), k ≤ L.length ∧ m' = L.length - k ∧ numsV (List.take k L) = some D ∧ H2 = [.row 1 3 (ints (accZ D (L.length - k)))] ∧ s2 2 = .int .i64 many ∧ s2 9 = .own 0 L.length L.length (some L.length) ∧ s2 19 = .sl 1 (strs L) (some L.length) ∧ s2 20 = .int .i64 L.length ∧ s2 21 = .int .i64 k) (inBlockS 0 (thenC false Tryz.prog G0 0 80 (bodyOf Tryz.f27) [1, 1, 1, 1] (DoneS Tryz.prog 80 [ResultVar.tmp 6, ResultVar.tmp 7] 1 (.tup [.sl 1 (ints A.1) (some A.1.length), .bool A.2])))))))) True s2 [.row 1 3 (ints (zrow D 0 n))] := by
       intro s2 r2 r9 r19 r20 r21 r10 r11 r45 r46
       refine go_loop rfl (fun mz s' H' => ∃ (i : Nat), i ≤ f.length ∧ mz = f.length - i ∧ digs (f.take i) ∧ H' = [.row 1 3 (ints (zrow D (numF 0 (f.take i)) n))] ∧ s' 2 = .int .i64 many ∧ s' 9 = .own 0 L.length L.length (some L.length) ∧ s' 19 = .sl 1 (strs L) (some L.length) ∧ s' 20 = .int .i64 L.length ∧ s' 21 = .int .i64 k ∧ s' 10 = .int .i64 k ∧ s' 11 = .str f ∧ s' 45 = .int .i64 f.length ∧ s' 46 = .int .i64 i) (m := f.length) (by (first|trivial|((repeat' apply And.intro) <;> first|trivial|assumption|omega|(simp only [maxLen]; omega)|(simp only [length_ints, length_strs, List.length_replicate, List.length_append, List.length_cons, List.length_nil, List.length_map, List.length_take, List.length_drop, List.length_set, List.length_reverse, maxLen] <;> omega)))) (Weak.refl _ _) ⟨0, by omega, by omega, fun c hc => by simp at hc, by rw [List.take_zero]; rfl, ?_⟩ ?_
       ·simp (disch := first|omega|(simp only [length_ints, length_strs, List.length_set, List.length_reverse, List.length_replicate, List.length_append, List.length_cons, List.length_nil, List.length_map]; omega)) only [push_cast, ↓reduceIte, reduceIte, reduceCtorEq, Nat.reduceAdd, Nat.reduceLT, Nat.reduceEqDiff, Nat.reduceLeDiff, Int.reduceAdd, Int.reduceLT, Int.reduceLE, Nat.reduceMul, r2, r9, r19, r20, r21, r10, r11, r45, r46]
       ·rintro mz s' H' ⟨i, hi, rfl, hdg, rfl, b2, b9, b19, b20, b21, b10, b11, b45, b46⟩
        have z1 := zrow_len D (numF 0 (f.take i)) n
        have z2 := getD_ints (zrow D (numF 0 (f.take i)) n) k (by omega)
        rw [zrow_at D _ n k hDl] at z2
        have hlenL : D.length + n + 1 = L.length := by omega
        rw [hlenL] at z1
        rcases Nat.lt_or_ge i f.length with hlt2|hge2
        ·have g1 := getD_take f i hlt2
         have hbd := numF_bd (f.take i) 0 hdg (by omega) (by omega) (by rw [List.length_take]; omega)
         have hbad : ¬ (48 ≤ (f.getD i 0).toNat ∧ (f.getD i 0).toNat ≤ 57) → A = ([], false) := fun q => hb (by
          rw [numV, if_neg]; rintro ⟨⟨_, w, _⟩, _⟩
          exact q (w _ (by rw [List.getD_eq_getElem?_getD, List.getElem?_eq_getElem hlt2]; exact List.getElem_mem hlt2)))
         have hsn := numF_snoc (f.take i) (f.getD i 0) 0
         rw [← g1] at hsn
         have hdg2 : (48 ≤ (f.getD i 0).toNat ∧ (f.getD i 0).toNat ≤ 57) → digs (f.take (i + 1)) := fun q c hc => by
          rw [g1] at hc
          rcases List.mem_append.1 hc with w|w
          ·exact hdg c w
          ·simp at w; subst w; simpa using q
         generalize hv2 : numF 0 (f.take (i + 1)) = v2 at *
         have z3 := zrow_set D (numF 0 (f.take i)) v2 n k hDl
         have z4 := ints_set (zrow D (numF 0 (f.take i)) n) k v2
         rw [z3] at z4
         generalize numF 0 (f.take i) = v at *
         generalize hcE : f.getD i 0 = c at *
         by_cases d1 : c.toNat < 48
         ·obtain rfl := hbad (by omega)
          have d1' : (c.toNat : Int) < 48 := by omega
          repeat' (first|(first|(refine a0_ ?_; first|refine a1_ rfl rfl ?_|refine a2_ rfl ?_|refine a3_ rfl rfl ?_|refine a4_ rfl ?_|refine a5_ rfl rfl rfl ?_|refine a6_ rfl rfl ?_)|(refine g0_ ?_; first|refine g1_ rfl ?_|refine g2_ rfl rfl ?_|refine go_draw (dr := allQ) rfl rfl mixed (by first|assumption|kernel_rfl) ?_|refine g4_ rfl ?_|refine g5_ rfl ?_|refine g6_ rfl ?_|refine g7_ rfl ?_|refine g8_ rfl ?_)|(refine o0_ ?_; first|refine o1_ ?_|refine o2_ ?_|refine o3_ ?_|refine o4_ ?_|refine o5_ ?_|refine o6_ rfl ?_|refine o7_ rfl ?_|refine o8_ ?_|refine o9_ ?_|refine oa_ ?_|refine ob_ ?_|refine oc_ ?_|refine od_ ?_|refine oe_ ?_|refine of_ ?_|refine og_ ?_))|refine at_go ?_|(with_reducible refine And.intro (at_go ?_) (at_go ?_))|((with_reducible refine And.intro (fun h => ?_) (fun h => ?_)) <;> try (exfalso; omega))|(with_reducible refine And.intro (by first|omega|(simp only [maxLen]; omega)) ?_)|fail|simp (disch := first|omega|(simp only [length_ints, length_strs, List.length_set, List.length_reverse, List.length_replicate, List.length_append, List.length_cons, List.length_nil, List.length_map]; omega)) only [push_cast, ↓reduceIte, reduceIte, reduceCtorEq, Nat.reduceAdd, Nat.reduceLT, Nat.reduceEqDiff, Nat.reduceLeDiff, Int.reduceAdd, Int.reduceLT, Int.reduceLE, Nat.reduceMul, b2, b9, b19, b20, b21, b10, b11, b45, b46, d1', ints_nil, z1, hcE])
         ·by_cases d2 : 57 < c.toNat
          ·obtain rfl := hbad (by omega)
           have d1' : ¬ (c.toNat : Int) < 48 := by omega
           have d2' : (57 : Int) < c.toNat := by omega
           repeat' (first|(first|(refine a0_ ?_; first|refine a1_ rfl rfl ?_|refine a2_ rfl ?_|refine a3_ rfl rfl ?_|refine a4_ rfl ?_|refine a5_ rfl rfl rfl ?_|refine a6_ rfl rfl ?_)|(refine g0_ ?_; first|refine g1_ rfl ?_|refine g2_ rfl rfl ?_|refine go_draw (dr := allQ) rfl rfl mixed (by first|assumption|kernel_rfl) ?_|refine g4_ rfl ?_|refine g5_ rfl ?_|refine g6_ rfl ?_|refine g7_ rfl ?_|refine g8_ rfl ?_)|(refine o0_ ?_; first|refine o1_ ?_|refine o2_ ?_|refine o3_ ?_|refine o4_ ?_|refine o5_ ?_|refine o6_ rfl ?_|refine o7_ rfl ?_|refine o8_ ?_|refine o9_ ?_|refine oa_ ?_|refine ob_ ?_|refine oc_ ?_|refine od_ ?_|refine oe_ ?_|refine of_ ?_|refine og_ ?_))|refine at_go ?_|(with_reducible refine And.intro (at_go ?_) (at_go ?_))|((with_reducible refine And.intro (fun h => ?_) (fun h => ?_)) <;> try (exfalso; omega))|(with_reducible refine And.intro (by first|omega|(simp only [maxLen]; omega)) ?_)|fail|simp (disch := first|omega|(simp only [length_ints, length_strs, List.length_set, List.length_reverse, List.length_replicate, List.length_append, List.length_cons, List.length_nil, List.length_map]; omega)) only [push_cast, ↓reduceIte, reduceIte, reduceCtorEq, Nat.reduceAdd, Nat.reduceLT, Nat.reduceEqDiff, Nat.reduceLeDiff, Int.reduceAdd, Int.reduceLT, Int.reduceLE, Nat.reduceMul, b2, b9, b19, b20, b21, b10, b11, b45, b46, d1', d2', ints_nil, z1, hcE])
          ·have d1' : ¬ (c.toNat : Int) < 48 := by omega
           have d2' : ¬ (57 : Int) < c.toNat := by omega
           have w1 : IntKind.u8.wrap ((c.toNat : Int) - 48) = (c.toNat : Int) - 48 := by rw [IntKind.wrap_u8]; omega
           have w2 : 10 * v + ((c.toNat : Int) - 48) = v2 := hsn.symm
           repeat' (first|(first|(refine a0_ ?_; first|refine a1_ rfl rfl ?_|refine a2_ rfl ?_|refine a3_ rfl rfl ?_|refine a4_ rfl ?_|refine a5_ rfl rfl rfl ?_|refine a6_ rfl rfl ?_)|(refine g0_ ?_; first|refine g1_ rfl ?_|refine g2_ rfl rfl ?_|refine go_draw (dr := allQ) rfl rfl mixed (by first|assumption|kernel_rfl) ?_|refine g4_ rfl ?_|refine g5_ rfl ?_|refine g6_ rfl ?_|refine g7_ rfl ?_|refine g8_ rfl ?_)|(refine o0_ ?_; first|refine o1_ ?_|refine o2_ ?_|refine o3_ ?_|refine o4_ ?_|refine o5_ ?_|refine o6_ rfl ?_|refine o7_ rfl ?_|refine o8_ ?_|refine o9_ ?_|refine oa_ ?_|refine ob_ ?_|refine oc_ ?_|refine od_ ?_|refine oe_ ?_|refine of_ ?_|refine og_ ?_))|refine at_go ?_|(with_reducible refine And.intro (at_go ?_) (at_go ?_))|((with_reducible refine And.intro (fun h => ?_) (fun h => ?_)) <;> try (exfalso; omega))|(with_reducible refine And.intro (by first|omega|(simp only [maxLen]; omega)) ?_)|fail|simp (disch := first|omega|(simp only [length_ints, length_strs, List.length_set, List.length_reverse, List.length_replicate, List.length_append, List.length_cons, List.length_nil, List.length_map]; omega)) only [push_cast, ↓reduceIte, reduceIte, reduceCtorEq, Nat.reduceAdd, Nat.reduceLT, Nat.reduceEqDiff, Nat.reduceLeDiff, Int.reduceAdd, Int.reduceLT, Int.reduceLE, Nat.reduceMul, b2, b9, b19, b20, b21, b10, b11, b45, b46, d1', d2', z1, z2, z4, w1, w2, hcE])
           refine out_round (f.length - (i + 1)) (by omega) (by (first|trivial|((repeat' apply And.intro) <;> first|trivial|assumption|omega|(simp only [maxLen]; omega)|(simp only [length_ints, length_strs, List.length_replicate, List.length_append, List.length_cons, List.length_nil, List.length_map, List.length_take, List.length_drop, List.length_set, List.length_reverse, maxLen] <;> omega)))) ⟨i + 1, by omega, rfl, hdg2 ⟨by omega, by omega⟩, by rw [hv2], ?_⟩
           simp (disch := first|omega|(simp only [length_ints, length_strs, List.length_set, List.length_reverse, List.length_replicate, List.length_append, List.length_cons, List.length_nil, List.length_map]; omega)) only [push_cast, ↓reduceIte, reduceIte, reduceCtorEq, Nat.reduceAdd, Nat.reduceLT, Nat.reduceEqDiff, Nat.reduceLeDiff, Int.reduceAdd, Int.reduceLT, Int.reduceLE, Nat.reduceMul, b2, b9, b19, b20, b21, b10, b11, b45, b46, d1', d2', z1, z2, z4, w1, w2, hcE]
        ·obtain rfl : i = f.length := by omega
         rw [List.take_length] at hdg z1 z2
         have hv := hsucc (numF 0 f) (by
          rw [numV, if_pos]
          refine ⟨⟨fun q => by rw [q] at c1; simp at c1, hdg, fun q e => c3 ⟨q, ?_⟩⟩, by omega⟩
          cases f with
          | nil => simp at q
          | cons x xs => simpa using e)
         rw [List.take_length]
         repeat' (first|(first|(refine a0_ ?_; first|refine a1_ rfl rfl ?_|refine a2_ rfl ?_|refine a3_ rfl rfl ?_|refine a4_ rfl ?_|refine a5_ rfl rfl rfl ?_|refine a6_ rfl rfl ?_)|(refine g0_ ?_; first|refine g1_ rfl ?_|refine g2_ rfl rfl ?_|refine go_draw (dr := allQ) rfl rfl mixed (by first|assumption|kernel_rfl) ?_|refine g4_ rfl ?_|refine g5_ rfl ?_|refine g6_ rfl ?_|refine g7_ rfl ?_|refine g8_ rfl ?_)|(refine o0_ ?_; first|refine o1_ ?_|refine o2_ ?_|refine o3_ ?_|refine o4_ ?_|refine o5_ ?_|refine o6_ rfl ?_|refine o7_ rfl ?_|refine o8_ ?_|refine o9_ ?_|refine oa_ ?_|refine ob_ ?_|refine oc_ ?_|refine od_ ?_|refine oe_ ?_|refine of_ ?_|refine og_ ?_))|refine at_go ?_|(with_reducible refine And.intro (at_go ?_) (at_go ?_))|((with_reducible refine And.intro (fun h => ?_) (fun h => ?_)) <;> try (exfalso; omega))|(with_reducible refine And.intro (by first|omega|(simp only [maxLen]; omega)) ?_)|fail|simp (disch := first|omega|(simp only [length_ints, length_strs, List.length_set, List.length_reverse, List.length_replicate, List.length_append, List.length_cons, List.length_nil, List.length_map]; omega)) only [push_cast, ↓reduceIte, reduceIte, reduceCtorEq, Nat.reduceAdd, Nat.reduceLT, Nat.reduceEqDiff, Nat.reduceLeDiff, Int.reduceAdd, Int.reduceLT, Int.reduceLE, Nat.reduceMul, b2, b9, b19, b20, b21, b10, b11, b45, b46, z1])
         refine out_round (L.length - (k + 1)) (by omega) (by (first|trivial|((repeat' apply And.intro) <;> first|trivial|assumption|omega|(simp only [maxLen]; omega)|(simp only [length_ints, length_strs, List.length_replicate, List.length_append, List.length_cons, List.length_nil, List.length_map, List.length_take, List.length_drop, List.length_set, List.length_reverse, maxLen] <;> omega)))) ⟨k + 1, D ++ [numF 0 f], by omega, rfl, hv, by rw [zrow_accZ, show L.length - (k + 1) = n by omega], ?_⟩
         simp (disch := first|omega|(simp only [length_ints, length_strs, List.length_set, List.length_reverse, List.length_replicate, List.length_append, List.length_cons, List.length_nil, List.length_map]; omega)) only [push_cast, ↓reduceIte, reduceIte, reduceCtorEq, Nat.reduceAdd, Nat.reduceLT, Nat.reduceEqDiff, Nat.reduceLeDiff, Int.reduceAdd, Int.reduceLT, Int.reduceLE, Nat.reduceMul, b2, b9, b19, b20, b21, b10, b11, b45, b46, z1]
      have hc6 : (decide ((1 : Int) < f.length) && decide (((f.getD 0 0).toNat : Int) = 48)) = false := by
       rw [Bool.and_eq_false_iff, decide_eq_false_iff_not, decide_eq_false_iff_not]
       rcases Decidable.em (1 < f.length) with q|q
       ·right
        intro e
        exact c3 ⟨q, UInt8.toNat_inj.1 (by show (f.getD 0 0).toNat = 48; omega)⟩
       ·left; omega
      by_cases c4 : 1 < f.length
      ·have c4' : (1 : Int) < f.length := by omega
       have c5' : ¬ ((f.getD 0 0).toNat : Int) = 48 := by
        have := hc6; rw [decide_eq_true c4', Bool.true_and, decide_eq_false_iff_not] at this; exact this
       repeat' (first|(first|(refine a0_ ?_; first|refine a1_ rfl rfl ?_|refine a2_ rfl ?_|refine a3_ rfl rfl ?_|refine a4_ rfl ?_|refine a5_ rfl rfl rfl ?_|refine a6_ rfl rfl ?_)|(refine g0_ ?_; first|refine g1_ rfl ?_|refine g2_ rfl rfl ?_|refine go_draw (dr := allQ) rfl rfl mixed (by first|assumption|kernel_rfl) ?_|refine g4_ rfl ?_|refine g5_ rfl ?_|refine g6_ rfl ?_|refine g7_ rfl ?_|refine g8_ rfl ?_)|(refine o0_ ?_; first|refine o1_ ?_|refine o2_ ?_|refine o3_ ?_|refine o4_ ?_|refine o5_ ?_|refine o6_ rfl ?_|refine o7_ rfl ?_|refine o8_ ?_|refine o9_ ?_|refine oa_ ?_|refine ob_ ?_|refine oc_ ?_|refine od_ ?_|refine oe_ ?_|refine of_ ?_|refine og_ ?_))|refine at_go ?_|(with_reducible refine And.intro (at_go ?_) (at_go ?_))|((with_reducible refine And.intro (fun h => ?_) (fun h => ?_)) <;> try (exfalso; omega))|(with_reducible refine And.intro (by first|omega|(simp only [maxLen]; omega)) ?_)|fail|simp (disch := first|omega|(simp only [length_ints, length_strs, List.length_set, List.length_reverse, List.length_replicate, List.length_append, List.length_cons, List.length_nil, List.length_map]; omega)) only [push_cast, ↓reduceIte, reduceIte, reduceCtorEq, Nat.reduceAdd, Nat.reduceLT, Nat.reduceEqDiff, Nat.reduceLeDiff, Int.reduceAdd, Int.reduceLT, Int.reduceLE, Nat.reduceMul, b2, b9, b19, b20, b21, e1, c1', c2', c4', c5'])
       refine go_weak (by (first|trivial|((repeat' apply And.intro) <;> first|trivial|assumption|omega|(simp only [maxLen]; omega)|(simp only [length_ints, length_strs, List.length_replicate, List.length_append, List.length_cons, List.length_nil, List.length_map, List.length_take, List.length_drop, List.length_set, List.length_reverse, maxLen] <;> omega)))) (Weak.refl _ _) (hin _ ?_ ?_ ?_ ?_ ?_ ?_ ?_ ?_ ?_)
       all_goals
        simp (disch := first|omega|(simp only [length_ints, length_strs, List.length_set, List.length_reverse, List.length_replicate, List.length_append, List.length_cons, List.length_nil, List.length_map]; omega)) only [push_cast, ↓reduceIte, reduceIte, reduceCtorEq, Nat.reduceAdd, Nat.reduceLT, Nat.reduceEqDiff, Nat.reduceLeDiff, Int.reduceAdd, Int.reduceLT, Int.reduceLE, Nat.reduceMul, b2, b9, b19, b20, b21, e1, c1', c2', c4', c5']
      ·have c4' : ¬ (1 : Int) < f.length := by omega
       repeat' (first|(first|(refine a0_ ?_; first|refine a1_ rfl rfl ?_|refine a2_ rfl ?_|refine a3_ rfl rfl ?_|refine a4_ rfl ?_|refine a5_ rfl rfl rfl ?_|refine a6_ rfl rfl ?_)|(refine g0_ ?_; first|refine g1_ rfl ?_|refine g2_ rfl rfl ?_|refine go_draw (dr := allQ) rfl rfl mixed (by first|assumption|kernel_rfl) ?_|refine g4_ rfl ?_|refine g5_ rfl ?_|refine g6_ rfl ?_|refine g7_ rfl ?_|refine g8_ rfl ?_)|(refine o0_ ?_; first|refine o1_ ?_|refine o2_ ?_|refine o3_ ?_|refine o4_ ?_|refine o5_ ?_|refine o6_ rfl ?_|refine o7_ rfl ?_|refine o8_ ?_|refine o9_ ?_|refine oa_ ?_|refine ob_ ?_|refine oc_ ?_|refine od_ ?_|refine oe_ ?_|refine of_ ?_|refine og_ ?_))|refine at_go ?_|(with_reducible refine And.intro (at_go ?_) (at_go ?_))|((with_reducible refine And.intro (fun h => ?_) (fun h => ?_)) <;> try (exfalso; omega))|(with_reducible refine And.intro (by first|omega|(simp only [maxLen]; omega)) ?_)|fail|simp (disch := first|omega|(simp only [length_ints, length_strs, List.length_set, List.length_reverse, List.length_replicate, List.length_append, List.length_cons, List.length_nil, List.length_map]; omega)) only [push_cast, ↓reduceIte, reduceIte, reduceCtorEq, Nat.reduceAdd, Nat.reduceLT, Nat.reduceEqDiff, Nat.reduceLeDiff, Int.reduceAdd, Int.reduceLT, Int.reduceLE, Nat.reduceMul, b2, b9, b19, b20, b21, e1, c1', c2', c4'])
       refine go_weak (by (first|trivial|((repeat' apply And.intro) <;> first|trivial|assumption|omega|(simp only [maxLen]; omega)|(simp only [length_ints, length_strs, List.length_replicate, List.length_append, List.length_cons, List.length_nil, List.length_map, List.length_take, List.length_drop, List.length_set, List.length_reverse, maxLen] <;> omega)))) (Weak.refl _ _) (hin _ ?_ ?_ ?_ ?_ ?_ ?_ ?_ ?_ ?_)
       all_goals
        simp (disch := first|omega|(simp only [length_ints, length_strs, List.length_set, List.length_reverse, List.length_replicate, List.length_append, List.length_cons, List.length_nil, List.length_map]; omega)) only [push_cast, ↓reduceIte, reduceIte, reduceCtorEq, Nat.reduceAdd, Nat.reduceLT, Nat.reduceEqDiff, Nat.reduceLeDiff, Int.reduceAdd, Int.reduceLT, Int.reduceLE, Nat.reduceMul, b2, b9, b19, b20, b21, e1, c1', c2', c4']
  ·obtain rfl : k = L.length := by omega
   rw [List.take_length] at hD
   rw [hyes D hD]
   have ez : accZ D 0 = D := by simp [accZ]
   have et : (ints D).take L.length = ints D := List.take_of_length_le (by rw [length_ints]; omega)
   repeat' (first|(first|(refine a0_ ?_; first|refine a1_ rfl rfl ?_|refine a2_ rfl ?_|refine a3_ rfl rfl ?_|refine a4_ rfl ?_|refine a5_ rfl rfl rfl ?_|refine a6_ rfl rfl ?_)|(refine g0_ ?_; first|refine g1_ rfl ?_|refine g2_ rfl rfl ?_|refine go_draw (dr := allQ) rfl rfl mixed (by first|assumption|kernel_rfl) ?_|refine g4_ rfl ?_|refine g5_ rfl ?_|refine g6_ rfl ?_|refine g7_ rfl ?_|refine g8_ rfl ?_)|(refine o0_ ?_; first|refine o1_ ?_|refine o2_ ?_|refine o3_ ?_|refine o4_ ?_|refine o5_ ?_|refine o6_ rfl ?_|refine o7_ rfl ?_|refine o8_ ?_|refine o9_ ?_|refine oa_ ?_|refine ob_ ?_|refine oc_ ?_|refine od_ ?_|refine oe_ ?_|refine of_ ?_|refine og_ ?_))|refine at_go ?_|(with_reducible refine And.intro (at_go ?_) (at_go ?_))|((with_reducible refine And.intro (fun h => ?_) (fun h => ?_)) <;> try (exfalso; omega))|(with_reducible refine And.intro (by first|omega|(simp only [maxLen]; omega)) ?_)|fail|simp (disch := first|omega|(simp only [length_ints, length_strs, List.length_set, List.length_reverse, List.length_replicate, List.length_append, List.length_cons, List.length_nil, List.length_map]; omega)) only [push_cast, ↓reduceIte, reduceIte, reduceCtorEq, Nat.reduceAdd, Nat.reduceLT, Nat.reduceEqDiff, Nat.reduceLeDiff, Int.reduceAdd, Int.reduceLT, Int.reduceLE, Nat.reduceMul, b2, b9, b19, b20, b21, ez, hDl, et, all_ints])
end Go.Proofs
